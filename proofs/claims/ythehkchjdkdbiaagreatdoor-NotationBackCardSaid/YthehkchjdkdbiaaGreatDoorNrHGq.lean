/- The reader of the program: the first two lines. -/
import Derived.Test.YthehkchjdkdbiaaGreatDoorNrNGq
import Derived.Test.YthehkchjdkdbiaaGreatDoorNrDGq
import Derived.Test.YthehkchjdkdbiaaGreatDoorNamesGq
set_option maxHeartbeats 8000000
set_option maxRecDepth 100000
set_option linter.unusedVariables false
set_option linter.unusedSimpArgs false
namespace Go.Proofs.YthehkchjdkdbiaaGreatDoor
section
open Go.RowKit
theorem pSoundN_G (l al o:Int):Ctg tabN Tryz.prog 173 [.ag [.sc (.int .i64 l),.sc (.int .i64 al),.sc (.int .i64 o)]] (.tu [.sc (.int .i64 (sndR l al o)),.sc (.int .i64 (sndX l al o))]):=by
 refine Ctg.intro stabN Tryz.func173 rfl Tryz.ntmps173 (Nat.le_of_ble_eq_true rfl) (bd_all rfl) fun w0 F0 hB=>?_;dsimp only [St.init,number,Nat.reduceAdd]
 have hc:(l < 0∨(¬ l < 0∧7≤l)∨(¬ l < 0∧¬ 7≤l∧al < -1)∨(¬ l < 0∧¬ 7≤l∧¬ al < -1∧1 < al)∨(¬ l < 0∧¬ 7≤l∧¬ al < -1∧¬ 1 < al∧o < -1)∨(¬ l < 0∧¬ 7≤l∧¬ al < -1∧¬ 1 < al∧¬ o < -1∧9 < o))∨sndIn l al o:=by unfold sndIn;omega
 rcases hc with hc|hc
 ·have hno:=sndOk_out (l:=l) (al:=al) (o:=o) (by unfold sndIn;omega)
  rw [(snd_no hno).1,(snd_no hno).2]
  rcases hc with h|h|h|h|h|h
  all_goals
   refine zqg32 ?_
   exact W.ret (fin2 rfl rfl rfl rfl rfl rfl rfl)
 ·obtain ⟨⟨h1,h2⟩,⟨h3,h4⟩,h5,h6⟩:=id hc
  have hbd:=basV_bd ⟨h1,h2⟩
  have htab:=tabN_bases ⟨h1,h2⟩
  have hin:=sndOk_in hc
  have hv:sndV l al o=12*(o+1)+basV l+al:=rfl
  have hR:sndOk l al o=true→sndR l al o=12*(o+1)+basV l+al:=fun h=>(snd_ok h).1
  obtain ⟨b,hb⟩:∃ b,basV l=b:=⟨_,rfl⟩
  rw [hb] at hbd htab hv hR
  refine zqg32 ?_
  refine W.drawK zqk zqk ?_
  repeat (first|refine DK.st rfl ?_|refine DK.ar rfl rfl (by unfold I64;omega) ?_|refine DK.nil ?_)
  refine DK.glob hB rfl rfl ⟨h1,by omega⟩ htab rfl ?_
  repeat (first|refine DK.st rfl ?_|refine DK.ar rfl rfl (by unfold I64;omega) ?_|refine DK.nil ?_)
  by_cases hr:0≤12*(o+1)+b+al∧12*(o+1)+b+al≤127
  ·have hok:sndOk l al o=true:=by rw [hin,hv];simpa using hr
   rw [hR hok,(snd_ok hok).2]
   refine zqg32 ?_
   exact W.ret (fin2 rfl rfl rfl rfl rfl rfl rfl)
  ·have hok:sndOk l al o=false:=by rw [hin,hv];simpa using hr
   rw [(snd_no hok).1,(snd_no hok).2]
   have hr2:(12*(o+1)+b+al < 0)∨(¬ 12*(o+1)+b+al < 0∧127 < 12*(o+1)+b+al):=by omega
   rcases hr2 with h|h
   all_goals
    refine zqg32 ?_
    exact W.ret (fin2 rfl rfl rfl rfl rfl rfl rfl)
end
section
open Go.RowKit
theorem nr_letter_all:((List.range 256).all fun k=>decide (Lib.indexByte [67,68,69,70,71,65,66] (UInt8.ofNat k)=if ri_lt (UInt8.ofNat k)<7 then (ri_lt (UInt8.ofNat k):Int)else -1))=true:=by decide +kernel
theorem nr_letter (b:UInt8):Lib.indexByte [67,68,69,70,71,65,66] b=if ri_lt b<7 then (ri_lt b:Int) else -1:=by
 have h:=of_decide_eq_true (List.all_eq_true.1 nr_letter_all b.toNat (List.mem_range.2 b.toNat_lt))
 rw [UInt8.ofNat_toNat] at h
 exact h
def eNm (x:Int×Int×Int):AV:=.ag [.sc (.int .i64 x.1),.sc (.int .i64 x.2.1),.sc (.int .i64 x.2.2)]
theorem nr_alt_cases (r:List UInt8):(∃ q,r=35::q∧ri_alt r=(1,q))∨(∃ q,r=98::q∧ri_alt r=(-1,q))∨(nr_pfx [35] r=false∧nr_pfx [98] r=false∧ri_alt r=(0,r)):=by
 match r with
 | []=>exact .inr (.inr ⟨rfl,rfl,rfl⟩)
 | b::q =>
  by_cases h1:b=35
  ·subst h1;exact .inl ⟨q,rfl,rfl⟩
  ·by_cases h2:b=98
   ·subst h2;exact .inr (.inl ⟨q,rfl,rfl⟩)
   ·refine .inr (.inr ⟨?_,?_,?_⟩)
    ·unfold nr_pfx;simp [List.isPrefixOf,Ne.symm h1]
    ·unfold nr_pfx;simp [List.isPrefixOf,Ne.symm h2]
    ·unfold ri_alt;dsimp only;rw [if_neg h1,if_neg h2]
theorem nr_oct_cases (r:List UInt8):(r=[45,49]∧ri_oct r=some (-1))∨(r≠[45,49]∧∃ b,r=[b]∧48≤b.toNat∧b.toNat≤57∧ri_oct r=some ((b.toNat:Int)-48))∨(r≠[45,49]∧ri_oct r=none∧(r.length≠1∨∃ b,r=[b]∧(b.toNat<48∨57<b.toNat))):=by
 by_cases h:r=[45,49]
 ·exact .inl ⟨h,by unfold ri_oct;rw [if_pos h]⟩
 ·match r,h with
  | [],h=>exact .inr (.inr ⟨h,rfl,.inl (by decide)⟩)
  | [b],h =>
   by_cases hb:48≤b.toNat∧b.toNat≤57
   ·exact .inr (.inl ⟨h,b,rfl,hb.1,hb.2,by unfold ri_oct;rw [if_neg h];dsimp only;rw [if_pos hb]⟩)
   ·exact .inr (.inr ⟨h,by unfold ri_oct;rw [if_neg h];dsimp only;rw [if_neg hb],.inr ⟨b,rfl,by omega⟩⟩)
  | a::b::q,h=>exact .inr (.inr ⟨h,by unfold ri_oct;rw [if_neg h],.inl (by simp)⟩)
theorem nr_nm_oct {c:UInt8} {r:List UInt8} (h:ri_lt c<7):(ri_oct (ri_alt r).2=none→ri_nm (c::r)=((0,0,0),4))∧(∀ o,ri_oct (ri_alt r).2=some o→ri_nm (c::r)=if sndOk (ri_lt c) (ri_alt r).1 o=true then ((((ri_lt c:Nat):Int),(ri_alt r).1,o),(0:Int))else ((0,0,0),10)):=by
 unfold ri_nm
 dsimp only
 rw [if_neg (by omega)]
 exact ⟨fun e=>by rw [e],fun o e=>by rw [e]⟩
theorem pName_G (t:List UInt8) (ht:t.length≤1000000):Ctg tabN Tryz.prog 219 [.sc (.string (bs t))] (.tu [eNm (ri_nm t).1,.sc (.int .i64 (ri_nm t).2)]):=by
 match t,ht with
 | [],_ =>
  refine Ctg.intro stabN Tryz.func219 rfl Tryz.ntmps219 (Nat.le_of_ble_eq_true rfl) (bd_all rfl) fun w0 F0 hB=>?_;dsimp only [St.init,number,Nat.reduceAdd]
  refine zqg33 ?_
  exact W.ret (finN rfl rfl rfl rfl)
 | c::r,ht =>
  have hrl:r.length≤1000000:=by simp at ht;omega
  have hb0:((c::r) == ([]:List UInt8))=false:=rfl
  have hI:=indexByteN_FS [67,68,69,70,71,65,66] (c.toNat:Int)
  have hIe:Lib.indexByte [67,68,69,70,71,65,66] ((c.toNat:Int).toNat.toUInt8)=if ri_lt c < 7 then (ri_lt c:Int) else -1:=by
   rw [Int.toNat_natCast,show c.toNat.toUInt8=c from UInt8.ofNat_toNat];exact nr_letter c
  rw [hIe] at hI
  have ez:(((c::r).getD (Int.toNat 0) 0).toNat:Int)=(c.toNat:Int):=rfl
  have hlen:(c::r).length=r.length+1:=rfl
  have hc1:cut (c::r) 1 ((r.length:Int)+1)=r:=by
   unfold cut
   rw [show ((r.length:Int)+1).toNat=r.length+1 by omega]
   simp
  by_cases hl:ri_lt c < 7
  rotate_left
  ·have e:ri_nm (c::r)=((0,0,0),4):=by unfold ri_nm;dsimp only;rw [if_pos (by omega)]
   rw [e]
   rw [if_neg hl] at hI
   refine Ctg.intro stabN Tryz.func219 rfl Tryz.ntmps219 (Nat.le_of_ble_eq_true rfl) (bd_all rfl) fun w0 F0 hB=>?_;dsimp only [St.init,number,Nat.reduceAdd]
   refine zqg33 ?_
   rw [hb0]
   refine zqg33 ?_
   refine WL.six rfl rfl ⟨by omega,by omega⟩ ?_
   rw [ez]
   refine zqg33 ?_
   refine WL.vl rfl (zqc Tryz.func249 hI) ?_
   refine zqg33 ?_
   exact W.ret (finN rfl rfl rfl rfl)
  rw [if_pos hl] at hI
  obtain ⟨hno,hsome⟩:=nr_nm_oct (c:=c) (r:=r) hl
  have hl0:0≤(ri_lt c:Int):=Int.natCast_nonneg _
  obtain ⟨L,hL⟩:∃ z,(ri_lt c:Int)=z:=⟨_,rfl⟩
  rw [hL] at hI hl0 hsome
  have hp35:=pfx_FS r [35]
  have hp98:=pfx_FS r [98]
  have hlr:((c::r).length:Int)=(r.length:Int)+1:=by rw [hlen];omega
  have hcb:0≤(1:Int)∧(1:Int)≤(((c::r).length:Nat):Int)∧(((c::r).length:Nat):Int)≤(((c::r).length:Nat):Int):=by omega
  have hc1:cut (c::r) 1 (((c::r).length:Nat):Int)=r:=by rw [hlr];exact hc1
  obtain ⟨al,q,hq⟩:∃ al q,ri_alt r=(al,q):=⟨_,_,rfl⟩
  have hql:q.length≤1000000:=by
   have:=ri_alt_len r
   rw [hq] at this
   exact Nat.le_trans this hrl
  rw [hq] at hno hsome
  dsimp only at hno hsome
  refine Ctg.intro stabN Tryz.func219 rfl Tryz.ntmps219 (Nat.le_of_ble_eq_true rfl) (bd_all rfl) fun w0 F0 hB=>?_;dsimp only [St.init,number,Nat.reduceAdd]
  refine zqg33 ?_
  rw [hb0]
  refine zqg33 ?_
  refine WL.six rfl rfl ⟨by omega,by omega⟩ ?_
  rw [ez]
  refine zqg33 ?_
  refine WL.vl rfl (zqc Tryz.func249 hI) ?_
  refine zqg33 ?_
  refine WL.cut rfl rfl hcb ?_
  rw [hc1]
  refine zqg33 ?_
  refine WL.meetB ⟨[(2,.pt 0 0 0),(4,.pt 1 0 0),(5,.sc (.string (bs q)))],[(1,.box 182 [.sc (.int .i64 L),.sc (.int .i64 al),.sc (.int .i64 0)]),(0,.box 182 [.sc (.int .i64 0),.sc (.int .i64 0),.sc (.int .i64 0)])],2⟩ ?_ ?_
  ·rcases nr_alt_cases r with ⟨q',rfl,e⟩|⟨q',rfl,e⟩|⟨e1,e2,e⟩
   ·rw [hq] at e
    obtain ⟨rfl,rfl⟩:=Prod.mk.inj e
    have hp:nr_pfx [35] (35::q)=true:=by unfold nr_pfx;simp [List.isPrefixOf]
    rw [hp] at hp35
    have hl2:((35::q).length:Int)=(q.length:Int)+1:=by simp
    have hcb2:0≤(1:Int)∧(1:Int)≤(((35::q).length:Nat):Int)∧(((35::q).length:Nat):Int)≤(((35::q).length:Nat):Int):=by omega
    have hc2:cut (35::q) 1 (((35::q).length:Nat):Int)=q:=by
     unfold cut
     rw [Int.toNat_natCast]
     simp
    refine WL.vl rfl (zqc Tryz.func256 hp35) ?_
    refine zqg33 ?_
    refine W.drawT 4 zqk zqk zqk ?_
    refine WA.dt [false,false,false,true] [] [] 3 zqk zqk zqk trivial trivial ?_
    refine DTK.v0 rfl (stepV_of rfl rfl) ?_
    refine DTK.v0 rfl (cutV_of rfl hcb2) ?_
    rw [hc2]
    refine DTK.v0 rfl (stepV_of rfl rfl) ?_
    refine DTK.sto rfl rfl rfl rfl rfl rfl rfl rfl rfl rfl rfl rfl rfl rfl trivial (fun h=>by cases h) ?_
    refine DTK.nil ?_
    refine ⟨rfl,?_⟩
    refine (?_:WL _ _ _ _ _ _)
    refine zqg33 ?_
    refine (?_:Tr _ _ _)
    exact (zqt id)
   ·rw [hq] at e
    obtain ⟨rfl,rfl⟩:=Prod.mk.inj e
    have hp:nr_pfx [98] (98::q)=true:=by unfold nr_pfx;simp [List.isPrefixOf]
    have hp2:nr_pfx [35] (98::q)=false:=by unfold nr_pfx;simp [List.isPrefixOf]
    rw [hp] at hp98
    rw [hp2] at hp35
    have hl2:((98::q).length:Int)=(q.length:Int)+1:=by simp
    have hcb2:0≤(1:Int)∧(1:Int)≤(((98::q).length:Nat):Int)∧(((98::q).length:Nat):Int)≤(((98::q).length:Nat):Int):=by omega
    have hc2:cut (98::q) 1 (((98::q).length:Nat):Int)=q:=by
     unfold cut
     rw [Int.toNat_natCast]
     simp
    refine WL.vl rfl (zqc Tryz.func256 hp35) ?_
    refine zqg33 ?_
    refine WL.vl rfl (zqc Tryz.func256 hp98) ?_
    refine zqg33 ?_
    refine W.drawT 4 zqk zqk zqk ?_
    refine WA.dt [false,false,false,true] [] [] 3 zqk zqk zqk trivial trivial ?_
    refine DTK.v0 rfl (stepV_of rfl rfl) ?_
    refine DTK.v0 rfl (cutV_of rfl hcb2) ?_
    rw [hc2]
    refine DTK.v0 rfl (stepV_of rfl rfl) ?_
    refine DTK.sto rfl rfl rfl rfl rfl rfl rfl rfl rfl rfl rfl rfl rfl rfl trivial (fun h=>by cases h) ?_
    refine DTK.nil ?_
    refine ⟨rfl,?_⟩
    refine (?_:WL _ _ _ _ _ _)
    refine zqg33 ?_
    refine (?_:Tr _ _ _)
    exact (zqt id)
   ·rw [hq] at e
    obtain ⟨rfl,rfl⟩:=Prod.mk.inj e
    rw [e1] at hp35
    rw [e2] at hp98
    refine WL.vl rfl (zqc Tryz.func256 hp35) ?_
    refine zqg33 ?_
    refine WL.vl rfl (zqc Tryz.func256 hp98) ?_
    refine zqg33 ?_
    refine (?_:Tr _ _ _)
    exact (zqt id)
  rcases nr_oct_cases q with ⟨rfl,ho⟩|⟨hne,b,rfl,hb1,hb2,ho⟩|⟨hne,ho,hl1⟩
  ·have hS:=pSoundN_G L al (-1)
   have hb1:(([45,49]:List UInt8) == [45,49])=true:=rfl
   have hR:=hsome _ ho
   refine zqg33 ?_
   rw [hb1]
   refine zqg33 ?_
   refine WL.vl rfl (WV.callG hB rfl (callF Tryz.func173 rfl rfl) rfl rfl hS) ?_
   cases hk:sndOk L al (-1) with
   | true =>
    rw [hk,if_pos rfl] at hR
    rw [(snd_ok hk).1,(snd_ok hk).2,hR]
    refine zqg33 ?_
    exact W.ret (finN rfl rfl rfl rfl)
   | false =>
    rw [hk,if_neg (by decide)] at hR
    rw [(snd_no hk).1,(snd_no hk).2,hR]
    refine zqg33 ?_
    exact W.ret (finN rfl rfl rfl rfl)
  ·have hS:=pSoundN_G L al ((b.toNat:Int) - 48)
   have hbf:([b] == ([45,49]:List UInt8))=false:=by simp
   have hR:=hsome _ ho
   have hbl:(([b]:List UInt8).length:Int)=1:=rfl
   have hbz:((([b]:List UInt8).getD (Int.toNat 0) 0).toNat:Int)=(b.toNat:Int):=rfl
   obtain ⟨bn,hbn⟩:∃ z,b.toNat=z:=⟨_,rfl⟩
   rw [hbn] at hb1 hb2 hS hR hbz
   refine zqg33 ?_
   rw [hbf]
   refine zqg33 ?_
   refine WL.six rfl rfl ⟨by omega,by omega⟩ ?_
   rw [hbz]
   refine zqg33 ?_
   refine WL.six rfl rfl ⟨by omega,by omega⟩ ?_
   rw [hbz]
   refine zqg33 ?_
   refine WL.six rfl rfl ⟨by omega,by omega⟩ ?_
   rw [hbz]
   refine zqg33 ?_
   refine WL.sb8 rfl rfl zqo ?_
   refine WL.cvt rfl rfl rfl (I64.wrap (by unfold I64;omega)) ?_
   refine zqg33 ?_
   refine WL.vl rfl (WV.callG hB rfl (callF Tryz.func173 rfl rfl) rfl rfl hS) ?_
   cases hk:sndOk L al ((bn:Int) - 48) with
   | true =>
    rw [hk,if_pos rfl] at hR
    rw [(snd_ok hk).1,(snd_ok hk).2,hR]
    refine zqg33 ?_
    exact W.ret (finN rfl rfl rfl rfl)
   | false =>
    rw [hk,if_neg (by decide)] at hR
    rw [(snd_no hk).1,(snd_no hk).2,hR]
    refine zqg33 ?_
    exact W.ret (finN rfl rfl rfl rfl)
  ·have hbf:(q == ([45,49]:List UInt8))=false:=by simpa using hne
   rw [hno ho]
   rcases hl1 with hl1|⟨b,rfl,hb⟩
   ·refine zqg33 ?_
    rw [hbf]
    refine zqg33 ?_
    exact W.ret (finN rfl rfl rfl rfl)
   ·have hbl:(([b]:List UInt8).length:Int)=1:=rfl
    have hbz:((([b]:List UInt8).getD (Int.toNat 0) 0).toNat:Int)=(b.toNat:Int):=rfl
    obtain ⟨bn,hbn⟩:∃ z,b.toNat=z:=⟨_,rfl⟩
    rw [hbn] at hb hbz
    rcases hb with hb|hb
    ·refine zqg33 ?_
     rw [hbf]
     refine zqg33 ?_
     refine WL.six rfl rfl ⟨by omega,by omega⟩ ?_
     rw [hbz]
     refine zqg33 ?_
     exact W.ret (finN rfl rfl rfl rfl)
    ·refine zqg33 ?_
     rw [hbf]
     refine zqg33 ?_
     refine WL.six rfl rfl ⟨by omega,by omega⟩ ?_
     rw [hbz]
     refine zqg33 ?_
     refine WL.six rfl rfl ⟨by omega,by omega⟩ ?_
     rw [hbz]
     refine zqg33 ?_
     exact W.ret (finN rfl rfl rfl rfl)
end
section
open Go.RowKit
theorem nr_nm_cases (t:List UInt8):(ri_nm t).2=4∨(ri_nm t).2=10∨((ri_nm t).2=0∧sndOk (ri_nm t).1.1 (ri_nm t).1.2.1 (ri_nm t).1.2.2=true):=by
 unfold ri_nm
 split
 ·exact .inl rfl
 ·split
  ·exact .inl rfl
  ·split
   ·exact .inl rfl
   ·split
    ·rename_i h;exact .inr (.inr ⟨rfl,h⟩)
    ·exact .inr (.inl rfl)
theorem nr_crs_at {a b:List UInt8} (h:rq_NoB 47 a):ri_crs (a++47::b)=if (ri_nm a).2=4 then ((0,0,false),4)else match rq_numR (ri_plus b).1 with
  | none=>((0,0,false),4)
  | some n=>if (ri_nm a).2≠0 then ((0,0,false),(ri_nm a).2)else ((sndV (ri_nm a).1.1 (ri_nm a).1.2.1 (ri_nm a).1.2.2,(n:Int),(ri_plus b).2),0):=by
 unfold ri_crs
 rw [ri_cut_at h]
 rfl
theorem nr_crs_no {t:List UInt8} (h:rq_NoB 47 t):ri_crs t=((0,0,false),4):=by
 unfold ri_crs
 rw [ri_cut_no h]
theorem nr_plus_len(b:List UInt8):(ri_plus b).1.length≤b.length:=by
 unfold ri_plus
 split
 ·simp
 ·simp
theorem pCourse_G (t:List UInt8) (ht:t.length≤500000):Ctg tabN Tryz.prog 159 [.sc (.string (bs t))] (.tu [.ag (eCrs (ri_crs t).1),.sc (.int .i64 (ri_crs t).2)]):=by
 rcases ri_slash t with ⟨a,b,rfl,hn⟩|hn
 rotate_left
 ·have hC:=cutNoN_G 47 t hn zqo
  rw [nr_crs_no hn]
  refine Ctg.intro stabN Tryz.func159 rfl Tryz.ntmps159 (Nat.le_of_ble_eq_true rfl) (bd_all rfl) fun w0 F0 hB=>?_;dsimp only [St.init,number,Nat.reduceAdd]
  refine zqg9 ?_
  refine WL.vl rfl (WV.callG hB rfl (callF Tryz.func218 rfl rfl) rfl rfl hC) ?_
  refine zqg9 ?_
  exact W.ret (finN rfl rfl rfl rfl)
 have hl:a.length+b.length+1≤500000:=by simp at ht;omega
 have hC:=cutAtN_G 47 a b hn zqo
 have hN:=pName_G a zqo
 have hP:=cutSfx_FS b zqo
 have hpl:=nr_plus_len b
 have hD:=pNumber_FS (ri_plus b).1 zqo
 have hcase:=nr_nm_cases a
 have hS:=pSoundN_G (ri_nm a).1.1 (ri_nm a).1.2.1 (ri_nm a).1.2.2
 have hR:=nr_crs_at (b:=b) hn
 obtain ⟨⟨⟨n1,n2,n3⟩,ne⟩,hnm⟩:∃ z,ri_nm a=z:=⟨_,rfl⟩
 obtain ⟨⟨pt,po⟩,hpp⟩:∃ z,ri_plus b=z:=⟨_,rfl⟩
 rw [hnm] at hN hcase hS hR
 rw [hpp] at hP hD hR
 unfold eNm at hN
 dsimp only at hN hcase hS hR hP hD
 rw [hR]
 clear hR hnm hpp hpl ht
 cases hnum:rq_numR pt with
 | none =>
  rw [hnum] at hD
  rcases hcase with rfl|rfl|⟨rfl,hk⟩
  ·refine Ctg.intro stabN Tryz.func159 rfl Tryz.ntmps159 (Nat.le_of_ble_eq_true rfl) (bd_all rfl) fun w0 F0 hB=>?_;dsimp only [St.init,number,Nat.reduceAdd]
   refine zqg9 ?_
   refine WL.vl rfl (WV.callG hB rfl (callF Tryz.func218 rfl rfl) rfl rfl hC) ?_
   refine zqg9 ?_
   refine WL.vl rfl (WV.callG hB rfl (callF Tryz.func219 rfl rfl) rfl rfl hN) ?_
   refine zqg9 ?_
   exact W.ret (finN rfl rfl rfl rfl)
  ·refine Ctg.intro stabN Tryz.func159 rfl Tryz.ntmps159 (Nat.le_of_ble_eq_true rfl) (bd_all rfl) fun w0 F0 hB=>?_;dsimp only [St.init,number,Nat.reduceAdd]
   refine zqg9 ?_
   refine WL.vl rfl (WV.callG hB rfl (callF Tryz.func218 rfl rfl) rfl rfl hC) ?_
   refine zqg9 ?_
   refine WL.vl rfl (WV.callG hB rfl (callF Tryz.func219 rfl rfl) rfl rfl hN) ?_
   refine zqg9 ?_
   refine WL.vl rfl (zqc Tryz.func220 hP) ?_
   refine zqg9 ?_
   refine WL.vl rfl (zqc Tryz.func160 hD) ?_
   refine zqg9 ?_
   exact W.ret (finN rfl rfl rfl rfl)
  ·refine Ctg.intro stabN Tryz.func159 rfl Tryz.ntmps159 (Nat.le_of_ble_eq_true rfl) (bd_all rfl) fun w0 F0 hB=>?_;dsimp only [St.init,number,Nat.reduceAdd]
   refine zqg9 ?_
   refine WL.vl rfl (WV.callG hB rfl (callF Tryz.func218 rfl rfl) rfl rfl hC) ?_
   refine zqg9 ?_
   refine WL.vl rfl (WV.callG hB rfl (callF Tryz.func219 rfl rfl) rfl rfl hN) ?_
   refine zqg9 ?_
   refine WL.vl rfl (zqc Tryz.func220 hP) ?_
   refine zqg9 ?_
   refine WL.vl rfl (zqc Tryz.func160 hD) ?_
   refine zqg9 ?_
   exact W.ret (finN rfl rfl rfl rfl)
 | some v =>
  rw [hnum] at hD
  rcases hcase with rfl|rfl|⟨rfl,hk⟩
  ·refine Ctg.intro stabN Tryz.func159 rfl Tryz.ntmps159 (Nat.le_of_ble_eq_true rfl) (bd_all rfl) fun w0 F0 hB=>?_;dsimp only [St.init,number,Nat.reduceAdd]
   refine zqg9 ?_
   refine WL.vl rfl (WV.callG hB rfl (callF Tryz.func218 rfl rfl) rfl rfl hC) ?_
   refine zqg9 ?_
   refine WL.vl rfl (WV.callG hB rfl (callF Tryz.func219 rfl rfl) rfl rfl hN) ?_
   refine zqg9 ?_
   exact W.ret (finN rfl rfl rfl rfl)
  ·refine Ctg.intro stabN Tryz.func159 rfl Tryz.ntmps159 (Nat.le_of_ble_eq_true rfl) (bd_all rfl) fun w0 F0 hB=>?_;dsimp only [St.init,number,Nat.reduceAdd]
   refine zqg9 ?_
   refine WL.vl rfl (WV.callG hB rfl (callF Tryz.func218 rfl rfl) rfl rfl hC) ?_
   refine zqg9 ?_
   refine WL.vl rfl (WV.callG hB rfl (callF Tryz.func219 rfl rfl) rfl rfl hN) ?_
   refine zqg9 ?_
   refine WL.vl rfl (zqc Tryz.func220 hP) ?_
   refine zqg9 ?_
   refine WL.vl rfl (zqc Tryz.func160 hD) ?_
   refine zqg9 ?_
   exact W.ret (finN rfl rfl rfl rfl)
  ·rw [(snd_ok hk).1,(snd_ok hk).2] at hS
   refine Ctg.intro stabN Tryz.func159 rfl Tryz.ntmps159 (Nat.le_of_ble_eq_true rfl) (bd_all rfl) fun w0 F0 hB=>?_;dsimp only [St.init,number,Nat.reduceAdd]
   refine zqg9 ?_
   refine WL.vl rfl (WV.callG hB rfl (callF Tryz.func218 rfl rfl) rfl rfl hC) ?_
   refine zqg9 ?_
   refine WL.vl rfl (WV.callG hB rfl (callF Tryz.func219 rfl rfl) rfl rfl hN) ?_
   refine zqg9 ?_
   refine WL.vl rfl (zqc Tryz.func220 hP) ?_
   refine zqg9 ?_
   refine WL.vl rfl (zqc Tryz.func160 hD) ?_
   refine zqg9 ?_
   refine WL.vl rfl (WV.callG hB rfl (callF Tryz.func173 rfl rfl) rfl rfl hS) ?_
   refine zqg9 ?_
   exact W.ret (finN rfl rfl rfl rfl)
end
section
open Go.RowKit
theorem nr_col_some:∀ {L a b:List (List UInt8)},ri_col L=some (a,b)→L=a++[58]::b∧∀ w∈a,w≠[58]
 | [],_,_,h=>by cases h
 | w::r,a,b,h=>by
  unfold ri_col at h
  by_cases e:w=[58]
  ·rw [if_pos e]at h
   cases h
   exact⟨by rw [e];rfl,fun x hx=>by cases hx⟩
  ·rw [if_neg e]at h
   obtain⟨⟨a',b'⟩,h1,h2⟩:=Option.map_eq_some_iff.1 h
   cases h2
   obtain⟨h3,h4⟩:=nr_col_some h1
   refine⟨by rw [h3];rfl,fun x hx=>?_⟩
   rcases List.mem_cons.1 hx with rfl|k
   ·exact e
   ·exact h4 x k
theorem nr_col_none:∀ {L:List (List UInt8)},ri_col L=none→∀ w∈L,w≠[58]
 | [],_,_,h=>by cases h
 | w::r,h,x,hx=>by
  unfold ri_col at h
  by_cases e:w=[58]
  ·rw [if_pos e]at h;cases h
  ·rw [if_neg e]at h
   have h1:ri_col r=none:=by
    cases hc:ri_col r with
    | none=>rfl
    | some y=>rw [hc]at h;cases h
   rcases List.mem_cons.1 hx with rfl|k
   ·exact e
   ·exact nr_col_none h1 x k
theorem nr_err_at:∀ {a:List (List UInt8)} {k:Nat} (hk:k<a.length),(∀ j (hj:j<a.length),j<k→(ri_crs a[j]).2=0)→(ri_crs a[k]).2≠0→ri_err a=(ri_crs a[k]).2
 | w::r,0,_,_,h=>by unfold ri_err;rw [if_pos (by simpa using h)];rfl
 | w::r,k+1,hk,h0,h=>by
  have:=h0 0 (by simp) (by omega)
  simp only [List.getElem_cons_zero]at this
  unfold ri_err
  rw [if_neg (by rw [this];decide),nr_err_at (k:=k) (by simpa using hk) (fun j hj hjk=>h0 (j+1) (by simpa using hj) (by omega)) (by simpa using h)]
  rfl
theorem nr_err_no:∀ {a:List (List UInt8)},(∀ j (hj:j<a.length),(ri_crs a[j]).2=0)→ri_err a=0
 | [],_=>rfl
 | w::r,h=>by
  have:=h 0 (by simp)
  simp only [List.getElem_cons_zero]at this
  unfold ri_err
  rw [if_neg (by rw [this];decide)]
  exact nr_err_no fun j hj=>h (j+1) (by simpa using hj)
theorem nr_stp_at:∀ {a:List (List UInt8)} {k:Nat} (hk:k<a.length),rq_numR a[k]=none→ri_stp a=4
 | w::r,0,_,h=>by
  unfold ri_stp
  have h:rq_numR w=none:=h
  rw [h];rfl
 | w::r,k+1,hk,h=>by
  unfold ri_stp
  rw [nr_stp_at (k:=k) (by simpa using hk) (by simpa using h)]
  split<;>rfl
theorem nr_stp_no:∀ {a:List (List UInt8)},(∀ j (hj:j<a.length),(rq_numR a[j]).isSome=true)→ri_stp a=0
 | [],_=>rfl
 | w::r,h=>by
  have h1:=h 0 (by simp)
  simp only [List.getElem_cons_zero]at h1
  unfold ri_stp
  rw [if_pos h1]
  exact nr_stp_no fun j hj=>h (j+1) (by simpa using hj)
def nr_cs (a:List (List UInt8)):List Crs:=a.map fun w=>(ri_crs w).1
def nr_st (b:List (List UInt8)):List Int:=b.map fun w=>(((rq_numR w).getD 0:Nat):Int)
section
variable {t:List UInt8} {a b:List (List UInt8)}
theorem nr_ins_no (h:ri_col (rq_wds 32 t)=none):nr_ins t=(([],[]),4):=by unfold nr_ins ri_raw;rw [h];rfl
theorem nr_ins_c (h:ri_col (rq_wds 32 t)=some (a,b))(e:ri_err a≠0):nr_ins t=(([],[]),ri_err a):=by
 have:ri_raw t=(([],[]),ri_err a):=by unfold ri_raw;rw [h];dsimp only;rw [if_pos e]
 unfold nr_ins;rw [this];dsimp only;rw [if_pos e]
theorem nr_ins_s (h:ri_col (rq_wds 32 t)=some (a,b))(e:ri_err a=0)(e2:ri_stp b=4):nr_ins t=(([],[]),4):=by
 have:ri_raw t=(([],[]),4):=by unfold ri_raw;rw [h];dsimp only;rw [if_neg (by rw [e];decide),e2];rfl
 unfold nr_ins;rw [this];rfl
theorem nr_ins_y (h:ri_col (rq_wds 32 t)=some (a,b)) (e:ri_err a=0) (e2:ri_stp b=0):nr_ins t=if insE (nr_cs a) (nr_st b)≠0 then (([],[]),insE (nr_cs a) (nr_st b))else ((nr_cs a,nr_st b),0):=by
 have:ri_raw t=((nr_cs a,nr_st b),0):=by unfold ri_raw;rw [h];dsimp only;rw [if_neg (by rw [e];decide),if_neg (by rw [e2];decide)];rfl
 unfold nr_ins;rw [this];rfl
end
theorem pParse_G (t:List UInt8) (ht:t.length≤400000):Ctg tabN Tryz.prog 91 [.sc (.string (bs t))] (.tu [.ag (eIns (nr_ins t).1.1 (nr_ins t).1.2),.sc (.int .i64 (nr_ins t).2)]):=by
 have hW:=splitN_G 32 t zqo
 have hwb:=rq_wds_bytes 32 t
 have hwl:(rq_wds 32 t).length≤500000:=by
  rw [rq_wds_len,Lib.count_one]
  have:=List.count_le_length (a:=(32:UInt8)) (l:=t)
  omega
 cases hcol:ri_col (rq_wds 32 t) with
 | none =>
  have hI:=indexNo_FS (rq_wds 32 t) [58] (nr_col_none hcol) zqo
  rw [nr_ins_no hcol]
  refine Ctg.intro stabN Tryz.func91 rfl Tryz.ntmps91 (Nat.le_of_ble_eq_true rfl) (bd_all rfl) fun w0 F0 hB=>?_;dsimp only [St.init,number,Nat.reduceAdd]
  refine zqg34 ?_
  refine WL.vl rfl (WV.callG hB rfl (callF Tryz.func38 rfl rfl) rfl rfl hW) ?_
  refine zqg34 ?_
  refine WL.vl rfl (zqc Tryz.func158 hI) ?_
  refine zqg34 ?_
  refine W.tr (Tr.nilC 0 0 3 rfl rfl rfl) ?_
  refine W.tr (Tr.nilC 0 1 1 rfl rfl rfl) ?_
  exact W.ret (finN rfl rfl rfl rfl)
 | some ab =>
 obtain ⟨a,b⟩:=ab
 obtain ⟨hL,hno⟩:=nr_col_some hcol
 have hI:=indexAt_FS a b [58] hno (by rw [hL] at hwl;simp at hwl;omega)
 have hal:a.length+b.length+1≤500000:=by rw [hL] at hwl;simp at hwl;omega
 have hba:∀ w∈a,w.length≤400000:=fun w hw=>by
  have:=hwb w (by rw [hL];simp [hw]);omega
 have hbb:∀ w∈b,w.length≤400000:=fun w hw=>by
  have:=hwb w (by rw [hL];simp [hw]);omega
 rw [hL] at hW
 obtain ⟨L,hLL⟩:∃ z,(a++[58]::b).map eTx=z:=⟨_,rfl⟩
 have hLl:L.length=a.length+b.length+1:=by rw [← hLL];simp;omega
 have hp1:prt L 0 a.length=a.map eTx:=by
  unfold prt
  rw [← hLL];simp
 have hp2:prt L ((a.length:Int)+1) L.length=b.map eTx:=by
  unfold prt
  rw [← hLL,show ((a.length:Int)+1).toNat=a.length+1 by omega,Int.toNat_natCast,List.take_length,List.map_append,show a.length+1=(a.map eTx).length+1 by rw [List.length_map],List.drop_append]
  simp
 rw [hLL] at hW hI
 have hml:(a.map eTx).length=a.length:=List.length_map _
 have hml2:(b.map eTx).length=b.length:=List.length_map _
 refine Ctg.intro stabN Tryz.func91 rfl Tryz.ntmps91 (Nat.le_of_ble_eq_true rfl) (bd_all rfl) fun w0 F0 hB=>?_;dsimp only [St.init,number,Nat.reduceAdd]
 refine zqg34 ?_
 refine WL.vl rfl (WV.callG hB rfl (callF Tryz.func38 rfl rfl) rfl rfl hW) ?_
 refine zqg34 ?_
 refine WL.vl rfl (zqc Tryz.func158 hI) ?_
 refine zqg34 ?_
 refine WL.part_ rfl rfl ⟨by omega,by omega,by omega⟩ hp1 ?_
 refine zqg34 ?_
 refine W.tr (Tr.nilBox 117 3 (k:=1) (j:=0) rfl rfl rfl rfl) ?_
 refine W.tr (Tr.nilBox 3 1 (k:=1) (j:=1) rfl rfl rfl rfl) ?_
 dsimp only [St.upd,St.new,St.put,Nat.reduceAdd]
 refine W.loop (fun k:Nat=>k≤a.length∧∀ j (hj:j < a.length),j < k→(ri_crs a[j]).2=0) (fun k=>⟨[(2,.pt 0 0 0),(4,.ls 1 L),(5,.sc (.int .i64 (a.length:Int))),(6,.pt 1 0 0),(25,.ls 1 (a.map eTx)),(26,.sc (.int .i64 (a.length:Int))),(27,.sc (.int .i64 (k:Int)))],
  [(0,.box 27 [.sc (.slice none 0 0),.sc (.slice none 0 0)]),(1,.box 27 [.sl 2,.sl 3]),(2,.row 117 3 ((nr_cs (a.take k)).map eCrs)),(3,.row 3 1 [])],4⟩) (fun k=>a.length - k) 0 ⟨by omega,fun j hj h=>absurd h zqo⟩ (zqt id) fun k hk=>?_
 obtain ⟨hk,hall⟩:=hk
 by_cases hlt:k < a.length
 ·have hCo:=pCourse_G a[k] (by have:=hba a[k] (List.getElem_mem hlt);omega)
  have hbad:=nr_err_at hlt hall
  have hnx:(ri_crs a[k]).2=0→∀ j (hj:j < a.length),j < k+1→(ri_crs a[j]).2=0:=fun h j hj hjk=>by
   by_cases e:j=k
   ·subst e;exact h
   ·exact hall j hj zqo
  have hrow:(nr_cs (a.take (k+1))).map eCrs=(nr_cs (a.take k)).map eCrs++[eCrs (ri_crs a[k]).1]:=by
   unfold nr_cs
   rw [List.take_succ_eq_append_getElem hlt,List.map_append,List.map_append];rfl
  obtain ⟨R,hR⟩:∃ z,(nr_cs (a.take k)).map eCrs=z:=⟨_,rfl⟩
  have hRl:R.length≤500000:=by rw [← hR];unfold nr_cs;rw [List.length_map,List.length_map,List.length_take];omega
  obtain ⟨⟨⟨c1,c2,c3⟩,e⟩,hce⟩:∃ z,ri_crs a[k]=z:=⟨_,rfl⟩
  rw [hce] at hCo hbad hnx hrow
  rw [hR] at hrow ⊢
  unfold eCrs at hCo
  dsimp only at hCo hbad hnx
  clear hall
  by_cases he:e=0
  rotate_left
  ·rw [nr_ins_c hcol (by rw [hbad he];exact he),hbad he]
   refine zqg34 ?_
   refine WL.vl rfl (WV.callG hB rfl (callF Tryz.func159 rfl rfl) rfl rfl hCo) ?_
   refine zqg34 ?_
   refine W.tr (Tr.nilC 0 0 3 rfl rfl rfl) ?_
   refine W.tr (Tr.nilC 0 1 1 rfl rfl rfl) ?_
   exact W.ret (finN rfl rfl rfl rfl)
  ·subst he
   refine zqg34 ?_
   refine WL.vl rfl (WV.callG hB rfl (callF Tryz.func159 rfl rfl) rfl rfl hCo) ?_
   refine zqg34 ?_
   refine ⟨k+1,⟨by omega,hnx rfl⟩,by omega,?_⟩
   rw [hrow]
   exact (zqu (fun q=>bif Nat.beq q 2 then 6 else q) (by repeat (first|exact trivial|refine ⟨⟨?_,?_,?_⟩,?_⟩|rfl|exact congrArg (fun q=>some (AO.row _ _ q)) (by first|rfl|(simp;done)|(simp [eInt];done)|(simp [eLk];done)))) rfl)
 obtain rfl:k=a.length:=by omega
 have herr:=nr_err_no fun j hj=>hall j hj hj
 rw [List.take_length]
 clear hall hk hlt
 refine zqg34 ?_
 refine WL.part_ rfl rfl ⟨by omega,by omega,by omega⟩ hp2 ?_
 refine zqg34 ?_
 have hcl:(nr_cs a).length=a.length:=List.length_map _
 obtain ⟨CS,hCS⟩:∃ z,nr_cs a=z:=⟨_,rfl⟩
 rw [hCS] at hcl ⊢
 refine W.loop (fun k:Nat=>k≤b.length∧∀ j (hj:j < b.length),j < k→(rq_numR b[j]).isSome=true) (fun k=>⟨[(2,.pt 0 0 0),(6,.pt 1 0 0),(50,.ls 1 (b.map eTx)),(51,.sc (.int .i64 (b.length:Int))),(52,.sc (.int .i64 (k:Int)))],
  [(0,.box 27 [.sc (.slice none 0 0),.sc (.slice none 0 0)]),(1,.box 27 [.sl 2,.sl 3]),(2,.row 117 3 (CS.map eCrs)),(3,.row 3 1 ((nr_st (b.take k)).map eInt))],4⟩) (fun k=>b.length - k) 0 ⟨by omega,fun j hj h=>absurd h zqo⟩ (zqt id) fun k hk=>?_
 obtain ⟨hk,hall⟩:=hk
 by_cases hlt:k < b.length
 ·have hCo:=pNumber_FS b[k] (by have:=hbb b[k] (List.getElem_mem hlt);omega)
  have hbad:=nr_stp_at hlt
  have hnx:(rq_numR b[k]).isSome=true→∀ j (hj:j < b.length),j < k+1→(rq_numR b[j]).isSome=true:=fun h j hj hjk=>by
   by_cases e:j=k
   ·subst e;exact h
   ·exact hall j hj zqo
  have hrow:(nr_st (b.take (k+1))).map eInt=(nr_st (b.take k)).map eInt++[eInt (((rq_numR b[k]).getD 0:Nat):Int)]:=by
   unfold nr_st
   rw [List.take_succ_eq_append_getElem hlt,List.map_append,List.map_append];rfl
  obtain ⟨R,hR⟩:∃ z,(nr_st (b.take k)).map eInt=z:=⟨_,rfl⟩
  have hRl:R.length≤500000:=by rw [← hR];unfold nr_st;rw [List.length_map,List.length_map,List.length_take];omega
  rw [hR] at hrow ⊢
  clear hall
  cases he:rq_numR b[k] with
  | none =>
   rw [nr_ins_s hcol herr (hbad he)]
   rw [he] at hCo
   refine zqg34 ?_
   refine WL.vl rfl (zqc Tryz.func160 hCo) ?_
   refine zqg34 ?_
   refine W.tr (Tr.nilC 0 0 3 rfl rfl rfl) ?_
   refine W.tr (Tr.nilC 0 1 1 rfl rfl rfl) ?_
   exact W.ret (finN rfl rfl rfl rfl)
  | some v =>
   rw [he] at hCo hrow hnx
   have hrow:(nr_st (b.take (k+1))).map eInt=R++[eInt (v:Int)]:=hrow
   have hCo:Ctr Tryz.prog 160 [.sc (.string (bs b[k]))] (.tu [.sc (.int .i64 (v:Int)),.sc (.bool true)]):=hCo
   refine zqg34 ?_
   refine WL.vl rfl (zqc Tryz.func160 hCo) ?_
   refine zqg34 ?_
   refine ⟨k+1,⟨by omega,hnx rfl⟩,by omega,?_⟩
   rw [hrow]
   exact (zqu (fun q=>bif Nat.beq q 3 then 5 else q) (by repeat (first|exact trivial|refine ⟨⟨?_,?_,?_⟩,?_⟩|rfl|exact congrArg (fun q=>some (AO.row _ _ q)) (by first|rfl|(simp;done)|(simp [eInt];done)|(simp [eLk];done)))) rfl)
 obtain rfl:k=b.length:=by omega
 have hstp:=nr_stp_no fun j hj=>hall j hj hj
 rw [List.take_length]
 clear hall hk hlt
 have hIns:=nr_ins_y hcol herr hstp
 rw [hCS] at hIns
 obtain ⟨ST,hST⟩:∃ z,nr_st b=z:=⟨_,rfl⟩
 rw [hST] at hIns ⊢
 have hC:=pInsCheck_FS CS ST
 unfold eIns at hC
 rw [hIns]
 refine W.tr (Tr.freeze 2 rfl) ?_
 refine W.tr (Tr.freeze 3 rfl) ?_
 by_cases he:insE CS ST=0
 ·rw [he] at hC
  rw [he,if_neg (by decide)]
  refine zqg34 ?_
  refine WL.vl rfl (zqc Tryz.func103 hC) ?_
  refine zqg34 ?_
  exact W.ret (finN rfl rfl rfl rfl)
 ·rw [if_pos he]
  obtain ⟨E,hE⟩:∃ z,insE CS ST=z:=⟨_,rfl⟩
  rw [hE] at hC he ⊢
  refine zqg34 ?_
  refine WL.vl rfl (zqc Tryz.func103 hC) ?_
  refine zqg34 ?_
  refine W.tr (Tr.nilC 0 0 3 rfl rfl rfl) ?_
  refine W.tr (Tr.nilC 0 1 1 rfl rfl rfl) ?_
  exact W.ret (finN rfl rfl rfl rfl)
end
section
open Go.RowKit
def nr_ps(l:List UInt8):Int×Int:=if(nm1 == l)=true then(1,0)else if(nm2 == l)=true then(2,0)else if(nm3 == l)=true then(3,0)else if(nm4 == l)=true then(4,0)else(0,4)
theorem nr_ps_v (l:List UInt8):psV l=.tuple #[.int .u8 (nr_ps l).1,.int .i64 (nr_ps l).2]:=by
 unfold psV nr_ps
 split
 ·rfl
 ·split
  ·rfl
  ·split
   ·rfl
   ·split<;>rfl
theorem nr_ps_cases(l:List UInt8):((nr_ps l).2=4∧(nr_ps l).1=0)∨((nr_ps l).2=0∧1≤(nr_ps l).1∧(nr_ps l).1≤4):=by
 unfold nr_ps
 split
 ·exact .inr ⟨rfl,by decide⟩
 ·split
  ·exact .inr ⟨rfl,by decide⟩
  ·split
   ·exact .inr ⟨rfl,by decide⟩
   ·split
    ·exact .inr ⟨rfl,by decide⟩
    ·exact .inl ⟨rfl,rfl⟩
def nr_hdW:List UInt8:=[116,97,98,108,97,116,117,114,101,32]
theorem nr_pfx_take {p l:List UInt8}:nr_pfx p l=decide (l.take p.length=p):=by
 unfold nr_pfx
 by_cases h:l.take p.length=p
 ·rw [decide_eq_true h,List.isPrefixOf_iff_prefix]
  rw [← h];exact List.take_prefix _ _
 ·rw [decide_eq_false h]
  cases hb:p.isPrefixOf l with
  | false=>rfl
  | true =>
   obtain⟨u,rfl⟩:=List.isPrefixOf_iff_prefix.1 hb
   exact absurd List.take_left h
theorem nr_sys_no {l:List UInt8} (h:nr_pfx nr_hdW l=false):nr_sys l=none:=by
 rw [nr_pfx_take]at h
 exact if_neg (show ¬ l.take 10=[116,97,98,108,97,116,117,114,101,32]from of_decide_eq_false h)
theorem nr_sys_at {l:List UInt8} (h:nr_pfx nr_hdW l=true):nr_sys l=if (nr_ps (l.drop 10)).2=0 then some (nr_ps (l.drop 10)).1 else none:=by
 rw [nr_pfx_take]at h
 unfold nr_sys
 rw [if_pos (show l.take 10=[116,97,98,108,97,116,117,114,101,32]from of_decide_eq_true h)]
 obtain⟨d,hd⟩:∃ z,l.drop 10=z:=⟨_,rfl⟩
 rw [hd]
 unfold nr_ps nm1 nm2 nm3 nm4
 simp only [beq_iff_eq]
 split
 ·rfl
 ·split
  ·rfl
  ·split
   ·rfl
   ·split<;>rfl
theorem psys_FS (l:List UInt8):Ctr Tryz.prog 90 [.sc (.string (bs l))] (.tu [.sc (.int .u8 (nr_ps l).1),.sc (.int .i64 (nr_ps l).2)]) :=
 Ctr.of_sc (v:=psV l) rfl (fun F=>by rw [nr_ps_v];exact rp_plT rfl) fun w=>pparseSystem_any l w
def nr_hdU (L:List (List UInt8)) (cl:Bool):UR :=
 if nr_nxt L cl 0=false then .er (nr_flt 1 4) else
 match nr_sys (L.getD 0 []) with
 | none=>.er (nr_flt 1 4)
 | some s =>
  if nr_nxt L cl 1=false then .er (nr_flt 2 4) else
  if (nr_ins (L.getD 1 [])).2≠0 then .er (nr_flt 2 (nr_ins (L.getD 1 [])).2) else
  .ok (.tu []) [(0,nr_rd (.int .u8 s) (sysV s) ((nr_ins (L.getD 1 [])).1.1.map eCrs) ((nr_ins (L.getD 1 [])).1.2.map eInt) 2 (L.map eTx) cl)] 4
theorem head_G (L:List (List UInt8)) (cl:Bool) (hl:L.length≤400000) (hw:∀ w∈L,w.length≤400000) :
  Ctu tabN gloN Tryz.prog 39 [.pt 0 0 0] [(0,nr_rd (.int .u8 0) .nilIface [] [] 0 (L.map eTx) cl)] 3 (nr_hdU L cl):=by
 have hn0:=next_G (.int .u8 0) .nilIface [] [] L cl 0 zqo zqo
 have hwd:∀ k,(L.getD k []).length≤400000:=fun k=>by
  rw [List.getD_eq_getElem?_getD]
  by_cases h:k < L.length
  ·rw [List.getElem?_eq_getElem h];exact hw _ (List.getElem_mem h)
  ·rw [List.getElem?_eq_none (by omega)];simp
 have hcp:=cutPfx_FS (L.getD 0 []) nr_hdW (by have:=hwd 0;omega)
 refine Ctu.intro stabN Tryz.func39 rfl Tryz.ntmps39 (Nat.le_of_ble_eq_true rfl) rfl fun w0 F0 fp pg hB=>?_
 unfold nr_hdU
 dsimp only [number,Nat.reduceAdd]
 cases hx:nr_nxt L cl 0 with
 | false =>
  rw [if_pos rfl]
  have hc:=hn0.er_ (by rw [hx];rfl)
  unfold nr_rd
  refine zqg35 ?_
  refine WL.ctp (truH _) [0,1,2] rfl rfl (callF Tryz.func42 rfl rfl) hc rfl rfl rfl ⟨⟨rfl,rfl,rfl⟩,trivial⟩ ?_
  rfl
 | true =>
 rw [if_neg (by decide)]
 have hc:=hn0.ok_ (by rw [hx];rfl)
 rw [show ((0:Nat):Int)+1=1 from rfl,show ((0:Nat):Int)=0 from rfl] at hc
 obtain ⟨l0,hl0⟩:∃ z,L.getD 0 []=z:=⟨_,rfl⟩
 rw [hl0] at hc hcp ⊢
 cases hp:nr_pfx nr_hdW l0 with
 | false =>
  have hps:=psys_FS l0
  rw [nr_sys_no hp]
  rw [hp] at hcp
  unfold nr_rd
  refine zqg35 ?_
  refine WL.cto (truH _) [0,1,2] rfl rfl (callF Tryz.func42 rfl rfl) hc rfl rfl rfl ⟨⟨rfl,rfl,rfl⟩,trivial⟩ rfl rfl rfl rfl ?_
  refine zqg35 ?_
  refine WL.vl rfl (zqc Tryz.func89 hcp) ?_
  refine zqg35 ?_
  refine WL.vl rfl (zqc Tryz.func90 hps) ?_
  refine zqg35 ?_
  refine WL.ctp (truH _) [0,1,2] rfl rfl (callF Tryz.func40 rfl rfl) (fail_G _ _ _ _ _ _ _ _) rfl rfl rfl ⟨⟨rfl,rfl,rfl⟩,trivial⟩ ?_
  rfl
 | true =>
 rw [hp,if_pos rfl] at hcp
 obtain ⟨nm,hnm⟩:∃ z,l0.drop 10=z:=⟨_,rfl⟩
 have hcp:Ctr Tryz.prog 89 [.sc (.string (bs l0)),.sc (.string (bs nr_hdW))] (.tu [.sc (.string (bs nm)),.sc (.bool true)]):=by rw [← hnm];exact hcp
 rw [nr_sys_at hp,hnm]
 have hps:=psys_FS nm
 rcases nr_ps_cases nm with ⟨e1,e2⟩|⟨e1,e2,e3⟩
 ·rw [e1,e2] at hps
  rw [e1,if_neg (by decide)]
  dsimp only
  unfold nr_rd
  refine zqg35 ?_
  refine WL.cto (truH _) [0,1,2] rfl rfl (callF Tryz.func42 rfl rfl) hc rfl rfl rfl ⟨⟨rfl,rfl,rfl⟩,trivial⟩ rfl rfl rfl rfl ?_
  refine zqg35 ?_
  refine WL.vl rfl (zqc Tryz.func89 hcp) ?_
  refine zqg35 ?_
  refine WL.vl rfl (zqc Tryz.func90 hps) ?_
  refine zqg35 ?_
  refine WL.ctp (truH _) [0,1,2] rfl rfl (callF Tryz.func40 rfl rfl) (fail_G _ _ _ _ _ _ _ _) rfl rfl rfl ⟨⟨rfl,rfl,rfl⟩,trivial⟩ ?_
  rfl
 rw [e1] at hps
 rw [if_pos e1]
 obtain ⟨s,hs⟩:∃ z,(nr_ps nm).1=z:=⟨_,rfl⟩
 rw [hs] at hps e2 e3 ⊢
 dsimp only
 have hof:=of_FS s
 rw [decide_eq_true ⟨e2,e3⟩] at hof
 have hcB:(AV.sc (sysV s)).cellB=true:=by rcases sys_cases ⟨e2,e3⟩ with rfl|rfl|rfl|rfl<;>rfl
 have hcl:(AV.sc (sysV s)).cells=[AV.sc (sysV s)]:=by rcases sys_cases ⟨e2,e3⟩ with rfl|rfl|rfl|rfl<;>rfl
 have h1B:[AV.sc (sysV s)].all AV.oneB=true:=by rcases sys_cases ⟨e2,e3⟩ with rfl|rfl|rfl|rfl<;>rfl
 have hn1:=next_G (.int .u8 s) (sysV s) [] [] L cl 1 zqo (by
  unfold nr_nxt at hx
  simp only [Bool.and_eq_true,decide_eq_true_eq] at hx
  omega)
 cases hx1:nr_nxt L cl 1 with
 | false =>
  rw [if_pos rfl]
  have hc1:=hn1.er_ (by rw [hx1];rfl)
  rw [show ((1:Nat):Int)+1=2 from rfl,show ((1:Nat):Int)=1 from rfl] at hc1
  unfold nr_rd
  refine zqg35 ?_
  refine WL.cto (truH _) [0,1,2] rfl rfl (callF Tryz.func42 rfl rfl) hc rfl rfl rfl ⟨⟨rfl,rfl,rfl⟩,trivial⟩ rfl rfl rfl rfl ?_
  refine zqg35 ?_
  refine WL.vl rfl (zqc Tryz.func89 hcp) ?_
  refine zqg35 ?_
  refine WL.vl rfl (zqc Tryz.func90 hps) ?_
  refine zqg35 ?_
  refine WL.vl rfl (zqc Tryz.func50 hof) ?_
  refine zqg35 ?_
  refine WL.op rfl (WO.store rfl rfl rfl rfl rfl rfl hcB hcl rfl h1B rfl) ?_
  dsimp only [St.upd]
  refine zqg35 ?_
  refine WL.ctp (truH _) [0,1,2] rfl rfl (callF Tryz.func42 rfl rfl) hc1 rfl rfl rfl ⟨⟨rfl,rfl,rfl⟩,trivial⟩ ?_
  rfl
 | true =>
 rw [if_neg (by decide)]
 have hc1:=hn1.ok_ (by rw [hx1];rfl)
 rw [show ((1:Nat):Int)+1=2 from rfl,show ((1:Nat):Int)=1 from rfl] at hc1
 have hP:=pParse_G (L.getD 1 []) (hwd 1)
 obtain ⟨l1,hl1⟩:∃ z,L.getD 1 []=z:=⟨_,rfl⟩
 rw [hl1] at hc1 hP ⊢
 obtain ⟨⟨⟨cs,st⟩,e⟩,hins⟩:∃ z,nr_ins l1=z:=⟨_,rfl⟩
 rw [hins] at hP ⊢
 unfold eIns at hP
 dsimp only at hP ⊢
 by_cases he:e=0
 ·subst he
  rw [if_neg (by decide)]
  unfold nr_rd
  refine zqg35 ?_
  refine WL.cto (truH _) [0,1,2] rfl rfl (callF Tryz.func42 rfl rfl) hc rfl rfl rfl ⟨⟨rfl,rfl,rfl⟩,trivial⟩ rfl rfl rfl rfl ?_
  refine zqg35 ?_
  refine WL.vl rfl (zqc Tryz.func89 hcp) ?_
  refine zqg35 ?_
  refine WL.vl rfl (zqc Tryz.func90 hps) ?_
  refine zqg35 ?_
  refine WL.vl rfl (zqc Tryz.func50 hof) ?_
  refine zqg35 ?_
  refine WL.op rfl (WO.store rfl rfl rfl rfl rfl rfl hcB hcl rfl h1B rfl) ?_
  dsimp only [St.upd]
  refine zqg35 ?_
  refine WL.cto (truH _) [0,1,2] rfl rfl (callF Tryz.func42 rfl rfl) hc1 rfl rfl rfl ⟨⟨rfl,rfl,rfl⟩,trivial⟩ rfl rfl rfl rfl ?_
  refine zqg35 ?_
  refine WL.vl rfl (WV.callG hB rfl (callF Tryz.func91 rfl rfl) rfl rfl hP) ?_
  refine zqg35 ?_
  exact QFinM.sub (finMuL rfl rfl rfl rfl rfl) ⟨rfl,trivial⟩
 ·rw [if_pos he]
  unfold nr_rd
  refine zqg35 ?_
  refine WL.cto (truH _) [0,1,2] rfl rfl (callF Tryz.func42 rfl rfl) hc rfl rfl rfl ⟨⟨rfl,rfl,rfl⟩,trivial⟩ rfl rfl rfl rfl ?_
  refine zqg35 ?_
  refine WL.vl rfl (zqc Tryz.func89 hcp) ?_
  refine zqg35 ?_
  refine WL.vl rfl (zqc Tryz.func90 hps) ?_
  refine zqg35 ?_
  refine WL.vl rfl (zqc Tryz.func50 hof) ?_
  refine zqg35 ?_
  refine WL.op rfl (WO.store rfl rfl rfl rfl rfl rfl hcB hcl rfl h1B rfl) ?_
  dsimp only [St.upd]
  refine zqg35 ?_
  refine WL.cto (truH _) [0,1,2] rfl rfl (callF Tryz.func42 rfl rfl) hc1 rfl rfl rfl ⟨⟨rfl,rfl,rfl⟩,trivial⟩ rfl rfl rfl rfl ?_
  refine zqg35 ?_
  refine WL.vl rfl (WV.callG hB rfl (callF Tryz.func91 rfl rfl) rfl rfl hP) ?_
  refine zqg35 ?_
  refine WL.ctp (truH _) [0,1,2] rfl rfl (callF Tryz.func40 rfl rfl) (fail_G _ _ _ _ _ _ _ _) rfl rfl rfl ⟨⟨rfl,rfl,rfl⟩,trivial⟩ ?_
  rfl
end
end Go.Proofs.YthehkchjdkdbiaaGreatDoor
