/- The reader of the program: the first two lines. -/
import Derived.Test.YthehkchjdkdbiaaGreatDoorNrDKq
set_option maxHeartbeats 8000000
set_option maxRecDepth 100000
set_option linter.unusedVariables false
set_option linter.unusedSimpArgs false
namespace Go.Proofs.YthehkchjdkdbiaaGreatDoor
section
variable {p:Prop}
theorem al1(h:p:=by
 rw [hk,if_pos rfl] at hR
 rw [(qW hk).1,(qW hk).2,hR]
 exact Di):p:=h
theorem al0(h:p:=by
 rw [hk,if_neg (by decide)] at hR
 rw [(vJ hk).1,(vJ hk).2,hR]
 exact Di):p:=h
theorem Ua(h:p:=by
 refine aw3 ?_
 exact kC):p:=h
theorem alR(h:p:=by
 refine Nk ?_
 simp only [ek,hcc]
 refine BH ?_
 exact kC):p:=h
theorem alD(h:p:=by
 rw [e]
 refine jl Tryz.func160 Tryz.ntmps160 fun w0 F0=>?_;dsimp only [St.init,number,Nat.reduceAdd]
 refine BH ?_
 exact kC):p:=h
theorem Di(h:p:=by
 refine mM ?_
 exact kC):p:=h
theorem Nv(h:p:=by
 go_enter Tryz.func90,Tryz.ntmps90
 go_wp2
 go_rounds 5
 exact uY):p:=h
theorem als(h:p:=by
 unfold iC
 refine lI ?_
 refine WL.qo (dL _) [0,1,2] rfl rfl (ak Tryz.func42 rfl rfl) hc rfl rfl rfl ⟨⟨rfl,rfl,rfl⟩,trivial⟩ rfl rfl rfl rfl ?_
 refine lI ?_
 refine WL.vl rfl (bZ Tryz.func89 hcp) ?_
 refine lI ?_
 refine WL.vl rfl (bZ Tryz.func90 hps) ?_
 refine lI ?_
 exact Nu):p:=h
theorem alr(h:p:=by
 refine mM ?_
 refine aqt ?_
 refine ajR ?_
 rw [hc2]
 refine uo ?_
 refine aZ.yT rfl rfl rfl rfl rfl rfl rfl rfl rfl rfl rfl rfl rfl rfl trivial (fun h=>by cases h) ?_
 refine aZ.nil ?_
 refine ⟨rfl,?_⟩
 refine (?_:WL _ _ _ _ _ _)
 refine mM ?_
 exact uX):p:=h
theorem alp(h:p:=by
 refine kJ.intro o7 Tryz.func159 rfl Tryz.ntmps159 (bU rfl) (gG rfl) fun w0 F0 hB=>?_;dsimp only [St.init,number,Nat.reduceAdd]
 refine oQ ?_
 refine WL.vl rfl (WV.eH hB rfl (ak Tryz.func218 rfl rfl) rfl rfl hC) ?_
 refine oQ ?_
 refine WL.vl rfl (WV.eH hB rfl (ak Tryz.func219 rfl rfl) rfl rfl hN) ?_
 refine oQ ?_
 exact kC):p:=h
theorem aaP(h:p:=by
 refine kJ.intro o7 Tryz.func159 rfl Tryz.ntmps159 (bU rfl) (gG rfl) fun w0 F0 hB=>?_;dsimp only [St.init,number,Nat.reduceAdd]
 refine oQ ?_
 refine WL.vl rfl (WV.eH hB rfl (ak Tryz.func218 rfl rfl) rfl rfl hC) ?_
 refine oQ ?_
 refine WL.vl rfl (WV.eH hB rfl (ak Tryz.func219 rfl rfl) rfl rfl hN) ?_
 refine oQ ?_
 refine WL.vl rfl (bZ Tryz.func220 hP) ?_
 refine oQ ?_
 refine WL.vl rfl (bZ Tryz.func160 hD) ?_
 refine oQ ?_
 exact kC):p:=h
theorem alf(h:p:=by
 split
 ·rfl
 ·split
  ·rfl
  ·split
   ·rfl
   ·split<;>rfl):p:=h
theorem TS(h:p:=by
 exact .inr ⟨rfl,by decide⟩):p:=h
end
theorem Nk {p q:Prop}(k:q)(h:aP q→p:=by
 intro hq
 refine BH ?_
 refine aqr ?_
 exact hq.k):p:=h ⟨k⟩
theorem Ip {p q:Prop}(k:q)(h:aP q→p:=by
 intro hq
 refine mM ?_
 refine aqr ?_
 exact hq.k):p:=h ⟨k⟩
theorem ajL {p q:Prop}(k:q)(h:aP q→p:=by
 intro hq
 refine lI ?_
 refine WL.op rfl (WO.store rfl rfl rfl rfl rfl rfl hcB hcl rfl h1B rfl) ?_
 dsimp only [St.upd]
 refine lI ?_
 exact hq.k):p:=h ⟨k⟩
theorem aw3 {p q:Prop}(k:q)(h:aP q→p:=by
 intro hq
 refine pq ?_
 refine W.tr (Tr.yM 0 0 3 rfl rfl rfl) ?_
 refine W.tr (Tr.yM 0 1 1 rfl rfl rfl) ?_
 exact hq.k):p:=h ⟨k⟩
theorem aqr {p q:Prop}(k:q)(h:aP q→p:=by
 intro hq
 refine WL.six rfl rfl ⟨by omega,by omega⟩ ?_
 exact hq.k):p:=h ⟨k⟩
section
open Go.RowKit
theorem Fq (l al o:Int):kJ qG Tryz.prog 173 [.ag [.sc (.int .i64 l),.sc (.int .i64 al),.sc (.int .i64 o)]] (.tu [.sc (.int .i64 (afq l al o)),.sc (.int .i64 (ai1 l al o))]):=by
 refine kJ.intro o7 Tryz.func173 rfl Tryz.ntmps173 (bU rfl) (gG rfl) fun w0 F0 hB=>?_;dsimp only [St.init,number,Nat.reduceAdd]
 have hc:(l < 0∨(¬ l < 0∧7≤l)∨(¬ l < 0∧¬ 7≤l∧al < -1)∨(¬ l < 0∧¬ 7≤l∧¬ al < -1∧1 < al)∨(¬ l < 0∧¬ 7≤l∧¬ al < -1∧¬ 1 < al∧o < -1)∨(¬ l < 0∧¬ 7≤l∧¬ al < -1∧¬ 1 < al∧¬ o < -1∧9 < o))∨wO l al o:=by unfold wO;omega
 rcases hc with hc|hc
 ·exact arf
 ·obtain ⟨⟨h1,h2⟩,⟨h3,h4⟩,h5,h6⟩:=id hc
  have hbd:=QK ⟨h1,h2⟩
  have htab:=aae ⟨h1,h2⟩
  have hin:=WW hc
  have hv:yO l al o=12*(o+1)+vg l+al:=rfl
  have hR:jG l al o=true→afq l al o=12*(o+1)+vg l+al:=fun h=>(qW h).1
  obtain ⟨b,hb⟩:∃ b,vg l=b:=⟨_,rfl⟩
  rw [hb] at hbd htab hv hR
  refine Xt ?_
  refine iF ?_
  repeat (first|refine DK.st rfl ?_|refine DK.ar rfl rfl zW ?_|refine DK.nil ?_)
  refine DK.glob hB rfl rfl ⟨h1,by omega⟩ htab rfl ?_
  repeat (first|refine DK.st rfl ?_|refine DK.ar rfl rfl zW ?_|refine DK.nil ?_)
  exact alz
theorem KE (w:List UInt8) (hl:w.length≤1000000):aU Tryz.prog 160 [.sc (.string (bs w))] (.tu [.sc (.int .i64 (((dV w).getD 0:Nat):Int)),.sc (.bool (dV w).isSome)]):=by
 by_cases h1:w.length < 1
 ·have e:dV w=none:=if_pos (.inl h1)
  exact alD
 by_cases h2:3 < w.length
 ·have e:dV w=none:=if_pos (.inr (.inl h2))
  exact alD
 have ez:((0:Int)).toNat=0:=rfl
 have hz:((w.getD 0 0).toNat:Int)=48↔w.getD 0 0=48:=⟨fun h=>UInt8.toNat_inj.1 (by show _=48;omega),fun h=>by rw [h];rfl⟩
 obtain ⟨b0,hb0⟩:∃ z,((w.getD 0 0).toNat:Int)=z:=⟨_,rfl⟩
 rw [hb0] at hz
 by_cases h3:b0=48∧1 < w.length
 ·have e:dV w=none:=if_pos (.inr (.inr ⟨hz.1 h3.1,h3.2⟩))
  have hw:(w == [48])=false:=by
   cases h:w == [48] with
   | false=>rfl
   | true =>
    have:=eq_of_beq h
    rw [this] at h3;exact absurd h3.2 (by decide)
  rw [e]
  obtain ⟨h4,h5⟩:=h3
  refine jl Tryz.func160 Tryz.ntmps160 fun w0 F0=>?_;dsimp only [St.init,number,Nat.reduceAdd]
  refine Nk ?_
  simp only [ez,hb0]
  refine BH ?_
  rw [hw]
  refine BH ?_
  exact kC
 have e:dV w=uQ 0 w:=if_neg (by
  rintro (h|h|h)
  ·exact h1 h
  ·exact h2 h
  ·exact h3 ⟨hz.2 h.1,h.2⟩)
 rw [e]
 have key:∀ {Q:Prop},(b0≠48→Q)→(b0=48→(w == [48])=true→Q)→Q:=fun {Q} f g=>by
  by_cases h:b0=48
  ·refine g h ?_
   match w,h1,h2,h3,hz with
   | [x],_,_,_,hz =>
    have:x=48:=hz.1 h
    subst this;rfl
   | x::y::r,_,_,h3,_=>exact absurd ⟨h,by simp⟩ h3
   | [],h1,_,_,_=>exact absurd (by simp) h1
  ·exact f h
 refine jl Tryz.func160 Tryz.ntmps160 fun w0 F0=>?_;dsimp only [St.init,number,Nat.reduceAdd]
 refine Nk ?_
 simp only [ez,hb0]
 refine key (fun h4=>?_) (fun h4 h5=>?_)
 all_goals
  refine BH ?_
  try rw [h5]
  refine BH ?_
  refine W.loop (fun k:Nat=>k≤w.length∧∀ j (hj:j < w.length),j < k→48≤w[j].toNat∧w[j].toNat≤57) (fun k=>⟨[(0,.sc (.string (bs w))),(4,.sc (.int .i64 (qj w k:Nat))),(5,.sc (.int .i64 k))],[],0⟩) (fun k=>w.length - k) 0 ⟨by omega,fun j hj h=>absurd h au⟩ (zqt id) fun k hk=>?_
  obtain ⟨hk,hall⟩:=hk
  by_cases hlt:k < w.length
  rotate_left
  ·obtain rfl:k=w.length:=by omega
   have hg:=Ho w 0 fun b hb=>by
    obtain ⟨j,hj,rfl⟩:=List.mem_iff_getElem.1 hb
    exact hall j hj hj
   have hv:qj w w.length=w.foldl (fun a b=>10*a+(b.toNat - 48)) 0:=by unfold qj;rw [jH]
   rw [hg,← hv]
   refine BH ?_
   exact kC
  have ek:((k:Nat):Int).toNat=k:=fO k
  have hgd:w.getD k 0=w[k]:=by rw [oP,aI hlt];rfl
  have hbad:=Hq w 0 k hlt
  have hvs:=Ef hlt
  have hvb:qj w k < 100:=by
   have h10:(10:Nat) ^ k≤10 ^ 2:=Nat.pow_le_pow_right au au
   have:∀ k,k≤w.length→(∀ j (hj:j < w.length),j < k→48≤w[j].toNat∧w[j].toNat≤57)→qj w k < 10 ^ k:=fun k=>by
    induction k with
    | zero=>intro _ _;simp [qj]
    | succ k ih =>
     intro hk' ha
     have i1:=ih au fun j hj hjk=>ha j hj au
     have i2:=ha k au au
     rw [Ef (by omega),Nat.pow_succ];omega
   have:=this k hk hall
   have e2:(10:Nat) ^ 2=100:=rfl
   omega
  have hnx:48≤w[k].toNat∧w[k].toNat≤57→∀ j (hj:j < w.length),j < k+1→48≤w[j].toNat∧w[j].toNat≤57:=fun h j hj hjk=>by
   exact adf
  obtain ⟨c,hc⟩:∃ z,w[k].toNat=z:=⟨_,rfl⟩
  rw [hc] at hbad hvs hnx
  have hcc:((w.getD k 0).toNat:Int)=(c:Int):=by rw [hgd,hc]
  obtain ⟨v,hv⟩:∃ z,qj w k=z:=⟨_,rfl⟩
  rw [hv] at hvs hvb ⊢
  clear hall
  by_cases c1:c < 48
  ·rw [hbad (by omega)]
   exact alR
  by_cases c2:57 < c
  ·rw [hbad (by omega)]
   refine Nk ?_
   simp only [ek,hcc]
   exact alR
  have hn2:=hnx au
  clear hbad hnx
  refine Nk ?_
  simp only [ek,hcc]
  refine Nk ?_
  simp only [ek,hcc]
  refine Nk ?_
  simp only [ek,hcc]
  refine BH ?_
  refine WL.sb8 rfl rfl au ?_
  refine WL.cvt rfl rfl rfl (I64.wrap zW) ?_
  refine BH ?_
  refine ⟨k+1,⟨by omega,hn2⟩,by omega,?_⟩
  rw [hvs,show ((10*v+(c - 48):Nat):Int)=10*(v:Int)+((c:Int) - 48) by omega]
  exact (kL (fun q=>q) qc rfl)
theorem N8:((List.range 256).all fun k=>decide (Lib.indexByte [67,68,69,70,71,65,66] (UInt8.ofNat k)=if tH (UInt8.ofNat k)<7 then (tH (UInt8.ofNat k):Int)else -1))=true:=by decide +kernel
theorem aeu (b:UInt8):Lib.indexByte [67,68,69,70,71,65,66] b=if tH b<7 then (tH b:Int) else -1:=by
 have h:=iY (List.all_eq_true.1 N8 b.toNat (List.mem_range.2 b.toNat_lt))
 rw [UInt8.ofNat_toNat] at h
 exact h
def eNm (x:Int×Int×Int):AV:=.ag [.sc (.int .i64 x.1),.sc (.int .i64 x.2.1),.sc (.int .i64 x.2.2)]
theorem RG (r:List UInt8):(∃ q,r=35::q∧oK r=(1,q))∨(∃ q,r=98::q∧oK r=(-1,q))∨(eX [35] r=false∧eX [98] r=false∧oK r=(0,r)):=by
 match r with
 | []=>exact .inr (.inr ⟨rfl,rfl,rfl⟩)
 | b::q =>
  by_cases h1:b=35
  ·subst h1;exact .inl ⟨q,rfl,rfl⟩
  ·by_cases h2:b=98
   ·subst h2;exact .inr (.inl ⟨q,rfl,rfl⟩)
   ·refine .inr (.inr ⟨?_,?_,?_⟩)
    ·unfold eX;simp [List.isPrefixOf,Ne.symm h1]
    ·unfold eX;simp [List.isPrefixOf,Ne.symm h2]
    ·unfold oK;dsimp only;rw [if_neg h1,if_neg h2]
theorem RQ (r:List UInt8):(r=[45,49]∧vH r=some (-1))∨(r≠[45,49]∧∃ b,r=[b]∧48≤b.toNat∧b.toNat≤57∧vH r=some ((b.toNat:Int)-48))∨(r≠[45,49]∧vH r=none∧(r.length≠1∨∃ b,r=[b]∧(b.toNat<48∨57<b.toNat))):=by
 by_cases h:r=[45,49]
 ·exact .inl ⟨h,by unfold vH;rw [if_pos h]⟩
 ·match r,h with
  | [],h=>exact .inr (.inr ⟨h,rfl,.inl (by decide)⟩)
  | [b],h =>
   by_cases hb:48≤b.toNat∧b.toNat≤57
   ·exact .inr (.inl ⟨h,b,rfl,hb.1,hb.2,by unfold vH;rw [if_neg h];dsimp only;rw [if_pos hb]⟩)
   ·exact .inr (.inr ⟨h,by unfold vH;rw [if_neg h];dsimp only;rw [if_neg hb],.inr ⟨b,rfl,by omega⟩⟩)
  | a::b::q,h=>exact .inr (.inr ⟨h,by unfold vH;rw [if_neg h],.inl (by simp)⟩)
theorem aew {c:UInt8} {r:List UInt8} (h:tH c<7):(vH (oK r).2=none→iW (c::r)=((0,0,0),4))∧(∀ o,vH (oK r).2=some o→iW (c::r)=if jG (tH c) (oK r).1 o=true then ((((tH c:Nat):Int),(oK r).1,o),(0:Int))else ((0,0,0),10)):=by
 unfold iW
 dsimp only
 rw [if_neg (by omega)]
 exact ⟨fun e=>by rw [e],fun o e=>by rw [e]⟩
theorem aob (t:List UInt8) (ht:t.length≤1000000):kJ qG Tryz.prog 219 [.sc (.string (bs t))] (.tu [eNm (iW t).1,.sc (.int .i64 (iW t).2)]):=by
 match t,ht with
 | [],_ =>
  refine kJ.intro o7 Tryz.func219 rfl Tryz.ntmps219 (bU rfl) (gG rfl) fun w0 F0 hB=>?_;dsimp only [St.init,number,Nat.reduceAdd]
  exact Di
 | c::r,ht =>
  have hrl:r.length≤1000000:=by simp at ht;omega
  have hb0:((c::r) == ([]:List UInt8))=false:=rfl
  have hI:=NZ [67,68,69,70,71,65,66] (c.toNat:Int)
  have hIe:Lib.indexByte [67,68,69,70,71,65,66] ((c.toNat:Int).toNat.toUInt8)=if tH c < 7 then (tH c:Int) else -1:=by
   rw [fO,show c.toNat.toUInt8=c from UInt8.ofNat_toNat];exact aeu c
  rw [hIe] at hI
  have ez:(((c::r).getD (Int.toNat 0) 0).toNat:Int)=(c.toNat:Int):=rfl
  have hlen:(c::r).length=r.length+1:=rfl
  have hc1:cut (c::r) 1 ((r.length:Int)+1)=r:=by
   unfold cut
   rw [show ((r.length:Int)+1).toNat=r.length+1 by omega]
   simp
  by_cases hl:tH c < 7
  rotate_left
  ·have e:iW (c::r)=((0,0,0),4):=by unfold iW;dsimp only;rw [if_pos (by omega)]
   rw [e]
   rw [if_neg hl] at hI
   refine kJ.intro o7 Tryz.func219 rfl Tryz.ntmps219 (bU rfl) (gG rfl) fun w0 F0 hB=>?_;dsimp only [St.init,number,Nat.reduceAdd]
   refine mM ?_
   rw [hb0]
   refine Ip ?_
   rw [ez]
   refine mM ?_
   refine WL.vl rfl (bZ Tryz.func249 hI) ?_
   exact Di
  rw [if_pos hl] at hI
  obtain ⟨hno,hsome⟩:=aew (c:=c) (r:=r) hl
  have hl0:0≤(tH c:Int):=Gf _
  obtain ⟨L,hL⟩:∃ z,(tH c:Int)=z:=⟨_,rfl⟩
  rw [hL] at hI hl0 hsome
  have ad6:=Sj r [35]
  have anu:=Sj r [98]
  have hlr:((c::r).length:Int)=(r.length:Int)+1:=by rw [hlen];omega
  have hcb:0≤(1:Int)∧(1:Int)≤(((c::r).length:Nat):Int)∧(((c::r).length:Nat):Int)≤(((c::r).length:Nat):Int):=by omega
  have hc1:cut (c::r) 1 (((c::r).length:Nat):Int)=r:=by rw [hlr];exact hc1
  obtain ⟨al,q,hq⟩:∃ al q,oK r=(al,q):=⟨_,_,rfl⟩
  have hql:q.length≤1000000:=by
   have:=ZN r
   rw [hq] at this
   exact jV this hrl
  rw [hq] at hno hsome
  dsimp only at hno hsome
  refine kJ.intro o7 Tryz.func219 rfl Tryz.ntmps219 (bU rfl) (gG rfl) fun w0 F0 hB=>?_;dsimp only [St.init,number,Nat.reduceAdd]
  refine mM ?_
  rw [hb0]
  refine Ip ?_
  rw [ez]
  refine mM ?_
  refine WL.vl rfl (bZ Tryz.func249 hI) ?_
  refine mM ?_
  refine WL.cut rfl rfl hcb ?_
  rw [hc1]
  refine mM ?_
  refine WL.aho ⟨[(2,.pt 0 0 0),(4,.pt 1 0 0),(5,.sc (.string (bs q)))],[(1,.box 182 [.sc (.int .i64 L),.sc (.int .i64 al),.sc (.int .i64 0)]),(0,.box 182 [.sc (.int .i64 0),.sc (.int .i64 0),.sc (.int .i64 0)])],2⟩ ?_ ?_
  ·rcases RG r with ⟨q',rfl,e⟩|⟨q',rfl,e⟩|⟨e1,e2,e⟩
   ·rw [hq] at e
    obtain ⟨rfl,rfl⟩:=Prod.mk.inj e
    have hp:eX [35] (35::q)=true:=by unfold eX;simp [List.isPrefixOf]
    rw [hp] at ad6
    have hl2:((35::q).length:Int)=(q.length:Int)+1:=by simp
    have hcb2:0≤(1:Int)∧(1:Int)≤(((35::q).length:Nat):Int)∧(((35::q).length:Nat):Int)≤(((35::q).length:Nat):Int):=by omega
    have hc2:cut (35::q) 1 (((35::q).length:Nat):Int)=q:=by
     unfold cut
     rw [fO]
     simp
    refine WL.vl rfl (bZ Tryz.func256 ad6) ?_
    exact alr
   ·rw [hq] at e
    obtain ⟨rfl,rfl⟩:=Prod.mk.inj e
    have hp:eX [98] (98::q)=true:=by unfold eX;simp [List.isPrefixOf]
    have hp2:eX [35] (98::q)=false:=by unfold eX;simp [List.isPrefixOf]
    rw [hp] at anu
    rw [hp2] at ad6
    have hl2:((98::q).length:Int)=(q.length:Int)+1:=by simp
    have hcb2:0≤(1:Int)∧(1:Int)≤(((98::q).length:Nat):Int)∧(((98::q).length:Nat):Int)≤(((98::q).length:Nat):Int):=by omega
    have hc2:cut (98::q) 1 (((98::q).length:Nat):Int)=q:=by
     unfold cut
     rw [fO]
     simp
    refine WL.vl rfl (bZ Tryz.func256 ad6) ?_
    refine mM ?_
    refine WL.vl rfl (bZ Tryz.func256 anu) ?_
    exact alr
   ·rw [hq] at e
    obtain ⟨rfl,rfl⟩:=Prod.mk.inj e
    rw [e1] at ad6
    rw [e2] at anu
    refine WL.vl rfl (bZ Tryz.func256 ad6) ?_
    refine mM ?_
    refine WL.vl rfl (bZ Tryz.func256 anu) ?_
    refine mM ?_
    exact uX
  rcases RQ q with ⟨rfl,ho⟩|⟨hne,b,rfl,hb1,hb2,ho⟩|⟨hne,ho,hl1⟩
  ·have hS:=Fq L al (-1)
   have hb1:(([45,49]:List UInt8) == [45,49])=true:=rfl
   have hR:=hsome _ ho
   refine mM ?_
   rw [hb1]
   refine mM ?_
   refine WL.vl rfl (WV.eH hB rfl (ak Tryz.func173 rfl rfl) rfl rfl hS) ?_
   cases hk:jG L al (-1) with
   | true =>
    exact al1
   | false =>
    exact al0
  ·have hS:=Fq L al ((b.toNat:Int) - 48)
   have hbf:([b] == ([45,49]:List UInt8))=false:=by simp
   have hR:=hsome _ ho
   have hbl:(([b]:List UInt8).length:Int)=1:=rfl
   have hbz:((([b]:List UInt8).getD (Int.toNat 0) 0).toNat:Int)=(b.toNat:Int):=rfl
   obtain ⟨bn,hbn⟩:∃ z,b.toNat=z:=⟨_,rfl⟩
   rw [hbn] at hb1 hb2 hS hR hbz
   refine mM ?_
   rw [hbf]
   refine Ip ?_
   rw [hbz]
   refine Ip ?_
   rw [hbz]
   refine Ip ?_
   rw [hbz]
   refine mM ?_
   refine WL.sb8 rfl rfl au ?_
   refine WL.cvt rfl rfl rfl (I64.wrap zW) ?_
   refine mM ?_
   refine WL.vl rfl (WV.eH hB rfl (ak Tryz.func173 rfl rfl) rfl rfl hS) ?_
   cases hk:jG L al ((bn:Int) - 48) with
   | true =>
    exact al1
   | false =>
    exact al0
  ·have hbf:(q == ([45,49]:List UInt8))=false:=by simpa using hne
   rw [hno ho]
   rcases hl1 with hl1|⟨b,rfl,hb⟩
   ·refine mM ?_
    rw [hbf]
    exact Di
   ·have hbl:(([b]:List UInt8).length:Int)=1:=rfl
    have hbz:((([b]:List UInt8).getD (Int.toNat 0) 0).toNat:Int)=(b.toNat:Int):=rfl
    obtain ⟨bn,hbn⟩:∃ z,b.toNat=z:=⟨_,rfl⟩
    rw [hbn] at hb hbz
    rcases hb with hb|hb
    ·refine mM ?_
     rw [hbf]
     refine Ip ?_
     rw [hbz]
     exact Di
    ·refine mM ?_
     rw [hbf]
     refine Ip ?_
     rw [hbz]
     refine Ip ?_
     rw [hbz]
     exact Di
theorem Vz (t:List UInt8):(iW t).2=4∨(iW t).2=10∨((iW t).2=0∧jG (iW t).1.1 (iW t).1.2.1 (iW t).1.2.2=true):=by
 unfold iW
 split
 ·exact .inl rfl
 ·split
  ·exact .inl rfl
  ·split
   ·exact .inl rfl
   ·split
    ·rename_i h;exact .inr (.inr ⟨rfl,h⟩)
    ·exact .inr (.inl rfl)
theorem aem {a b:List UInt8} (h:aQ 47 a):iJ (a++47::b)=if (iW a).2=4 then ((0,0,false),4)else match dV (jK b).1 with
  | none=>((0,0,false),4)
  | some n=>if (iW a).2≠0 then ((0,0,false),(iW a).2)else ((yO (iW a).1.1 (iW a).1.2.1 (iW a).1.2.2,(n:Int),(jK b).2),0):=by
 unfold iJ
 rw [PX h]
 rfl
theorem aen {t:List UInt8} (h:aQ 47 t):iJ t=((0,0,false),4):=by
 unfold iJ
 rw [afa h]
theorem VA(b:List UInt8):(jK b).1.length≤b.length:=by
 unfold jK
 split
 ·simp
 ·simp
theorem aeS (t:List UInt8) (ht:t.length≤500000):kJ qG Tryz.prog 159 [.sc (.string (bs t))] (.tu [.ag (aF (iJ t).1),.sc (.int .i64 (iJ t).2)]):=by
 rcases WJ t with ⟨a,b,rfl,hn⟩|hn
 rotate_left
 ·have hC:=agn 47 t hn au
  rw [aen hn]
  refine kJ.intro o7 Tryz.func159 rfl Tryz.ntmps159 (bU rfl) (gG rfl) fun w0 F0 hB=>?_;dsimp only [St.init,number,Nat.reduceAdd]
  refine oQ ?_
  refine WL.vl rfl (WV.eH hB rfl (ak Tryz.func218 rfl rfl) rfl rfl hC) ?_
  refine oQ ?_
  exact kC
 have hl:a.length+b.length+1≤500000:=by simp at ht;omega
 have hC:=agm 47 a b hn au
 have hN:=aob a au
 have hP:=adA b au
 have hpl:=VA b
 have hD:=KE (jK b).1 au
 have hcase:=Vz a
 have hS:=Fq (iW a).1.1 (iW a).1.2.1 (iW a).1.2.2
 have hR:=aem (b:=b) hn
 obtain ⟨⟨⟨n1,n2,n3⟩,ne⟩,hnm⟩:∃ z,iW a=z:=⟨_,rfl⟩
 obtain ⟨⟨pt,po⟩,hpp⟩:∃ z,jK b=z:=⟨_,rfl⟩
 rw [hnm] at hN hcase hS hR
 rw [hpp] at hP hD hR
 unfold eNm at hN
 dsimp only at hN hcase hS hR hP hD
 rw [hR]
 clear hR hnm hpp hpl ht
 cases hnum:dV pt with
 | none =>
  rw [hnum] at hD
  rcases hcase with rfl|rfl|⟨rfl,hk⟩
  ·exact alp
  ·exact aaP
  ·exact aaP
 | some v =>
  rw [hnum] at hD
  rcases hcase with rfl|rfl|⟨rfl,hk⟩
  ·exact alp
  ·exact aaP
  ·rw [(qW hk).1,(qW hk).2] at hS
   refine kJ.intro o7 Tryz.func159 rfl Tryz.ntmps159 (bU rfl) (gG rfl) fun w0 F0 hB=>?_;dsimp only [St.init,number,Nat.reduceAdd]
   refine oQ ?_
   refine WL.vl rfl (WV.eH hB rfl (ak Tryz.func218 rfl rfl) rfl rfl hC) ?_
   refine oQ ?_
   refine WL.vl rfl (WV.eH hB rfl (ak Tryz.func219 rfl rfl) rfl rfl hN) ?_
   refine oQ ?_
   refine WL.vl rfl (bZ Tryz.func220 hP) ?_
   refine oQ ?_
   refine WL.vl rfl (bZ Tryz.func160 hD) ?_
   refine oQ ?_
   refine WL.vl rfl (WV.eH hB rfl (ak Tryz.func173 rfl rfl) rfl rfl hS) ?_
   refine oQ ?_
   exact kC
theorem GL:∀ {L a b:List (List UInt8)},lZ L=some (a,b)→L=a++[58]::b∧∀ w∈a,w≠[58]
 | [],_,_,h=>by cases h
 | w::r,a,b,h=>by
  unfold lZ at h
  by_cases e:w=[58]
  ·rw [if_pos e]at h
   cases h
   exact⟨by rw [e];rfl,fun x hx=>by cases hx⟩
  ·rw [if_neg e]at h
   obtain⟨⟨a',b'⟩,h1,h2⟩:=Option.map_eq_some_iff.1 h
   cases h2
   obtain⟨h3,h4⟩:=GL h1
   refine⟨by rw [h3];rfl,fun x hx=>?_⟩
   rcases List.mem_cons.1 hx with rfl|k
   ·exact e
   ·exact h4 x k
theorem GK:∀ {L:List (List UInt8)},lZ L=none→∀ w∈L,w≠[58]
 | [],_,_,h=>by cases h
 | w::r,h,x,hx=>by
  unfold lZ at h
  by_cases e:w=[58]
  ·rw [if_pos e]at h;cases h
  ·rw [if_neg e]at h
   have h1:lZ r=none:=by
    cases hc:lZ r with
    | none=>rfl
    | some y=>rw [hc]at h;cases h
   rcases List.mem_cons.1 hx with rfl|k
   ·exact e
   ·exact GK h1 x k
theorem Ph:∀ {a:List (List UInt8)} {k:Nat} (hk:k<a.length),(∀ j (hj:j<a.length),j<k→(iJ a[j]).2=0)→(iJ a[k]).2≠0→mZ a=(iJ a[k]).2
 | w::r,0,_,_,h=>by unfold mZ;rw [if_pos rP];rfl
 | w::r,k+1,hk,h0,h=>by
  have:=h0 0 (by simp) (by omega)
  simp only [zM]at this
  unfold mZ
  rw [if_neg (by rw [this];decide),Ph (k:=k) zX (fun j hj hjk=>h0 (j+1) Ez (by omega)) rP]
  rfl
theorem Pj:∀ {a:List (List UInt8)},(∀ j (hj:j<a.length),(iJ a[j]).2=0)→mZ a=0
 | [],_=>rfl
 | w::r,h=>by
  have:=h 0 (by simp)
  simp only [zM]at this
  unfold mZ
  rw [if_neg (by rw [this];decide)]
  exact Pj fun j hj=>h (j+1) Ez
theorem Pv:∀ {a:List (List UInt8)} {k:Nat} (hk:k<a.length),dV a[k]=none→qV a=4
 | w::r,0,_,h=>by
  unfold qV
  have h:dV w=none:=h
  rw [h];rfl
 | w::r,k+1,hk,h=>by
  unfold qV
  rw [Pv (k:=k) zX rP]
  split<;>rfl
theorem Px:∀ {a:List (List UInt8)},(∀ j (hj:j<a.length),(dV a[j]).isSome=true)→qV a=0
 | [],_=>rfl
 | w::r,h=>by
  have h1:=h 0 (by simp)
  simp only [zM]at h1
  unfold qV
  rw [if_pos h1]
  exact Px fun j hj=>h (j+1) Ez
def yh (a:List (List UInt8)):List Crs:=a.map fun w=>(iJ w).1
def yt (b:List (List UInt8)):List Int:=b.map fun w=>(((dV w).getD 0:Nat):Int)
section
variable {t:List UInt8} {a b:List (List UInt8)}
theorem aer (h:lZ (dw 32 t)=none):aG t=(([],[]),4):=by unfold aG l7;rw [h];rfl
theorem ahF (h:lZ (dw 32 t)=some (a,b))(e:mZ a≠0):aG t=(([],[]),mZ a):=by
 have:l7 t=(([],[]),mZ a):=by unfold l7;rw [h];dsimp only;rw [if_pos e]
 unfold aG;rw [this];dsimp only;rw [if_pos e]
theorem ahG (h:lZ (dw 32 t)=some (a,b))(e:mZ a=0)(e2:qV b=4):aG t=(([],[]),4):=by
 have:l7 t=(([],[]),4):=by unfold l7;rw [h];dsimp only;rw [if_neg Qz,e2];rfl
 unfold aG;rw [this];rfl
theorem ahH (h:lZ (dw 32 t)=some (a,b)) (e:mZ a=0) (e2:qV b=0):aG t=if fU (yh a) (yt b)≠0 then (([],[]),fU (yh a) (yt b))else ((yh a,yt b),0):=by
 have:l7 t=((yh a,yt b),0):=by unfold l7;rw [h];dsimp only;rw [if_neg Qz,if_neg (by rw [e2];decide)];rfl
 unfold aG;rw [this];rfl
end
theorem aif (t:List UInt8) (ht:t.length≤400000):kJ qG Tryz.prog 91 [.sc (.string (bs t))] (.tu [.ag (mX (aG t).1.1 (aG t).1.2),.sc (.int .i64 (aG t).2)]):=by
 have hW:=LJ 32 t au
 have hwb:=xR 32 t
 have hwl:(dw 32 t).length≤500000:=by
  exact akC
 cases Ri:lZ (dw 32 t) with
 | none =>
  have hI:=YM (dw 32 t) [58] (GK Ri) au
  rw [aer Ri]
  refine kJ.intro o7 Tryz.func91 rfl Tryz.ntmps91 (bU rfl) (gG rfl) fun w0 F0 hB=>?_;dsimp only [St.init,number,Nat.reduceAdd]
  refine pq ?_
  refine WL.vl rfl (WV.eH hB rfl (ak Tryz.func38 rfl rfl) rfl rfl hW) ?_
  refine pq ?_
  refine WL.vl rfl (bZ Tryz.func158 hI) ?_
  exact Ua
 | some ab =>
 obtain ⟨a,b⟩:=ab
 obtain ⟨hL,hno⟩:=GL Ri
 have hI:=YL a b [58] hno (by rw [hL] at hwl;simp at hwl;omega)
 have hal:a.length+b.length+1≤500000:=by rw [hL] at hwl;simp at hwl;omega
 have hba:∀ w∈a,w.length≤400000:=fun w hw=>by
  have:=hwb w (by rw [hL];simp [hw]);omega
 have hbb:∀ w∈b,w.length≤400000:=fun w hw=>by
  have:=hwb w (by rw [hL];simp [hw]);omega
 rw [hL] at hW
 obtain ⟨L,U0⟩:∃ z,(a++[58]::b).map iV=z:=⟨_,rfl⟩
 have hLl:L.length=a.length+b.length+1:=by rw [← U0];simp;omega
 have hp1:prt L 0 a.length=a.map iV:=by
  unfold prt
  rw [← U0];simp
 have hp2:prt L ((a.length:Int)+1) L.length=b.map iV:=by
  unfold prt
  rw [← U0,show ((a.length:Int)+1).toNat=a.length+1 by omega,fO,jH,fC,show a.length+1=(a.map iV).length+1 by rw [aH],List.drop_append]
  simp
 rw [U0] at hW hI
 have hml:(a.map iV).length=a.length:=aH _
 have aBh:(b.map iV).length=b.length:=aH _
 refine kJ.intro o7 Tryz.func91 rfl Tryz.ntmps91 (bU rfl) (gG rfl) fun w0 F0 hB=>?_;dsimp only [St.init,number,Nat.reduceAdd]
 refine pq ?_
 refine WL.vl rfl (WV.eH hB rfl (ak Tryz.func38 rfl rfl) rfl rfl hW) ?_
 refine pq ?_
 refine WL.vl rfl (bZ Tryz.func158 hI) ?_
 refine pq ?_
 refine WL.KJ rfl rfl ⟨by omega,by omega,by omega⟩ hp1 ?_
 refine pq ?_
 refine W.tr (Tr.og 117 3 (k:=1) (j:=0) rfl rfl rfl rfl) ?_
 refine W.tr (Tr.og 3 1 (k:=1) (j:=1) rfl rfl rfl rfl) ?_
 dsimp only [St.upd,St.new,St.put,Nat.reduceAdd]
 refine W.loop (fun k:Nat=>k≤a.length∧∀ j (hj:j < a.length),j < k→(iJ a[j]).2=0) (fun k=>⟨[(2,.pt 0 0 0),(4,.ls 1 L),(5,.sc (.int .i64 (a.length:Int))),(6,.pt 1 0 0),(25,.ls 1 (a.map iV)),(26,.sc (.int .i64 (a.length:Int))),(27,.sc (.int .i64 (k:Int)))],
  [(0,.box 27 [.sc (.slice none 0 0),.sc (.slice none 0 0)]),(1,.box 27 [.sl 2,.sl 3]),(2,.row 117 3 ((yh (a.take k)).map aF)),(3,.row 3 1 [])],4⟩) (fun k=>a.length - k) 0 ⟨by omega,fun j hj h=>absurd h au⟩ (zqt id) fun k hk=>?_
 obtain ⟨hk,hall⟩:=hk
 by_cases hlt:k < a.length
 ·have hCo:=aeS a[k] (by have:=hba a[k] (dS hlt);omega)
  have hbad:=Ph hlt hall
  have hnx:(iJ a[k]).2=0→∀ j (hj:j < a.length),j < k+1→(iJ a[j]).2=0:=fun h j hj hjk=>by
   exact adf
  have hrow:(yh (a.take (k+1))).map aF=(yh (a.take k)).map aF++[aF (iJ a[k]).1]:=by
   unfold yh
   exact QH
  obtain ⟨R,hR⟩:∃ z,(yh (a.take k)).map aF=z:=⟨_,rfl⟩
  have hRl:R.length≤500000:=by rw [← hR];unfold yh;rw [aH,aH,fP];omega
  obtain ⟨⟨⟨c1,c2,c3⟩,e⟩,hce⟩:∃ z,iJ a[k]=z:=⟨_,rfl⟩
  rw [hce] at hCo hbad hnx hrow
  rw [hR] at hrow ⊢
  unfold aF at hCo
  dsimp only at hCo hbad hnx
  clear hall
  by_cases he:e=0
  rotate_left
  ·rw [ahF Ri (by rw [hbad he];exact he),hbad he]
   refine pq ?_
   refine WL.vl rfl (WV.eH hB rfl (ak Tryz.func159 rfl rfl) rfl rfl hCo) ?_
   exact Ua
  ·subst he
   refine pq ?_
   refine WL.vl rfl (WV.eH hB rfl (ak Tryz.func159 rfl rfl) rfl rfl hCo) ?_
   refine pq ?_
   refine ⟨k+1,⟨by omega,hnx rfl⟩,by omega,?_⟩
   rw [hrow]
   exact (kL (fun q=>bif Nat.beq q 2 then 6 else q) qc rfl)
 obtain rfl:k=a.length:=by omega
 have herr:=Pj fun j hj=>hall j hj hj
 rw [jH]
 clear hall hk hlt
 refine pq ?_
 refine WL.KJ rfl rfl ⟨by omega,by omega,by omega⟩ hp2 ?_
 refine pq ?_
 have hcl:(yh a).length=a.length:=aH _
 obtain ⟨CS,hCS⟩:∃ z,yh a=z:=⟨_,rfl⟩
 rw [hCS] at hcl ⊢
 refine W.loop (fun k:Nat=>k≤b.length∧∀ j (hj:j < b.length),j < k→(dV b[j]).isSome=true) (fun k=>⟨[(2,.pt 0 0 0),(6,.pt 1 0 0),(50,.ls 1 (b.map iV)),(51,.sc (.int .i64 (b.length:Int))),(52,.sc (.int .i64 (k:Int)))],
  [(0,.box 27 [.sc (.slice none 0 0),.sc (.slice none 0 0)]),(1,.box 27 [.sl 2,.sl 3]),(2,.row 117 3 (CS.map aF)),(3,.row 3 1 ((yt (b.take k)).map eInt))],4⟩) (fun k=>b.length - k) 0 ⟨by omega,fun j hj h=>absurd h au⟩ (zqt id) fun k hk=>?_
 obtain ⟨hk,hall⟩:=hk
 by_cases hlt:k < b.length
 ·have hCo:=KE b[k] (by have:=hbb b[k] (dS hlt);omega)
  have hbad:=Pv hlt
  have hnx:(dV b[k]).isSome=true→∀ j (hj:j < b.length),j < k+1→(dV b[j]).isSome=true:=fun h j hj hjk=>by
   exact adf
  have hrow:(yt (b.take (k+1))).map eInt=(yt (b.take k)).map eInt++[eInt (((dV b[k]).getD 0:Nat):Int)]:=by
   unfold yt
   exact QH
  obtain ⟨R,hR⟩:∃ z,(yt (b.take k)).map eInt=z:=⟨_,rfl⟩
  have hRl:R.length≤500000:=by rw [← hR];unfold yt;rw [aH,aH,fP];omega
  rw [hR] at hrow ⊢
  clear hall
  cases he:dV b[k] with
  | none =>
   rw [ahG Ri herr (hbad he)]
   rw [he] at hCo
   refine pq ?_
   refine WL.vl rfl (bZ Tryz.func160 hCo) ?_
   exact Ua
  | some v =>
   rw [he] at hCo hrow hnx
   have hrow:(yt (b.take (k+1))).map eInt=R++[eInt (v:Int)]:=hrow
   have hCo:aU Tryz.prog 160 [.sc (.string (bs b[k]))] (.tu [.sc (.int .i64 (v:Int)),.sc (.bool true)]):=hCo
   refine pq ?_
   refine WL.vl rfl (bZ Tryz.func160 hCo) ?_
   refine pq ?_
   refine ⟨k+1,⟨by omega,hnx rfl⟩,by omega,?_⟩
   rw [hrow]
   exact (kL (fun q=>bif Nat.beq q 3 then 5 else q) qc rfl)
 obtain rfl:k=b.length:=by omega
 have hstp:=Px fun j hj=>hall j hj hj
 rw [jH]
 clear hall hk hlt
 have asn:=ahH Ri herr hstp
 rw [hCS] at asn
 obtain ⟨ST,hST⟩:∃ z,yt b=z:=⟨_,rfl⟩
 rw [hST] at asn ⊢
 have hC:=D5 CS ST
 unfold mX at hC
 rw [asn]
 refine W.tr (Tr.freeze 2 rfl) ?_
 refine W.tr (Tr.freeze 3 rfl) ?_
 by_cases he:fU CS ST=0
 ·rw [he] at hC
  rw [he,if_neg (by decide)]
  refine pq ?_
  refine WL.vl rfl (bZ Tryz.func103 hC) ?_
  refine pq ?_
  exact kC
 ·rw [if_pos he]
  obtain ⟨E,hE⟩:∃ z,fU CS ST=z:=⟨_,rfl⟩
  rw [hE] at hC he ⊢
  refine pq ?_
  refine WL.vl rfl (bZ Tryz.func103 hC) ?_
  exact Ua
end
section
open Go.RowKit
attribute [local go_sem]wC bY gW gV dU
def nm1:List UInt8:=[102,114,101,110,99,104]
def nm2:List UInt8:=[105,116,97,108,105,97,110]
def nm3:List UInt8:=[115,112,97,110,105,115,104]
def nm4:List UInt8:=[103,101,114,109,97,110]
def psV(l:List UInt8):Value :=
 if(nm1 == l)=true then .tuple #[.int .u8 1,.int .i64 0]else if(nm2 == l)=true then .tuple #[.int .u8 2,.int .i64 0]
 else if(nm3 == l)=true then .tuple #[.int .u8 3,.int .i64 0]else if(nm4 == l)=true then .tuple #[.int .u8 4,.int .i64 0]else .tuple #[.int .u8 0,.int .i64 4]
theorem Fv (l:List UInt8)(w:World):Calls Tryz.prog 90 #[.string (bs l)] w (eG (psV l) w):=by
 unfold psV nm1 nm2 nm3 nm4
 by_cases h1:(([102,114,101,110,99,104]:List UInt8) == l)=true
 ·rw [if_pos h1]
  exact Nv
 ·rw [if_neg h1]
  have g1:(([102,114,101,110,99,104]:List UInt8) == l)=false:=by simpa using h1
  clear h1
  by_cases h2:(([105,116,97,108,105,97,110]:List UInt8) == l)=true
  ·rw [if_pos h2]
   exact Nv
  ·rw [if_neg h2]
   have g2:(([105,116,97,108,105,97,110]:List UInt8) == l)=false:=by simpa using h2
   clear h2
   by_cases h3:(([115,112,97,110,105,115,104]:List UInt8) == l)=true
   ·rw [if_pos h3]
    exact Nv
   ·rw [if_neg h3]
    have g3:(([115,112,97,110,105,115,104]:List UInt8) == l)=false:=by simpa using h3
    clear h3
    by_cases h4:(([103,101,114,109,97,110]:List UInt8) == l)=true
    ·rw [if_pos h4]
     exact Nv
    ·rw [if_neg h4]
     have g4:(([103,101,114,109,97,110]:List UInt8) == l)=false:=by simpa using h4
     clear h4
     exact Nv
end
section
open Go.RowKit
def sV(l:List UInt8):Int×Int:=if(nm1 == l)=true then(1,0)else if(nm2 == l)=true then(2,0)else if(nm3 == l)=true then(3,0)else if(nm4 == l)=true then(4,0)else(0,4)
theorem an1 (l:List UInt8):psV l=.tuple #[.int .u8 (sV l).1,.int .i64 (sV l).2]:=by
 unfold psV sV
 exact alf
theorem VD(l:List UInt8):((sV l).2=4∧(sV l).1=0)∨((sV l).2=0∧1≤(sV l).1∧(sV l).1≤4):=by
 unfold sV
 split
 ·exact TS
 ·split
  ·exact TS
  ·split
   ·exact TS
   ·split
    ·exact TS
    ·exact NG
def JZ:List UInt8:=[116,97,98,108,97,116,117,114,101,32]
theorem GU {p l:List UInt8}:eX p l=decide (l.take p.length=p):=by
 unfold eX
 by_cases h:l.take p.length=p
 ·rw [dG h,List.isPrefixOf_iff_prefix]
  rw [← h];exact List.take_prefix _ _
 ·rw [cZ h]
  cases hb:p.isPrefixOf l with
  | false=>rfl
  | true =>
   obtain⟨u,rfl⟩:=List.isPrefixOf_iff_prefix.1 hb
   exact absurd S9 h
theorem aeC {l:List UInt8} (h:eX JZ l=false):lX l=none:=by
 rw [GU]at h
 exact if_neg (show ¬ l.take 10=[116,97,98,108,97,116,117,114,101,32]from Ew h)
theorem aeA {l:List UInt8} (h:eX JZ l=true):lX l=if (sV (l.drop 10)).2=0 then some (sV (l.drop 10)).1 else none:=by
 rw [GU]at h
 unfold lX
 rw [if_pos (show l.take 10=[116,97,98,108,97,116,117,114,101,32]from iY h)]
 obtain⟨d,hd⟩:∃ z,l.drop 10=z:=⟨_,rfl⟩
 rw [hd]
 unfold sV nm1 nm2 nm3 nm4
 simp only [qH]
 exact alf
theorem aci (l:List UInt8):aU Tryz.prog 90 [.sc (.string (bs l))] (.tu [.sc (.int .u8 (sV l).1),.sc (.int .i64 (sV l).2)]) :=
 aU.DY (v:=psV l) rfl (fun F=>by rw [an1];exact Lc rfl) fun w=>Fv l w
def zh (L:List (List UInt8)) (cl:Bool):UR :=
 if lq L cl 0=false then .er (eP 1 4) else
 match lX (L.getD 0 []) with
 | none=>.er (eP 1 4)
 | some s =>
  if lq L cl 1=false then .er (eP 2 4) else
  if (aG (L.getD 1 [])).2≠0 then .er (eP 2 (aG (L.getD 1 [])).2) else
  .ok (.tu []) [(0,iC (.int .u8 s) (bG s) ((aG (L.getD 1 [])).1.1.map aF) ((aG (L.getD 1 [])).1.2.map eInt) 2 (L.map iV) cl)] 4
theorem asD (L:List (List UInt8)) (cl:Bool) (hl:L.length≤400000) (hw:∀ w∈L,w.length≤400000) :
  Ou qG BR Tryz.prog 39 [.pt 0 0 0] [(0,iC (.int .u8 0) .nilIface [] [] 0 (L.map iV) cl)] 3 (zh L cl):=by
 have hn0:=YU (.int .u8 0) .nilIface [] [] L cl 0 au au
 have hwd:∀ k,(L.getD k []).length≤400000:=fun k=>by
  rw [oP]
  by_cases h:k < L.length
  ·rw [aI h];exact hw _ (dS h)
  ·rw [aat (by omega)];simp
 have hcp:=adz (L.getD 0 []) JZ (by have:=hwd 0;omega)
 refine Ou.intro o7 Tryz.func39 rfl Tryz.ntmps39 (bU rfl) rfl fun w0 F0 fp pg hB=>?_
 unfold zh
 refine gB ?_
 cases hx:lq L cl 0 with
 | false =>
  rw [if_pos rfl]
  have hc:=hn0.er_ (by rw [hx];rfl)
  unfold iC
  refine lI ?_
  refine WL.ctp (dL _) [0,1,2] rfl rfl (ak Tryz.func42 rfl rfl) hc rfl rfl rfl ⟨⟨rfl,rfl,rfl⟩,trivial⟩ ?_
  rfl
 | true =>
 rw [if_neg (by decide)]
 have hc:=hn0.ok_ (by rw [hx];rfl)
 rw [show ((0:Nat):Int)+1=1 from rfl,show ((0:Nat):Int)=0 from rfl] at hc
 obtain ⟨l0,hl0⟩:∃ z,L.getD 0 []=z:=⟨_,rfl⟩
 rw [hl0] at hc hcp ⊢
 cases hp:eX JZ l0 with
 | false =>
  have hps:=aci l0
  rw [aeC hp]
  rw [hp] at hcp
  exact als
 | true =>
 rw [hp,if_pos rfl] at hcp
 obtain ⟨nm,hnm⟩:∃ z,l0.drop 10=z:=⟨_,rfl⟩
 have hcp:aU Tryz.prog 89 [.sc (.string (bs l0)),.sc (.string (bs JZ))] (.tu [.sc (.string (bs nm)),.sc (.bool true)]):=by rw [← hnm];exact hcp
 rw [aeA hp,hnm]
 have hps:=aci nm
 rcases VD nm with ⟨e1,e2⟩|⟨e1,e2,e3⟩
 ·rw [e1,e2] at hps
  rw [e1,if_neg (by decide)]
  dsimp only
  exact als
 rw [e1] at hps
 rw [if_pos e1]
 obtain ⟨s,hs⟩:∃ z,(sV nm).1=z:=⟨_,rfl⟩
 rw [hs] at hps e2 e3 ⊢
 dsimp only
 have hof:=G9 s
 rw [dG ⟨e2,e3⟩] at hof
 have hcB:(AV.sc (bG s)).mD=true:=by rcases bQ ⟨e2,e3⟩ with rfl|rfl|rfl|rfl<;>rfl
 have hcl:(AV.sc (bG s)).cells=[AV.sc (bG s)]:=by rcases bQ ⟨e2,e3⟩ with rfl|rfl|rfl|rfl<;>rfl
 have h1B:[AV.sc (bG s)].all AV.yN=true:=by rcases bQ ⟨e2,e3⟩ with rfl|rfl|rfl|rfl<;>rfl
 have hn1:=YU (.int .u8 s) (bG s) [] [] L cl 1 au (by
  unfold lq at hx
  simp only [aW,gu] at hx
  omega)
 cases hx1:lq L cl 1 with
 | false =>
  rw [if_pos rfl]
  have hc1:=hn1.er_ (by rw [hx1];rfl)
  rw [show ((1:Nat):Int)+1=2 from rfl,show ((1:Nat):Int)=1 from rfl] at hc1
  unfold iC
  refine lI ?_
  refine WL.qo (dL _) [0,1,2] rfl rfl (ak Tryz.func42 rfl rfl) hc rfl rfl rfl ⟨⟨rfl,rfl,rfl⟩,trivial⟩ rfl rfl rfl rfl ?_
  refine lI ?_
  refine WL.vl rfl (bZ Tryz.func89 hcp) ?_
  refine lI ?_
  refine WL.vl rfl (bZ Tryz.func90 hps) ?_
  refine lI ?_
  refine WL.vl rfl (bZ Tryz.func50 hof) ?_
  refine ajL ?_
  refine WL.ctp (dL _) [0,1,2] rfl rfl (ak Tryz.func42 rfl rfl) hc1 rfl rfl rfl ⟨⟨rfl,rfl,rfl⟩,trivial⟩ ?_
  rfl
 | true =>
 rw [if_neg (by decide)]
 have hc1:=hn1.ok_ (by rw [hx1];rfl)
 rw [show ((1:Nat):Int)+1=2 from rfl,show ((1:Nat):Int)=1 from rfl] at hc1
 have hP:=aif (L.getD 1 []) (hwd 1)
 obtain ⟨l1,hl1⟩:∃ z,L.getD 1 []=z:=⟨_,rfl⟩
 rw [hl1] at hc1 hP ⊢
 obtain ⟨⟨⟨cs,st⟩,e⟩,hins⟩:∃ z,aG l1=z:=⟨_,rfl⟩
 rw [hins] at hP ⊢
 unfold mX at hP
 dsimp only at hP ⊢
 by_cases he:e=0
 ·subst he
  rw [if_neg (by decide)]
  unfold iC
  refine lI ?_
  refine WL.qo (dL _) [0,1,2] rfl rfl (ak Tryz.func42 rfl rfl) hc rfl rfl rfl ⟨⟨rfl,rfl,rfl⟩,trivial⟩ rfl rfl rfl rfl ?_
  refine lI ?_
  refine WL.vl rfl (bZ Tryz.func89 hcp) ?_
  refine lI ?_
  refine WL.vl rfl (bZ Tryz.func90 hps) ?_
  refine lI ?_
  refine WL.vl rfl (bZ Tryz.func50 hof) ?_
  refine ajL ?_
  refine WL.qo (dL _) [0,1,2] rfl rfl (ak Tryz.func42 rfl rfl) hc1 rfl rfl rfl ⟨⟨rfl,rfl,rfl⟩,trivial⟩ rfl rfl rfl rfl ?_
  refine lI ?_
  refine WL.vl rfl (WV.eH hB rfl (ak Tryz.func91 rfl rfl) rfl rfl hP) ?_
  refine lI ?_
  exact sK.sub (sQ rfl rfl rfl rfl rfl) ⟨rfl,trivial⟩
 ·rw [if_pos he]
  unfold iC
  refine lI ?_
  refine WL.qo (dL _) [0,1,2] rfl rfl (ak Tryz.func42 rfl rfl) hc rfl rfl rfl ⟨⟨rfl,rfl,rfl⟩,trivial⟩ rfl rfl rfl rfl ?_
  refine lI ?_
  refine WL.vl rfl (bZ Tryz.func89 hcp) ?_
  refine lI ?_
  refine WL.vl rfl (bZ Tryz.func90 hps) ?_
  refine lI ?_
  refine WL.vl rfl (bZ Tryz.func50 hof) ?_
  refine ajL ?_
  refine WL.qo (dL _) [0,1,2] rfl rfl (ak Tryz.func42 rfl rfl) hc1 rfl rfl rfl ⟨⟨rfl,rfl,rfl⟩,trivial⟩ rfl rfl rfl rfl ?_
  refine lI ?_
  refine WL.vl rfl (WV.eH hB rfl (ak Tryz.func91 rfl rfl) rfl rfl hP) ?_
  refine lI ?_
  exact Nu
end
end Go.Proofs.YthehkchjdkdbiaaGreatDoor
