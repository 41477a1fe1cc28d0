/- The text of an instrument, read by the reference. -/
import Derived.Test.YthehkchjdkdbiaaGreatDoorSrAHq
import Derived.Test.YthehkchjdkdbiaaGreatDoorNrPHq
set_option maxHeartbeats 4000000
set_option maxRecDepth 100000
set_option linter.unusedVariables false
set_option linter.unusedSimpArgs false
namespace Go.Proofs.YthehkchjdkdbiaaGreatDoor
section
open Go.RowKit
theorem WL.meetC {P:Program} {C:Cx} {σ:St} {ops:Array Oper} {l:List Oper} {Q Q1 Q2:Exit→St→Prop} {x y:Code} (σm:St)(h:WL P C ops l σ (QThen (fun s=>W P C x s (QThen (fun s=>Tr C s σm) Q)) Q1))(k:W P C y σm Q2):WL P C ops l σ (QThen (fun s=>W P C x s (QThen (fun s=>W P C y s Q2) Q)) Q1) :=
 WL.mono h (QThen.mono (fun s q=>W.mono q (QThen.mono (fun s q=>W.tr q k) fun _ _ q=>q)) fun _ _ q=>q)
def rfA:List UInt8:=[67,68,69,70,71,65,66]
theorem rf_lt_at {k:Nat} (hk:k<7):ri_lt (rfA.getD k 0)=k:=by
 match k,hk with
 | 0,_=>rfl
 | 1,_=>rfl
 | 2,_=>rfl
 | 3,_=>rfl
 | 4,_=>rfl
 | 5,_=>rfl
 | 6,_=>rfl
theorem rf_lt_all:((List.range 256).all fun k=>decide (ri_lt (UInt8.ofNat k)<7→rfA.getD (ri_lt (UInt8.ofNat k)) 0=UInt8.ofNat k))=true:=by decide +kernel
theorem rf_lt_get {b:UInt8} (h:ri_lt b<7):rfA.getD (ri_lt b) 0=b:=by
 have h2:=of_decide_eq_true (List.all_eq_true.1 rf_lt_all b.toNat (List.mem_range.2 b.toNat_lt))
 rw [UInt8.ofNat_toNat] at h2
 exact h2 h
theorem rLetter_FS (c:UInt8):Ctr Tryz.prog 224 [.sc (.int .u8 (c.toNat:Int))] (.sc (.int .i64 (if ri_lt c < 7 then (ri_lt c:Int) else -1))):=by
 refine zqe Tryz.func224 Tryz.ntmps224 fun w0 F0=>?_;dsimp only [St.init,number,Nat.reduceAdd]
 refine zqg40 ?_
 refine W.loop (fun k:Nat=>k≤7∧∀ j,j < k→rfA.getD j 0≠c) (fun k=>⟨[(0,.sc (.int .u8 (c.toNat:Int))),(3,.sc (.int .i64 (k:Int)))],[],0⟩) (fun k=>7 - k) 0 ⟨by omega,fun j h=>absurd h zqo⟩ (zqt id) fun k hk=>?_
 obtain ⟨hk,hall⟩:=hk
 by_cases hlt:k < 7
 ·have ez:((([67,68,69,70,71,65,66]:List UInt8).getD (Int.toNat (k:Int)) 0).toNat:Int)=((rfA.getD k 0).toNat:Int):=by rw [Int.toNat_natCast];rfl
  have hat:=rf_lt_at hlt
  by_cases e:rfA.getD k 0=c
  ·rw [e] at ez hat
   rw [hat,if_pos hlt]
   refine zqg40 ?_
   refine WL.six rfl rfl ⟨by omega,by simp;omega⟩ ?_
   rw [ez]
   refine zqg40 ?_
   exact W.ret zqr
  ·have ne:((rfA.getD k 0).toNat:Int)≠(c.toNat:Int):=fun h=>e (UInt8.toNat_inj.1 zqo)
   refine zqg40 ?_
   refine WL.six rfl rfl ⟨by omega,by simp;omega⟩ ?_
   rw [ez]
   refine zqg40 ?_
   refine ⟨k+1,⟨by omega,fun j hj=>?_⟩,by omega,?_⟩
   ·by_cases e2:j=k
    ·subst e2;exact e
    ·exact hall j zqo
   ·exact (zqt id)
 ·have hno:¬ ri_lt c < 7:=fun h=>hall _ zqo (rf_lt_get h)
  rw [if_neg hno]
  refine zqg40 ?_
  exact W.ret zqr
theorem rf_nm_one {c:UInt8}:ri_nm [c]=((0,0,0),4):=by
 unfold ri_nm
 dsimp only
 split
 ·rfl
 ·have:ri_oct (ri_alt []).2=none:=by unfold ri_alt ri_oct;simp
  rw [this]
theorem rName_FS (t:List UInt8) (ht:t.length≤1000000):Ctr Tryz.prog 166 [.sc (.string (bs t))] (.tu [eNm (ri_nm t).1,.sc (.int .i64 (ri_nm t).2)]):=by
 match t,ht with
 | [],_ =>
  refine zqe Tryz.func166 Tryz.ntmps166 fun w0 F0=>?_;dsimp only [St.init,number,Nat.reduceAdd]
  refine zqg41 ?_
  exact W.ret (finN rfl rfl rfl rfl)
 | [c],_ =>
  rw [rf_nm_one]
  have hl:([c]:List UInt8).length=1:=rfl
  refine zqe Tryz.func166 Tryz.ntmps166 fun w0 F0=>?_;dsimp only [St.init,number,Nat.reduceAdd]
  refine zqg41 ?_
  exact W.ret (finN rfl rfl rfl rfl)
 | c::d::r',ht =>
  obtain ⟨r,hr⟩:∃ z,d::r'=z:=⟨_,rfl⟩
  have hr1:1≤r.length:=by rw [← hr];simp
  have hlen:(c::d::r').length=r.length+1:=by rw [← hr];rfl
  have ez:(((c::d::r').getD (Int.toNat 0) 0).toNat:Int)=(c.toNat:Int):=rfl
  rw [hr] at ht hlen ez ⊢
  have hrl:r.length≤1000000:=by simp at ht;omega
  have hI:=rLetter_FS c
  have hlr:((c::r).length:Int)=(r.length:Int)+1:=by rw [hlen];omega
  have hcb:0≤(1:Int)∧(1:Int)≤(((c::r).length:Nat):Int)∧(((c::r).length:Nat):Int)≤(((c::r).length:Nat):Int):=by omega
  have hc1:cut (c::r) 1 (((c::r).length:Nat):Int)=r:=by
   unfold cut
   rw [Int.toNat_natCast]
   simp
  by_cases hl:ri_lt c < 7
  rotate_left
  ·have e:ri_nm (c::r)=((0,0,0),4):=by unfold ri_nm;dsimp only;rw [if_pos (by omega)]
   rw [e]
   rw [if_neg hl] at hI
   refine zqe Tryz.func166 Tryz.ntmps166 fun w0 F0=>?_;dsimp only [St.init,number,Nat.reduceAdd]
   refine zqg41 ?_
   refine WL.six rfl rfl ⟨by omega,by omega⟩ ?_
   rw [ez]
   refine zqg41 ?_
   refine WL.vl rfl (zqc Tryz.func224 hI) ?_
   refine zqg41 ?_
   exact W.ret (finN rfl rfl rfl rfl)
  rw [if_pos hl] at hI
  obtain ⟨hno,hsome⟩:=nr_nm_oct (c:=c) (r:=r) hl
  have hl0:0≤(ri_lt c:Int):=Int.natCast_nonneg _
  obtain ⟨L,hL⟩:∃ z,(ri_lt c:Int)=z:=⟨_,rfl⟩
  rw [hL] at hI hl0 hsome
  obtain ⟨al,q,hq⟩:∃ al q,ri_alt r=(al,q):=⟨_,_,rfl⟩
  have hql:q.length≤1000000:=by
   have:=ri_alt_len r
   rw [hq] at this
   exact Nat.le_trans this hrl
  have hac:=nr_alt_cases r
  rw [hq] at hno hsome hac
  dsimp only at hno hsome hac
  have ez2:((r.getD (Int.toNat 0) 0).toNat:Int)=(d.toNat:Int):=by rw [← hr];rfl
  have hcd:∀ q',r=d::q'→0≤(1:Int)∧(1:Int)≤((r.length:Nat):Int)∧((r.length:Nat):Int)≤((r.length:Nat):Int):=fun q' h=>by omega
  have hc2:cut r 1 ((r.length:Nat):Int)=r':=by
   rw [← hr]
   unfold cut
   rw [Int.toNat_natCast]
   simp
  refine zqe Tryz.func166 Tryz.ntmps166 fun w0 F0=>?_;dsimp only [St.init,number,Nat.reduceAdd]
  refine zqg41 ?_
  refine WL.six rfl rfl ⟨by omega,by omega⟩ ?_
  rw [ez]
  refine zqg41 ?_
  refine WL.vl rfl (zqc Tryz.func224 hI) ?_
  refine zqg41 ?_
  refine WL.six rfl rfl ⟨by omega,by omega⟩ ?_
  rw [ez]
  refine zqg41 ?_
  refine WL.vl rfl (zqc Tryz.func224 hI) ?_
  refine zqg41 ?_
  refine WL.cut rfl rfl hcb ?_
  rw [hc1]
  refine zqg41 ?_
  refine WL.meetC ⟨[(2,.pt 0 0 0),(4,.pt 1 0 0),(5,.sc (.string (bs q)))],[(1,.box 253 [.sc (.int .i64 L),.sc (.int .i64 al),.sc (.int .i64 0)]),(0,.box 253 [.sc (.int .i64 0),.sc (.int .i64 0),.sc (.int .i64 0)])],2⟩ ?_ ?_
  ·rcases hac with ⟨q',e0,e⟩|⟨q',e0,e⟩|⟨e1,e2,e⟩
   ·obtain ⟨rfl,rfl⟩:=Prod.mk.inj e
    rw [e0] at hr
    obtain ⟨rfl,rfl⟩:=List.cons.inj hr
    refine WL.six rfl rfl ⟨by omega,by omega⟩ ?_
    rw [ez2]
    refine zqg41 ?_
    refine WL.cut rfl rfl (hcd _ e0) ?_
    rw [hc2]
    refine zqg41 ?_
    refine (?_:Tr _ _ _)
    exact (zqt id)
   ·obtain ⟨rfl,rfl⟩:=Prod.mk.inj e
    rw [e0] at hr
    obtain ⟨rfl,rfl⟩:=List.cons.inj hr
    refine WL.six rfl rfl ⟨by omega,by omega⟩ ?_
    rw [ez2]
    refine zqg41 ?_
    refine WL.six rfl rfl ⟨by omega,by omega⟩ ?_
    rw [ez2]
    refine zqg41 ?_
    refine WL.cut rfl rfl (hcd _ e0) ?_
    rw [hc2]
    refine zqg41 ?_
    refine (?_:Tr _ _ _)
    exact (zqt id)
   ·obtain ⟨rfl,rfl⟩:=Prod.mk.inj e
    have d1:(d.toNat:Int)≠35:=fun h=>by
     have:d=35:=UInt8.toNat_inj.1 (by show _=35;omega)
     rw [← hr,this] at e1
     unfold nr_pfx at e1;simp [List.isPrefixOf] at e1
    have d2:(d.toNat:Int)≠98:=fun h=>by
     have:d=98:=UInt8.toNat_inj.1 (by show _=98;omega)
     rw [← hr,this] at e2
     unfold nr_pfx at e2;simp [List.isPrefixOf] at e2
    refine WL.six rfl rfl ⟨by omega,by omega⟩ ?_
    rw [ez2]
    refine zqg41 ?_
    refine WL.six rfl rfl ⟨by omega,by omega⟩ ?_
    rw [ez2]
    refine zqg41 ?_
    refine (?_:Tr _ _ _)
    exact (zqt id)
  clear hcd hc2 ez2 hac
  rcases nr_oct_cases q with ⟨rfl,ho⟩|⟨hne,b,rfl,hb1,hb2,ho⟩|⟨hne,ho,hl1⟩
  ·have hS:=rRight_FS L al (-1)
   have hb1:(([45,49]:List UInt8) == [45,49])=true:=rfl
   have hR:=hsome _ ho
   refine zqg41 ?_
   rw [hb1]
   refine zqg41 ?_
   refine WL.vl rfl (zqc Tryz.func225 hS) ?_
   cases hk:sndOk L al (-1) with
   | true =>
    rw [hk,if_pos rfl] at hR
    rw [hR]
    refine zqg41 ?_
    exact W.ret (finN rfl rfl rfl rfl)
   | false =>
    rw [hk,if_neg (by decide)] at hR
    rw [hR]
    refine zqg41 ?_
    exact W.ret (finN rfl rfl rfl rfl)
  ·have hS:=rRight_FS L al ((b.toNat:Int) - 48)
   have hbf:([b] == ([45,49]:List UInt8))=false:=by simp
   have hR:=hsome _ ho
   have hbl:(([b]:List UInt8).length:Int)=1:=rfl
   have hbz:((([b]:List UInt8).getD (Int.toNat 0) 0).toNat:Int)=(b.toNat:Int):=rfl
   obtain ⟨bn,hbn⟩:∃ z,b.toNat=z:=⟨_,rfl⟩
   rw [hbn] at hb1 hb2 hS hR hbz
   refine zqg41 ?_
   rw [hbf]
   refine zqg41 ?_
   refine WL.six rfl rfl ⟨by omega,by omega⟩ ?_
   rw [hbz]
   refine zqg41 ?_
   refine WL.six rfl rfl ⟨by omega,by omega⟩ ?_
   rw [hbz]
   refine zqg41 ?_
   refine WL.six rfl rfl ⟨by omega,by omega⟩ ?_
   rw [hbz]
   refine zqg41 ?_
   refine WL.sb8 rfl rfl zqo ?_
   refine WL.cvt rfl rfl rfl (I64.wrap (by unfold I64;omega)) ?_
   refine zqg41 ?_
   refine WL.vl rfl (zqc Tryz.func225 hS) ?_
   cases hk:sndOk L al ((bn:Int) - 48) with
   | true =>
    rw [hk,if_pos rfl] at hR
    rw [hR]
    refine zqg41 ?_
    exact W.ret (finN rfl rfl rfl rfl)
   | false =>
    rw [hk,if_neg (by decide)] at hR
    rw [hR]
    refine zqg41 ?_
    exact W.ret (finN rfl rfl rfl rfl)
  ·have hbf:(q == ([45,49]:List UInt8))=false:=by simpa using hne
   rw [hno ho]
   rcases hl1 with hl1|⟨b,rfl,hb⟩
   ·refine zqg41 ?_
    rw [hbf]
    refine zqg41 ?_
    exact W.ret (finN rfl rfl rfl rfl)
   ·have hbl:(([b]:List UInt8).length:Int)=1:=rfl
    have hbz:((([b]:List UInt8).getD (Int.toNat 0) 0).toNat:Int)=(b.toNat:Int):=rfl
    obtain ⟨bn,hbn⟩:∃ z,b.toNat=z:=⟨_,rfl⟩
    rw [hbn] at hb hbz
    rcases hb with hb|hb
    ·refine zqg41 ?_
     rw [hbf]
     refine zqg41 ?_
     refine WL.six rfl rfl ⟨by omega,by omega⟩ ?_
     rw [hbz]
     refine zqg41 ?_
     exact W.ret (finN rfl rfl rfl rfl)
    ·refine zqg41 ?_
     rw [hbf]
     refine zqg41 ?_
     refine WL.six rfl rfl ⟨by omega,by omega⟩ ?_
     rw [hbz]
     refine zqg41 ?_
     refine WL.six rfl rfl ⟨by omega,by omega⟩ ?_
     rw [hbz]
     refine zqg41 ?_
     exact W.ret (finN rfl rfl rfl rfl)
end
section
open Go.RowKit
theorem rf_last {t:List UInt8} (h:0<t.length):t.getLast?=some (t.getD ((t.length:Int)-1).toNat 0):=by
 rw [show ((t.length:Int)-1).toNat=t.length-1 by omega,List.getLast?_eq_getElem?,List.getD_eq_getElem?_getD,List.getElem?_eq_getElem (by omega)];rfl
theorem rf_ne {t:List UInt8} (h:rq_NoB 47 t) {k:Nat} (hk:k<t.length):((t.getD (Int.toNat (k:Int)) 0).toNat:Int)≠47:=by
 rw [Int.toNat_natCast,List.getD_eq_getElem?_getD,List.getElem?_eq_getElem hk]
 intro e
 exact h _ (List.getElem_mem hk) (UInt8.toNat_inj.1 (by show _=47;exact Int.ofNat.inj e))
theorem rf_ne2 {a b:List UInt8} (h:rq_NoB 47 a) {k:Nat} (hk:k<a.length):(((a++47::b).getD (Int.toNat (k:Int)) 0).toNat:Int)≠47:=by
 have:=rf_ne h hk
 rw [Int.toNat_natCast,List.getD_eq_getElem?_getD,List.getElem?_eq_getElem hk] at this
 rw [Int.toNat_natCast,List.getD_eq_getElem?_getD,List.getElem?_append_left hk,List.getElem?_eq_getElem hk]
 exact this
theorem rf_eq2 {a b:List UInt8}:(((a++47::b).getD (Int.toNat (a.length:Int)) 0).toNat:Int)=47:=by
 rw [Int.toNat_natCast,List.getD_eq_getElem?_getD,List.getElem?_append_right (Nat.le_refl _)];simp
theorem rCourse_FS (t:List UInt8) (ht:t.length≤500000):Ctr Tryz.prog 98 [.sc (.string (bs t))] (.tu [.ag (eCrs (ri_crs t).1),.sc (.int .i64 (ri_crs t).2)]):=by
 have hlast:=rf_last (t:=t)
 have hpl:=nr_plus_len t
 obtain ⟨LB,hLB⟩:∃ z,((t.getD ((t.length:Int) - 1).toNat 0).toNat:Int)=z:=⟨_,rfl⟩
 obtain ⟨pt,po,hpp⟩:∃ pt po,ri_plus t=(pt,po):=⟨_,_,rfl⟩
 have hcase:(0 < t.length∧LB=43∧pt=cut t 0 ((t.length:Int) - 1)∧po=true)∨(pt=t∧po=false∧(0 < t.length→LB≠43)):=by
  unfold ri_plus at hpp
  by_cases hg:t.getLast?=some 43
  ·rw [if_pos hg] at hpp
   obtain ⟨rfl,rfl⟩:=Prod.mk.inj hpp
   have h0:0 < t.length:=by cases t with
    | nil=>cases hg
    | cons=>simp
   rw [hlast h0] at hg
   refine .inl ⟨h0,by rw [← hLB,Option.some.inj hg];rfl,?_,rfl⟩
   unfold cut
   rw [show ((t.length:Int) - 1).toNat=t.length - 1 by omega,List.dropLast_eq_take];simp
  ·rw [if_neg hg] at hpp
   obtain ⟨rfl,rfl⟩:=Prod.mk.inj hpp
   refine .inr ⟨rfl,rfl,fun h0 e=>hg ?_⟩
   rw [hlast h0]
   have:t.getD ((t.length:Int) - 1).toNat 0=43:=UInt8.toNat_inj.1 (by show _=43;omega)
   rw [this]
 have hslash:(∃ a b b',t=a++47::b∧rq_NoB 47 a∧pt=a++47::b'∧ri_plus b=(b',po))∨(rq_NoB 47 t∧rq_NoB 47 pt):=by
  rcases ri_slash t with ⟨a,b,e,hn⟩|hn
  ·have:=ri_plus_at a b
   rw [← e,hpp] at this
   obtain ⟨e1,e2⟩:=Prod.mk.inj this
   exact .inl ⟨a,b,(ri_plus b).1,e,hn,e1,by rw [e2]⟩
  ·have:=ri_plus_no hn
   rw [hpp] at this
   exact .inr ⟨hn,this⟩
 rw [hpp] at hpl
 dsimp only at hpl
 have hres:(rq_NoB 47 t→ri_crs t=((0,0,false),4)):=nr_crs_no
 obtain ⟨RR,hRR⟩:∃ z,ri_crs t=z:=⟨_,rfl⟩
 have hat:=fun a b (e:t=a++47::b) (h:rq_NoB 47 a)=>(congrArg ri_crs e).symm.trans (hRR)
 rw [hRR] at hres ⊢
 refine zqe Tryz.func98 Tryz.ntmps98 fun w0 F0=>?_;dsimp only [St.init,number,Nat.reduceAdd]
 refine zqg42 ?_
 refine WL.meetC ⟨[(0,.sc (.string (bs pt))),(2,.pt 0 0 0),(4,.pt 1 0 0)],[(0,.box 117 [.sc (.int .i64 0),.sc (.int .i64 0),.sc (.bool false)]),(1,.box 117 [.sc (.int .i64 0),.sc (.int .i64 0),.sc (.bool po)])],2⟩ ?_ ?_
 ·rcases hcase with ⟨h0,h1,h2,rfl⟩|⟨rfl,rfl,h1⟩
  ·rw [decide_eq_true (show (0:Int) < (t.length:Int) by omega)]
   refine zqg42 ?_
   refine WL.six rfl rfl ⟨by omega,by omega⟩ ?_
   rw [hLB,h1]
   refine zqg42 ?_
   refine WL.cut rfl rfl ⟨by omega,by omega,by omega⟩ ?_
   rw [← h2]
   refine zqg42 ?_
   refine (?_:Tr _ _ _)
   exact (zqt id)
  ·by_cases h0:0 < pt.length
   ·have:=h1 h0
    rw [decide_eq_true (show (0:Int) < (pt.length:Int) by omega)]
    refine zqg42 ?_
    refine WL.six rfl rfl ⟨by omega,by omega⟩ ?_
    rw [hLB]
    refine zqg42 ?_
    refine (?_:Tr _ _ _)
    exact (zqt id)
   ·rw [decide_eq_false (show ¬ (0:Int) < (pt.length:Int) by omega)]
    refine zqg42 ?_
    refine (?_:Tr _ _ _)
    exact (zqt id)
 clear hcase hlast
 have hptl:pt.length≤500000:=by omega
 rcases hslash with ⟨a,b,b',he,hna,hpe,hpb⟩|⟨hnt,hnp⟩
 rotate_left
 ·rw [hres hnt]
  refine zqg42 ?_
  refine W.loop (fun k:Nat=>k≤pt.length) (fun k=>⟨[(0,.sc (.string (bs pt))),(2,.pt 0 0 0),(4,.pt 1 0 0),(5,.sc (.int .i64 (k:Int)))],[(0,.box 117 [.sc (.int .i64 0),.sc (.int .i64 0),.sc (.bool false)]),(1,.box 117 [.sc (.int .i64 0),.sc (.int .i64 0),.sc (.bool po)])],2⟩) (fun k=>pt.length - k) 0 zqo (zqt id) fun k hk=>?_
  by_cases hlt:k < pt.length
  ·have hne:=rf_ne hnp hlt
   obtain ⟨X,hX⟩:∃ z,((pt.getD (Int.toNat (k:Int)) 0).toNat:Int)=z:=⟨_,rfl⟩
   rw [hX] at hne
   refine zqg42 ?_
   refine WL.six rfl rfl ⟨by omega,by omega⟩ ?_
   rw [hX]
   refine zqg42 ?_
   exact ⟨k+1,by omega,by omega,(zqt id)⟩
  ·obtain rfl:k=pt.length:=by omega
   refine zqg42 ?_
   exact W.ret (finN rfl rfl rfl rfl)
 have hRe:=(hat a b he hna).symm.trans (nr_crs_at (b:=b) hna)
 rw [hpb] at hRe
 dsimp only at hRe
 have hpl2:(pt.length:Int)=(a.length:Int)+(b'.length:Int)+1:=by rw [hpe];simp;omega
 have hca:cut pt 0 (a.length:Int)=a:=by
  rw [hpe];unfold cut;rw [Int.toNat_natCast];simp
 have hcb:cut pt ((a.length:Int)+1) (pt.length:Int)=b':=by
  rw [hpl2,hpe];unfold cut
  rw [show ((a.length:Int)+(b'.length:Int)+1).toNat=(a++47::b').length by simp;omega,show ((a.length:Int)+1).toNat=(a++[47]).length by simp,show a++47::b'=(a++[47])++b' by simp,List.drop_left,List.take_of_length_le (by simp;omega)]
 have hN:=rName_FS a zqo
 have hD:=rNumber_FS b' zqo
 have hcase:=nr_nm_cases a
 have hS:=rSounding_FS (ri_nm a).1.1 (ri_nm a).1.2.1 (ri_nm a).1.2.2
 have hne:=fun k (h:k < a.length)=>rf_ne2 (b:=b') hna h
 have heq:=rf_eq2 (a:=a) (b:=b')
 rw [← hpe] at hne heq
 obtain ⟨⟨⟨n1,n2,n3⟩,ne⟩,hnm⟩:∃ z,ri_nm a=z:=⟨_,rfl⟩
 rw [hnm] at hN hcase hS hRe
 unfold eNm at hN
 dsimp only at hN hcase hS hRe
 clear hres hat hRR hpp hnm he hpb
 refine zqg42 ?_
 refine W.loop (fun k:Nat=>k≤a.length) (fun k=>⟨[(0,.sc (.string (bs pt))),(2,.pt 0 0 0),(4,.pt 1 0 0),(5,.sc (.int .i64 (k:Int)))],[(0,.box 117 [.sc (.int .i64 0),.sc (.int .i64 0),.sc (.bool false)]),(1,.box 117 [.sc (.int .i64 0),.sc (.int .i64 0),.sc (.bool po)])],2⟩) (fun k=>a.length - k) 0 zqo (zqt id) fun k hk=>?_
 by_cases hlt:k < a.length
 ·have hne:=hne k hlt
  obtain ⟨X,hX⟩:∃ z,((pt.getD (Int.toNat (k:Int)) 0).toNat:Int)=z:=⟨_,rfl⟩
  rw [hX] at hne
  refine zqg42 ?_
  refine WL.six rfl rfl ⟨by omega,by omega⟩ ?_
  rw [hX]
  refine zqg42 ?_
  exact ⟨k+1,by omega,by omega,(zqt id)⟩
 obtain rfl:k=a.length:=by omega
 refine zqg42 ?_
 refine WL.six rfl rfl ⟨by omega,by omega⟩ ?_
 rw [heq]
 refine zqg42 ?_
 refine WL.cut rfl rfl ⟨by omega,by omega,by omega⟩ ?_
 rw [hca]
 refine zqg42 ?_
 refine WL.vl rfl (zqc Tryz.func166 hN) ?_
 refine zqg42 ?_
 refine WL.cut rfl rfl ⟨by omega,by omega,by omega⟩ ?_
 rw [hcb]
 refine zqg42 ?_
 refine WL.vl rfl (zqc Tryz.func99 hD) ?_
 cases hnum:rq_numR b' with
 | none =>
  rw [hnum] at hRe
  rcases hcase with rfl|rfl|⟨rfl,hk⟩
  ·rw [hRe,if_pos rfl]
   refine zqg42 ?_
   exact W.ret (finN rfl rfl rfl rfl)
  ·rw [hRe,if_neg (by decide)]
   refine zqg42 ?_
   exact W.ret (finN rfl rfl rfl rfl)
  ·rw [hRe,if_neg (by decide)]
   refine zqg42 ?_
   exact W.ret (finN rfl rfl rfl rfl)
 | some v =>
  rw [hnum] at hRe
  rcases hcase with rfl|rfl|⟨rfl,hk⟩
  ·rw [hRe,if_pos rfl]
   refine zqg42 ?_
   exact W.ret (finN rfl rfl rfl rfl)
  ·rw [hRe,if_neg (by decide)]
   dsimp only
   rw [if_pos (by decide)]
   refine zqg42 ?_
   exact W.ret (finN rfl rfl rfl rfl)
  ·rw [(snd_ok hk).1,(snd_ok hk).2] at hS
   rw [hRe,if_neg (by decide)]
   dsimp only
   rw [if_neg (by decide)]
   refine zqg42 ?_
   refine WL.vl rfl (zqc Tryz.func167 hS) ?_
   refine zqg42 ?_
   exact W.ret (finN rfl rfl rfl rfl)
end
section
open Go.RowKit
def rfCk(cs:List Crs)(st:List Int):(List Crs×List Int)×Int:=if insE cs st≠0 then(([],[]),insE cs st)else((cs,st),0)
theorem rChecked_FS (cs:List Crs) (st:List Int):Ctr Tryz.prog 100 [.ag (eIns cs st)] (.tu [.ag (eIns (rfCk cs st).1.1 (rfCk cs st).1.2),.sc (.int .i64 (rfCk cs st).2)]):=by
 have hC:=rInsCheck_FS cs st
 unfold rfCk
 by_cases he:insE cs st=0
 ·rw [he] at hC
  rw [if_neg (by rw [he];decide)]
  unfold eIns at hC ⊢
  refine zqe Tryz.func100 Tryz.ntmps100 fun w0 F0=>?_;dsimp only [St.init,number,Nat.reduceAdd]
  refine zqg43 ?_
  refine WL.vl rfl (zqc Tryz.func56 hC) ?_
  refine zqg43 ?_
  exact W.ret (finN rfl rfl rfl rfl)
 ·rw [if_pos he]
  obtain ⟨E,hE⟩:∃ z,insE cs st=z:=⟨_,rfl⟩
  rw [hE] at hC he ⊢
  unfold eIns at hC ⊢
  refine zqe Tryz.func100 Tryz.ntmps100 fun w0 F0=>?_;dsimp only [St.init,number,Nat.reduceAdd]
  refine zqg43 ?_
  refine WL.vl rfl (zqc Tryz.func56 hC) ?_
  refine zqg43 ?_
  refine W.tr (Tr.nilC 1 0 3 rfl rfl rfl) ?_
  refine W.tr (Tr.nilC 1 1 1 rfl rfl rfl) ?_
  exact W.ret (finN rfl rfl rfl rfl)
theorem rParse_FS (t:List UInt8) (ht:t.length≤400000):Ctr Tryz.prog 45 [.sc (.string (bs t))] (.tu [.ag (eIns (nr_ins t).1.1 (nr_ins t).1.2),.sc (.int .i64 (nr_ins t).2)]):=by
 have hW:=rWords_FS t zqo
 have hwb:=rq_wds_bytes 32 t
 have hwl:(rq_wds 32 t).length≤500000:=by
  rw [rq_wds_len,Lib.count_one]
  have:=List.count_le_length (a:=(32:UInt8)) (l:=t)
  omega
 cases hcol:ri_col (rq_wds 32 t) with
 | none =>
  have hno:=nr_col_none hcol
  rw [nr_ins_no hcol]
  obtain ⟨WW,hWW⟩:∃ z,rq_wds 32 t=z:=⟨_,rfl⟩
  rw [hWW] at hW hwl hno
  have hml:(WW.map eTx).length=WW.length:=List.length_map _
  have hatl:∀ k (h:k < WW.length),(WW.map eTx)[((k:Nat):Int).toNat]?=some (eTx WW[k]):=fun k h=>by
   rw [Int.toNat_natCast,List.getElem?_map,List.getElem?_eq_getElem h];rfl
  obtain ⟨LW,hLW⟩:∃ z,WW.map eTx=z:=⟨_,rfl⟩
  rw [hLW] at hW hml hatl
  refine zqe Tryz.func45 Tryz.ntmps45 fun w0 F0=>?_;dsimp only [St.init,number,Nat.reduceAdd]
  refine zqg44 ?_
  refine WL.vl rfl (zqc Tryz.func97 hW) ?_
  refine zqg44 ?_
  refine W.loop (fun k:Nat=>k≤WW.length) (fun k=>⟨[(0,.sc (.string (bs t))),(2,.pt 0 0 0),(4,.ls 1 LW),(5,.sc (.int .i64 (k:Int)))],[(0,.box 27 [.sc (.slice none 0 0),.sc (.slice none 0 0)])],1⟩) (fun k=>WW.length - k) 0 zqo (zqt id) fun k hk=>?_
  by_cases hlt:k < WW.length
  ·have hat:=hatl k hlt
   have hb:(WW[k] == ([58]:List UInt8))=false:=by
    have:=hno _ (List.getElem_mem hlt)
    simpa using this
   obtain ⟨w,hw⟩:∃ z,WW[k]=z:=⟨_,rfl⟩
   rw [hw] at hat hb
   refine zqg44 ?_
   refine WL.idx rfl rfl zqo hat ?_
   refine zqg44 ?_
   rw [hb]
   refine zqg44 ?_
   exact ⟨k+1,by omega,by omega,(zqt id)⟩
  ·obtain rfl:k=WW.length:=by omega
   refine zqg44 ?_
   refine W.tr (Tr.nilC 0 0 3 rfl rfl rfl) ?_
   refine W.tr (Tr.nilC 0 1 1 rfl rfl rfl) ?_
   exact W.ret (finN rfl rfl rfl rfl)
 | some ab =>
 obtain ⟨a,b⟩:=ab
 obtain ⟨hL,hno⟩:=nr_col_some hcol
 have hal:a.length+b.length+1≤500000:=by rw [hL] at hwl;simp at hwl;omega
 have hba:∀ w∈a,w.length≤400000:=fun w hw=>by
  have:=hwb w (by rw [hL];simp [hw]);omega
 have hbb:∀ w∈b,w.length≤400000:=fun w hw=>by
  have:=hwb w (by rw [hL];simp [hw]);omega
 rw [hL] at hW
 obtain ⟨L,hLL⟩:∃ z,(a++[58]::b).map eTx=z:=⟨_,rfl⟩
 have hLl:L.length=a.length+b.length+1:=by rw [← hLL];simp;omega
 have hata:∀ k (h:k < a.length),L[((k:Nat):Int).toNat]?=some (eTx a[k]):=fun k h=>by
  rw [← hLL,Int.toNat_natCast,List.getElem?_map,List.getElem?_append_left h,List.getElem?_eq_getElem h];rfl
 have hatc:L[((a.length:Nat):Int).toNat]?=some (eTx [58]):=by
  rw [← hLL,Int.toNat_natCast,List.getElem?_map,List.getElem?_append_right (Nat.le_refl _)];simp
 have hatb:∀ k (h:k < b.length),L[((a.length:Int)+1+(k:Int)).toNat]?=some (eTx b[k]):=fun k h=>by
  rw [← hLL,show ((a.length:Int)+1+(k:Int)).toNat=a.length+(k+1) by omega,List.getElem?_map,List.getElem?_append_right (by omega),show a.length+(k+1) - a.length=k+1 by omega,List.getElem?_cons_succ,List.getElem?_eq_getElem h];rfl
 rw [hLL] at hW
 refine zqe Tryz.func45 Tryz.ntmps45 fun w0 F0=>?_;dsimp only [St.init,number,Nat.reduceAdd]
 refine zqg44 ?_
 refine WL.vl rfl (zqc Tryz.func97 hW) ?_
 refine zqg44 ?_
 refine W.loop (fun k:Nat=>k≤a.length) (fun k=>⟨[(2,.pt 0 0 0),(4,.ls 1 L),(5,.sc (.int .i64 (k:Int)))],[(0,.box 27 [.sc (.slice none 0 0),.sc (.slice none 0 0)])],1⟩) (fun k=>a.length - k) 0 zqo (zqt id) fun k hk=>?_
 by_cases hlt:k < a.length
 ·have hat:=hata k hlt
  have hb:(a[k] == ([58]:List UInt8))=false:=by
   have:=hno _ (List.getElem_mem hlt)
   simpa using this
  obtain ⟨w,hw⟩:∃ z,a[k]=z:=⟨_,rfl⟩
  rw [hw] at hat hb
  refine zqg44 ?_
  refine WL.idx rfl rfl zqo hat ?_
  refine zqg44 ?_
  rw [hb]
  refine zqg44 ?_
  exact ⟨k+1,by omega,by omega,(zqt id)⟩
 obtain rfl:k=a.length:=by omega
 have hb58:(([58]:List UInt8) == ([58]:List UInt8))=true:=rfl
 refine zqg44 ?_
 refine WL.idx rfl rfl zqo hatc ?_
 refine zqg44 ?_
 refine W.tr (Tr.nilBox 117 3 (k:=1) (j:=0) rfl rfl rfl rfl) ?_
 refine W.tr (Tr.nilBox 3 1 (k:=1) (j:=1) rfl rfl rfl rfl) ?_
 dsimp only [St.upd,St.new,St.put,Nat.reduceAdd]
 refine W.loop (fun k:Nat=>k≤a.length∧∀ j (hj:j < a.length),j < k→(ri_crs a[j]).2=0) (fun k=>⟨[(2,.pt 0 0 0),(4,.ls 1 L),(5,.sc (.int .i64 (a.length:Int))),(6,.pt 1 0 0),(7,.sc (.int .i64 (k:Int)))],
  [(0,.box 27 [.sc (.slice none 0 0),.sc (.slice none 0 0)]),(1,.box 27 [.sl 2,.sl 3]),(2,.row 117 3 ((nr_cs (a.take k)).map eCrs)),(3,.row 3 1 [])],4⟩) (fun k=>a.length - k) 0 ⟨by omega,fun j hj h=>absurd h zqo⟩ (zqt id) fun k hk=>?_
 obtain ⟨hk,hall⟩:=hk
 by_cases hlt:k < a.length
 ·have hCo:=rCourse_FS a[k] (by have:=hba a[k] (List.getElem_mem hlt);omega)
  have hbad:=nr_err_at hlt hall
  have hat:=hata k hlt
  have hnx:(ri_crs a[k]).2=0→∀ j (hj:j < a.length),j < k+1→(ri_crs a[j]).2=0:=fun h j hj hjk=>by
   by_cases e:j=k
   ·subst e;exact h
   ·exact hall j hj zqo
  have hrow:(nr_cs (a.take (k+1))).map eCrs=(nr_cs (a.take k)).map eCrs++[eCrs (ri_crs a[k]).1]:=by
   unfold nr_cs
   rw [List.take_succ_eq_append_getElem hlt,List.map_append,List.map_append];rfl
  obtain ⟨R,hR⟩:∃ z,(nr_cs (a.take k)).map eCrs=z:=⟨_,rfl⟩
  have hRl:R.length≤500000:=by rw [← hR];unfold nr_cs;rw [List.length_map,List.length_map,List.length_take];omega
  obtain ⟨⟨⟨c1,c2,c3⟩,e⟩,hce⟩:∃ z,ri_crs a[k]=z:=⟨_,rfl⟩
  rw [hce] at hCo hbad hnx hrow
  rw [hR] at hrow ⊢
  unfold eCrs at hCo
  dsimp only at hCo hbad hnx
  obtain ⟨w,hw⟩:∃ z,a[k]=z:=⟨_,rfl⟩
  rw [hw] at hat hCo
  clear hall
  by_cases he:e=0
  rotate_left
  ·rw [nr_ins_c hcol (by rw [hbad he];exact he),hbad he]
   refine zqg44 ?_
   refine WL.idx rfl rfl zqo hat ?_
   refine zqg44 ?_
   refine WL.vl rfl (zqc Tryz.func98 hCo) ?_
   refine zqg44 ?_
   refine W.tr (Tr.nilC 0 0 3 rfl rfl rfl) ?_
   refine W.tr (Tr.nilC 0 1 1 rfl rfl rfl) ?_
   exact W.ret (finN rfl rfl rfl rfl)
  ·subst he
   refine zqg44 ?_
   refine WL.idx rfl rfl zqo hat ?_
   refine zqg44 ?_
   refine WL.vl rfl (zqc Tryz.func98 hCo) ?_
   refine zqg44 ?_
   refine ⟨k+1,⟨by omega,hnx rfl⟩,by omega,?_⟩
   rw [hrow]
   exact (zqu (fun q=>bif Nat.beq q 2 then 6 else q) (by repeat (first|exact trivial|refine ⟨⟨?_,?_,?_⟩,?_⟩|rfl|exact congrArg (fun q=>some (AO.row _ _ q)) (by first|rfl|(simp;done)|(simp [eInt];done)|(simp [eLk];done)))) rfl)
 obtain rfl:k=a.length:=by omega
 have herr:=nr_err_no fun j hj=>hall j hj hj
 rw [List.take_length]
 clear hall hk hlt
 refine zqg44 ?_
 have hcl:(nr_cs a).length=a.length:=List.length_map _
 obtain ⟨CS,hCS⟩:∃ z,nr_cs a=z:=⟨_,rfl⟩
 rw [hCS] at hcl ⊢
 refine W.loop (fun k:Nat=>k≤b.length∧∀ j (hj:j < b.length),j < k→(rq_numR b[j]).isSome=true) (fun k=>⟨[(2,.pt 0 0 0),(4,.ls 1 L),(6,.pt 1 0 0),(10,.sc (.int .i64 ((a.length:Int)+1+(k:Int))))],
  [(0,.box 27 [.sc (.slice none 0 0),.sc (.slice none 0 0)]),(1,.box 27 [.sl 2,.sl 3]),(2,.row 117 3 (CS.map eCrs)),(3,.row 3 1 ((nr_st (b.take k)).map eInt))],4⟩) (fun k=>b.length - k) 0 ⟨by omega,fun j hj h=>absurd h zqo⟩ (zqt id) fun k hk=>?_
 obtain ⟨hk,hall⟩:=hk
 by_cases hlt:k < b.length
 ·have hCo:=rNumber_FS b[k] (by have:=hbb b[k] (List.getElem_mem hlt);omega)
  have hbad:=nr_stp_at hlt
  have hat:=hatb k hlt
  have hnx:(rq_numR b[k]).isSome=true→∀ j (hj:j < b.length),j < k+1→(rq_numR b[j]).isSome=true:=fun h j hj hjk=>by
   by_cases e:j=k
   ·subst e;exact h
   ·exact hall j hj zqo
  have hrow:(nr_st (b.take (k+1))).map eInt=(nr_st (b.take k)).map eInt++[eInt (((rq_numR b[k]).getD 0:Nat):Int)]:=by
   unfold nr_st
   rw [List.take_succ_eq_append_getElem hlt,List.map_append,List.map_append];rfl
  obtain ⟨R,hR⟩:∃ z,(nr_st (b.take k)).map eInt=z:=⟨_,rfl⟩
  have hRl:R.length≤500000:=by rw [← hR];unfold nr_st;rw [List.length_map,List.length_map,List.length_take];omega
  rw [hR] at hrow ⊢
  clear hall
  cases he:rq_numR b[k] with
  | none =>
   rw [nr_ins_s hcol herr (hbad he)]
   rw [he] at hCo
   obtain ⟨w,hw⟩:∃ z,b[k]=z:=⟨_,rfl⟩
   rw [hw] at hat hCo
   refine zqg44 ?_
   refine WL.idx rfl rfl zqo hat ?_
   refine zqg44 ?_
   refine WL.vl rfl (zqc Tryz.func99 hCo) ?_
   refine zqg44 ?_
   refine W.tr (Tr.nilC 0 0 3 rfl rfl rfl) ?_
   refine W.tr (Tr.nilC 0 1 1 rfl rfl rfl) ?_
   exact W.ret (finN rfl rfl rfl rfl)
  | some v =>
   rw [he] at hCo hrow hnx
   have hrow:(nr_st (b.take (k+1))).map eInt=R++[eInt (v:Int)]:=hrow
   have hCo:Ctr Tryz.prog 99 [.sc (.string (bs b[k]))] (.tu [.sc (.int .i64 (v:Int)),.sc (.bool true)]):=hCo
   obtain ⟨w,hw⟩:∃ z,b[k]=z:=⟨_,rfl⟩
   rw [hw] at hat hCo
   refine zqg44 ?_
   refine WL.idx rfl rfl zqo hat ?_
   refine zqg44 ?_
   refine WL.vl rfl (zqc Tryz.func99 hCo) ?_
   refine zqg44 ?_
   refine ⟨k+1,⟨by omega,hnx rfl⟩,by omega,?_⟩
   rw [hrow,show (a.length:Int)+1+((k+1:Nat):Int)=(a.length:Int)+1+(k:Int)+1 by omega]
   exact (zqu (fun q=>bif Nat.beq q 3 then 5 else q) (by repeat (first|exact trivial|refine ⟨⟨?_,?_,?_⟩,?_⟩|rfl|exact congrArg (fun q=>some (AO.row _ _ q)) (by first|rfl|(simp;done)|(simp [eInt];done)|(simp [eLk];done)))) rfl)
 obtain rfl:k=b.length:=by omega
 have hstp:=nr_stp_no fun j hj=>hall j hj hj
 rw [List.take_length]
 clear hall hk hlt
 have hIns:=nr_ins_y hcol herr hstp
 rw [hCS] at hIns
 obtain ⟨ST,hST⟩:∃ z,nr_st b=z:=⟨_,rfl⟩
 rw [hST] at hIns ⊢
 have hC:=rChecked_FS CS ST
 have hIns:nr_ins t=rfCk CS ST:=hIns
 rw [hIns]
 obtain ⟨⟨⟨cs,st⟩,E⟩,hK⟩:∃ z,rfCk CS ST=z:=⟨_,rfl⟩
 rw [hK] at hC ⊢
 unfold eIns at hC ⊢
 dsimp only at hC ⊢
 refine W.tr (Tr.freeze 2 rfl) ?_
 refine W.tr (Tr.freeze 3 rfl) ?_
 refine zqg44 ?_
 refine WL.vl rfl (zqc Tryz.func100 hC) ?_
 refine zqg44 ?_
 exact W.ret (finN rfl rfl rfl rfl)
end
end Go.Proofs.YthehkchjdkdbiaaGreatDoor
