/- What a system lacks of a piece: the reference, over trees. -/
import Derived.Test.YtaeelcfjkhfpkaaGreatEWSq
import Derived.Test.YtaeelcfjkhfpkaaGreatREeSq
set_option maxHeartbeats 8000000
set_option maxRecDepth 100000
set_option linter.unusedVariables false
set_option linter.unusedSimpArgs false
namespace Go.Proofs.YtaeelcfjkhfpkaaGreat
open Go.RowKit
def hd1(s i:Int)(e:Ev):List Lck:=if s=4∧e.three=true then [(i,0,5)]else []
def hd2(s i:Int)(e:Ev):List Lck:=if s=4∧e.val=0 then [(i,0,6)]else []
def hd3(s i:Int)(e:Ev):List Lck:=if s=4∧e.tie=true then [(i,0,7)]else []
def hd4(s i:Int)(e:Ev):List Lck:=if s=3∧restB e=true then [(i,0,8)]else []
theorem head_eq {s i:Int} {e:Ev} (hs:1≤s∧s≤4)(h:sgOk e.val e.dot e.three=true):hd1 s i e++hd2 s i e++hd3 s i e++hd4 s i e=lackHead s i e:=by
 obtain⟨bar,val,dot,three,tie,stops⟩:=e
 have h2:val=0→three=false:=by
  rintro rfl
  cases three with
  | false=>rfl
  | true=>cases dot<;>simp [sgOk]at h
 have hs4:s=1∨s=2∨s=3∨s=4:=by omega
 unfold hd1 hd2 hd3 hd4 lackHead lkIf hasS restB
 by_cases hv:val=0
 ·have:=h2 hv
  subst this
  subst hv
  rcases hs4 with rfl|rfl|rfl|rfl<;>cases tie<;>by_cases hn:stops.length=0<;>simp [hn]
 ·rcases hs4 with rfl|rfl|rfl|rfl<;>cases tie<;>cases three<;>by_cases hn:stops.length=0<;>simp [hn,hv]
theorem wants_eq {s i:Int} {c f r g h:Int} {L:Int→Nat} (hs:1≤s∧s≤4)(hc:1≤c∧c≤14)(hf:0≤f∧f≤18):(wants s c f r g h (L c)).map (fun x=>((i,c,x):Lck))=lackStop s i L (c,f,r,g,h):=by
 have h1:=(sym_law s c f hs hc hf).1
 unfold wants lackStop lkIf
 simp only
 by_cases e:rS s c f=[]
 ·rw [if_pos e,if_pos (by rw [h1,e];rfl)];rfl
 ·have hp:pOk s c f=true:=by rw [h1];simpa using e
  rw [if_neg e]
  by_cases h2:okR s r=true<;>by_cases h3:okG s g=true<;>by_cases h4:okH s h (L c)=true<;>simp [hp,h2,h3,h4]
theorem wants_len(s c f r g h L:Int):(wants s c f r g h L).length≤3:=by
 unfold wants
 split
 ·simp
 ·split<;>split<;>split<;>simp
theorem known_FS (s:Int):Ctr Tryz.prog 58 [.sc (.int .u8 s)] (.sc (.bool (decide (1≤s∧s≤4)))) :=
 Ctr.of_sc (xs:=[.int .u8 s]) rfl (fun _=>.sc _) fun w=>(known_any s w).mono fun e w'⟨he,hw⟩=>⟨he,hw ▸ Below.refl _ _⟩
theorem rlack_FS (s:Int) (hs:1≤s∧s≤4) (p:Pce) (i:Nat) (hi:i < p.evs.length) (hO:PcOk p) (h0:pceE p=0) :
  Ctr Tryz.prog 144 [.sc (.int .u8 s),ePce p,.sc (.int .i64 i)] (.ls 3 ((lackE s p i p.evs[i]).map eLk)):=by
 have hv:=stopsIn_of h0 i hi
 have hsg:=(evE_zero ((pceE_zero h0).2.2 i hi)).1
 have h20:=hO.n4 i hi
 have hn3:=hO.n3
 have hH:=head_eq (i:=i) hs hsg
 obtain ⟨X,hX0,hXs,hXl,hXe⟩:∃ X:Nat→List Lck,X 0=lackHead s i p.evs[i]∧(∀ k (h:k < p.evs[i].stops.length),X (k+1)=X k++lackStop s i (fun c=>longestN p.evs i c) p.evs[i].stops[k]) ∧
   (∀ k,k≤p.evs[i].stops.length→(X k).length≤200)∧X p.evs[i].stops.length=lackE s p i p.evs[i]:=by
  refine ⟨fun k=>lackHead s i p.evs[i]++(p.evs[i].stops.take k).flatMap (lackStop s i fun c=>longestN p.evs i c),by simp,fun k h=>?_,fun k h=>?_,?_⟩
  ·simp only
   rw [flat_snoc s i (fun c=>longestN p.evs i c) p.evs[i].stops k h,List.append_assoc]
  ·have a:=flat_len s i (fun c=>longestN p.evs i c) (p.evs[i].stops.take k)
   have b:(lackHead s i p.evs[i]).length≤4:=by
    rw [← hH]
    have b1:(hd1 s i p.evs[i]).length≤1:=by unfold hd1;split<;>simp
    have b2:(hd2 s i p.evs[i]).length≤1:=by unfold hd2;split<;>simp
    have b3:(hd3 s i p.evs[i]).length≤1:=by unfold hd3;split<;>simp
    have b4:(hd4 s i p.evs[i]).length≤1:=by unfold hd4;split<;>simp
    simp only [List.length_append];omega
   have c:(p.evs[i].stops.take k).length≤20:=by rw [List.length_take];omega
   simp only [List.length_append];omega
  ·simp only [List.take_length];rfl
 refine zqe Tryz.func144 Tryz.ntmps144 fun w0 F0=>?_;dsimp only [St.init,number,Nat.reduceAdd]
 obtain ⟨l1,e1⟩:∃ l,hd1 s i p.evs[i]=l:=⟨_,rfl⟩
 obtain ⟨l2,e2⟩:∃ l,hd2 s i p.evs[i]=l:=⟨_,rfl⟩
 obtain ⟨l3,e3⟩:∃ l,hd3 s i p.evs[i]=l:=⟨_,rfl⟩
 obtain ⟨l4,e4⟩:∃ l,hd4 s i p.evs[i]=l:=⟨_,rfl⟩
 rw [e1,e2,e3,e4] at hH
 have b1:l1.length≤1:=by rw [← e1];unfold hd1;split<;>simp
 have b2:l2.length≤1:=by rw [← e2];unfold hd2;split<;>simp
 have b3:l3.length≤1:=by rw [← e3];unfold hd3;split<;>simp
 have b4:l4.length≤1:=by rw [← e4];unfold hd4;split<;>simp
 repeat (first|refine W.go rfl ?_|refine WL.ev rfl ?_|refine WL.idx rfl rfl zqo zqm ?_)
 refine (?_:WL _ _ _ _ _ _)
 refine WL.tr (Tr.nil (t:=7) 72 3 rfl rfl) ?_
 dsimp only [St.put,St.new,Nat.reduceAdd]
 refine WL.meet2 ⟨[(0,.sc (.int .u8 s)),(2,.sc (.int .i64 i)),(4,.pt 0 0 0),(7,.sl 2),(8,.pt 1 0 0)],[(0,.box 29 (ePce p).cells),(1,.box 45 (eEv p.evs[i])),(2,.row 72 3 (l1.map eLk))],3⟩ ?_ ?_
 ·refine WL.partG rfl rfl rfl rfl (fun hp=>?_) (fun hp=>?_)
  ·have hp:s=4:=of_decide_eq_true hp
   repeat (first|refine WL.ev rfl ?_|refine WL.gyes rfl rfl rfl rfl ?_)
   refine (?_:W _ _ _ _ _)
   (refine W.cond rfl (fun hif=>?_) (fun hif=>?_)<;>(try simp only [decide_eq_true_eq,decide_eq_false_iff_not,Int.not_lt,Int.not_le,Bool.not_eq_true',Bool.not_eq_false'] at hif))
   ·obtain rfl:l1=[((i:Int),0,5)]:=by
     rw [← e1];exact if_pos ⟨hp,by simpa using hif⟩
    repeat (first|refine W.go rfl ?_|refine WL.ev rfl ?_|refine WL.app rfl rfl rfl zqs ?_)
    refine (?_:Tr _ _ _)
    exact (zqu (fun q=>bif Nat.beq q 2 then 4 else q) (by repeat (first|exact trivial|refine ⟨⟨?_,?_,?_⟩,?_⟩|rfl|exact congrArg (fun q=>some (AO.row _ _ q)) (by first|rfl|(simp;done)|(simp [eInt];done)|(simp [eLk];done)))) rfl)
   ·obtain rfl:l1=[]:=by
     rw [← e1];exact if_neg fun x=>absurd x.2 (by simpa using hif)
    repeat refine W.go rfl ?_
    refine (?_:Tr _ _ _)
    exact (zqu (fun q=>q) (by repeat (first|exact trivial|refine ⟨⟨?_,?_,?_⟩,?_⟩|rfl|exact congrArg (fun q=>some (AO.row _ _ q)) (by first|rfl|(simp;done)|(simp [eInt];done)|(simp [eLk];done)))) rfl)
  ·have hp:¬ s=4:=of_decide_eq_false hp
   obtain rfl:l1=[]:=by
    rw [← e1];exact if_neg fun x=>hp x.1
   repeat (first|refine W.go rfl ?_|refine WL.ev rfl ?_|refine WL.opno rfl rfl rfl rfl rfl rfl rfl ?_|refine W.condF rfl ?_)
   refine (?_:Tr _ _ _)
   exact (zqu (fun q=>q) (by repeat (first|exact trivial|refine ⟨⟨?_,?_,?_⟩,?_⟩|rfl|exact congrArg (fun q=>some (AO.row _ _ q)) (by first|rfl|(simp;done)|(simp [eInt];done)|(simp [eLk];done)))) rfl)
 ·repeat refine W.go rfl ?_
  refine (?_:WL _ _ _ _ _ _)
  refine WL.meet2 ⟨[(0,.sc (.int .u8 s)),(2,.sc (.int .i64 i)),(4,.pt 0 0 0),(7,.sl 2),(8,.pt 1 0 0)],[(0,.box 29 (ePce p).cells),(1,.box 45 (eEv p.evs[i])),(2,.row 72 3 (l1.map eLk++l2.map eLk))],3⟩ ?_ ?_
  ·refine WL.partG rfl rfl rfl rfl (fun hp=>?_) (fun hp=>?_)
   ·have hp:s=4:=of_decide_eq_true hp
    repeat (first|refine WL.ev rfl ?_|refine WL.gyes rfl rfl rfl rfl ?_)
    refine (?_:W _ _ _ _ _)
    (refine W.cond rfl (fun hif=>?_) (fun hif=>?_)<;>(try simp only [decide_eq_true_eq,decide_eq_false_iff_not,Int.not_lt,Int.not_le,Bool.not_eq_true',Bool.not_eq_false'] at hif))
    ·obtain rfl:l2=[((i:Int),0,6)]:=by
      rw [← e2];exact if_pos ⟨hp,by simpa using hif⟩
     repeat (first|refine W.go rfl ?_|refine WL.ev rfl ?_|refine WL.app rfl rfl rfl zqs ?_)
     refine (?_:Tr _ _ _)
     exact (zqu (fun q=>bif Nat.beq q 2 then 4 else q) (by repeat (first|exact trivial|refine ⟨⟨?_,?_,?_⟩,?_⟩|rfl|exact congrArg (fun q=>some (AO.row _ _ q)) (by first|rfl|(simp;done)|(simp [eInt];done)|(simp [eLk];done)))) rfl)
    ·obtain rfl:l2=[]:=by
      rw [← e2];exact if_neg fun x=>absurd x.2 (by simpa using hif)
     repeat refine W.go rfl ?_
     refine (?_:Tr _ _ _)
     exact (zqu (fun q=>q) (by repeat (first|exact trivial|refine ⟨⟨?_,?_,?_⟩,?_⟩|rfl|exact congrArg (fun q=>some (AO.row _ _ q)) (by first|rfl|(simp;done)|(simp [eInt];done)|(simp [eLk];done)))) rfl)
   ·have hp:¬ s=4:=of_decide_eq_false hp
    obtain rfl:l2=[]:=by
     rw [← e2];exact if_neg fun x=>hp x.1
    repeat (first|refine W.go rfl ?_|refine WL.ev rfl ?_|refine WL.opno rfl rfl rfl rfl rfl rfl rfl ?_|refine W.condF rfl ?_)
    refine (?_:Tr _ _ _)
    exact (zqu (fun q=>q) (by repeat (first|exact trivial|refine ⟨⟨?_,?_,?_⟩,?_⟩|rfl|exact congrArg (fun q=>some (AO.row _ _ q)) (by first|rfl|(simp;done)|(simp [eInt];done)|(simp [eLk];done)))) rfl)
  ·repeat refine W.go rfl ?_
   refine (?_:WL _ _ _ _ _ _)
   refine WL.meet2 ⟨[(0,.sc (.int .u8 s)),(2,.sc (.int .i64 i)),(4,.pt 0 0 0),(7,.sl 2),(8,.pt 1 0 0)],[(0,.box 29 (ePce p).cells),(1,.box 45 (eEv p.evs[i])),(2,.row 72 3 (l1.map eLk++l2.map eLk++l3.map eLk))],3⟩ ?_ ?_
   ·refine WL.partG rfl rfl rfl rfl (fun hp=>?_) (fun hp=>?_)
    ·have hp:s=4:=of_decide_eq_true hp
     repeat (first|refine WL.ev rfl ?_|refine WL.gyes rfl rfl rfl rfl ?_)
     refine (?_:W _ _ _ _ _)
     (refine W.cond rfl (fun hif=>?_) (fun hif=>?_)<;>(try simp only [decide_eq_true_eq,decide_eq_false_iff_not,Int.not_lt,Int.not_le,Bool.not_eq_true',Bool.not_eq_false'] at hif))
     ·obtain rfl:l3=[((i:Int),0,7)]:=by
       rw [← e3];exact if_pos ⟨hp,by simpa using hif⟩
      repeat (first|refine W.go rfl ?_|refine WL.ev rfl ?_|refine WL.app rfl rfl rfl zqs ?_)
      refine (?_:Tr _ _ _)
      exact (zqu (fun q=>bif Nat.beq q 2 then 4 else q) (by repeat (first|exact trivial|refine ⟨⟨?_,?_,?_⟩,?_⟩|rfl|exact congrArg (fun q=>some (AO.row _ _ q)) (by first|rfl|(simp;done)|(simp [eInt];done)|(simp [eLk];done)))) rfl)
     ·obtain rfl:l3=[]:=by
       rw [← e3];exact if_neg fun x=>absurd x.2 (by simpa using hif)
      repeat refine W.go rfl ?_
      refine (?_:Tr _ _ _)
      exact (zqu (fun q=>q) (by repeat (first|exact trivial|refine ⟨⟨?_,?_,?_⟩,?_⟩|rfl|exact congrArg (fun q=>some (AO.row _ _ q)) (by first|rfl|(simp;done)|(simp [eInt];done)|(simp [eLk];done)))) rfl)
    ·have hp:¬ s=4:=of_decide_eq_false hp
     obtain rfl:l3=[]:=by
      rw [← e3];exact if_neg fun x=>hp x.1
     repeat (first|refine W.go rfl ?_|refine WL.ev rfl ?_|refine WL.opno rfl rfl rfl rfl rfl rfl rfl ?_|refine W.condF rfl ?_)
     refine (?_:Tr _ _ _)
     exact (zqu (fun q=>q) (by repeat (first|exact trivial|refine ⟨⟨?_,?_,?_⟩,?_⟩|rfl|exact congrArg (fun q=>some (AO.row _ _ q)) (by first|rfl|(simp;done)|(simp [eInt];done)|(simp [eLk];done)))) rfl)
   ·repeat refine W.go rfl ?_
    refine (?_:WL _ _ _ _ _ _)
    refine WL.meet2 ⟨[(0,.sc (.int .u8 s)),(2,.sc (.int .i64 i)),(4,.pt 0 0 0),(7,.sl 2),(8,.pt 1 0 0)],[(0,.box 29 (ePce p).cells),(1,.box 45 (eEv p.evs[i])),(2,.row 72 3 (l1.map eLk++l2.map eLk++l3.map eLk++l4.map eLk))],3⟩ ?_ ?_
    ·refine WL.partG rfl rfl rfl rfl (fun hp=>?_) (fun hp=>?_)
     ·have hp:s=3:=of_decide_eq_true hp
      repeat (first|refine WL.ev rfl ?_|refine WL.gyes rfl rfl rfl rfl ?_)
      refine (?_:WL _ _ _ _ _ _)
      refine WL.vl rfl (WV.call rfl (callF Tryz.func64 rfl rfl) rfl rfl (rest_FS _)) ?_
      repeat refine WL.ev rfl ?_
      refine (?_:W _ _ _ _ _)
      (refine W.cond rfl (fun hif=>?_) (fun hif=>?_)<;>(try simp only [decide_eq_true_eq,decide_eq_false_iff_not,Int.not_lt,Int.not_le,Bool.not_eq_true',Bool.not_eq_false'] at hif))
      ·obtain rfl:l4=[((i:Int),0,8)]:=by
        rw [← e4];exact if_pos ⟨hp,by simpa using hif⟩
       repeat (first|refine W.go rfl ?_|refine WL.ev rfl ?_|refine WL.app rfl rfl rfl zqs ?_)
       refine (?_:Tr _ _ _)
       exact (zqu (fun q=>bif Nat.beq q 2 then 4 else q) (by repeat (first|exact trivial|refine ⟨⟨?_,?_,?_⟩,?_⟩|rfl|exact congrArg (fun q=>some (AO.row _ _ q)) (by first|rfl|(simp;done)|(simp [eInt];done)|(simp [eLk];done)))) rfl)
      ·obtain rfl:l4=[]:=by
        rw [← e4];exact if_neg fun x=>absurd x.2 (by simpa using hif)
       repeat refine W.go rfl ?_
       refine (?_:Tr _ _ _)
       exact (zqu (fun q=>q) (by repeat (first|exact trivial|refine ⟨⟨?_,?_,?_⟩,?_⟩|rfl|exact congrArg (fun q=>some (AO.row _ _ q)) (by first|rfl|(simp;done)|(simp [eInt];done)|(simp [eLk];done)))) rfl)
     ·have hp:¬ s=3:=of_decide_eq_false hp
      obtain rfl:l4=[]:=by
       rw [← e4];exact if_neg fun x=>hp x.1
      repeat (first|refine W.go rfl ?_|refine WL.ev rfl ?_|refine WL.opno rfl rfl rfl rfl rfl rfl rfl ?_|refine W.condF rfl ?_)
      refine (?_:Tr _ _ _)
      exact (zqu (fun q=>q) (by repeat (first|exact trivial|refine ⟨⟨?_,?_,?_⟩,?_⟩|rfl|exact congrArg (fun q=>some (AO.row _ _ q)) (by first|rfl|(simp;done)|(simp [eInt];done)|(simp [eLk];done)))) rfl)
    ·repeat refine W.go rfl ?_
     refine (?_:W _ _ _ _ _)
     have hrow0:l1.map eLk++l2.map eLk++l3.map eLk++l4.map eLk=(X 0).map eLk:=by rw [hX0,← hH];simp
     refine W.loop (fun k:Nat=>k≤p.evs[i].stops.length) (fun k=>⟨[(0,.sc (.int .u8 s)),(2,.sc (.int .i64 i)),(4,.pt 0 0 0),(7,.sl 2),(8,.pt 1 0 0),(9,.sc (.int .i64 k))],[(0,.box 29 (ePce p).cells),(1,.box 45 (eEv p.evs[i])),(2,.row 72 3 ((X k).map eLk))],3⟩) (fun k=>p.evs[i].stops.length - k) 0 zqo (zqu id (by repeat (first|exact trivial|refine ⟨⟨?_,?_,?_⟩,?_⟩|rfl|exact congrArg (fun r=>some (AO.row _ _ r)) hrow0)) rfl) fun k hk=>?_
     repeat (first|refine W.go rfl ?_|refine WL.ev rfl ?_|refine WL.len rfl rfl zql ?_)
     refine (?_:W _ _ _ _ _)
     (refine W.cond rfl (fun hif=>?_) (fun hif=>?_)<;>(try simp only [decide_eq_true_eq,decide_eq_false_iff_not,Int.not_lt,Int.not_le,Bool.not_eq_true',Bool.not_eq_false'] at hif))
     ·have hk2:k < p.evs[i].stops.length:=by omega
      have hb:=hv k hk2
      have hsx:=hXs k hk2
      have hlx:=hXl k zqo
      obtain ⟨Xk,hXk⟩:∃ l,X k=l:=⟨_,rfl⟩
      rw [hXk] at hsx hlx
      rw [hXk]
      have hwe:=wants_eq (i:=i) (r:=p.evs[i].stops[k].2.2.1) (g:=p.evs[i].stops[k].2.2.2.1) (h:=p.evs[i].stops[k].2.2.2.2) (L:=fun c=>longestN p.evs i c) hs hb.1 hb.2.1
      have hwf:=wants_FS s p.evs[i].stops[k].1 p.evs[i].stops[k].2.1 p.evs[i].stops[k].2.2.1 p.evs[i].stops[k].2.2.2.1 p.evs[i].stops[k].2.2.2.2 (longestN p.evs i p.evs[i].stops[k].1) hs hb.1 hb.2.1 hb.2.2.1 hb.2.2.2.1 (by have:=hb.2.2.2.2;omega)
      have hwl:=wants_len s p.evs[i].stops[k].1 p.evs[i].stops[k].2.1 p.evs[i].stops[k].2.2.1 p.evs[i].stops[k].2.2.2.1 p.evs[i].stops[k].2.2.2.2 (longestN p.evs i p.evs[i].stops[k].1)
      obtain ⟨wl,hw⟩:∃ l,wants s p.evs[i].stops[k].1 p.evs[i].stops[k].2.1 p.evs[i].stops[k].2.2.1 p.evs[i].stops[k].2.2.2.1 p.evs[i].stops[k].2.2.2.2 (longestN p.evs i p.evs[i].stops[k].1)=l:=⟨_,rfl⟩
      rw [hw] at hwe hwf hwl
      repeat refine W.go rfl ?_
      refine (?_:W _ _ _ _ _)
      refine W.drawK zqk zqk ?_
      repeat (first|refine DK.st rfl ?_|refine DK.idx rfl rfl zqo zqm ?_)
      refine DK.vl rfl (WV.call rfl (callF Tryz.func66 rfl rfl) rfl rfl (rLong_FS p hO i _)) ?_
      refine DK.vl rfl (zqc Tryz.func63 hwf) ?_
      repeat (first|refine DK.st rfl ?_|refine DK.nil ?_)
      repeat refine W.go rfl ?_
      refine (?_:W _ _ _ _ _)
      refine W.loop (fun j:Nat=>j≤wl.length) (fun j=>⟨[(0,.sc (.int .u8 s)),(2,.sc (.int .i64 i)),(4,.pt 0 0 0),(7,.sl 2),(8,.pt 1 0 0),(9,.sc (.int .i64 k)),(10,.ls 1 (wl.map eInt)),(11,.sc (.int .i64 j))],[(0,.box 29 (ePce p).cells),(1,.box 45 (eEv p.evs[i])),(2,.row 72 3 ((Xk++(wl.take j).map fun y=>((i:Int),p.evs[i].stops[k].1,y)).map eLk))],3⟩) (fun j=>wl.length - j) 0 (by omega) (zqu id (by repeat (first|exact trivial|refine ⟨⟨?_,?_,?_⟩,?_⟩|rfl|exact congrArg (fun r=>some (AO.row _ _ r)) (by simp))) rfl) fun j hj=>?_
      repeat (first|refine W.go rfl ?_|refine WL.ev rfl ?_|refine WL.len rfl rfl zql ?_)
      refine (?_:W _ _ _ _ _)
      (refine W.cond rfl (fun hif=>?_) (fun hif=>?_)<;>(try simp only [decide_eq_true_eq,decide_eq_false_iff_not,Int.not_lt,Int.not_le,Bool.not_eq_true',Bool.not_eq_false'] at hif))
      ·have hj2:j < wl.length:=by omega
       have hrw:(Xk++(wl.take j).map fun y=>((i:Int),p.evs[i].stops[k].1,y)).map eLk++[eLk ((i:Int),p.evs[i].stops[k].1,wl[j])]=(Xk++(wl.take (j+1)).map fun y=>((i:Int),p.evs[i].stops[k].1,y)).map eLk:=by
        rw [List.take_succ_eq_append_getElem hj2];simp only [List.map_append,List.append_assoc,List.map_cons,List.map_nil]
       repeat refine W.go rfl ?_
       refine (?_:W _ _ _ _ _)
       refine W.dm [0,1] zqk zqk zqk (by repeat constructor) ?_
       repeat (first|refine DMK.st rfl rfl ?_|refine DMK.idx rfl rfl zqo zqm ?_|refine DMK.s1 rfl zqk rfl ?_|refine DMK.bd rfl rfl rfl (by repeat constructor) ?_|refine DMK.ap rfl rfl zqs (by repeat constructor) ?_|refine DMK.nil ?_)
       repeat (first|refine W.go rfl ?_|refine WL.ev rfl ?_|refine WL.ar rfl rfl (by unfold I64;omega) ?_)
       exact ⟨j+1,by omega,by omega,zqu (fun q=>bif Nat.beq q 2 then 4 else q) (by repeat (first|exact trivial|refine ⟨⟨?_,?_,?_⟩,?_⟩|exact congrArg (fun r=>some (AO.row _ _ r)) hrw|rfl)) rfl⟩
      ·have hje:j=wl.length:=by omega
       subst hje
       have hrw:(Xk++(wl.take wl.length).map fun y=>((i:Int),p.evs[i].stops[k].1,y)).map eLk=(X (k+1)).map eLk:=by rw [List.take_length,hwe,hsx]
       repeat (first|refine W.go rfl ?_|refine WL.ev rfl ?_|refine WL.ar rfl rfl (by unfold I64;omega) ?_)
       exact ⟨k+1,by omega,by omega,zqu id (by repeat (first|exact trivial|refine ⟨⟨?_,?_,?_⟩,?_⟩|rfl|exact congrArg (fun r=>some (AO.row _ _ r)) hrw)) rfl⟩
     have hke:k=p.evs[i].stops.length:=by omega
     subst hke
     repeat refine W.go rfl ?_
     refine (?_:W _ _ _ _ _)
     refine W.tr (Tr.freeze 2 rfl) ?_
     refine W.ret (fin1 rfl rfl ?_ rfl)
     show AV.ls 3 ((X p.evs[i].stops.length).map eLk)=_
     rw [hXe]
end Go.Proofs.YtaeelcfjkhfpkaaGreat
