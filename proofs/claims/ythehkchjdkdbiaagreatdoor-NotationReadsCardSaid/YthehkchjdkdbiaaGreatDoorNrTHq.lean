/- The reader of the reference: the lines of a chord's words; a stop is put in its place. -/
import Derived.Test.YthehkchjdkdbiaaGreatDoorNrWHq
import Derived.Test.YthehkchjdkdbiaaGreatDoorNrKHq
set_option maxHeartbeats 4000000
set_option maxRecDepth 100000
set_option linter.unusedVariables false
set_option linter.unusedSimpArgs false
namespace Go.Proofs.YthehkchjdkdbiaaGreatDoor
open Go.RowKit
theorem rStaff_FS (cs:List Crs) (st:List Int) (hcs:cs.length≤64):Ctr Tryz.prog 201 [.ag (eIns cs st)] (.sc (.int .i64 (min cs.length 6:Nat))):=by
 have hml:(cs.map eCrs).length=cs.length:=List.length_map _
 unfold eIns
 obtain ⟨R,hR⟩:∃ z,cs.map eCrs=z:=⟨_,rfl⟩
 rw [hR] at hml ⊢
 refine zqe Tryz.func201 Tryz.ntmps201 fun w0 F0=>?_;dsimp only [St.init,number,Nat.reduceAdd]
 refine zqg38 ?_
 refine WL.mm rfl rfl (z':=((min cs.length 6:Nat):Int)) (by split<;>omega) ?_
 refine zqg38 ?_
 exact W.ret zqr
def rf_spot(s n mm i:Int):Int:=if n<(if s=2 then mm-i else i+1)then 0 else(if s=2 then mm-i else i+1)
def rf_spots (s n:Int)(mm k:Nat):List Int:=(List.range k).map fun i:Nat=>rf_spot s n mm (i:Int)
def rf_bad(s:Int)(n mm:Nat):Prop:=mm<n∨mm=0∨(s=3∧n<mm)
instance (s:Int)(n mm:Nat):Decidable (rf_bad s n mm):=by unfold rf_bad;exact inferInstance
theorem rf_spots_len(s n:Int)(mm k:Nat):(rf_spots s n mm k).length=k:=by unfold rf_spots;simp
theorem rSpots_FS (s:Int) (hs:1≤s∧s≤4) (cs:List Crs) (st:List Int) (hcs:cs.length≤64) (mm:Nat) (hW:mm≤400000) :
  Ctr Tryz.prog 228 [.sc (.int .u8 s),.ag (eIns cs st),.sc (.int .i64 (mm:Int))] (.tu [.ls 1 ((if rf_bad s (nr_staff s cs) mm then [] else rf_spots s (nr_staff s cs) mm mm).map eInt),.sc (.bool (decide (¬ rf_bad s (nr_staff s cs) mm)))]):=by
 have hSt:=rStaff_FS cs st hcs
 have n6:=(nr_staff_bd s cs).1
 have n4:=(nr_staff_bd s cs).2
 have hmin:s≠4→((min cs.length 6:Nat):Int)=(nr_staff s cs:Int):=fun h=>by unfold nr_staff;rw [if_neg h]
 obtain ⟨n,hn⟩:∃ z,nr_staff s cs=z:=⟨_,rfl⟩
 rw [hn] at n6 n4 hmin ⊢
 unfold eIns at hSt ⊢
 refine zqe Tryz.func228 Tryz.ntmps228 fun w0 F0=>?_;dsimp only [St.init,number,Nat.reduceAdd]
 refine zqg39 ?_
 refine WL.vl rfl (zqc Tryz.func201 hSt) ?_
 refine zqg39 ?_
 refine W.meet ⟨[(0,.sc (.int .u8 s)),(2,.sc (.int .i64 (mm:Int))),(9,.sc (.int .i64 (n:Int))),(8,.sc (.slice none 0 0))],[],1⟩ ?_ ?_
 ·by_cases s4:s=4
  ·rw [decide_eq_true s4]
   have:=n4 s4
   subst this
   refine zqg39 ?_
   refine (?_:Tr _ _ _)
   exact (zqt id)
  ·rw [decide_eq_false s4]
   rw [hmin s4]
   refine zqg39 ?_
   refine (?_:Tr _ _ _)
   exact (zqt id)
 clear hmin n4 hSt
 by_cases hb:rf_bad s n mm
 ·rw [if_pos hb,decide_eq_false (fun h=>h hb)]
  by_cases h1:mm < n
  ·refine zqg39 ?_
   refine W.tr (Tr.nilR (t:=6) 1 rfl) ?_
   exact W.ret (finN rfl rfl rfl rfl)
  by_cases h2:mm=0
  ·refine zqg39 ?_
   refine W.tr (Tr.nilR (t:=6) 1 rfl) ?_
   exact W.ret (finN rfl rfl rfl rfl)
  have h3:s=3∧n < mm:=by
   rcases hb with h|h|h
   ·exact absurd h h1
   ·exact absurd h h2
   ·exact h
  obtain ⟨h3,h4⟩:=h3
  subst h3
  refine zqg39 ?_
  refine W.tr (Tr.nilR (t:=6) 1 rfl) ?_
  exact W.ret (finN rfl rfl rfl rfl)
 rw [if_neg hb,decide_eq_true hb]
 have h1:¬ mm < n:=fun h=>hb (.inl h)
 have h2:¬ mm=0:=fun h=>hb (.inr (.inl h))
 have h3:¬ (s=3∧n < mm):=fun h=>hb (.inr (.inr h))
 refine W.seq ?_
 refine W.meet ⟨[(0,.sc (.int .u8 s)),(2,.sc (.int .i64 (mm:Int))),(9,.sc (.int .i64 (n:Int))),(8,.sc (.slice none 0 0))],[],1⟩ ?_ ?_
 ·by_cases s3:s=3
  ·have:¬ n < mm:=fun h=>h3 ⟨s3,h⟩
   subst s3
   refine zqg39 ?_
   refine (?_:Tr _ _ _)
   exact (zqt id)
  ·refine zqg39 ?_
   refine (?_:Tr _ _ _)
   exact (zqt id)
 refine zqg39 ?_
 refine W.tr (Tr.nil (t:=8) 3 1 rfl rfl) ?_
 refine W.loop (fun k:Nat=>k≤mm) (fun k=>⟨[(0,.sc (.int .u8 s)),(2,.sc (.int .i64 (mm:Int))),(9,.sc (.int .i64 (n:Int))),(8,.sl 1),(10,.sc (.int .i64 (k:Int)))],[(1,.row 3 1 ((rf_spots s n mm k).map eInt))],2⟩) (fun k=>mm - k) 0 zqo (zqt id) fun k hk=>?_
 have hlen:((rf_spots s n mm k).map eInt).length=k:=by rw [List.length_map,rf_spots_len]
 by_cases hlt:k < mm
 ·have hrow:(rf_spots s n mm (k+1)).map eInt=(rf_spots s n mm k).map eInt++[[.sc (.int .i64 (rf_spot s n mm k))]]:=by
   unfold rf_spots
   rw [List.range_succ,List.map_append,List.map_append];rfl
  obtain ⟨R,hR⟩:∃ z,(rf_spots s n mm k).map eInt=z:=⟨_,rfl⟩
  rw [hR] at hrow hlen ⊢
  unfold rf_spot at hrow
  by_cases s2:s=2
  ·rw [if_pos s2] at hrow
   by_cases h4:(n:Int) < (mm:Int) - (k:Int)
   ·rw [if_pos h4] at hrow
    subst s2
    refine zqg39 ?_
    refine ⟨k+1,by omega,by omega,?_⟩
    rw [hrow]
    exact (zqu (fun q=>bif Nat.beq q 1 then 3 else q) (by repeat (first|exact trivial|refine ⟨⟨?_,?_,?_⟩,?_⟩|rfl|exact congrArg (fun q=>some (AO.row _ _ q)) (by first|rfl|(simp;done)|(simp [eInt];done)|(simp [eLk];done)))) rfl)
   ·rw [if_neg h4] at hrow
    subst s2
    refine zqg39 ?_
    refine ⟨k+1,by omega,by omega,?_⟩
    rw [hrow]
    exact (zqu (fun q=>bif Nat.beq q 1 then 3 else q) (by repeat (first|exact trivial|refine ⟨⟨?_,?_,?_⟩,?_⟩|rfl|exact congrArg (fun q=>some (AO.row _ _ q)) (by first|rfl|(simp;done)|(simp [eInt];done)|(simp [eLk];done)))) rfl)
  ·rw [if_neg s2] at hrow
   by_cases h4:(n:Int) < (k:Int)+1
   ·rw [if_pos h4] at hrow
    refine zqg39 ?_
    refine ⟨k+1,by omega,by omega,?_⟩
    rw [hrow]
    exact (zqu (fun q=>bif Nat.beq q 1 then 3 else q) (by repeat (first|exact trivial|refine ⟨⟨?_,?_,?_⟩,?_⟩|rfl|exact congrArg (fun q=>some (AO.row _ _ q)) (by first|rfl|(simp;done)|(simp [eInt];done)|(simp [eLk];done)))) rfl)
   ·rw [if_neg h4] at hrow
    refine zqg39 ?_
    refine ⟨k+1,by omega,by omega,?_⟩
    rw [hrow]
    exact (zqu (fun q=>bif Nat.beq q 1 then 3 else q) (by repeat (first|exact trivial|refine ⟨⟨?_,?_,?_⟩,?_⟩|rfl|exact congrArg (fun q=>some (AO.row _ _ q)) (by first|rfl|(simp;done)|(simp [eInt];done)|(simp [eLk];done)))) rfl)
 obtain rfl:k=mm:=by omega
 refine zqg39 ?_
 refine W.tr (Tr.freeze 1 rfl) ?_
 exact W.ret (finN rfl rfl rfl rfl)
def rf_ins1:List Stp→Stp→List Stp
 | [],x=>[x]
 | y::r,x=>if y.1<x.1 then y::rf_ins1 r x else x::y::r
theorem rf_ins1_at:∀ {l:List Stp} {x:Stp} {k:Nat},k≤l.length→(∀ j (h:j<l.length),j<k→l[j].1<x.1)→(∀ h:k<l.length,¬ l[k].1<x.1)→rf_ins1 l x=l.take k++x::l.drop k
 | [],x,k,hk,_,_=>by
  have:k=0:=by simpa using hk
  subst this;rfl
 | y::r,x,0,_,_,h2=>by
  have h2:¬ y.1<x.1:=h2 (by simp)
  unfold rf_ins1
  rw [if_neg h2];rfl
 | y::r,x,k+1,hk,h1,h2=>by
  have h0:=h1 0 (by simp) (by omega)
  simp only [List.getElem_cons_zero]at h0
  unfold rf_ins1
  rw [if_pos h0,rf_ins1_at (k:=k) (by simpa using hk) (fun j hj hjk=>by
   have:=h1 (j+1) (by simpa using hj) (by omega)
   simpa using this) (fun h=>by
   have:=h2 (by simpa using h)
   simpa using this)]
  rfl
end Go.Proofs.YthehkchjdkdbiaaGreatDoor
