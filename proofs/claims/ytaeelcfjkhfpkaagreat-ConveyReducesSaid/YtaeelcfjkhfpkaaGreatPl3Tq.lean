/- Symbol and Place of the program, in one system. -/
import Derived.Test.YtaeelcfjkhfpkaaGreatPLgTq
import Derived.Test.YtaeelcfjkhfpkaaGreatSpTq
set_option maxHeartbeats 1600000
set_option maxRecDepth 100000
set_option linter.unusedVariables false
set_option linter.unusedSimpArgs false
namespace Go.Proofs.YtaeelcfjkhfpkaaGreat
section
open Go.RowKit
def fretsOf (cs:List (Int×Int×Bool)) (c:Int):Int:=(cs.getD (c.toNat-1) (0,0,false)).2.1
def stopE(p:Pce)(i:Int)(s:Stp)(last:Int):Int :=
 if s.1<1∨(p.cs.length:Int)<s.1 then 12
 else if s.2.1<0∨fretsOf p.cs s.1<s.2.1 then 13
 else if s.1≤last then 22
 else if(s.2.2.1<0∨3<s.2.2.1)∨(s.2.2.2.1<0∨4<s.2.2.2.1)then 23
 else if(s.2.2.2.2<0∨(longestN p.evs i s.1:Int)<s.2.2.2.2)∨(0<s.2.2.2.2∧s.2.1=0)then 24
 else 0
def stopsE(p:Pce)(i:Int):Int→List Stp→Int
 | _,[]=>0
 | last,s::r=>if stopE p i s last≠0 then stopE p i s last else stopsE p i s.1 r
def evE(p:Pce)(i:Int)(e:Ev):Int :=
 if sgOk e.val e.dot e.three=false∨(i=0∧e.val=0)then 20
 else if e.tie=true∧(0<e.stops.length∨i=0)then 21
 else stopsE p i 0 e.stops
def evsE (p:Pce):Nat→List Ev→Int
 | _,[]=>0
 | i,e::r=>if evE p i e≠0 then evE p i e else evsE p (i+1) r
def pceE(p:Pce):Int:=if insE p.cs p.st≠0 then insE p.cs p.st else if 400<p.evs.length then 2 else evsE p 0 p.evs
theorem stopsE_at {p:Pce} {i last:Int} {l:List Stp} {k:Nat} (h:k<l.length):stopsE p i last (l.drop k)=if stopE p i l[k] last≠0 then stopE p i l[k] last else stopsE p i l[k].1 (l.drop (k+1)):=by
 rw [List.drop_eq_getElem_cons h];rfl
theorem evsE_at {p:Pce} {l:List Ev} {k:Nat} (h:k<l.length):evsE p k (l.drop k)=if evE p k l[k]≠0 then evE p k l[k]else evsE p (k+1) (l.drop (k+1)):=by
 rw [List.drop_eq_getElem_cons h];rfl
section
variable {p:Pce} {i last:Int} {s:Stp}
theorem stopE_crs(h:s.1<1∨(p.cs.length:Int)<s.1):stopE p i s last=12:=if_pos h
theorem stopE_fret(h:¬ (s.1<1∨(p.cs.length:Int)<s.1))(h1:s.2.1<0∨fretsOf p.cs s.1<s.2.1):stopE p i s last=13:=by unfold stopE;rw [if_neg h,if_pos h1]
theorem stopE_order(h:¬ (s.1<1∨(p.cs.length:Int)<s.1))(h1:¬ (s.2.1<0∨fretsOf p.cs s.1<s.2.1))(h2:s.1≤last):stopE p i s last=22:=by unfold stopE;rw [if_neg h,if_neg h1,if_pos h2]
theorem stopE_mark(h:¬ (s.1<1∨(p.cs.length:Int)<s.1))(h1:¬ (s.2.1<0∨fretsOf p.cs s.1<s.2.1))(h2:¬ s.1≤last)(h3:(s.2.2.1<0∨3<s.2.2.1)∨(s.2.2.2.1<0∨4<s.2.2.2.1)):stopE p i s last=23:=by unfold stopE;rw [if_neg h,if_neg h1,if_neg h2,if_pos h3]
theorem stopE_hold(h:¬ (s.1<1∨(p.cs.length:Int)<s.1))(h1:¬ (s.2.1<0∨fretsOf p.cs s.1<s.2.1))(h2:¬ s.1≤last)(h3:¬ ((s.2.2.1<0∨3<s.2.2.1)∨(s.2.2.2.1<0∨4<s.2.2.2.1)))
  (h4:(s.2.2.2.2<0∨(longestN p.evs i s.1:Int)<s.2.2.2.2)∨(0<s.2.2.2.2∧s.2.1=0)):stopE p i s last=24:=by unfold stopE;rw [if_neg h,if_neg h1,if_neg h2,if_neg h3,if_pos h4]
theorem stopE_ok(h:¬ (s.1<1∨(p.cs.length:Int)<s.1))(h1:¬ (s.2.1<0∨fretsOf p.cs s.1<s.2.1))(h2:¬ s.1≤last)(h3:¬ ((s.2.2.1<0∨3<s.2.2.1)∨(s.2.2.2.1<0∨4<s.2.2.2.1)))
  (h4:¬ ((s.2.2.2.2<0∨(longestN p.evs i s.1:Int)<s.2.2.2.2)∨(0<s.2.2.2.2∧s.2.1=0))):stopE p i s last=0:=by unfold stopE;rw [if_neg h,if_neg h1,if_neg h2,if_neg h3,if_neg h4]
end
theorem fretsOf_at {cs:List (Int×Int×Bool)} {q:Nat} (h:q<cs.length):fretsOf cs ((q:Int)+1)=cs[q].2.1:=by
 unfold fretsOf
 have:((q:Int)+1).toNat-1=q:=by omega
 rw [this,List.getD_eq_getElem?_getD,List.getElem?_eq_getElem h];rfl
end
section
open Go.RowKit
theorem pceE_ins {p:Pce} (h:insE p.cs p.st≠0):pceE p=insE p.cs p.st:=if_pos h
theorem pceE_many {p:Pce} (h:¬ insE p.cs p.st≠0)(h1:400<p.evs.length):pceE p=2:=by unfold pceE;rw [if_neg h,if_pos h1]
theorem pceE_evs {p:Pce} (h:¬ insE p.cs p.st≠0)(h1:¬ 400<p.evs.length):pceE p=evsE p 0 p.evs:=by unfold pceE;rw [if_neg h,if_neg h1]
end
section
open Go.RowKit
attribute [local go_sem]mk_bs bs_size bs_toList bs_append bs_extract
attribute [local simp]run_cut run_cut_to run_cut_from run_add_bs
theorem of_1 (w:World):Calls Tryz.prog 92 #[.int .u8 1] w fun e w'=>e=.returned (.tuple #[(.iface 167 (.agg #[])),.bool true])∧w=w':=by
 go_enter Tryz.func92,Tryz.ntmps92
 go_wp2
 go_ret2
 exact⟨rfl,rfl⟩
end
section
open Go.RowKit
attribute [local go_sem]mk_bs bs_size bs_toList bs_append bs_extract
attribute [local simp]run_cut run_cut_to run_cut_from run_add_bs
theorem of_2 (w:World):Calls Tryz.prog 92 #[.int .u8 2] w fun e w'=>e=.returned (.tuple #[(.iface 171 (.agg #[])),.bool true])∧w=w':=by
 go_enter Tryz.func92,Tryz.ntmps92
 go_wp2
 go_ret2
 exact⟨rfl,rfl⟩
end
section
open Go.RowKit
attribute [local go_sem]mk_bs bs_size bs_toList bs_append bs_extract
attribute [local simp]run_cut run_cut_to run_cut_from run_add_bs
theorem of_3 (w:World):Calls Tryz.prog 92 #[.int .u8 3] w fun e w'=>e=.returned (.tuple #[(.iface 173 (.agg #[])),.bool true])∧w=w':=by
 go_enter Tryz.func92,Tryz.ntmps92
 go_wp2
 go_ret2
 exact⟨rfl,rfl⟩
end
end Go.Proofs.YtaeelcfjkhfpkaaGreat
