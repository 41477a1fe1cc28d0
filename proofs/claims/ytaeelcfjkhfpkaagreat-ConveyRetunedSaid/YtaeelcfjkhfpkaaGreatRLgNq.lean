/- How long a note may be held: the reference. -/
import Derived.Test.YtaeelcfjkhfpkaaGreatPiePNq
import Derived.Test.YtaeelcfjkhfpkaaGreatProg
set_option maxHeartbeats 1600000
set_option maxRecDepth 100000
set_option linter.unusedVariables false
set_option linter.unusedSimpArgs false
namespace Go.Proofs.YtaeelcfjkhfpkaaGreat
open Go.RowKit
theorem rRest_any (e:Ev)(S:Option Addr)(c:Nat)(w:World):Calls Tryz.prog 64 #[evVal e S c] w (Ret (.bool (restB e)) w):=by
 obtain⟨bar,val,dot,three,tie,stops⟩:=e
 unfold evVal restB
 simp only
 generalize stops.length=n
 cases tie
 all_goals
  cases hn:((n:Int) == 0)
  all_goals
   have hn2:(n == 0)=((n:Int) == 0):=by rw [Bool.eq_iff_iff];simp
   rw [hn2,hn]
   clear hn2
   go_enter Tryz.func64,Tryz.ntmps64
   go_wp2
   go_ret
   exact Ret.mk' rfl zqb
theorem rHas_any (e:Ev) (S:Option Addr) (c:Nat) (x:Int) (w:World) (hS:StpsAt w w.heap.size S e.stops) (hn:e.stops.length≤20):Calls Tryz.prog 115 #[evVal e S c,.int .i64 x] w (Ret (.bool (hasB x e.stops)) w):=by
 obtain ⟨bar,val,dot,three,tie,stops⟩:=e
 unfold evVal
 simp only at *
 have HS:=Lib.hid hS
 obtain ⟨n,hnn⟩:∃ n,stops.length=n:=⟨_,rfl⟩
 rw [hnn] at hn ⊢
 have HN:=Lib.hid hnn
 obtain ⟨V,hV⟩:∃ V,hasB x stops=V:=⟨_,rfl⟩
 rw [hV]
 have HV:=Lib.hid hV
 clear hV hnn hS
 go_enter Tryz.func115,Tryz.ntmps115
 go_wp2
 go_loop [5] (fun i=>∃ k:Nat,k≤n∧i=.int .i64 k∧V=hasB x (stops.drop k)) (fun i=>n - (intOf i).toNat)
 case atStart=>exact ⟨0,Nat.zero_le _,rfl,HV.out.symm⟩
 case round =>
  obtain ⟨k,hk,rfl,hs⟩:=hrel
  have HR:=Lib.hid hs
  clear hs
  by_cases hlt:k < n
  ·have hk2:k < stops.length:=by have:=HN.out;omega
   obtain ⟨ad,hA,hb,hc,_⟩:=HS.out.stp hk2
   subst hA
   have hs2:=HR.out.trans (any_at hk2)
   generalize stops[k].1=y at hc hs2
   have hc2:∀ o:Obj,(w.alloc o).cell? (ad.add (k*5))=some (.int .i64 y):=fun o=>by
    rw [World.cell?_alloc_lt _ _ _ (by rw [block_of_add];omega),hc]
   clear hc
   cases hyx:(y == x)
   ·have HR2:=Lib.hid (hs2.trans (show _=hasB x (stops.drop (k+1)) by rw [hyx];rfl))
    clear hs2
    go_wp2
    go_round
    case rel=>exact ⟨k+1,by omega,by go_num,HR2.out⟩
    case measure=>simp [intOf];omega
   ·have HE:=Lib.hid (hs2.trans (show _=true by rw [hyx];rfl))
    clear hs2
    go_wp2
    go_ret
    exact Ret.mk' (by rw [HE.out];rfl) zqb
  ·have HE:=Lib.hid (HR.out.trans (show hasB x (stops.drop k)=false from by rw [List.drop_eq_nil_of_le (by have:=HN.out;omega)];rfl))
   go_wp2
   go_ret
   exact Ret.mk' (by rw [HE.out];rfl) zqb
theorem longestN_out {evs:List Ev} {i c:Int} (h:i<0∨(evs.length:Int)≤i):longestN evs i c=0:=if_pos h
theorem longestN_in {evs:List Ev} {i:Nat} {c:Int} (h:i<evs.length):longestN evs i c=runL c 15 (evs.drop (i+1)):=by unfold longestN;rw [if_neg (by omega)];simp
structure PcOk(p:Pce):Prop where
 n1:p.cs.length≤64
 n2:p.st.length≤64
 n3:p.evs.length≤420
 n4:∀ k(h:k<p.evs.length),p.evs[k].stops.length≤20
theorem rLongest_any (M:PM) (p:Pce) (i x:Int) (w:World) (hP:PcAt w w.heap.size M p) (hO:PcOk p) :
  Calls Tryz.prog 66 #[pcValue M p,.int .i64 i,.int .i64 x] w (Ret (.int .i64 (longestN p.evs i x)) w):=by
 obtain ⟨A1,A2,A3,c1,c2,c3⟩:=M
 obtain ⟨cs,st,evs⟩:=p
 unfold pcValue
 have HP:=Lib.hid hP.2.1
 have H4:=Lib.hid hO.n4
 have hn3:=hO.n3
 simp only at *
 generalize cs.length=n1
 generalize st.length=n2
 obtain ⟨n3,hnn⟩:∃ n,evs.length=n:=⟨_,rfl⟩
 rw [hnn] at hn3 ⊢
 have HN:=Lib.hid hnn
 by_cases hi0:i < 0
 ·rw [longestN_out (.inl hi0)]
  clear hnn hP hO
  go_enter Tryz.func66,Tryz.ntmps66
  go_wp2
  go_ret
  exact Ret.mk' rfl zqb
 ·by_cases hi1:(n3:Int)≤i
  ·rw [longestN_out (.inr (by omega))]
   clear hnn hP hO
   go_enter Tryz.func66,Tryz.ntmps66
   go_wp2
   go_ret
   exact Ret.mk' rfl zqb
  ·obtain ⟨j,rfl⟩:∃ j:Nat,i=j:=⟨i.toNat,by omega⟩
   have hj:j < n3:=by omega
   have d1:decide ((j:Int) < 0)=false:=decide_eq_false zqo
   have d2:decide ((n3:Int)≤(j:Int))=false:=decide_eq_false zqo
   have d3:decide (n3≤j)=false:=decide_eq_false zqo
   rw [longestN_in (by omega)]
   obtain ⟨V,hV⟩:∃ V,runL x 15 (evs.drop (j+1))=V:=⟨_,rfl⟩
   rw [hV]
   have HV:=Lib.hid hV
   clear hV hnn hP hO hi0 hi1
   go_enter Tryz.func66,Tryz.ntmps66
   go_wp2
   go_loopw [7] (fun v wr=>∃ h:Nat,h≤15∧j+1+h≤n3∧v=.int .i64 h∧V=h+runL x (15 - h) (evs.drop (j+1+h))∧Below w.heap.size w wr∧Blk wr w.heap.size 29 #[.slice A1 n1 c1,.slice A2 n2 c2,.slice A3 n3 c3])
    (fun v _=>15 - (intOf v).toNat)
   case atStart=>exact ⟨0,by omega,by omega,rfl,by simpa using HV.out.symm,zqb,Blk.new _ _ _⟩
   case round =>
    obtain ⟨h,hh,hjh,rfl,hs,hbel,hblk⟩:=hrel
    have HR:=Lib.hid hs
    have HB:=Lib.hid hblk
    have hlt:w.heap.size < wr.heap.size:=hblk.lt
    have q0:wr.cell? ⟨w.heap.size,0,none⟩=some (.slice A1 n1 c1):=hblk.cell 0
    have q1:wr.cell? ⟨w.heap.size,1,none⟩=some (.slice A2 n2 c2):=hblk.cell 1
    have q2:wr.cell? ⟨w.heap.size,2,none⟩=some (.slice A3 n3 c3):=hblk.cell 2
    clear hs hblk
    by_cases h15:h < 15
    ·by_cases hin:j+h+1 < n3
     ·have hk2:j+h+1 < evs.length:=by have:=HN.out;omega
      have HE:=Lib.hid (HP.out.below hbel)
      obtain ⟨ad,S,c,hA,hb,e0,e1,e2,e3,e4,e5,hS⟩:=HE.out.ev hk2
      subst hA
      have hs2:=HR.out
      rw [show j+1+h=j+h+1 from by omega] at hs2
      have HS:=Lib.hid hS
      have H20:=H4.out _ hk2
      have hinI:(j:Int)+h+1 < n3:=by omega
      have hidx:((j:Int)+h+1).toNat=j+h+1:=by omega
      have HS2:=Lib.hid (fun (w':World) (hb:Below wr.heap.size wr w')=>((HS.out.more hbel.size).after hb))
      have HC:(V=h∧(restB evs[j+h+1]=true∨(restB evs[j+h+1]=false∧hasB x evs[j+h+1].stops=true)))∨(V=(h+1)+runL x (15 - (h+1)) (evs.drop (j+1+(h+1)))∧restB evs[j+h+1]=false∧hasB x evs[j+h+1].stops=false):=by
       cases hr:restB evs[j+h+1]
       ·cases hq:hasB x evs[j+h+1].stops
        ·refine .inr ⟨?_,rfl,rfl⟩
         rw [hs2,show 15 - h=(15 - (h+1))+1 from by omega,runL_step hk2 (by rw [hr,hq];rfl),show j+1+(h+1)=j+h+1+1 from by omega]
         omega
        ·exact .inl ⟨by rw [hs2,runL_stop hk2 (by rw [hr,hq];rfl)];rfl,.inr ⟨rfl,rfl⟩⟩
       ·exact .inl ⟨by rw [hs2,runL_stop hk2 (by rw [hr];rfl)];rfl,.inl rfl⟩
      clear hs2 hS
      obtain ⟨e,he⟩:∃ e,evs[j+h+1]=e:=⟨_,rfl⟩
      rw [he] at e0 e1 e2 e3 e4 e5 H20 HC
      rw [he] at HS2
      have R:=fun w=>rRest_any e S c w
      have HH:=fun w hS=>rHas_any e S c x w hS H20
      rcases HC with ⟨hv,hr|⟨hr,hq⟩⟩|⟨hv,hr,hq⟩
      ·rw [hr] at R
       have KR:=Lib.hid R
       have HE2:=Lib.hid hv
       clear R HH hv he hr H20
       go_wp2_with (go_at_call 64;refine (KR.out _).mono ?_;rintro e' w1 ⟨rfl,hb1⟩;have k1:=(Blk.new _ _ _).after hb1;have x0:w1.cell? ⟨wr.heap.size,0,none⟩=some (.bool e.bar):=k1.cell 0;have x1:w1.cell? ⟨wr.heap.size,1,none⟩=some (.int .i64 e.val):=k1.cell 1;have x2:w1.cell? ⟨wr.heap.size,2,none⟩=some (.bool e.dot):=k1.cell 2;have x3:w1.cell? ⟨wr.heap.size,3,none⟩=some (.bool e.three):=k1.cell 3;have x4:w1.cell? ⟨wr.heap.size,4,none⟩=some (.bool e.tie):=k1.cell 4;have x5:w1.cell? ⟨wr.heap.size,5,none⟩=some (.slice S e.stops.length c):=k1.cell 5;clear k1)
       go_ret
       exact Ret.mk' (by rw [HE2.out];rfl) zqb
      ·rw [hr] at R
       rw [hq] at HH
       have KR:=Lib.hid R
       have KH:=Lib.hid HH
       have HE2:=Lib.hid hv
       clear R HH hv he hr hq H20
       go_wp2_with (first|(go_at_call 64;refine (KR.out _).mono ?_;rintro e' w1 ⟨rfl,hb1⟩;have k1:=(Blk.new _ _ _).after hb1;have x0:w1.cell? ⟨wr.heap.size,0,none⟩=some (.bool e.bar):=k1.cell 0;have x1:w1.cell? ⟨wr.heap.size,1,none⟩=some (.int .i64 e.val):=k1.cell 1;have x2:w1.cell? ⟨wr.heap.size,2,none⟩=some (.bool e.dot):=k1.cell 2;have x3:w1.cell? ⟨wr.heap.size,3,none⟩=some (.bool e.three):=k1.cell 3;have x4:w1.cell? ⟨wr.heap.size,4,none⟩=some (.bool e.tie):=k1.cell 4;have x5:w1.cell? ⟨wr.heap.size,5,none⟩=some (.slice S e.stops.length c):=k1.cell 5;clear k1)|(go_at_call 115;refine (KH.out _ (HS2.out _ zqb)).mono ?_;rintro e' w2 ⟨rfl,hb2⟩))
       go_ret
       exact Ret.mk' (by rw [HE2.out];rfl) zqb
      ·rw [hr] at R
       rw [hq] at HH
       have KR:=Lib.hid R
       have KH:=Lib.hid HH
       have HE2:=Lib.hid hv
       clear R HH hv he hr hq H20
       go_wp2_with (first|(go_at_call 64;refine (KR.out _).mono ?_;rintro e' w1 ⟨rfl,hb1⟩;have k1:=(Blk.new _ _ _).after hb1;have x0:w1.cell? ⟨wr.heap.size,0,none⟩=some (.bool e.bar):=k1.cell 0;have x1:w1.cell? ⟨wr.heap.size,1,none⟩=some (.int .i64 e.val):=k1.cell 1;have x2:w1.cell? ⟨wr.heap.size,2,none⟩=some (.bool e.dot):=k1.cell 2;have x3:w1.cell? ⟨wr.heap.size,3,none⟩=some (.bool e.three):=k1.cell 3;have x4:w1.cell? ⟨wr.heap.size,4,none⟩=some (.bool e.tie):=k1.cell 4;have x5:w1.cell? ⟨wr.heap.size,5,none⟩=some (.slice S e.stops.length c):=k1.cell 5;clear k1)|(go_at_call 115;refine (KH.out _ (HS2.out _ zqb)).mono ?_;rintro e' w2 ⟨rfl,hb2⟩))
       go_roundw
       case rel=>exact ⟨h+1,by omega,by omega,by go_num,HE2.out,zqb,((HB.out.alloc _).after hb1).after hb2⟩
       case measure=>simp [intOf];omega
     ·have HE:=Lib.hid (HR.out.trans (show h+runL x (15 - h) (evs.drop (j+1+h))=h from by rw [List.drop_eq_nil_of_le (by have:=HN.out;omega),runL_nil];rfl))
      have hinI:¬ (j:Int)+h+1 < n3:=by omega
      go_wp2
      go_ret
      exact Ret.mk' (by rw [HE.out];rfl) zqb
    ·have HE:=Lib.hid (HR.out.trans (show h+runL x (15 - h) (evs.drop (j+1+h))=h from by rw [show 15 - h=0 from by omega];rfl))
     go_wp2
     go_ret
     exact Ret.mk' (by rw [HE.out];rfl) zqb
end Go.Proofs.YtaeelcfjkhfpkaaGreat
