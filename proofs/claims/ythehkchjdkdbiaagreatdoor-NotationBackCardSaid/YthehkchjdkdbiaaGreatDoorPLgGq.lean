/- How long a note may be held: the program. -/
import Derived.Test.YthehkchjdkdbiaaGreatDoorE1Gq
import Derived.Test.YthehkchjdkdbiaaGreatDoorProg
set_option maxHeartbeats 1600000
set_option maxRecDepth 100000
set_option linter.unusedVariables false
set_option linter.unusedSimpArgs false
namespace Go.Proofs.YthehkchjdkdbiaaGreatDoor
section
open Go.RowKit
theorem rRest_any (e:Ev)(S:Option Addr)(c:Nat)(w:World):Calls Tryz.prog 133 #[evVal e S c] w (Ret (.bool (restB e)) w):=by
 obtain⟨bar,val,dot,three,tie,stops⟩:=e
 unfold evVal restB
 simp only
 generalize stops.length=n
 cases tie
 all_goals
  cases hn:((n:Int) == 0)
  all_goals
   have hn2:(n == 0)=((n:Int) == 0):=by rw [Bool.eq_iff_iff];simp
   rw [hn2,hn]
   clear hn2
   go_enter Tryz.func133,Tryz.ntmps133
   go_wp2
   go_ret
   exact Ret.mk' rfl zqb
theorem rHas_any (e:Ev) (S:Option Addr) (c:Nat) (x:Int) (w:World) (hS:StpsAt w w.heap.size S e.stops) (hn:e.stops.length≤20):Calls Tryz.prog 170 #[evVal e S c,.int .i64 x] w (Ret (.bool (hasB x e.stops)) w):=by
 obtain ⟨bar,val,dot,three,tie,stops⟩:=e
 unfold evVal
 simp only at *
 have HS:=Lib.hid hS
 obtain ⟨n,hnn⟩:∃ n,stops.length=n:=⟨_,rfl⟩
 rw [hnn] at hn ⊢
 have HN:=Lib.hid hnn
 obtain ⟨V,hV⟩:∃ V,hasB x stops=V:=⟨_,rfl⟩
 rw [hV]
 have HV:=Lib.hid hV
 clear hV hnn hS
 go_enter Tryz.func170,Tryz.ntmps170
 go_wp2
 go_loop [5] (fun i=>∃ k:Nat,k≤n∧i=.int .i64 k∧V=hasB x (stops.drop k)) (fun i=>n - (intOf i).toNat)
 case atStart=>exact ⟨0,Nat.zero_le _,rfl,HV.out.symm⟩
 case round =>
  obtain ⟨k,hk,rfl,hs⟩:=hrel
  have HR:=Lib.hid hs
  clear hs
  by_cases hlt:k < n
  ·have hk2:k < stops.length:=by have:=HN.out;omega
   obtain ⟨ad,hA,hb,hc,_⟩:=HS.out.stp hk2
   subst hA
   have hs2:=HR.out.trans (any_at hk2)
   generalize stops[k].1=y at hc hs2
   have hc2:∀ o:Obj,(w.alloc o).cell? (ad.add (k*5))=some (.int .i64 y):=fun o=>by
    rw [World.cell?_alloc_lt _ _ _ (by rw [block_of_add];omega),hc]
   clear hc
   cases hyx:(y == x)
   ·have HR2:=Lib.hid (hs2.trans (show _=hasB x (stops.drop (k+1)) by rw [hyx];rfl))
    clear hs2
    go_wp2
    go_round
    case rel=>exact ⟨k+1,by omega,by go_num,HR2.out⟩
    case measure=>simp [intOf];omega
   ·have HE:=Lib.hid (hs2.trans (show _=true by rw [hyx];rfl))
    clear hs2
    go_wp2
    go_ret
    exact Ret.mk' (by rw [HE.out];rfl) zqb
  ·have HE:=Lib.hid (HR.out.trans (show hasB x (stops.drop k)=false from by rw [List.drop_eq_nil_of_le (by have:=HN.out;omega)];rfl))
   go_wp2
   go_ret
   exact Ret.mk' (by rw [HE.out];rfl) zqb
theorem longestN_out {evs:List Ev} {i c:Int} (h:i<0∨(evs.length:Int)≤i):longestN evs i c=0:=if_pos h
theorem longestN_in {evs:List Ev} {i:Nat} {c:Int} (h:i<evs.length):longestN evs i c=runL c 15 (evs.drop (i+1)):=by unfold longestN;rw [if_neg (by omega)];simp
structure PcOk(p:Pce):Prop where
 n1:p.cs.length≤64
 n2:p.st.length≤64
 n3:p.evs.length≤420
 n4:∀ k(h:k<p.evs.length),p.evs[k].stops.length≤20
theorem rLongest_any (M:PM) (p:Pce) (i x:Int) (w:World) (hP:PcAt w w.heap.size M p) (hO:PcOk p) :
  Calls Tryz.prog 102 #[pcValue M p,.int .i64 i,.int .i64 x] w (Ret (.int .i64 (longestN p.evs i x)) w):=by
 obtain ⟨A1,A2,A3,c1,c2,c3⟩:=M
 obtain ⟨cs,st,evs⟩:=p
 unfold pcValue
 have HP:=Lib.hid hP.2.1
 have H4:=Lib.hid hO.n4
 have hn3:=hO.n3
 simp only at *
 generalize cs.length=n1
 generalize st.length=n2
 obtain ⟨n3,hnn⟩:∃ n,evs.length=n:=⟨_,rfl⟩
 rw [hnn] at hn3 ⊢
 have HN:=Lib.hid hnn
 by_cases hi0:i < 0
 ·rw [longestN_out (.inl hi0)]
  clear hnn hP hO
  go_enter Tryz.func102,Tryz.ntmps102
  go_wp2
  go_ret
  exact Ret.mk' rfl zqb
 ·by_cases hi1:(n3:Int)≤i
  ·rw [longestN_out (.inr (by omega))]
   clear hnn hP hO
   go_enter Tryz.func102,Tryz.ntmps102
   go_wp2
   go_ret
   exact Ret.mk' rfl zqb
  ·obtain ⟨j,rfl⟩:∃ j:Nat,i=j:=⟨i.toNat,by omega⟩
   have hj:j < n3:=by omega
   have d1:decide ((j:Int) < 0)=false:=decide_eq_false zqo
   have d2:decide ((n3:Int)≤(j:Int))=false:=decide_eq_false zqo
   have d3:decide (n3≤j)=false:=decide_eq_false zqo
   rw [longestN_in (by omega)]
   obtain ⟨V,hV⟩:∃ V,runL x 15 (evs.drop (j+1))=V:=⟨_,rfl⟩
   rw [hV]
   have HV:=Lib.hid hV
   clear hV hnn hP hO hi0 hi1
   go_enter Tryz.func102,Tryz.ntmps102
   go_wp2
   go_loopw [7] (fun v wr=>∃ h:Nat,h≤15∧j+1+h≤n3∧v=.int .i64 h∧V=h+runL x (15 - h) (evs.drop (j+1+h))∧Below w.heap.size w wr∧Blk wr w.heap.size 30 #[.slice A1 n1 c1,.slice A2 n2 c2,.slice A3 n3 c3])
    (fun v _=>15 - (intOf v).toNat)
   case atStart=>exact ⟨0,by omega,by omega,rfl,by simpa using HV.out.symm,zqb,Blk.new _ _ _⟩
   case round =>
    obtain ⟨h,hh,hjh,rfl,hs,hbel,hblk⟩:=hrel
    have HR:=Lib.hid hs
    have HB:=Lib.hid hblk
    have hlt:w.heap.size < wr.heap.size:=hblk.lt
    have q0:wr.cell? ⟨w.heap.size,0,none⟩=some (.slice A1 n1 c1):=hblk.cell 0
    have q1:wr.cell? ⟨w.heap.size,1,none⟩=some (.slice A2 n2 c2):=hblk.cell 1
    have q2:wr.cell? ⟨w.heap.size,2,none⟩=some (.slice A3 n3 c3):=hblk.cell 2
    clear hs hblk
    by_cases h15:h < 15
    ·by_cases hin:j+h+1 < n3
     ·have hk2:j+h+1 < evs.length:=by have:=HN.out;omega
      have HE:=Lib.hid (HP.out.below hbel)
      obtain ⟨ad,S,c,hA,hb,e0,e1,e2,e3,e4,e5,hS⟩:=HE.out.ev hk2
      subst hA
      have hs2:=HR.out
      rw [show j+1+h=j+h+1 from by omega] at hs2
      have HS:=Lib.hid hS
      have H20:=H4.out _ hk2
      have hinI:(j:Int)+h+1 < n3:=by omega
      have hidx:((j:Int)+h+1).toNat=j+h+1:=by omega
      have HS2:=Lib.hid (fun (w':World) (hb:Below wr.heap.size wr w')=>((HS.out.more hbel.size).after hb))
      have HC:(V=h∧(restB evs[j+h+1]=true∨(restB evs[j+h+1]=false∧hasB x evs[j+h+1].stops=true)))∨(V=(h+1)+runL x (15 - (h+1)) (evs.drop (j+1+(h+1)))∧restB evs[j+h+1]=false∧hasB x evs[j+h+1].stops=false):=by
       cases hr:restB evs[j+h+1]
       ·cases hq:hasB x evs[j+h+1].stops
        ·refine .inr ⟨?_,rfl,rfl⟩
         rw [hs2,show 15 - h=(15 - (h+1))+1 from by omega,runL_step hk2 (by rw [hr,hq];rfl),show j+1+(h+1)=j+h+1+1 from by omega]
         omega
        ·exact .inl ⟨by rw [hs2,runL_stop hk2 (by rw [hr,hq];rfl)];rfl,.inr ⟨rfl,rfl⟩⟩
       ·exact .inl ⟨by rw [hs2,runL_stop hk2 (by rw [hr];rfl)];rfl,.inl rfl⟩
      clear hs2 hS
      obtain ⟨e,he⟩:∃ e,evs[j+h+1]=e:=⟨_,rfl⟩
      rw [he] at e0 e1 e2 e3 e4 e5 H20 HC
      rw [he] at HS2
      have R:=fun w=>rRest_any e S c w
      have HH:=fun w hS=>rHas_any e S c x w hS H20
      rcases HC with ⟨hv,hr|⟨hr,hq⟩⟩|⟨hv,hr,hq⟩
      ·rw [hr] at R
       have KR:=Lib.hid R
       have HE2:=Lib.hid hv
       clear R HH hv he hr H20
       go_wp2_with (go_at_call 133;refine (KR.out _).mono ?_;rintro e' w1 ⟨rfl,hb1⟩;have k1:=(Blk.new _ _ _).after hb1;have x0:w1.cell? ⟨wr.heap.size,0,none⟩=some (.bool e.bar):=k1.cell 0;have x1:w1.cell? ⟨wr.heap.size,1,none⟩=some (.int .i64 e.val):=k1.cell 1;have x2:w1.cell? ⟨wr.heap.size,2,none⟩=some (.bool e.dot):=k1.cell 2;have x3:w1.cell? ⟨wr.heap.size,3,none⟩=some (.bool e.three):=k1.cell 3;have x4:w1.cell? ⟨wr.heap.size,4,none⟩=some (.bool e.tie):=k1.cell 4;have x5:w1.cell? ⟨wr.heap.size,5,none⟩=some (.slice S e.stops.length c):=k1.cell 5;clear k1)
       go_ret
       exact Ret.mk' (by rw [HE2.out];rfl) zqb
      ·rw [hr] at R
       rw [hq] at HH
       have KR:=Lib.hid R
       have KH:=Lib.hid HH
       have HE2:=Lib.hid hv
       clear R HH hv he hr hq H20
       go_wp2_with (first|(go_at_call 133;refine (KR.out _).mono ?_;rintro e' w1 ⟨rfl,hb1⟩;have k1:=(Blk.new _ _ _).after hb1;have x0:w1.cell? ⟨wr.heap.size,0,none⟩=some (.bool e.bar):=k1.cell 0;have x1:w1.cell? ⟨wr.heap.size,1,none⟩=some (.int .i64 e.val):=k1.cell 1;have x2:w1.cell? ⟨wr.heap.size,2,none⟩=some (.bool e.dot):=k1.cell 2;have x3:w1.cell? ⟨wr.heap.size,3,none⟩=some (.bool e.three):=k1.cell 3;have x4:w1.cell? ⟨wr.heap.size,4,none⟩=some (.bool e.tie):=k1.cell 4;have x5:w1.cell? ⟨wr.heap.size,5,none⟩=some (.slice S e.stops.length c):=k1.cell 5;clear k1)|(go_at_call 170;refine (KH.out _ (HS2.out _ zqb)).mono ?_;rintro e' w2 ⟨rfl,hb2⟩))
       go_ret
       exact Ret.mk' (by rw [HE2.out];rfl) zqb
      ·rw [hr] at R
       rw [hq] at HH
       have KR:=Lib.hid R
       have KH:=Lib.hid HH
       have HE2:=Lib.hid hv
       clear R HH hv he hr hq H20
       go_wp2_with (first|(go_at_call 133;refine (KR.out _).mono ?_;rintro e' w1 ⟨rfl,hb1⟩;have k1:=(Blk.new _ _ _).after hb1;have x0:w1.cell? ⟨wr.heap.size,0,none⟩=some (.bool e.bar):=k1.cell 0;have x1:w1.cell? ⟨wr.heap.size,1,none⟩=some (.int .i64 e.val):=k1.cell 1;have x2:w1.cell? ⟨wr.heap.size,2,none⟩=some (.bool e.dot):=k1.cell 2;have x3:w1.cell? ⟨wr.heap.size,3,none⟩=some (.bool e.three):=k1.cell 3;have x4:w1.cell? ⟨wr.heap.size,4,none⟩=some (.bool e.tie):=k1.cell 4;have x5:w1.cell? ⟨wr.heap.size,5,none⟩=some (.slice S e.stops.length c):=k1.cell 5;clear k1)|(go_at_call 170;refine (KH.out _ (HS2.out _ zqb)).mono ?_;rintro e' w2 ⟨rfl,hb2⟩))
       go_roundw
       case rel=>exact ⟨h+1,by omega,by omega,by go_num,HE2.out,zqb,((HB.out.alloc _).after hb1).after hb2⟩
       case measure=>simp [intOf];omega
     ·have HE:=Lib.hid (HR.out.trans (show h+runL x (15 - h) (evs.drop (j+1+h))=h from by rw [List.drop_eq_nil_of_le (by have:=HN.out;omega),runL_nil];rfl))
      have hinI:¬ (j:Int)+h+1 < n3:=by omega
      go_wp2
      go_ret
      exact Ret.mk' (by rw [HE.out];rfl) zqb
    ·have HE:=Lib.hid (HR.out.trans (show h+runL x (15 - h) (evs.drop (j+1+h))=h from by rw [show 15 - h=0 from by omega];rfl))
     go_wp2
     go_ret
     exact Ret.mk' (by rw [HE.out];rfl) zqb
end
section
open Go.RowKit
theorem pRest_any (e:Ev)(S:Option Addr)(c:Nat)(w:World):Calls Tryz.prog 164 #[evVal e S c] w (Ret (.bool (restB e)) w):=by
 obtain⟨bar,val,dot,three,tie,stops⟩:=e
 unfold evVal restB
 simp only
 generalize stops.length=n
 cases tie
 all_goals
  cases hn:((n:Int) == 0)
  all_goals
   have hn2:(n == 0)=((n:Int) == 0):=by rw [Bool.eq_iff_iff];simp
   rw [hn2,hn]
   clear hn2
   go_enter Tryz.func164,Tryz.ntmps164
   go_wp2
   go_ret
   exact Ret.mk' rfl zqb
def idxL (c:Int):List Stp→Nat→Int
 | [],_=>-1
 | x::r,k=>if x.1=c then k else idxL c r (k+1)
theorem idxL_has (c:Int):∀ (l:List Stp)(k:Nat),decide (0≤idxL c l k)=hasB c l:=by
 intro l
 induction l with
 | nil=>intro k;rfl
 | cons x r ih =>
  intro k
  unfold idxL hasB
  by_cases h:x.1=c
  ·simp [h]
  ·rw [if_neg h,ih (k+1)]
   have:(x.1 == c)=false:=by simpa using h
   simp [hasB,this]
theorem idxL_at {c:Int} {l:List Stp} {k:Nat} (h:k<l.length):idxL c (l.drop k) k=if l[k].1=c then (k:Int) else idxL c (l.drop (k+1)) (k+1):=by
 rw [List.drop_eq_getElem_cons h];rfl
theorem pCl_any (y0 y1 y2 y3 y4 x:Int) (b:Nat) (w:World) (hx:w.cell? ⟨b,0,none⟩=some (.int .i64 x)) (hb:b < w.heap.size) :
  Calls Tryz.prog 223 #[.agg #[.int .i64 y0,.int .i64 y1,.int .i64 y2,.int .i64 y3,.int .i64 y4],.pointer (some ⟨b,0,none⟩)] w (Ret (.bool (y0 == x)) w):=by
 obtain ⟨V,hV⟩:∃ V,(y0 == x)=V:=⟨_,rfl⟩
 rw [hV]
 go_enter Tryz.func223,Tryz.ntmps223
 go_wp2
 go_ret
 exact Ret.mk' rfl zqb
theorem pIndex_any (S:Option Addr) (l:List Stp) (n c b:Nat) (x:Int) (w:World) (hS:StpsAt w w.heap.size S l) (hnn:l.length=n) (hn:n≤20) (hx:w.cell? ⟨b,0,none⟩=some (.int .i64 x)) :
  Calls Tryz.prog 186 #[.slice S n c,.func (.func 223) #[] #[.pointer (some ⟨b,0,none⟩)]] w (Ret (.int .i64 (idxL x l 0)) w):=by
 have HS:=Lib.hid hS
 have HN:=Lib.hid hnn
 have hbw:b < w.heap.size:=World.block_lt_of_cell? w _ hx
 obtain ⟨V,hV⟩:∃ V,idxL x l 0=V:=⟨_,rfl⟩
 rw [hV]
 have HV:=Lib.hid hV
 clear hV hnn hS
 go_enter Tryz.func186,Tryz.ntmps186
 go_wp2
 go_loopw [8] (fun i wr=>∃ k:Nat,k≤n∧i=.int .i64 k∧V=idxL x (l.drop k) k∧Below w.heap.size w wr) (fun i _=>n - (intOf i).toNat)
 case atStart=>exact ⟨0,Nat.zero_le _,rfl,HV.out.symm,zqb⟩
 case round =>
  obtain ⟨k,hk,rfl,hs,hbel⟩:=hrel
  have HR:=Lib.hid hs
  clear hs
  have hxr:wr.cell? ⟨b,0,none⟩=some (.int .i64 x):=(hbel.cell (p:=⟨b,0,none⟩) hbw).trans hx
  have hbr:b < wr.heap.size:=Nat.lt_of_lt_of_le hbw hbel.size
  by_cases hlt:k < n
  ·have hk2:k < l.length:=by have:=HN.out;omega
   have HS2:=Lib.hid (HS.out.below hbel)
   obtain ⟨ad,hA,hb,hc0,hc1,hc2,hc3,hc4⟩:=HS2.out.stp hk2
   subst hA
   have hs2:=HR.out.trans (idxL_at hk2)
   have hcl:=fun w' (hb':Below wr.heap.size wr w')=>pCl_any l[k].1 l[k].2.1 l[k].2.2.1 l[k].2.2.2.1 l[k].2.2.2.2 x b w' ((hb'.cell (p:=⟨b,0,none⟩) hbr).trans hxr) (Nat.lt_of_lt_of_le hbr hb'.size)
   generalize l[k].1=y0 at *
   generalize l[k].2.1=y1 at *
   generalize l[k].2.2.1=y2 at *
   generalize l[k].2.2.2.1=y3 at *
   generalize l[k].2.2.2.2=y4 at *
   by_cases hyx:y0=x
   ·have HE:=Lib.hid (hs2.trans (if_pos hyx))
    have hyb:(y0 == x)=true:=by simpa using hyx
    rw [hyb] at hcl
    have KC:=Lib.hid hcl
    clear hs2 hcl hyx hyb hx hxr
    go_wp2_with (go_at_call 223;refine (KC.out _ zqb).mono ?_;rintro e' w1 ⟨rfl,hb1⟩)
    go_ret
    exact Ret.mk' (by rw [HE.out];rfl) zqb
   ·have HR2:=Lib.hid (hs2.trans (if_neg hyx))
    have hyb:(y0 == x)=false:=by simpa using hyx
    rw [hyb] at hcl
    have KC:=Lib.hid hcl
    clear hs2 hcl hyx hyb hx hxr
    go_wp2_with (go_at_call 223;refine (KC.out _ zqb).mono ?_;rintro e' w1 ⟨rfl,hb1⟩)
    go_roundw
    case rel=>exact ⟨k+1,by omega,by go_num,HR2.out,zqb⟩
    case measure=>simp [intOf];omega
  ·have HE:=Lib.hid (HR.out.trans (show idxL x (l.drop k) k=-1 from by rw [List.drop_eq_nil_of_le (by have:=HN.out;omega)];rfl))
   go_wp2
   go_ret
   exact Ret.mk' (by rw [HE.out];rfl) zqb
theorem pPlucks_any (e:Ev) (S:Option Addr) (c:Nat) (x:Int) (w:World) (hS:StpsAt w w.heap.size S e.stops) (hn:e.stops.length≤20):Calls Tryz.prog 165 #[evVal e S c,.int .i64 x] w (Ret (.bool (hasB x e.stops)) w):=by
 obtain ⟨bar,val,dot,three,tie,stops⟩:=e
 unfold evVal
 simp only at *
 obtain ⟨n,hnn⟩:∃ n,stops.length=n:=⟨_,rfl⟩
 rw [hnn] at hn ⊢
 have HS:=Lib.hid (fun (w':World) (hb:Below w.heap.size w w')=>hS.after hb)
 have HN:=Lib.hid hnn
 have hI:=idxL_has x stops 0
 have HX:=fun b w' h1 h2=>pIndex_any S stops n c b x w' h1 hnn hn h2
 generalize idxL x stops 0=V at *
 rw [← hI]
 have KX:=Lib.hid HX
 clear hI HX hnn hS
 have hct:∀ (b:Nat) (w':World),StpsAt w' w'.heap.size S stops→w'.cell? ⟨b,0,none⟩=some (.int .i64 x) →
   Calls Tryz.prog 222 #[.slice S n c,.func (.func 223) #[] #[.pointer (some ⟨b,0,none⟩)]] w' (Ret (.bool (decide (0≤V))) w'):=by
  intro b w' h1 h2
  have H1:=Lib.hid h1
  have H2:=Lib.hid h2
  clear h1 h2
  go_enter Tryz.func222,Tryz.ntmps222
  go_wp2_with (go_at_call 186;refine (KX.out b _ H1.out H2.out).mono ?_;rintro e' w1 ⟨rfl,hb1⟩)
  go_ret
  exact Ret.mk' (by rfl) zqb
 have KT:=Lib.hid hct
 clear hct
 go_enter Tryz.func165,Tryz.ntmps165
 go_wp2_with (go_at_call 222;refine (KT.out _ _ (HS.out _ zqb) (by simp)).mono ?_;rintro e' w1 ⟨rfl,hb1⟩)
 go_ret
 exact Ret.mk' rfl zqb
theorem pLongest_any (M:PM) (p:Pce) (i x:Int) (w:World) (hP:PcAt w w.heap.size M p) (hO:PcOk p) :
  Calls Tryz.prog 95 #[pcValue M p,.int .i64 i,.int .i64 x] w (Ret (.int .i64 (longestN p.evs i x)) w):=by
 obtain ⟨A1,A2,A3,c1,c2,c3⟩:=M
 obtain ⟨cs,st,evs⟩:=p
 unfold pcValue
 have HP:=Lib.hid hP.2.1
 have hcap:=hP.2.2
 have H4:=Lib.hid hO.n4
 have hn3:=hO.n3
 simp only at *
 generalize cs.length=n1
 generalize st.length=n2
 obtain ⟨n3,hnn⟩:∃ n,evs.length=n:=⟨_,rfl⟩
 rw [hnn] at hn3 hcap ⊢
 have HN:=Lib.hid hnn
 by_cases hi0:i < 0
 ·rw [longestN_out (.inl hi0)]
  clear hnn hP hO
  go_enter Tryz.func95,Tryz.ntmps95
  go_wp2
  go_ret
  exact Ret.mk' rfl zqb
 ·by_cases hi1:(n3:Int)≤i
  ·rw [longestN_out (.inr (by omega))]
   clear hnn hP hO
   go_enter Tryz.func95,Tryz.ntmps95
   go_wp2
   go_ret
   exact Ret.mk' rfl zqb
  ·obtain ⟨j,rfl⟩:∃ j:Nat,i=j:=⟨i.toNat,by omega⟩
   have hj:j < n3:=by omega
   have d1:decide ((j:Int) < 0)=false:=decide_eq_false zqo
   have d2:decide ((n3:Int)≤(j:Int))=false:=decide_eq_false zqo
   have d3:decide (n3≤j)=false:=decide_eq_false zqo
   rw [longestN_in (by omega)]
   obtain ⟨V,hV⟩:∃ V,runL x 15 (evs.drop (j+1))=V:=⟨_,rfl⟩
   rw [hV]
   have HV:=Lib.hid hV
   obtain ⟨ad,hA,hadb⟩:∃ ad,A3=some ad∧ad.block < w.heap.size:=by
    obtain ⟨ad,_,_,hA,hb,_⟩:=HP.out.ev (k:=j) zqo
    exact ⟨ad,hA,hb⟩
   subst hA
   clear hV hnn hP hO hi0 hi1
   have g1:(j:Int)+1≤n3:=by omega
   have g2:(n3:Int)≤c3:=by omega
   have g3:(0:Int)≤(j:Int)+1:=by omega
   have g4:((j:Int)+1).toNat=j+1:=by omega
   by_cases hc:c3=j+1
   ·have hV0:V=0:=by have:=HV.out;rw [List.drop_eq_nil_of_le (by have:=HN.out;omega),runL_nil] at this;exact this.symm
    have hn:n3=j+1:=by omega
    subst hV0 hn hc
    go_enter Tryz.func95,Tryz.ntmps95
    go_wp2
    go_loopw [7,25] (fun v i wr=>v=.int .i64 0∧i=.int .i64 0∧Below w.heap.size w wr) (fun _ _ _=>0)
    case atStart=>exact ⟨rfl,rfl,zqb⟩
    case round =>
     obtain ⟨rfl,rfl,hbel⟩:=hrel
     go_wp2
     go_ret
     exact Ret.mk' rfl zqb
   ·obtain ⟨m,hm⟩:∃ m,n3 - (j+1)=m:=⟨_,rfl⟩
    go_enter Tryz.func95,Tryz.ntmps95
    go_wp2
    have HM:=Lib.hid hm
    clear hm
    go_loopw [7,25] (fun v i wr=>∃ h:Nat,h≤15∧h≤m∧v=.int .i64 h∧i=.int .i64 h∧V=h+runL x (15 - h) (evs.drop (j+1+h))∧Below w.heap.size w wr)
     (fun _ i _=>m - (intOf i).toNat)
    case atStart=>exact ⟨0,by omega,by omega,rfl,rfl,by simpa using HV.out.symm,zqb⟩
    case round =>
     obtain ⟨h,hh,hjh,rfl,rfl,hs,hbel⟩:=hrel
     have HR:=Lib.hid hs
     clear hs
     by_cases hlt:h < m
     ·have hk2:j+1+h < evs.length:=by have:=HN.out;have:=HM.out;omega
      have HE:=Lib.hid (HP.out.below hbel)
      obtain ⟨ad',S,c,hA,hb,e0,e1,e2,e3,e4,e5,hS⟩:=HE.out.ev hk2
      obtain rfl:ad=ad':=by injection hA
      have hX:ad.add ((j+1+h)*6)=(ad.add ((j+1)*6)).add (h*6):=by rw [add_of_add,Nat.add_mul]
      rw [hX] at e0 e1 e2 e3 e4 e5
      have hs2:=HR.out
      have HS:=Lib.hid hS
      have H20:=H4.out _ hk2
      have HS2:=Lib.hid (fun (w':World) (hb:Below wr.heap.size wr w')=>((HS.out.more hbel.size).after hb))
      by_cases h15:h=15
      ·have HE2:=Lib.hid (hs2.trans (show _=h by rw [show 15 - h=0 from by omega];rfl))
       have h15b:((h:Int) == 15)=true:=by simp;omega
       have h15c:((15:Int)=(h:Int)):=by omega
       clear hs2 hS hX hA h15 h15c
       go_wp2_with fail
       go_ret
       exact Ret.mk' (by rw [HE2.out];rfl) zqb
      ·have h15b:((h:Int) == 15)=false:=by simp;omega
       have HC:(V=h∧(restB evs[j+1+h]=true∨(restB evs[j+1+h]=false∧hasB x evs[j+1+h].stops=true)))∨(V=(h+1)+runL x (15 - (h+1)) (evs.drop (j+1+(h+1)))∧restB evs[j+1+h]=false∧hasB x evs[j+1+h].stops=false):=by
        cases hr:restB evs[j+1+h]
        ·cases hq:hasB x evs[j+1+h].stops
         ·refine .inr ⟨?_,rfl,rfl⟩
          rw [hs2,show 15 - h=(15 - (h+1))+1 from by omega,runL_step hk2 (by rw [hr,hq];rfl),show j+1+(h+1)=j+1+h+1 from by omega]
          omega
         ·exact .inl ⟨by rw [hs2,runL_stop hk2 (by rw [hr,hq];rfl)];rfl,.inr ⟨rfl,rfl⟩⟩
        ·exact .inl ⟨by rw [hs2,runL_stop hk2 (by rw [hr];rfl)];rfl,.inl rfl⟩
       clear hs2 hS hX hA
       obtain ⟨e,he⟩:∃ e,evs[j+1+h]=e:=⟨_,rfl⟩
       rw [he] at e0 e1 e2 e3 e4 e5 H20 HC
       rw [he] at HS2
       have R:=fun w=>pRest_any e S c w
       have HH:=fun w hS=>pPlucks_any e S c x w hS H20
       rcases HC with ⟨hv,hr|⟨hr,hq⟩⟩|⟨hv,hr,hq⟩
       ·rw [hr] at R
        have KR:=Lib.hid R
        have HE2:=Lib.hid hv
        clear R HH hv he hr H20
        go_wp2_with (go_at_call 164;refine (KR.out _).mono ?_;rintro e' w1 ⟨rfl,hb1⟩;have k1:=(Blk.new _ _ _).after hb1;have x0:w1.cell? ⟨wr.heap.size,0,none⟩=some (.bool e.bar):=k1.cell 0;have x1:w1.cell? ⟨wr.heap.size,1,none⟩=some (.int .i64 e.val):=k1.cell 1;have x2:w1.cell? ⟨wr.heap.size,2,none⟩=some (.bool e.dot):=k1.cell 2;have x3:w1.cell? ⟨wr.heap.size,3,none⟩=some (.bool e.three):=k1.cell 3;have x4:w1.cell? ⟨wr.heap.size,4,none⟩=some (.bool e.tie):=k1.cell 4;have x5:w1.cell? ⟨wr.heap.size,5,none⟩=some (.slice S e.stops.length c):=k1.cell 5;have K1:=Lib.hid k1;clear k1)
        go_ret
        exact Ret.mk' (by rw [HE2.out];rfl) zqb
       ·rw [hr] at R
        rw [hq] at HH
        have KR:=Lib.hid R
        have KH:=Lib.hid HH
        have HE2:=Lib.hid hv
        clear R HH hv he hr hq H20
        go_wp2_with (first|(go_at_call 164;refine (KR.out _).mono ?_;rintro e' w1 ⟨rfl,hb1⟩;have k1:=(Blk.new _ _ _).after hb1;have x0:w1.cell? ⟨wr.heap.size,0,none⟩=some (.bool e.bar):=k1.cell 0;have x1:w1.cell? ⟨wr.heap.size,1,none⟩=some (.int .i64 e.val):=k1.cell 1;have x2:w1.cell? ⟨wr.heap.size,2,none⟩=some (.bool e.dot):=k1.cell 2;have x3:w1.cell? ⟨wr.heap.size,3,none⟩=some (.bool e.three):=k1.cell 3;have x4:w1.cell? ⟨wr.heap.size,4,none⟩=some (.bool e.tie):=k1.cell 4;have x5:w1.cell? ⟨wr.heap.size,5,none⟩=some (.slice S e.stops.length c):=k1.cell 5;have K1:=Lib.hid k1;clear k1)|(go_at_call 165;refine (KH.out _ (HS2.out _ zqb)).mono ?_;rintro e' w2 ⟨rfl,hb2⟩))
        go_ret
        exact Ret.mk' (by rw [HE2.out];rfl) zqb
       ·rw [hr] at R
        rw [hq] at HH
        have KR:=Lib.hid R
        have KH:=Lib.hid HH
        have HE2:=Lib.hid hv
        clear R HH hv he hr hq H20
        go_wp2_with (first|(go_at_call 164;refine (KR.out _).mono ?_;rintro e' w1 ⟨rfl,hb1⟩;have k1:=(Blk.new _ _ _).after hb1;have x0:w1.cell? ⟨wr.heap.size,0,none⟩=some (.bool e.bar):=k1.cell 0;have x1:w1.cell? ⟨wr.heap.size,1,none⟩=some (.int .i64 e.val):=k1.cell 1;have x2:w1.cell? ⟨wr.heap.size,2,none⟩=some (.bool e.dot):=k1.cell 2;have x3:w1.cell? ⟨wr.heap.size,3,none⟩=some (.bool e.three):=k1.cell 3;have x4:w1.cell? ⟨wr.heap.size,4,none⟩=some (.bool e.tie):=k1.cell 4;have x5:w1.cell? ⟨wr.heap.size,5,none⟩=some (.slice S e.stops.length c):=k1.cell 5;have K1:=Lib.hid k1;clear k1)|(go_at_call 165;refine (KH.out _ (HS2.out _ zqb)).mono ?_;rintro e' w2 ⟨rfl,hb2⟩))
        go_roundw
        case rel=>exact ⟨h+1,by omega,by omega,by go_num,by go_num,HE2.out,zqb⟩
        case measure=>simp [intOf];omega
     ·have HE:=Lib.hid (HR.out.trans (show h+runL x (15 - h) (evs.drop (j+1+h))=h from by rw [List.drop_eq_nil_of_le (by have:=HN.out;have:=HM.out;omega),runL_nil];rfl))
      go_wp2
      go_ret
      exact Ret.mk' (by rw [HE.out];rfl) zqb
end
end Go.Proofs.YthehkchjdkdbiaaGreatDoor
