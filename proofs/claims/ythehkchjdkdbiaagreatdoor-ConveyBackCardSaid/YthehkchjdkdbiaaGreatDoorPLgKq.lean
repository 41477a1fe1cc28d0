/- How long a note may be held: the program. -/
import Derived.Test.YthehkchjdkdbiaaGreatDoorNr4Kq
import Derived.Test.YthehkchjdkdbiaaGreatDoorProg
set_option maxHeartbeats 1600000
set_option maxRecDepth 100000
set_option linter.unusedVariables false
set_option linter.unusedSimpArgs false
namespace Go.Proofs.YthehkchjdkdbiaaGreatDoor
theorem XI {p:Prop}(h:p:=by have:=HN.out;omega):p:=h
section
variable {p:Prop}
theorem Dh(h:p:=by
 go_wp2
 go_ret
 exact eG.mk' rfl jT):p:=h
theorem akX(h:p:=by
 ·exact .inl ⟨by rw [hs2,P8 hk2 (by rw [hr];rfl)];rfl,.inl rfl⟩):p:=h
theorem akG(h:p:=by
 ·exact .inl ⟨by rw [hs2,P8 hk2 (by rw [hr,hq];rfl)];rfl,.inr ⟨rfl,rfl⟩⟩):p:=h
theorem aks(h:p:=by
 clear hnn hP hO
 go_enter Tryz.func95,Tryz.ntmps95
 go_wp2
 go_ret
 exact eG.mk' rfl jT):p:=h
theorem akq(h:p:=by
 clear hnn hP hO
 go_enter Tryz.func102,Tryz.ntmps102
 go_wp2
 go_ret
 exact eG.mk' rfl jT):p:=h
theorem XV(h:p:=by
 go_ret
 exact eG.mk' (by rw [HE2.out];rfl) jT):p:=h
end
section
open Go.RowKit
theorem ae6 (e:Ev)(S:Option Addr)(c:Nat)(w:World):Calls Tryz.prog 133 #[Gv e S c] w (eG (.bool (jU e)) w):=by
 obtain⟨bar,val,dot,three,tie,stops⟩:=e
 unfold Gv jU
 simp only
 generalize stops.length=n
 cases tie
 all_goals
  cases hn:((n:Int) == 0)
  all_goals
   have hn2:(n == 0)=((n:Int) == 0):=by rw [Gg];simp
   rw [hn2,hn]
   clear hn2
   go_enter Tryz.func133,Tryz.ntmps133
   go_wp2
   go_ret
   exact eG.mk' rfl jT
theorem aiC (e:Ev) (S:Option Addr) (c:Nat) (x:Int) (w:World) (hS:iG w w.heap.size S e.stops) (hn:e.stops.length≤20):Calls Tryz.prog 170 #[Gv e S c,.int .i64 x] w (eG (.bool (hasB x e.stops)) w):=by
 obtain ⟨bar,val,dot,three,tie,stops⟩:=e
 unfold Gv
 simp only at *
 have HS:=Lib.hid hS
 obtain ⟨n,hnn⟩:∃ n,stops.length=n:=⟨_,rfl⟩
 rw [hnn] at hn ⊢
 have HN:=Lib.hid hnn
 obtain ⟨V,hV⟩:∃ V,hasB x stops=V:=⟨_,rfl⟩
 rw [hV]
 have HV:=Lib.hid hV
 clear hV hnn hS
 go_enter Tryz.func170,Tryz.ntmps170
 go_wp2
 go_loop [5] (fun i=>∃ k:Nat,k≤n∧i=.int .i64 k∧V=hasB x (stops.drop k)) (fun i=>n - (intOf i).toNat)
 case atStart=>exact ⟨0,gU _,rfl,HV.out.symm⟩
 case round =>
  obtain ⟨k,hk,rfl,hs⟩:=hrel
  have HR:=Lib.hid hs
  clear hs
  by_cases hlt:k < n
  ·have hk2:k < stops.length:=by have:=HN.out;omega
   obtain ⟨ad,hA,hb,hc,_⟩:=HS.out.stp hk2
   subst hA
   have hs2:=HR.out.trans (afV hk2)
   generalize stops[k].1=y at hc hs2
   have hc2:∀ o:Obj,(w.alloc o).cell? (ad.add (k*5))=some (.int .i64 y):=fun o=>by
    exact adb
   clear hc
   cases hyx:(y == x)
   ·have HR2:=Lib.hid (hs2.trans (show _=hasB x (stops.drop (k+1)) by rw [hyx];rfl))
    clear hs2
    go_wp2
    go_round
    case rel=>exact ⟨k+1,by omega,by go_num,HR2.out⟩
    case measure=>simp [intOf];omega
   ·have HE:=Lib.hid (hs2.trans (show _=true by rw [hyx];rfl))
    clear hs2
    exact BM
  ·have HE:=Lib.hid (HR.out.trans (show hasB x (stops.drop k)=false from by rw [wU XI];rfl))
   exact BM
theorem rV {evs:List Ev} {i c:Int} (h:i<0∨(evs.length:Int)≤i):ah evs i c=0:=if_pos h
theorem Gz {evs:List Ev} {i:Nat} {c:Int} (h:i<evs.length):ah evs i c=lT c 15 (evs.drop (i+1)):=by unfold ah;rw [if_neg (by omega)];simp
structure jm(p:aS):Prop where
 n1:p.cs.length≤64
 n2:p.st.length≤64
 n3:p.evs.length≤420
 n4:∀ k(h:k<p.evs.length),p.evs[k].stops.length≤20
theorem Sm (M:PM) (p:aS) (i x:Int) (w:World) (hP:uZ w w.heap.size M p) (hO:jm p) :
  Calls Tryz.prog 102 #[iD M p,.int .i64 i,.int .i64 x] w (eG (.int .i64 (ah p.evs i x)) w):=by
 obtain ⟨A1,A2,A3,c1,c2,c3⟩:=M
 obtain ⟨cs,st,evs⟩:=p
 unfold iD
 have HP:=Lib.hid hP.2.1
 have H4:=Lib.hid hO.n4
 have hn3:=hO.n3
 simp only at *
 generalize cs.length=n1
 generalize st.length=n2
 obtain ⟨n3,hnn⟩:∃ n,evs.length=n:=⟨_,rfl⟩
 rw [hnn] at hn3 ⊢
 have HN:=Lib.hid hnn
 by_cases hi0:i < 0
 ·rw [rV (.inl hi0)]
  exact akq
 ·by_cases hi1:(n3:Int)≤i
  ·rw [rV (.inr (by omega))]
   exact akq
  ·obtain ⟨j,rfl⟩:∃ j:Nat,i=j:=⟨i.toNat,by omega⟩
   have hj:j < n3:=by omega
   have d1:decide ((j:Int) < 0)=false:=cZ au
   have d2:decide ((n3:Int)≤(j:Int))=false:=cZ au
   have d3:decide (n3≤j)=false:=cZ au
   rw [Gz (by omega)]
   obtain ⟨V,hV⟩:∃ V,lT x 15 (evs.drop (j+1))=V:=⟨_,rfl⟩
   rw [hV]
   have HV:=Lib.hid hV
   clear hV hnn hP hO hi0 hi1
   go_enter Tryz.func102,Tryz.ntmps102
   go_wp2
   go_loopw [7] (fun v wr=>∃ h:Nat,h≤15∧j+1+h≤n3∧v=.int .i64 h∧V=h+lT x (15 - h) (evs.drop (j+1+h))∧Below w.heap.size w wr∧nN wr w.heap.size 30 #[.slice A1 n1 c1,.slice A2 n2 c2,.slice A3 n3 c3])
    (fun v _=>15 - (intOf v).toNat)
   case atStart=>exact ⟨0,by omega,by omega,rfl,by simpa using HV.out.symm,jT,nN.new _ _ _⟩
   case round =>
    obtain ⟨h,hh,hjh,rfl,hs,hbel,hblk⟩:=hrel
    have HR:=Lib.hid hs
    have HB:=Lib.hid hblk
    have hlt:w.heap.size < wr.heap.size:=hblk.lt
    have q0:wr.cell? ⟨w.heap.size,0,none⟩=some (.slice A1 n1 c1):=hblk.cell 0
    have q1:wr.cell? ⟨w.heap.size,1,none⟩=some (.slice A2 n2 c2):=hblk.cell 1
    have q2:wr.cell? ⟨w.heap.size,2,none⟩=some (.slice A3 n3 c3):=hblk.cell 2
    clear hs hblk
    by_cases h15:h < 15
    ·by_cases hin:j+h+1 < n3
     ·have hk2:j+h+1 < evs.length:=by have:=HN.out;omega
      have HE:=Lib.hid (HP.out.below hbel)
      obtain ⟨ad,S,c,hA,hb,e0,e1,e2,e3,e4,e5,hS⟩:=HE.out.ev hk2
      subst hA
      have hs2:=HR.out
      rw [show j+1+h=j+h+1 from by omega] at hs2
      have HS:=Lib.hid hS
      have H20:=H4.out _ hk2
      have ayA:(j:Int)+h+1 < n3:=by omega
      have hidx:((j:Int)+h+1).toNat=j+h+1:=by omega
      have HS2:=Lib.hid (fun (w':World) (hb:Below wr.heap.size wr w')=>((HS.out.more hbel.size).after hb))
      have HC:(V=h∧(jU evs[j+h+1]=true∨(jU evs[j+h+1]=false∧hasB x evs[j+h+1].stops=true)))∨(V=(h+1)+lT x (15 - (h+1)) (evs.drop (j+1+(h+1)))∧jU evs[j+h+1]=false∧hasB x evs[j+h+1].stops=false):=by
       cases hr:jU evs[j+h+1]
       ·cases hq:hasB x evs[j+h+1].stops
        ·refine .inr ⟨?_,rfl,rfl⟩
         rw [hs2,show 15 - h=(15 - (h+1))+1 from by omega,P7 hk2 (by rw [hr,hq];rfl),show j+1+(h+1)=j+h+1+1 from by omega]
         omega
        exact akG
       exact akX
      clear hs2 hS
      obtain ⟨e,he⟩:∃ e,evs[j+h+1]=e:=⟨_,rfl⟩
      rw [he] at e0 e1 e2 e3 e4 e5 H20 HC
      rw [he] at HS2
      have R:=fun w=>ae6 e S c w
      have HH:=fun w hS=>aiC e S c x w hS H20
      rcases HC with ⟨hv,hr|⟨hr,hq⟩⟩|⟨hv,hr,hq⟩
      ·rw [hr] at R
       have KR:=Lib.hid R
       have HE2:=Lib.hid hv
       clear R HH hv he hr H20
       go_wp2_with (go_at_call 133;refine (KR.out _).mono ?_;rintro e' w1 ⟨rfl,hb1⟩;have k1:=(nN.new _ _ _).after hb1;have x0:w1.cell? ⟨wr.heap.size,0,none⟩=some (.bool e.bar):=k1.cell 0;have x1:w1.cell? ⟨wr.heap.size,1,none⟩=some (.int .i64 e.val):=k1.cell 1;have x2:w1.cell? ⟨wr.heap.size,2,none⟩=some (.bool e.dot):=k1.cell 2;have x3:w1.cell? ⟨wr.heap.size,3,none⟩=some (.bool e.three):=k1.cell 3;have x4:w1.cell? ⟨wr.heap.size,4,none⟩=some (.bool e.tie):=k1.cell 4;have x5:w1.cell? ⟨wr.heap.size,5,none⟩=some (.slice S e.stops.length c):=k1.cell 5;clear k1)
       exact XV
      ·rw [hr] at R
       rw [hq] at HH
       have KR:=Lib.hid R
       have KH:=Lib.hid HH
       have HE2:=Lib.hid hv
       clear R HH hv he hr hq H20
       go_wp2_with (first|(go_at_call 133;refine (KR.out _).mono ?_;rintro e' w1 ⟨rfl,hb1⟩;have k1:=(nN.new _ _ _).after hb1;have x0:w1.cell? ⟨wr.heap.size,0,none⟩=some (.bool e.bar):=k1.cell 0;have x1:w1.cell? ⟨wr.heap.size,1,none⟩=some (.int .i64 e.val):=k1.cell 1;have x2:w1.cell? ⟨wr.heap.size,2,none⟩=some (.bool e.dot):=k1.cell 2;have x3:w1.cell? ⟨wr.heap.size,3,none⟩=some (.bool e.three):=k1.cell 3;have x4:w1.cell? ⟨wr.heap.size,4,none⟩=some (.bool e.tie):=k1.cell 4;have x5:w1.cell? ⟨wr.heap.size,5,none⟩=some (.slice S e.stops.length c):=k1.cell 5;clear k1)|(go_at_call 170;refine (KH.out _ (HS2.out _ jT)).mono ?_;rintro e' w2 ⟨rfl,hb2⟩))
       exact XV
      ·rw [hr] at R
       rw [hq] at HH
       have KR:=Lib.hid R
       have KH:=Lib.hid HH
       have HE2:=Lib.hid hv
       clear R HH hv he hr hq H20
       go_wp2_with (first|(go_at_call 133;refine (KR.out _).mono ?_;rintro e' w1 ⟨rfl,hb1⟩;have k1:=(nN.new _ _ _).after hb1;have x0:w1.cell? ⟨wr.heap.size,0,none⟩=some (.bool e.bar):=k1.cell 0;have x1:w1.cell? ⟨wr.heap.size,1,none⟩=some (.int .i64 e.val):=k1.cell 1;have x2:w1.cell? ⟨wr.heap.size,2,none⟩=some (.bool e.dot):=k1.cell 2;have x3:w1.cell? ⟨wr.heap.size,3,none⟩=some (.bool e.three):=k1.cell 3;have x4:w1.cell? ⟨wr.heap.size,4,none⟩=some (.bool e.tie):=k1.cell 4;have x5:w1.cell? ⟨wr.heap.size,5,none⟩=some (.slice S e.stops.length c):=k1.cell 5;clear k1)|(go_at_call 170;refine (KH.out _ (HS2.out _ jT)).mono ?_;rintro e' w2 ⟨rfl,hb2⟩))
       go_roundw
       case rel=>exact ⟨h+1,by omega,by omega,by go_num,HE2.out,jT,((HB.out.alloc _).after hb1).after hb2⟩
       case measure=>simp [intOf];omega
     ·have HE:=Lib.hid (HR.out.trans (show h+lT x (15 - h) (evs.drop (j+1+h))=h from by rw [wU XI,Ll];rfl))
      have ayA:¬ (j:Int)+h+1 < n3:=by omega
      exact BM
    ·have HE:=Lib.hid (HR.out.trans (show h+lT x (15 - h) (evs.drop (j+1+h))=h from by rw [show 15 - h=0 from by omega];rfl))
     exact BM
theorem aeV (e:Ev)(S:Option Addr)(c:Nat)(w:World):Calls Tryz.prog 164 #[Gv e S c] w (eG (.bool (jU e)) w):=by
 obtain⟨bar,val,dot,three,tie,stops⟩:=e
 unfold Gv jU
 simp only
 generalize stops.length=n
 cases tie
 all_goals
  cases hn:((n:Int) == 0)
  all_goals
   have hn2:(n == 0)=((n:Int) == 0):=by rw [Gg];simp
   rw [hn2,hn]
   clear hn2
   go_enter Tryz.func164,Tryz.ntmps164
   go_wp2
   go_ret
   exact eG.mk' rfl jT
def NY (c:Int):List Stp→Nat→Int
 | [],_=>-1
 | x::r,k=>if x.1=c then k else NY c r (k+1)
theorem ag8 (c:Int):∀ (l:List Stp)(k:Nat),decide (0≤NY c l k)=hasB c l:=by
 intro l
 induction l with
 | nil=>intro k;rfl
 | cons x r ih =>
  intro k
  unfold NY hasB
  by_cases h:x.1=c
  ·simp [h]
  ·rw [if_neg h,ih (k+1)]
   have:(x.1 == c)=false:=by simpa using h
   simp [hasB,this]
theorem anE {c:Int} {l:List Stp} {k:Nat} (h:k<l.length):NY c (l.drop k) k=if l[k].1=c then (k:Int) else NY c (l.drop (k+1)) (k+1):=by
 exact Nq
theorem an9 (y0 y1 y2 y3 y4 x:Int) (b:Nat) (w:World) (hx:w.cell? ⟨b,0,none⟩=some (.int .i64 x)) (hb:b < w.heap.size) :
  Calls Tryz.prog 223 #[.agg #[.int .i64 y0,.int .i64 y1,.int .i64 y2,.int .i64 y3,.int .i64 y4],.pointer (some ⟨b,0,none⟩)] w (eG (.bool (y0 == x)) w):=by
 obtain ⟨V,hV⟩:∃ V,(y0 == x)=V:=⟨_,rfl⟩
 rw [hV]
 go_enter Tryz.func223,Tryz.ntmps223
 go_wp2
 go_ret
 exact eG.mk' rfl jT
theorem Zv (S:Option Addr) (l:List Stp) (n c b:Nat) (x:Int) (w:World) (hS:iG w w.heap.size S l) (hnn:l.length=n) (hn:n≤20) (hx:w.cell? ⟨b,0,none⟩=some (.int .i64 x)) :
  Calls Tryz.prog 186 #[.slice S n c,.func (.func 223) #[] #[.pointer (some ⟨b,0,none⟩)]] w (eG (.int .i64 (NY x l 0)) w):=by
 have HS:=Lib.hid hS
 have HN:=Lib.hid hnn
 have hbw:b < w.heap.size:=World.block_lt_of_cell? w _ hx
 obtain ⟨V,hV⟩:∃ V,NY x l 0=V:=⟨_,rfl⟩
 rw [hV]
 have HV:=Lib.hid hV
 clear hV hnn hS
 go_enter Tryz.func186,Tryz.ntmps186
 go_wp2
 go_loopw [8] (fun i wr=>∃ k:Nat,k≤n∧i=.int .i64 k∧V=NY x (l.drop k) k∧Below w.heap.size w wr) (fun i _=>n - (intOf i).toNat)
 case atStart=>exact ⟨0,gU _,rfl,HV.out.symm,jT⟩
 case round =>
  obtain ⟨k,hk,rfl,hs,hbel⟩:=hrel
  have HR:=Lib.hid hs
  clear hs
  have hxr:wr.cell? ⟨b,0,none⟩=some (.int .i64 x):=(hbel.cell (p:=⟨b,0,none⟩) hbw).trans hx
  have hbr:b < wr.heap.size:=lH hbw hbel.size
  by_cases hlt:k < n
  ·have hk2:k < l.length:=by have:=HN.out;omega
   have HS2:=Lib.hid (HS.out.below hbel)
   obtain ⟨ad,hA,hb,hc0,hc1,hc2,hc3,hc4⟩:=HS2.out.stp hk2
   subst hA
   have hs2:=HR.out.trans (anE hk2)
   have hcl:=fun w' (hb':Below wr.heap.size wr w')=>an9 l[k].1 l[k].2.1 l[k].2.2.1 l[k].2.2.2.1 l[k].2.2.2.2 x b w' ((hb'.cell (p:=⟨b,0,none⟩) hbr).trans hxr) (lH hbr hb'.size)
   generalize l[k].1=y0 at *
   generalize l[k].2.1=y1 at *
   generalize l[k].2.2.1=y2 at *
   generalize l[k].2.2.2.1=y3 at *
   generalize l[k].2.2.2.2=y4 at *
   by_cases hyx:y0=x
   ·have HE:=Lib.hid (hs2.trans (if_pos hyx))
    have hyb:(y0 == x)=true:=by simpa using hyx
    rw [hyb] at hcl
    have KC:=Lib.hid hcl
    clear hs2 hcl hyx hyb hx hxr
    go_wp2_with (go_at_call 223;refine (KC.out _ jT).mono ?_;rintro e' w1 ⟨rfl,hb1⟩)
    go_ret
    exact eG.mk' (by rw [HE.out];rfl) jT
   ·have HR2:=Lib.hid (hs2.trans (if_neg hyx))
    have hyb:(y0 == x)=false:=by simpa using hyx
    rw [hyb] at hcl
    have KC:=Lib.hid hcl
    clear hs2 hcl hyx hyb hx hxr
    go_wp2_with (go_at_call 223;refine (KC.out _ jT).mono ?_;rintro e' w1 ⟨rfl,hb1⟩)
    go_roundw
    case rel=>exact ⟨k+1,by omega,by go_num,HR2.out,jT⟩
    case measure=>simp [intOf];omega
  ·have HE:=Lib.hid (HR.out.trans (show NY x (l.drop k) k=-1 from by rw [wU XI];rfl))
   exact BM
theorem Wq (e:Ev) (S:Option Addr) (c:Nat) (x:Int) (w:World) (hS:iG w w.heap.size S e.stops) (hn:e.stops.length≤20):Calls Tryz.prog 165 #[Gv e S c,.int .i64 x] w (eG (.bool (hasB x e.stops)) w):=by
 obtain ⟨bar,val,dot,three,tie,stops⟩:=e
 unfold Gv
 simp only at *
 obtain ⟨n,hnn⟩:∃ n,stops.length=n:=⟨_,rfl⟩
 rw [hnn] at hn ⊢
 have HS:=Lib.hid (fun (w':World) (hb:Below w.heap.size w w')=>hS.after hb)
 have HN:=Lib.hid hnn
 have hI:=ag8 x stops 0
 have HX:=fun b w' h1 h2=>Zv S stops n c b x w' h1 hnn hn h2
 generalize NY x stops 0=V at *
 rw [← hI]
 have KX:=Lib.hid HX
 clear hI HX hnn hS
 have hct:∀ (b:Nat) (w':World),iG w' w'.heap.size S stops→w'.cell? ⟨b,0,none⟩=some (.int .i64 x) →
   Calls Tryz.prog 222 #[.slice S n c,.func (.func 223) #[] #[.pointer (some ⟨b,0,none⟩)]] w' (eG (.bool (decide (0≤V))) w'):=by
  intro b w' h1 h2
  have H1:=Lib.hid h1
  have H2:=Lib.hid h2
  clear h1 h2
  go_enter Tryz.func222,Tryz.ntmps222
  go_wp2_with (go_at_call 186;refine (KX.out b _ H1.out H2.out).mono ?_;rintro e' w1 ⟨rfl,hb1⟩)
  go_ret
  exact eG.mk' (by rfl) jT
 have KT:=Lib.hid hct
 clear hct
 go_enter Tryz.func165,Tryz.ntmps165
 go_wp2_with (go_at_call 222;refine (KT.out _ _ (HS.out _ jT) (by simp)).mono ?_;rintro e' w1 ⟨rfl,hb1⟩)
 go_ret
 exact eG.mk' rfl jT
theorem rY (M:PM) (p:aS) (i x:Int) (w:World) (hP:uZ w w.heap.size M p) (hO:jm p) :
  Calls Tryz.prog 95 #[iD M p,.int .i64 i,.int .i64 x] w (eG (.int .i64 (ah p.evs i x)) w):=by
 obtain ⟨A1,A2,A3,c1,c2,c3⟩:=M
 obtain ⟨cs,st,evs⟩:=p
 unfold iD
 have HP:=Lib.hid hP.2.1
 have hcap:=hP.2.2
 have H4:=Lib.hid hO.n4
 have hn3:=hO.n3
 simp only at *
 generalize cs.length=n1
 generalize st.length=n2
 obtain ⟨n3,hnn⟩:∃ n,evs.length=n:=⟨_,rfl⟩
 rw [hnn] at hn3 hcap ⊢
 have HN:=Lib.hid hnn
 by_cases hi0:i < 0
 ·rw [rV (.inl hi0)]
  exact aks
 ·by_cases hi1:(n3:Int)≤i
  ·rw [rV (.inr (by omega))]
   exact aks
  ·obtain ⟨j,rfl⟩:∃ j:Nat,i=j:=⟨i.toNat,by omega⟩
   have hj:j < n3:=by omega
   have d1:decide ((j:Int) < 0)=false:=cZ au
   have d2:decide ((n3:Int)≤(j:Int))=false:=cZ au
   have d3:decide (n3≤j)=false:=cZ au
   rw [Gz (by omega)]
   obtain ⟨V,hV⟩:∃ V,lT x 15 (evs.drop (j+1))=V:=⟨_,rfl⟩
   rw [hV]
   have HV:=Lib.hid hV
   obtain ⟨ad,hA,ayv⟩:∃ ad,A3=some ad∧ad.block < w.heap.size:=by
    obtain ⟨ad,_,_,hA,hb,_⟩:=HP.out.ev (k:=j) au
    exact ⟨ad,hA,hb⟩
   subst hA
   clear hV hnn hP hO hi0 hi1
   have g1:(j:Int)+1≤n3:=by omega
   have g2:(n3:Int)≤c3:=by omega
   have g3:(0:Int)≤(j:Int)+1:=by omega
   have g4:((j:Int)+1).toNat=j+1:=by omega
   by_cases hc:c3=j+1
   ·have hV0:V=0:=by have:=HV.out;rw [wU XI,Ll] at this;exact this.symm
    have hn:n3=j+1:=by omega
    subst hV0 hn hc
    go_enter Tryz.func95,Tryz.ntmps95
    go_wp2
    go_loopw [7,25] (fun v i wr=>v=.int .i64 0∧i=.int .i64 0∧Below w.heap.size w wr) (fun _ _ _=>0)
    case atStart=>exact ⟨rfl,rfl,jT⟩
    case round =>
     obtain ⟨rfl,rfl,hbel⟩:=hrel
     exact Dh
   ·obtain ⟨m,hm⟩:∃ m,n3 - (j+1)=m:=⟨_,rfl⟩
    go_enter Tryz.func95,Tryz.ntmps95
    go_wp2
    have HM:=Lib.hid hm
    clear hm
    go_loopw [7,25] (fun v i wr=>∃ h:Nat,h≤15∧h≤m∧v=.int .i64 h∧i=.int .i64 h∧V=h+lT x (15 - h) (evs.drop (j+1+h))∧Below w.heap.size w wr)
     (fun _ i _=>m - (intOf i).toNat)
    case atStart=>exact ⟨0,by omega,by omega,rfl,rfl,by simpa using HV.out.symm,jT⟩
    case round =>
     obtain ⟨h,hh,hjh,rfl,rfl,hs,hbel⟩:=hrel
     have HR:=Lib.hid hs
     clear hs
     by_cases hlt:h < m
     ·have hk2:j+1+h < evs.length:=by have:=HN.out;have:=HM.out;omega
      have HE:=Lib.hid (HP.out.below hbel)
      obtain ⟨ad',S,c,hA,hb,e0,e1,e2,e3,e4,e5,hS⟩:=HE.out.ev hk2
      obtain rfl:ad=ad':=by injection hA
      have hX:ad.add ((j+1+h)*6)=(ad.add ((j+1)*6)).add (h*6):=by rw [kW,Nat.add_mul]
      rw [hX] at e0 e1 e2 e3 e4 e5
      have hs2:=HR.out
      have HS:=Lib.hid hS
      have H20:=H4.out _ hk2
      have HS2:=Lib.hid (fun (w':World) (hb:Below wr.heap.size wr w')=>((HS.out.more hbel.size).after hb))
      by_cases h15:h=15
      ·have HE2:=Lib.hid (hs2.trans (show _=h by rw [show 15 - h=0 from by omega];rfl))
       have ax5:((h:Int) == 15)=true:=by simp;omega
       have ax6:((15:Int)=(h:Int)):=by omega
       clear hs2 hS hX hA h15 ax6
       go_wp2_with fail
       exact XV
      ·have ax5:((h:Int) == 15)=false:=by simp;omega
       have HC:(V=h∧(jU evs[j+1+h]=true∨(jU evs[j+1+h]=false∧hasB x evs[j+1+h].stops=true)))∨(V=(h+1)+lT x (15 - (h+1)) (evs.drop (j+1+(h+1)))∧jU evs[j+1+h]=false∧hasB x evs[j+1+h].stops=false):=by
        cases hr:jU evs[j+1+h]
        ·cases hq:hasB x evs[j+1+h].stops
         ·refine .inr ⟨?_,rfl,rfl⟩
          rw [hs2,show 15 - h=(15 - (h+1))+1 from by omega,P7 hk2 (by rw [hr,hq];rfl),show j+1+(h+1)=j+1+h+1 from by omega]
          omega
         exact akG
        exact akX
       clear hs2 hS hX hA
       obtain ⟨e,he⟩:∃ e,evs[j+1+h]=e:=⟨_,rfl⟩
       rw [he] at e0 e1 e2 e3 e4 e5 H20 HC
       rw [he] at HS2
       have R:=fun w=>aeV e S c w
       have HH:=fun w hS=>Wq e S c x w hS H20
       rcases HC with ⟨hv,hr|⟨hr,hq⟩⟩|⟨hv,hr,hq⟩
       ·rw [hr] at R
        have KR:=Lib.hid R
        have HE2:=Lib.hid hv
        clear R HH hv he hr H20
        go_wp2_with (go_at_call 164;refine (KR.out _).mono ?_;rintro e' w1 ⟨rfl,hb1⟩;have k1:=(nN.new _ _ _).after hb1;have x0:w1.cell? ⟨wr.heap.size,0,none⟩=some (.bool e.bar):=k1.cell 0;have x1:w1.cell? ⟨wr.heap.size,1,none⟩=some (.int .i64 e.val):=k1.cell 1;have x2:w1.cell? ⟨wr.heap.size,2,none⟩=some (.bool e.dot):=k1.cell 2;have x3:w1.cell? ⟨wr.heap.size,3,none⟩=some (.bool e.three):=k1.cell 3;have x4:w1.cell? ⟨wr.heap.size,4,none⟩=some (.bool e.tie):=k1.cell 4;have x5:w1.cell? ⟨wr.heap.size,5,none⟩=some (.slice S e.stops.length c):=k1.cell 5;have K1:=Lib.hid k1;clear k1)
        exact XV
       ·rw [hr] at R
        rw [hq] at HH
        have KR:=Lib.hid R
        have KH:=Lib.hid HH
        have HE2:=Lib.hid hv
        clear R HH hv he hr hq H20
        go_wp2_with (first|(go_at_call 164;refine (KR.out _).mono ?_;rintro e' w1 ⟨rfl,hb1⟩;have k1:=(nN.new _ _ _).after hb1;have x0:w1.cell? ⟨wr.heap.size,0,none⟩=some (.bool e.bar):=k1.cell 0;have x1:w1.cell? ⟨wr.heap.size,1,none⟩=some (.int .i64 e.val):=k1.cell 1;have x2:w1.cell? ⟨wr.heap.size,2,none⟩=some (.bool e.dot):=k1.cell 2;have x3:w1.cell? ⟨wr.heap.size,3,none⟩=some (.bool e.three):=k1.cell 3;have x4:w1.cell? ⟨wr.heap.size,4,none⟩=some (.bool e.tie):=k1.cell 4;have x5:w1.cell? ⟨wr.heap.size,5,none⟩=some (.slice S e.stops.length c):=k1.cell 5;have K1:=Lib.hid k1;clear k1)|(go_at_call 165;refine (KH.out _ (HS2.out _ jT)).mono ?_;rintro e' w2 ⟨rfl,hb2⟩))
        exact XV
       ·rw [hr] at R
        rw [hq] at HH
        have KR:=Lib.hid R
        have KH:=Lib.hid HH
        have HE2:=Lib.hid hv
        clear R HH hv he hr hq H20
        go_wp2_with (first|(go_at_call 164;refine (KR.out _).mono ?_;rintro e' w1 ⟨rfl,hb1⟩;have k1:=(nN.new _ _ _).after hb1;have x0:w1.cell? ⟨wr.heap.size,0,none⟩=some (.bool e.bar):=k1.cell 0;have x1:w1.cell? ⟨wr.heap.size,1,none⟩=some (.int .i64 e.val):=k1.cell 1;have x2:w1.cell? ⟨wr.heap.size,2,none⟩=some (.bool e.dot):=k1.cell 2;have x3:w1.cell? ⟨wr.heap.size,3,none⟩=some (.bool e.three):=k1.cell 3;have x4:w1.cell? ⟨wr.heap.size,4,none⟩=some (.bool e.tie):=k1.cell 4;have x5:w1.cell? ⟨wr.heap.size,5,none⟩=some (.slice S e.stops.length c):=k1.cell 5;have K1:=Lib.hid k1;clear k1)|(go_at_call 165;refine (KH.out _ (HS2.out _ jT)).mono ?_;rintro e' w2 ⟨rfl,hb2⟩))
        go_roundw
        case rel=>exact ⟨h+1,by omega,by omega,by go_num,by go_num,HE2.out,jT⟩
        case measure=>simp [intOf];omega
     ·have HE:=Lib.hid (HR.out.trans (show h+lT x (15 - h) (evs.drop (j+1+h))=h from by rw [wU (by have:=HN.out;have:=HM.out;omega),Ll];rfl))
      exact BM
end
end Go.Proofs.YthehkchjdkdbiaaGreatDoor
