/- How long a note may be held: the reference. -/
import Derived.Test.YtgelfflighgajaaGreatDoorCalmOq
import Derived.Test.YtgelfflighgajaaGreatDoorProg
set_option maxHeartbeats 1600000
set_option maxRecDepth 100000
set_option linter.unusedVariables false
set_option linter.unusedSimpArgs false
namespace Go.Proofs.YtgelfflighgajaaGreatDoor
section
open Go.RowKit
abbrev Stp:=Int×Int×Int×Int×Int
def stpCells(x:Stp):List Value:=[.int .i64 x.1,.int .i64 x.2.1,.int .i64 x.2.2.1,.int .i64 x.2.2.2.1,.int .i64 x.2.2.2.2]
structure Ev where
 bar:Bool
 val:Int
 dot:Bool
 three:Bool
 tie:Bool
 stops:List Stp
def evCells(e:Ev)(m:Option Addr×Nat):List Value:=[.bool e.bar,.int .i64 e.val,.bool e.dot,.bool e.three,.bool e.tie,.slice m.1 e.stops.length m.2]
structure Pce where
 cs:List (Int×Int×Bool)
 st:List Int
 evs:List Ev
structure PM where
 A1:Option Addr
 A2:Option Addr
 A3:Option Addr
 c1:Nat
 c2:Nat
 c3:Nat
def StpsAt (w:World)(B:Nat)(A:Option Addr)(l:List Stp):Prop:=Rd w B 5 A (l.map stpCells)
def EvsAt (w:World)(B:Nat)(A:Option Addr)(evs:List Ev):Prop :=
 ∃ ms:List (Option Addr×Nat),ms.length=evs.length∧Rd w B 6 A (List.zipWith evCells evs ms)∧∀ (k:Nat)(e:Ev)(m:Option Addr×Nat),evs[k]?=some e→ms[k]?=some m→StpsAt w B m.1 e.stops
def PcAt(w:World)(B:Nat)(M:PM)(p:Pce):Prop:=InsAt w B M.A1 M.A2 p.cs p.st∧EvsAt w B M.A3 p.evs∧p.evs.length≤M.c3
def pcValue(M:PM)(p:Pce):Value:=.agg #[.slice M.A1 p.cs.length M.c1,.slice M.A2 p.st.length M.c2,.slice M.A3 p.evs.length M.c3]
section
variable {w w':World} {B B':Nat} {A:Option Addr} {l:List Stp} {evs:List Ev} {M:PM} {p:Pce}
theorem StpsAt.keep(h:StpsAt w B A l)(hk:∀ p:Addr,p.block<B→w'.cell? p=w.cell? p):StpsAt w' B A l:=Rd.keep h hk
theorem StpsAt.more(h:StpsAt w B A l)(hB:B≤B'):StpsAt w B' A l:=Rd.more h hB
theorem StpsAt.below(h:StpsAt w B A l)(hb:Below B w w'):StpsAt w' B A l:=h.keep fun _ hp=>hb.cell hp
theorem EvsAt.keep(h:EvsAt w B A evs)(hk:∀ p:Addr,p.block<B→w'.cell? p=w.cell? p):EvsAt w' B A evs:=by
 obtain⟨ms,h1,h2,h3⟩:=h
 exact⟨ms,h1,h2.keep hk,fun k e m he hm=>(h3 k e m he hm).keep hk⟩
theorem EvsAt.more(h:EvsAt w B A evs)(hB:B≤B'):EvsAt w B' A evs:=by
 obtain⟨ms,h1,h2,h3⟩:=h
 exact⟨ms,h1,h2.more hB,fun k e m he hm=>(h3 k e m he hm).more hB⟩
theorem EvsAt.below(h:EvsAt w B A evs)(hb:Below B w w'):EvsAt w' B A evs:=h.keep fun _ hp=>hb.cell hp
theorem PcAt.keep(h:PcAt w B M p)(hk:∀ p:Addr,p.block<B→w'.cell? p=w.cell? p):PcAt w' B M p:=⟨h.1.keep hk,h.2.1.keep hk,h.2.2⟩
theorem PcAt.more(h:PcAt w B M p)(hB:B≤B'):PcAt w B' M p:=⟨h.1.more hB,h.2.1.more hB,h.2.2⟩
theorem PcAt.below(h:PcAt w B M p)(hb:Below B w w'):PcAt w' B M p:=h.keep fun _ hp=>hb.cell hp
theorem PcAt.after(h:PcAt w w.heap.size M p)(hb:Below w.heap.size w w'):PcAt w' w'.heap.size M p:=(h.below hb).more hb.size
theorem StpsAt.after(h:StpsAt w w.heap.size A l)(hb:Below w.heap.size w w'):StpsAt w' w'.heap.size A l:=(h.below hb).more hb.size
theorem StpsAt.stp {k:Nat} (h:StpsAt w B A l) (hk:k<l.length):∃ ad,A=some ad∧ad.block<B∧w.cell? (ad.add (k*5))=some (.int .i64 l[k].1) ∧
  w.cell? ⟨(ad.add (k*5)).block,(ad.add (k*5)).off+1,none⟩=some (.int .i64 l[k].2.1)∧w.cell? ⟨(ad.add (k*5)).block,(ad.add (k*5)).off+2,none⟩=some (.int .i64 l[k].2.2.1) ∧
  w.cell? ⟨(ad.add (k*5)).block,(ad.add (k*5)).off+3,none⟩=some (.int .i64 l[k].2.2.2.1)∧w.cell? ⟨(ad.add (k*5)).block,(ad.add (k*5)).off+4,none⟩=some (.int .i64 l[k].2.2.2.2):=by
 obtain ⟨ad,e,hb,hc⟩:=Rd.at_ (k:=k) h (by simpa using hk)
 refine ⟨ad,e,hb,?_,?_,?_,?_,?_⟩
 ·have:=hc 0 (.int .i64 l[k].1) (by simp [stpCells]);simpa using this
 ·rw [← add_field _ _ _ (by omega)];exact hc 1 _ (by simp [stpCells])
 ·rw [← add_field _ _ _ (by omega)];exact hc 2 _ (by simp [stpCells])
 ·rw [← add_field _ _ _ (by omega)];exact hc 3 _ (by simp [stpCells])
 ·rw [← add_field _ _ _ (by omega)];exact hc 4 _ (by simp [stpCells])
theorem EvsAt.ev {k:Nat} (h:EvsAt w B A evs) (hk:k<evs.length):∃ (ad:Addr) (S:Option Addr) (c:Nat),A=some ad∧ad.block<B∧w.cell? (ad.add (k*6))=some (.bool evs[k].bar) ∧
  w.cell? ⟨(ad.add (k*6)).block,(ad.add (k*6)).off+1,none⟩=some (.int .i64 evs[k].val)∧w.cell? ⟨(ad.add (k*6)).block,(ad.add (k*6)).off+2,none⟩=some (.bool evs[k].dot) ∧
  w.cell? ⟨(ad.add (k*6)).block,(ad.add (k*6)).off+3,none⟩=some (.bool evs[k].three)∧w.cell? ⟨(ad.add (k*6)).block,(ad.add (k*6)).off+4,none⟩=some (.bool evs[k].tie) ∧
  w.cell? ⟨(ad.add (k*6)).block,(ad.add (k*6)).off+5,none⟩=some (.slice S evs[k].stops.length c)∧StpsAt w B S evs[k].stops:=by
 obtain ⟨ms,h1,h2,h3⟩:=h
 obtain ⟨ad,e,hb,hc⟩:=Rd.at_ (k:=k) h2 (by simp;omega)
 have hm:k<ms.length:=by omega
 have hz:(List.zipWith evCells evs ms)[k]'(by simp;omega)=evCells evs[k] ms[k]:=List.getElem_zipWith
 rw [hz] at hc
 refine ⟨ad,ms[k].1,ms[k].2,e,hb,?_,?_,?_,?_,?_,?_,h3 k _ _ (List.getElem?_eq_getElem hk) (List.getElem?_eq_getElem hm)⟩
 ·have:=hc 0 (.bool evs[k].bar) (by simp [evCells]);simpa using this
 ·rw [← add_field _ _ _ (by omega)];exact hc 1 _ (by simp [evCells])
 ·rw [← add_field _ _ _ (by omega)];exact hc 2 _ (by simp [evCells])
 ·rw [← add_field _ _ _ (by omega)];exact hc 3 _ (by simp [evCells])
 ·rw [← add_field _ _ _ (by omega)];exact hc 4 _ (by simp [evCells])
 ·rw [← add_field _ _ _ (by omega)];exact hc 5 _ (by simp [evCells])
end
def bigB (p:Pce):Bool:=decide (64<p.cs.length)|| (decide (64<p.st.length)|| (decide (420<p.evs.length)|| p.evs.any fun e=>decide (20<e.stops.length)))
theorem any_at {α:Type} {f:α→Bool} {l:List α} {k:Nat} (h:k<l.length):(l.drop k).any f=(f l[k]|| (l.drop (k+1)).any f):=by
 rw [List.drop_eq_getElem_cons h];rfl
def evVal(e:Ev)(S:Option Addr)(c:Nat):Value:=.agg #[.bool e.bar,.int .i64 e.val,.bool e.dot,.bool e.three,.bool e.tie,.slice S e.stops.length c]
def stpVal(x:Stp):Value:=.agg #[.int .i64 x.1,.int .i64 x.2.1,.int .i64 x.2.2.1,.int .i64 x.2.2.2.1,.int .i64 x.2.2.2.2]
def restB(e:Ev):Bool:=e.stops.length == 0 && !e.tie
def hasB(c:Int)(l:List Stp):Bool:=l.any fun x=>x.1 == c
def runL(c:Int):Nat→List Ev→Nat
 | 0,_=>0
 | _+1,[]=>0
 | k+1,e::r=>if(restB e|| hasB c e.stops)=true then 0 else runL c k r+1
def longestN (evs:List Ev)(i c:Int):Nat:=if i<0∨(evs.length:Int)≤i then 0 else runL c 15 (evs.drop (i.toNat+1))
theorem runL_nil(c:Int)(k:Nat):runL c k []=0:=by cases k<;>rfl
theorem runL_le(c:Int):∀ (k:Nat)(l:List Ev),runL c k l≤k:=by
 intro k
 induction k with
 | zero=>intro l;simp [runL]
 | succ k ih =>
  intro l
  cases l with
  | nil=>simp [runL]
  | cons e r =>
   have:=ih r
   unfold runL
   split
   ·omega
   ·omega
theorem longestN_le(evs:List Ev)(i c:Int):longestN evs i c≤15:=by
 unfold longestN;split
 ·omega
 ·exact runL_le _ _ _
theorem runL_stop {c:Int} {l:List Ev} {k j:Nat} (hj:j<l.length)(h:(restB l[j]|| hasB c l[j].stops)=true):runL c k (l.drop j)=0:=by
 rw [List.drop_eq_getElem_cons hj]
 cases k with
 | zero=>rfl
 | succ k=>unfold runL;rw [if_pos h]
theorem runL_step {c:Int} {l:List Ev} {k j:Nat} (hj:j<l.length) (h:(restB l[j]|| hasB c l[j].stops)=false):runL c (k+1) (l.drop j)=runL c k (l.drop (j+1))+1:=by
 rw [List.drop_eq_getElem_cons hj,runL,if_neg (by rw [h];decide)]
end
section
open Go.RowKit
theorem rRest_any (e:Ev)(S:Option Addr)(c:Nat)(w:World):Calls Tryz.prog 147 #[evVal e S c] w (Ret (.bool (restB e)) w):=by
 obtain⟨bar,val,dot,three,tie,stops⟩:=e
 unfold evVal restB
 simp only
 generalize stops.length=n
 cases tie
 all_goals
  cases hn:((n:Int) == 0)
  all_goals
   have hn2:(n == 0)=((n:Int) == 0):=by rw [Bool.eq_iff_iff];simp
   rw [hn2,hn]
   clear hn2
   go_enter Tryz.func147,Tryz.ntmps147
   go_wp2
   go_ret
   exact Ret.mk' rfl zqb
theorem rHas_any (e:Ev) (S:Option Addr) (c:Nat) (x:Int) (w:World) (hS:StpsAt w w.heap.size S e.stops) (hn:e.stops.length≤20):Calls Tryz.prog 150 #[evVal e S c,.int .i64 x] w (Ret (.bool (hasB x e.stops)) w):=by
 obtain ⟨bar,val,dot,three,tie,stops⟩:=e
 unfold evVal
 simp only at *
 have HS:=Lib.hid hS
 obtain ⟨n,hnn⟩:∃ n,stops.length=n:=⟨_,rfl⟩
 rw [hnn] at hn ⊢
 have HN:=Lib.hid hnn
 obtain ⟨V,hV⟩:∃ V,hasB x stops=V:=⟨_,rfl⟩
 rw [hV]
 have HV:=Lib.hid hV
 clear hV hnn hS
 go_enter Tryz.func150,Tryz.ntmps150
 go_wp2
 go_loop [5] (fun i=>∃ k:Nat,k≤n∧i=.int .i64 k∧V=hasB x (stops.drop k)) (fun i=>n - (intOf i).toNat)
 case atStart=>exact ⟨0,Nat.zero_le _,rfl,HV.out.symm⟩
 case round =>
  obtain ⟨k,hk,rfl,hs⟩:=hrel
  have HR:=Lib.hid hs
  clear hs
  by_cases hlt:k < n
  ·have hk2:k < stops.length:=by have:=HN.out;omega
   obtain ⟨ad,hA,hb,hc,_⟩:=HS.out.stp hk2
   subst hA
   have hs2:=HR.out.trans (any_at hk2)
   generalize stops[k].1=y at hc hs2
   have hc2:∀ o:Obj,(w.alloc o).cell? (ad.add (k*5))=some (.int .i64 y):=fun o=>by
    rw [World.cell?_alloc_lt _ _ _ (by rw [block_of_add];omega),hc]
   clear hc
   cases hyx:(y == x)
   ·have HR2:=Lib.hid (hs2.trans (show _=hasB x (stops.drop (k+1)) by rw [hyx];rfl))
    clear hs2
    go_wp2
    go_round
    case rel=>exact ⟨k+1,by omega,by go_num,HR2.out⟩
    case measure=>simp [intOf];omega
   ·have HE:=Lib.hid (hs2.trans (show _=true by rw [hyx];rfl))
    clear hs2
    go_wp2
    go_ret
    exact Ret.mk' (by rw [HE.out];rfl) zqb
  ·have HE:=Lib.hid (HR.out.trans (show hasB x (stops.drop k)=false from by rw [List.drop_eq_nil_of_le (by have:=HN.out;omega)];rfl))
   go_wp2
   go_ret
   exact Ret.mk' (by rw [HE.out];rfl) zqb
theorem longestN_out {evs:List Ev} {i c:Int} (h:i<0∨(evs.length:Int)≤i):longestN evs i c=0:=if_pos h
theorem longestN_in {evs:List Ev} {i:Nat} {c:Int} (h:i<evs.length):longestN evs i c=runL c 15 (evs.drop (i+1)):=by unfold longestN;rw [if_neg (by omega)];simp
structure PcOk(p:Pce):Prop where
 n1:p.cs.length≤64
 n2:p.st.length≤64
 n3:p.evs.length≤420
 n4:∀ k(h:k<p.evs.length),p.evs[k].stops.length≤20
theorem rLongest_any (M:PM) (p:Pce) (i x:Int) (w:World) (hP:PcAt w w.heap.size M p) (hO:PcOk p) :
  Calls Tryz.prog 86 #[pcValue M p,.int .i64 i,.int .i64 x] w (Ret (.int .i64 (longestN p.evs i x)) w):=by
 obtain ⟨A1,A2,A3,c1,c2,c3⟩:=M
 obtain ⟨cs,st,evs⟩:=p
 unfold pcValue
 have HP:=Lib.hid hP.2.1
 have H4:=Lib.hid hO.n4
 have hn3:=hO.n3
 simp only at *
 generalize cs.length=n1
 generalize st.length=n2
 obtain ⟨n3,hnn⟩:∃ n,evs.length=n:=⟨_,rfl⟩
 rw [hnn] at hn3 ⊢
 have HN:=Lib.hid hnn
 by_cases hi0:i < 0
 ·rw [longestN_out (.inl hi0)]
  clear hnn hP hO
  go_enter Tryz.func86,Tryz.ntmps86
  go_wp2
  go_ret
  exact Ret.mk' rfl zqb
 ·by_cases hi1:(n3:Int)≤i
  ·rw [longestN_out (.inr (by omega))]
   clear hnn hP hO
   go_enter Tryz.func86,Tryz.ntmps86
   go_wp2
   go_ret
   exact Ret.mk' rfl zqb
  ·obtain ⟨j,rfl⟩:∃ j:Nat,i=j:=⟨i.toNat,by omega⟩
   have hj:j < n3:=by omega
   have d1:decide ((j:Int) < 0)=false:=decide_eq_false zqo
   have d2:decide ((n3:Int)≤(j:Int))=false:=decide_eq_false zqo
   have d3:decide (n3≤j)=false:=decide_eq_false zqo
   rw [longestN_in (by omega)]
   obtain ⟨V,hV⟩:∃ V,runL x 15 (evs.drop (j+1))=V:=⟨_,rfl⟩
   rw [hV]
   have HV:=Lib.hid hV
   clear hV hnn hP hO hi0 hi1
   go_enter Tryz.func86,Tryz.ntmps86
   go_wp2
   go_loopw [7] (fun v wr=>∃ h:Nat,h≤15∧j+1+h≤n3∧v=.int .i64 h∧V=h+runL x (15 - h) (evs.drop (j+1+h))∧Below w.heap.size w wr∧Blk wr w.heap.size 28 #[.slice A1 n1 c1,.slice A2 n2 c2,.slice A3 n3 c3])
    (fun v _=>15 - (intOf v).toNat)
   case atStart=>exact ⟨0,by omega,by omega,rfl,by simpa using HV.out.symm,zqb,Blk.new _ _ _⟩
   case round =>
    obtain ⟨h,hh,hjh,rfl,hs,hbel,hblk⟩:=hrel
    have HR:=Lib.hid hs
    have HB:=Lib.hid hblk
    have hlt:w.heap.size < wr.heap.size:=hblk.lt
    have q0:wr.cell? ⟨w.heap.size,0,none⟩=some (.slice A1 n1 c1):=hblk.cell 0
    have q1:wr.cell? ⟨w.heap.size,1,none⟩=some (.slice A2 n2 c2):=hblk.cell 1
    have q2:wr.cell? ⟨w.heap.size,2,none⟩=some (.slice A3 n3 c3):=hblk.cell 2
    clear hs hblk
    by_cases h15:h < 15
    ·by_cases hin:j+h+1 < n3
     ·have hk2:j+h+1 < evs.length:=by have:=HN.out;omega
      have HE:=Lib.hid (HP.out.below hbel)
      obtain ⟨ad,S,c,hA,hb,e0,e1,e2,e3,e4,e5,hS⟩:=HE.out.ev hk2
      subst hA
      have hs2:=HR.out
      rw [show j+1+h=j+h+1 from by omega] at hs2
      have HS:=Lib.hid hS
      have H20:=H4.out _ hk2
      have hinI:(j:Int)+h+1 < n3:=by omega
      have hidx:((j:Int)+h+1).toNat=j+h+1:=by omega
      have HS2:=Lib.hid (fun (w':World) (hb:Below wr.heap.size wr w')=>((HS.out.more hbel.size).after hb))
      have HC:(V=h∧(restB evs[j+h+1]=true∨(restB evs[j+h+1]=false∧hasB x evs[j+h+1].stops=true)))∨(V=(h+1)+runL x (15 - (h+1)) (evs.drop (j+1+(h+1)))∧restB evs[j+h+1]=false∧hasB x evs[j+h+1].stops=false):=by
       cases hr:restB evs[j+h+1]
       ·cases hq:hasB x evs[j+h+1].stops
        ·refine .inr ⟨?_,rfl,rfl⟩
         rw [hs2,show 15 - h=(15 - (h+1))+1 from by omega,runL_step hk2 (by rw [hr,hq];rfl),show j+1+(h+1)=j+h+1+1 from by omega]
         omega
        ·exact .inl ⟨by rw [hs2,runL_stop hk2 (by rw [hr,hq];rfl)];rfl,.inr ⟨rfl,rfl⟩⟩
       ·exact .inl ⟨by rw [hs2,runL_stop hk2 (by rw [hr];rfl)];rfl,.inl rfl⟩
      clear hs2 hS
      obtain ⟨e,he⟩:∃ e,evs[j+h+1]=e:=⟨_,rfl⟩
      rw [he] at e0 e1 e2 e3 e4 e5 H20 HC
      rw [he] at HS2
      have R:=fun w=>rRest_any e S c w
      have HH:=fun w hS=>rHas_any e S c x w hS H20
      rcases HC with ⟨hv,hr|⟨hr,hq⟩⟩|⟨hv,hr,hq⟩
      ·rw [hr] at R
       have KR:=Lib.hid R
       have HE2:=Lib.hid hv
       clear R HH hv he hr H20
       go_wp2_with (go_at_call 147;refine (KR.out _).mono ?_;rintro e' w1 ⟨rfl,hb1⟩;have k1:=(Blk.new _ _ _).after hb1;have x0:w1.cell? ⟨wr.heap.size,0,none⟩=some (.bool e.bar):=k1.cell 0;have x1:w1.cell? ⟨wr.heap.size,1,none⟩=some (.int .i64 e.val):=k1.cell 1;have x2:w1.cell? ⟨wr.heap.size,2,none⟩=some (.bool e.dot):=k1.cell 2;have x3:w1.cell? ⟨wr.heap.size,3,none⟩=some (.bool e.three):=k1.cell 3;have x4:w1.cell? ⟨wr.heap.size,4,none⟩=some (.bool e.tie):=k1.cell 4;have x5:w1.cell? ⟨wr.heap.size,5,none⟩=some (.slice S e.stops.length c):=k1.cell 5;clear k1)
       go_ret
       exact Ret.mk' (by rw [HE2.out];rfl) zqb
      ·rw [hr] at R
       rw [hq] at HH
       have KR:=Lib.hid R
       have KH:=Lib.hid HH
       have HE2:=Lib.hid hv
       clear R HH hv he hr hq H20
       go_wp2_with (first|(go_at_call 147;refine (KR.out _).mono ?_;rintro e' w1 ⟨rfl,hb1⟩;have k1:=(Blk.new _ _ _).after hb1;have x0:w1.cell? ⟨wr.heap.size,0,none⟩=some (.bool e.bar):=k1.cell 0;have x1:w1.cell? ⟨wr.heap.size,1,none⟩=some (.int .i64 e.val):=k1.cell 1;have x2:w1.cell? ⟨wr.heap.size,2,none⟩=some (.bool e.dot):=k1.cell 2;have x3:w1.cell? ⟨wr.heap.size,3,none⟩=some (.bool e.three):=k1.cell 3;have x4:w1.cell? ⟨wr.heap.size,4,none⟩=some (.bool e.tie):=k1.cell 4;have x5:w1.cell? ⟨wr.heap.size,5,none⟩=some (.slice S e.stops.length c):=k1.cell 5;clear k1)|(go_at_call 150;refine (KH.out _ (HS2.out _ zqb)).mono ?_;rintro e' w2 ⟨rfl,hb2⟩))
       go_ret
       exact Ret.mk' (by rw [HE2.out];rfl) zqb
      ·rw [hr] at R
       rw [hq] at HH
       have KR:=Lib.hid R
       have KH:=Lib.hid HH
       have HE2:=Lib.hid hv
       clear R HH hv he hr hq H20
       go_wp2_with (first|(go_at_call 147;refine (KR.out _).mono ?_;rintro e' w1 ⟨rfl,hb1⟩;have k1:=(Blk.new _ _ _).after hb1;have x0:w1.cell? ⟨wr.heap.size,0,none⟩=some (.bool e.bar):=k1.cell 0;have x1:w1.cell? ⟨wr.heap.size,1,none⟩=some (.int .i64 e.val):=k1.cell 1;have x2:w1.cell? ⟨wr.heap.size,2,none⟩=some (.bool e.dot):=k1.cell 2;have x3:w1.cell? ⟨wr.heap.size,3,none⟩=some (.bool e.three):=k1.cell 3;have x4:w1.cell? ⟨wr.heap.size,4,none⟩=some (.bool e.tie):=k1.cell 4;have x5:w1.cell? ⟨wr.heap.size,5,none⟩=some (.slice S e.stops.length c):=k1.cell 5;clear k1)|(go_at_call 150;refine (KH.out _ (HS2.out _ zqb)).mono ?_;rintro e' w2 ⟨rfl,hb2⟩))
       go_roundw
       case rel=>exact ⟨h+1,by omega,by omega,by go_num,HE2.out,zqb,((HB.out.alloc _).after hb1).after hb2⟩
       case measure=>simp [intOf];omega
     ·have HE:=Lib.hid (HR.out.trans (show h+runL x (15 - h) (evs.drop (j+1+h))=h from by rw [List.drop_eq_nil_of_le (by have:=HN.out;omega),runL_nil];rfl))
      have hinI:¬ (j:Int)+h+1 < n3:=by omega
      go_wp2
      go_ret
      exact Ret.mk' (by rw [HE.out];rfl) zqb
    ·have HE:=Lib.hid (HR.out.trans (show h+runL x (15 - h) (evs.drop (j+1+h))=h from by rw [show 15 - h=0 from by omega];rfl))
     go_wp2
     go_ret
     exact Ret.mk' (by rw [HE.out];rfl) zqb
end
end Go.Proofs.YtgelfflighgajaaGreatDoor
