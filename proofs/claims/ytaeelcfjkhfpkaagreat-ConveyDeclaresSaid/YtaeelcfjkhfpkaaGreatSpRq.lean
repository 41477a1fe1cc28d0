/- Notes of the staff, their names, the text of an instrument: plain words. -/
import Derived.Test.YtaeelcfjkhfpkaaGreatSymRq
import Derived.Test.YtaeelcfjkhfpkaaGreatLnPRq
import Derived.Test.YtaeelcfjkhfpkaaGreatEZRq
set_option maxHeartbeats 1600000
set_option maxRecDepth 100000
set_option linter.unusedVariables false
set_option linter.unusedSimpArgs false
namespace Go.Proofs.YtaeelcfjkhfpkaaGreat
section
def pS(s c f:Int):List UInt8:=if s=1 then frS c f else if s=2 then itS c f else if s=3 then spS c f else geS c f
def pOk(s c f:Int):Bool:=if s=1 then frOk c f else if s=2 then itOk c f else if s=3 then spOk c f else geOk c f
end
section
def rR(s n:Int):List UInt8:=if n=1∧s≠3 then [46]else if n=2∧s=1 then [58]else if n=3∧s=1 then [39]else []
def rG(s n:Int):List UInt8 :=
 if s=1∧1≤n∧n≤4 then cut [44,94,35,40] (n-1) n else if s=2∧n=1 then [116] else if(s=2∨s=4)∧n=3 then [35] else []
def rH(s n L:Int):List UInt8:=if s=1 then 95::dig2 n.toNat else if(s=2∨s=4)∧n=L then [42]else []
def pH(s n L:Int):List UInt8:=if n=0 then []else rH s n L
def okR(s n:Int):Bool:=n == 0|| !(rR s n).isEmpty
def okG(s n:Int):Bool:=n == 0|| !(rG s n).isEmpty
def okH(s n L:Int):Bool:=n == 0|| !(rH s n L).isEmpty
def cellS(s c f r g h L:Int):List UInt8:=pS s c f++rR s r++rG s g++pH s h L
def cellOk(s c f r g h L:Int):Bool:=pOk s c f && okR s r && okG s g && okH s h L
theorem rR_len(s n:Int):(rR s n).length≤1:=by
 unfold rR;split
 ·decide
 ·split
  ·decide
  ·split<;>decide
theorem rG_len(s n:Int):(rG s n).length≤4:=by
 unfold rG;split
 ·exact cut_length _ _ _
 ·split
  ·decide
  ·split<;>decide
theorem dig2_len(n:Nat):(dig2 n).length≤2:=by unfold dig2;split<;>simp
theorem rH_len(s n L:Int):(rH s n L).length≤3:=by
 unfold rH;split
 ·have:=dig2_len n.toNat;simp;omega
 ·split<;>decide
theorem pH_len(s n L:Int):(pH s n L).length≤3:=by
 unfold pH;split
 ·decide
 ·exact rH_len s n L
theorem symLenAll:((List.range' 1 4).all fun s=>(List.range' 1 14).all fun c=>(List.range 19).all fun f=>decide ((pS (s:Nat) (c:Nat) (f:Nat)).length≤4∧(rS (s:Nat) (c:Nat) (f:Nat)).length≤4))=true:=by
 decide +kernel
theorem pS_len (s c f:Int)(hs:1≤s∧s≤4)(hc:1≤c∧c≤14)(hf:0≤f∧f≤18):(pS s c f).length≤4∧(rS s c f).length≤4:=by
 obtain⟨s,rfl⟩:=Int.eq_ofNat_of_zero_le (show 0≤s by omega)
 obtain⟨c,rfl⟩:=Int.eq_ofNat_of_zero_le (show 0≤c by omega)
 obtain⟨f,rfl⟩:=Int.eq_ofNat_of_zero_le hf.1
 have h:=symLenAll
 rw [List.all_eq_true]at h
 have h1:=h s (List.mem_range'_1.2 zqo)
 rw [List.all_eq_true]at h1
 have h2:=h1 c (List.mem_range'_1.2 zqo)
 rw [List.all_eq_true]at h2
 exact of_decide_eq_true (h2 f (List.mem_range.2 zqo))
end
section
open Go.RowKit
theorem rRest_any (e:Ev)(S:Option Addr)(c:Nat)(w:World):Calls Tryz.prog 64 #[evVal e S c] w (Ret (.bool (restB e)) w):=by
 obtain⟨bar,val,dot,three,tie,stops⟩:=e
 unfold evVal restB
 simp only
 generalize stops.length=n
 cases tie
 all_goals
  cases hn:((n:Int) == 0)
  all_goals
   have hn2:(n == 0)=((n:Int) == 0):=by rw [Bool.eq_iff_iff];simp
   rw [hn2,hn]
   clear hn2
   go_enter Tryz.func64,Tryz.ntmps64
   go_wp2
   go_ret
   exact Ret.mk' rfl zqb
theorem rHas_any (e:Ev) (S:Option Addr) (c:Nat) (x:Int) (w:World) (hS:StpsAt w w.heap.size S e.stops) (hn:e.stops.length≤20):Calls Tryz.prog 115 #[evVal e S c,.int .i64 x] w (Ret (.bool (hasB x e.stops)) w):=by
 obtain ⟨bar,val,dot,three,tie,stops⟩:=e
 unfold evVal
 simp only at *
 have HS:=Lib.hid hS
 obtain ⟨n,hnn⟩:∃ n,stops.length=n:=⟨_,rfl⟩
 rw [hnn] at hn ⊢
 have HN:=Lib.hid hnn
 obtain ⟨V,hV⟩:∃ V,hasB x stops=V:=⟨_,rfl⟩
 rw [hV]
 have HV:=Lib.hid hV
 clear hV hnn hS
 go_enter Tryz.func115,Tryz.ntmps115
 go_wp2
 go_loop [5] (fun i=>∃ k:Nat,k≤n∧i=.int .i64 k∧V=hasB x (stops.drop k)) (fun i=>n - (intOf i).toNat)
 case atStart=>exact ⟨0,Nat.zero_le _,rfl,HV.out.symm⟩
 case round =>
  obtain ⟨k,hk,rfl,hs⟩:=hrel
  have HR:=Lib.hid hs
  clear hs
  by_cases hlt:k < n
  ·have hk2:k < stops.length:=by have:=HN.out;omega
   obtain ⟨ad,hA,hb,hc,_⟩:=HS.out.stp hk2
   subst hA
   have hs2:=HR.out.trans (any_at hk2)
   generalize stops[k].1=y at hc hs2
   have hc2:∀ o:Obj,(w.alloc o).cell? (ad.add (k*5))=some (.int .i64 y):=fun o=>by
    rw [World.cell?_alloc_lt _ _ _ (by rw [block_of_add];omega),hc]
   clear hc
   cases hyx:(y == x)
   ·have HR2:=Lib.hid (hs2.trans (show _=hasB x (stops.drop (k+1)) by rw [hyx];rfl))
    clear hs2
    go_wp2
    go_round
    case rel=>exact ⟨k+1,by omega,by go_num,HR2.out⟩
    case measure=>simp [intOf];omega
   ·have HE:=Lib.hid (hs2.trans (show _=true by rw [hyx];rfl))
    clear hs2
    go_wp2
    go_ret
    exact Ret.mk' (by rw [HE.out];rfl) zqb
  ·have HE:=Lib.hid (HR.out.trans (show hasB x (stops.drop k)=false from by rw [List.drop_eq_nil_of_le (by have:=HN.out;omega)];rfl))
   go_wp2
   go_ret
   exact Ret.mk' (by rw [HE.out];rfl) zqb
theorem longestN_out {evs:List Ev} {i c:Int} (h:i<0∨(evs.length:Int)≤i):longestN evs i c=0:=if_pos h
theorem longestN_in {evs:List Ev} {i:Nat} {c:Int} (h:i<evs.length):longestN evs i c=runL c 15 (evs.drop (i+1)):=by unfold longestN;rw [if_neg (by omega)];simp
structure PcOk(p:Pce):Prop where
 n1:p.cs.length≤64
 n2:p.st.length≤64
 n3:p.evs.length≤420
 n4:∀ k(h:k<p.evs.length),p.evs[k].stops.length≤20
theorem rLongest_any (M:PM) (p:Pce) (i x:Int) (w:World) (hP:PcAt w w.heap.size M p) (hO:PcOk p) :
  Calls Tryz.prog 66 #[pcValue M p,.int .i64 i,.int .i64 x] w (Ret (.int .i64 (longestN p.evs i x)) w):=by
 obtain ⟨A1,A2,A3,c1,c2,c3⟩:=M
 obtain ⟨cs,st,evs⟩:=p
 unfold pcValue
 have HP:=Lib.hid hP.2.1
 have H4:=Lib.hid hO.n4
 have hn3:=hO.n3
 simp only at *
 generalize cs.length=n1
 generalize st.length=n2
 obtain ⟨n3,hnn⟩:∃ n,evs.length=n:=⟨_,rfl⟩
 rw [hnn] at hn3 ⊢
 have HN:=Lib.hid hnn
 by_cases hi0:i < 0
 ·rw [longestN_out (.inl hi0)]
  clear hnn hP hO
  go_enter Tryz.func66,Tryz.ntmps66
  go_wp2
  go_ret
  exact Ret.mk' rfl zqb
 ·by_cases hi1:(n3:Int)≤i
  ·rw [longestN_out (.inr (by omega))]
   clear hnn hP hO
   go_enter Tryz.func66,Tryz.ntmps66
   go_wp2
   go_ret
   exact Ret.mk' rfl zqb
  ·obtain ⟨j,rfl⟩:∃ j:Nat,i=j:=⟨i.toNat,by omega⟩
   have hj:j < n3:=by omega
   have d1:decide ((j:Int) < 0)=false:=decide_eq_false zqo
   have d2:decide ((n3:Int)≤(j:Int))=false:=decide_eq_false zqo
   have d3:decide (n3≤j)=false:=decide_eq_false zqo
   rw [longestN_in (by omega)]
   obtain ⟨V,hV⟩:∃ V,runL x 15 (evs.drop (j+1))=V:=⟨_,rfl⟩
   rw [hV]
   have HV:=Lib.hid hV
   clear hV hnn hP hO hi0 hi1
   go_enter Tryz.func66,Tryz.ntmps66
   go_wp2
   go_loopw [7] (fun v wr=>∃ h:Nat,h≤15∧j+1+h≤n3∧v=.int .i64 h∧V=h+runL x (15 - h) (evs.drop (j+1+h))∧Below w.heap.size w wr∧Blk wr w.heap.size 29 #[.slice A1 n1 c1,.slice A2 n2 c2,.slice A3 n3 c3])
    (fun v _=>15 - (intOf v).toNat)
   case atStart=>exact ⟨0,by omega,by omega,rfl,by simpa using HV.out.symm,zqb,Blk.new _ _ _⟩
   case round =>
    obtain ⟨h,hh,hjh,rfl,hs,hbel,hblk⟩:=hrel
    have HR:=Lib.hid hs
    have HB:=Lib.hid hblk
    have hlt:w.heap.size < wr.heap.size:=hblk.lt
    have q0:wr.cell? ⟨w.heap.size,0,none⟩=some (.slice A1 n1 c1):=hblk.cell 0
    have q1:wr.cell? ⟨w.heap.size,1,none⟩=some (.slice A2 n2 c2):=hblk.cell 1
    have q2:wr.cell? ⟨w.heap.size,2,none⟩=some (.slice A3 n3 c3):=hblk.cell 2
    clear hs hblk
    by_cases h15:h < 15
    ·by_cases hin:j+h+1 < n3
     ·have hk2:j+h+1 < evs.length:=by have:=HN.out;omega
      have HE:=Lib.hid (HP.out.below hbel)
      obtain ⟨ad,S,c,hA,hb,e0,e1,e2,e3,e4,e5,hS⟩:=HE.out.ev hk2
      subst hA
      have hs2:=HR.out
      rw [show j+1+h=j+h+1 from by omega] at hs2
      have HS:=Lib.hid hS
      have H20:=H4.out _ hk2
      have hinI:(j:Int)+h+1 < n3:=by omega
      have hidx:((j:Int)+h+1).toNat=j+h+1:=by omega
      have HS2:=Lib.hid (fun (w':World) (hb:Below wr.heap.size wr w')=>((HS.out.more hbel.size).after hb))
      have HC:(V=h∧(restB evs[j+h+1]=true∨(restB evs[j+h+1]=false∧hasB x evs[j+h+1].stops=true)))∨(V=(h+1)+runL x (15 - (h+1)) (evs.drop (j+1+(h+1)))∧restB evs[j+h+1]=false∧hasB x evs[j+h+1].stops=false):=by
       cases hr:restB evs[j+h+1]
       ·cases hq:hasB x evs[j+h+1].stops
        ·refine .inr ⟨?_,rfl,rfl⟩
         rw [hs2,show 15 - h=(15 - (h+1))+1 from by omega,runL_step hk2 (by rw [hr,hq];rfl),show j+1+(h+1)=j+h+1+1 from by omega]
         omega
        ·exact .inl ⟨by rw [hs2,runL_stop hk2 (by rw [hr,hq];rfl)];rfl,.inr ⟨rfl,rfl⟩⟩
       ·exact .inl ⟨by rw [hs2,runL_stop hk2 (by rw [hr];rfl)];rfl,.inl rfl⟩
      clear hs2 hS
      obtain ⟨e,he⟩:∃ e,evs[j+h+1]=e:=⟨_,rfl⟩
      rw [he] at e0 e1 e2 e3 e4 e5 H20 HC
      rw [he] at HS2
      have R:=fun w=>rRest_any e S c w
      have HH:=fun w hS=>rHas_any e S c x w hS H20
      rcases HC with ⟨hv,hr|⟨hr,hq⟩⟩|⟨hv,hr,hq⟩
      ·rw [hr] at R
       have KR:=Lib.hid R
       have HE2:=Lib.hid hv
       clear R HH hv he hr H20
       go_wp2_with (go_at_call 64;refine (KR.out _).mono ?_;rintro e' w1 ⟨rfl,hb1⟩;have k1:=(Blk.new _ _ _).after hb1;have x0:w1.cell? ⟨wr.heap.size,0,none⟩=some (.bool e.bar):=k1.cell 0;have x1:w1.cell? ⟨wr.heap.size,1,none⟩=some (.int .i64 e.val):=k1.cell 1;have x2:w1.cell? ⟨wr.heap.size,2,none⟩=some (.bool e.dot):=k1.cell 2;have x3:w1.cell? ⟨wr.heap.size,3,none⟩=some (.bool e.three):=k1.cell 3;have x4:w1.cell? ⟨wr.heap.size,4,none⟩=some (.bool e.tie):=k1.cell 4;have x5:w1.cell? ⟨wr.heap.size,5,none⟩=some (.slice S e.stops.length c):=k1.cell 5;clear k1)
       go_ret
       exact Ret.mk' (by rw [HE2.out];rfl) zqb
      ·rw [hr] at R
       rw [hq] at HH
       have KR:=Lib.hid R
       have KH:=Lib.hid HH
       have HE2:=Lib.hid hv
       clear R HH hv he hr hq H20
       go_wp2_with (first|(go_at_call 64;refine (KR.out _).mono ?_;rintro e' w1 ⟨rfl,hb1⟩;have k1:=(Blk.new _ _ _).after hb1;have x0:w1.cell? ⟨wr.heap.size,0,none⟩=some (.bool e.bar):=k1.cell 0;have x1:w1.cell? ⟨wr.heap.size,1,none⟩=some (.int .i64 e.val):=k1.cell 1;have x2:w1.cell? ⟨wr.heap.size,2,none⟩=some (.bool e.dot):=k1.cell 2;have x3:w1.cell? ⟨wr.heap.size,3,none⟩=some (.bool e.three):=k1.cell 3;have x4:w1.cell? ⟨wr.heap.size,4,none⟩=some (.bool e.tie):=k1.cell 4;have x5:w1.cell? ⟨wr.heap.size,5,none⟩=some (.slice S e.stops.length c):=k1.cell 5;clear k1)|(go_at_call 115;refine (KH.out _ (HS2.out _ zqb)).mono ?_;rintro e' w2 ⟨rfl,hb2⟩))
       go_ret
       exact Ret.mk' (by rw [HE2.out];rfl) zqb
      ·rw [hr] at R
       rw [hq] at HH
       have KR:=Lib.hid R
       have KH:=Lib.hid HH
       have HE2:=Lib.hid hv
       clear R HH hv he hr hq H20
       go_wp2_with (first|(go_at_call 64;refine (KR.out _).mono ?_;rintro e' w1 ⟨rfl,hb1⟩;have k1:=(Blk.new _ _ _).after hb1;have x0:w1.cell? ⟨wr.heap.size,0,none⟩=some (.bool e.bar):=k1.cell 0;have x1:w1.cell? ⟨wr.heap.size,1,none⟩=some (.int .i64 e.val):=k1.cell 1;have x2:w1.cell? ⟨wr.heap.size,2,none⟩=some (.bool e.dot):=k1.cell 2;have x3:w1.cell? ⟨wr.heap.size,3,none⟩=some (.bool e.three):=k1.cell 3;have x4:w1.cell? ⟨wr.heap.size,4,none⟩=some (.bool e.tie):=k1.cell 4;have x5:w1.cell? ⟨wr.heap.size,5,none⟩=some (.slice S e.stops.length c):=k1.cell 5;clear k1)|(go_at_call 115;refine (KH.out _ (HS2.out _ zqb)).mono ?_;rintro e' w2 ⟨rfl,hb2⟩))
       go_roundw
       case rel=>exact ⟨h+1,by omega,by omega,by go_num,HE2.out,zqb,((HB.out.alloc _).after hb1).after hb2⟩
       case measure=>simp [intOf];omega
     ·have HE:=Lib.hid (HR.out.trans (show h+runL x (15 - h) (evs.drop (j+1+h))=h from by rw [List.drop_eq_nil_of_le (by have:=HN.out;omega),runL_nil];rfl))
      have hinI:¬ (j:Int)+h+1 < n3:=by omega
      go_wp2
      go_ret
      exact Ret.mk' (by rw [HE.out];rfl) zqb
    ·have HE:=Lib.hid (HR.out.trans (show h+runL x (15 - h) (evs.drop (j+1+h))=h from by rw [show 15 - h=0 from by omega];rfl))
     go_wp2
     go_ret
     exact Ret.mk' (by rw [HE.out];rfl) zqb
end
section
def sgOk (v:Int)(d t:Bool):Bool:=(v == 0 && !d && !t)|| (decide (1≤v) && decide (v≤7) && !(d && t))
def tkV(v:Int)(d t:Bool):Int :=
 if v<1∨7<v∨(d && t)=true then 0 else if d then 384/2 ^ (v-1).toNat/2*3 else if t then 384/2 ^ (v-1).toNat/3*2 else 384/2 ^ (v-1).toNat
theorem tkAll:((List.range' 1 7).all fun v=>[(false,false),(true,false),(false,true)].all fun p=>decide (0<tkV (v:Nat) p.1 p.2))=true:=by decide +kernel
theorem tkV_pos (v:Int) (d t:Bool) (hv:1≤v∧v≤7) (h:(d && t)=false):0<tkV v d t:=by
 obtain ⟨v,rfl⟩:=Int.eq_ofNat_of_zero_le (show 0≤v by omega)
 have h1:=tkAll
 rw [List.all_eq_true]at h1
 have h2:=h1 v (List.mem_range'_1.2 zqo)
 rw [List.all_eq_true]at h2
 cases d<;>cases t
 ·exact of_decide_eq_true (h2 (false,false) (by simp))
 ·exact of_decide_eq_true (h2 (false,true) (by simp))
 ·exact of_decide_eq_true (h2 (true,false) (by simp))
 ·cases h
end
section
open Go.RowKit
def fretsOf (cs:List (Int×Int×Bool)) (c:Int):Int:=(cs.getD (c.toNat-1) (0,0,false)).2.1
def stopE(p:Pce)(i:Int)(s:Stp)(last:Int):Int :=
 if s.1<1∨(p.cs.length:Int)<s.1 then 12
 else if s.2.1<0∨fretsOf p.cs s.1<s.2.1 then 13
 else if s.1≤last then 22
 else if(s.2.2.1<0∨3<s.2.2.1)∨(s.2.2.2.1<0∨4<s.2.2.2.1)then 23
 else if(s.2.2.2.2<0∨(longestN p.evs i s.1:Int)<s.2.2.2.2)∨(0<s.2.2.2.2∧s.2.1=0)then 24
 else 0
def stopsE(p:Pce)(i:Int):Int→List Stp→Int
 | _,[]=>0
 | last,s::r=>if stopE p i s last≠0 then stopE p i s last else stopsE p i s.1 r
def evE(p:Pce)(i:Int)(e:Ev):Int :=
 if sgOk e.val e.dot e.three=false∨(i=0∧e.val=0)then 20
 else if e.tie=true∧(0<e.stops.length∨i=0)then 21
 else stopsE p i 0 e.stops
def evsE (p:Pce):Nat→List Ev→Int
 | _,[]=>0
 | i,e::r=>if evE p i e≠0 then evE p i e else evsE p (i+1) r
def pceE(p:Pce):Int:=if insE p.cs p.st≠0 then insE p.cs p.st else if 400<p.evs.length then 2 else evsE p 0 p.evs
theorem stopsE_at {p:Pce} {i last:Int} {l:List Stp} {k:Nat} (h:k<l.length):stopsE p i last (l.drop k)=if stopE p i l[k] last≠0 then stopE p i l[k] last else stopsE p i l[k].1 (l.drop (k+1)):=by
 rw [List.drop_eq_getElem_cons h];rfl
theorem evsE_at {p:Pce} {l:List Ev} {k:Nat} (h:k<l.length):evsE p k (l.drop k)=if evE p k l[k]≠0 then evE p k l[k]else evsE p (k+1) (l.drop (k+1)):=by
 rw [List.drop_eq_getElem_cons h];rfl
section
variable {p:Pce} {i last:Int} {s:Stp}
theorem stopE_crs(h:s.1<1∨(p.cs.length:Int)<s.1):stopE p i s last=12:=if_pos h
theorem stopE_fret(h:¬ (s.1<1∨(p.cs.length:Int)<s.1))(h1:s.2.1<0∨fretsOf p.cs s.1<s.2.1):stopE p i s last=13:=by unfold stopE;rw [if_neg h,if_pos h1]
theorem stopE_order(h:¬ (s.1<1∨(p.cs.length:Int)<s.1))(h1:¬ (s.2.1<0∨fretsOf p.cs s.1<s.2.1))(h2:s.1≤last):stopE p i s last=22:=by unfold stopE;rw [if_neg h,if_neg h1,if_pos h2]
theorem stopE_mark(h:¬ (s.1<1∨(p.cs.length:Int)<s.1))(h1:¬ (s.2.1<0∨fretsOf p.cs s.1<s.2.1))(h2:¬ s.1≤last)(h3:(s.2.2.1<0∨3<s.2.2.1)∨(s.2.2.2.1<0∨4<s.2.2.2.1)):stopE p i s last=23:=by unfold stopE;rw [if_neg h,if_neg h1,if_neg h2,if_pos h3]
theorem stopE_hold(h:¬ (s.1<1∨(p.cs.length:Int)<s.1))(h1:¬ (s.2.1<0∨fretsOf p.cs s.1<s.2.1))(h2:¬ s.1≤last)(h3:¬ ((s.2.2.1<0∨3<s.2.2.1)∨(s.2.2.2.1<0∨4<s.2.2.2.1)))
  (h4:(s.2.2.2.2<0∨(longestN p.evs i s.1:Int)<s.2.2.2.2)∨(0<s.2.2.2.2∧s.2.1=0)):stopE p i s last=24:=by unfold stopE;rw [if_neg h,if_neg h1,if_neg h2,if_neg h3,if_pos h4]
theorem stopE_ok(h:¬ (s.1<1∨(p.cs.length:Int)<s.1))(h1:¬ (s.2.1<0∨fretsOf p.cs s.1<s.2.1))(h2:¬ s.1≤last)(h3:¬ ((s.2.2.1<0∨3<s.2.2.1)∨(s.2.2.2.1<0∨4<s.2.2.2.1)))
  (h4:¬ ((s.2.2.2.2<0∨(longestN p.evs i s.1:Int)<s.2.2.2.2)∨(0<s.2.2.2.2∧s.2.1=0))):stopE p i s last=0:=by unfold stopE;rw [if_neg h,if_neg h1,if_neg h2,if_neg h3,if_neg h4]
end
theorem fretsOf_at {cs:List (Int×Int×Bool)} {q:Nat} (h:q<cs.length):fretsOf cs ((q:Int)+1)=cs[q].2.1:=by
 unfold fretsOf
 have:((q:Int)+1).toNat-1=q:=by omega
 rw [this,List.getD_eq_getElem?_getD,List.getElem?_eq_getElem h];rfl
end
section
open Go.RowKit
attribute [local go_sem]mk_bs bs_size bs_toList bs_append bs_extract
attribute [local simp]run_cut run_cut_to run_cut_from run_add_bs
theorem of_bad (n:Int)(w:World)(h:n<1∨4<n):Calls Tryz.prog 92 #[.int .u8 n] w fun e w'=>e=.returned (.tuple #[.nilIface,.bool false])∧w=w':=by
 have h1:(n == 1)=false:=by simp;omega
 have h2:(n == 2)=false:=by simp;omega
 have h3:(n == 3)=false:=by simp;omega
 have h4:(n == 4)=false:=by simp;omega
 go_enter Tryz.func92,Tryz.ntmps92
 go_wp2
 go_ret2
 exact⟨rfl,rfl⟩
theorem psym_1 (c f:Int)(w:World)(hc:1≤c∧c≤14)(hf:0≤f∧f≤18) :
  Calls Tryz.prog 188 #[.agg #[],.agg #[.int .i64 c,.int .i64 f]] w (Ret (.tuple #[.string (bs (pS 1 c f)),.bool (pOk 1 c f)]) w):=fr_symbol c f w hc hf
theorem psym_2 (c f:Int)(w:World)(hc:1≤c∧c≤14)(hf:0≤f∧f≤18) :
  Calls Tryz.prog 225 #[.agg #[],.agg #[.int .i64 c,.int .i64 f]] w (Ret (.tuple #[.string (bs (pS 2 c f)),.bool (pOk 2 c f)]) w):=it_symbol c f w hc hf
theorem psym_3 (c f:Int)(w:World)(hc:1≤c∧c≤14)(hf:0≤f∧f≤18) :
  Calls Tryz.prog 233 #[.agg #[],.agg #[.int .i64 c,.int .i64 f]] w (Ret (.tuple #[.string (bs (pS 3 c f)),.bool (pOk 3 c f)]) w):=sp_symbol c f w hf
theorem psym_4 (c f:Int)(w:World)(hc:1≤c∧c≤14)(hf:0≤f∧f≤18) :
  Calls Tryz.prog 240 #[.agg #[],.agg #[.int .i64 c,.int .i64 f]] w (Ret (.tuple #[.string (bs (pS 4 c f)),.bool (pOk 4 c f)]) w):=ge_symbol c f w hc hf
end
section
open Go.RowKit
def sndIn(l al o:Int):Prop:=(0≤l∧l≤6)∧(-1≤al∧al≤1)∧-1≤o∧o≤9
instance (l al o:Int):Decidable (sndIn l al o):=by unfold sndIn;exact inferInstance
end
end Go.Proofs.YtaeelcfjkhfpkaaGreat
