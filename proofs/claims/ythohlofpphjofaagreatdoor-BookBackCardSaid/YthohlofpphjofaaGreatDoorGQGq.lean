/- A walk that knows values as trees: the walk through the runes of a string. -/
import Derived.Test.YthohlofpphjofaaGreatDoorNamesGq
import Derived.Test.YthohlofpphjofaaGreatDoorK2Gq
import Derived.RangeFuncNested
import Derived.RangeFuncBound
import Derived.Shelf.RegionOpen
import Derived.OwnWalkIn
import Derived.LoopNIn
import Derived.LoopIn
import Derived.Test.YthohlofpphjofaaGreatDoorInjGq
set_option maxHeartbeats 8000000
set_option maxRecDepth 100000
set_option linter.unusedVariables false
set_option linter.unusedSimpArgs false
namespace Go.Proofs.YthohlofpphjofaaGreatDoor
theorem ae5 {p:Prop}(h:p:=by
 go_enter Tryz.func339,Tryz.ntmps339
 go_wp2
 exact pG):p:=h
theorem Xc {p:Prop}(h:p:=by
 go_ret
 exact Ret.mk' (by rw [HE4.out];rfl) jD):p:=h
theorem aiX {p:Prop}(h:p:=by
 refine hR.mono ?_
 rintro e W3 ⟨rfl,hJ3,hk3⟩
 gi_wp2
 go_roundw
 case rel=>exact ⟨k+1,by omega,by go_num,by rw [HFR.out],hJ3,(HX.out.trans (HBB.out.mono (by have:=HX.out.size;omega))).trans hk3⟩
 case measure=>simp [intOf];omega):p:=h
theorem aiM {p:Prop}(h:p:=by
 have hW0:W=0:=HRJ.out.trans (show iW p k x (e.stops.drop j)=0 from by rw [qN (by have:=HM.out;omega)];rfl)
 have HR4:=Lib.hid (HVN.out hW0)
 clear hW0
 go_wp2_with fail
 go_roundw
 case rel=>exact ⟨k+1, by omega, by go_num, HR4.out, aaG, HBJ.out⟩
 case measure=>simp [intOf];omega):p:=h
section
open Go.RowKit
def qc (w:World) (F:View):Prop :=
 (∀ (i:Nat)v,ftL[i]?=some v→F ⟨0,i,none⟩=some (.int .i64 v))∧(∀ (i:Nat)v,bsL[i]?=some v→F ⟨1,i,none⟩=some (.int .i64 v)) ∧
 Lib.TabIs Tryz.prog w "internal/strconv.uint64pow10" .u64 Lib.pow10Tab
def ajH:Nat:=5+1
theorem PD:Tryz.prog.globalNamed "internal/strconv.uint64pow10"=some 5:=by kernel_rfl
theorem acV {w:World} {cs:Array Value} (h:w.var? Tryz.prog "internal/strconv.uint64pow10"=some cs):ajH≤w.heap.size:=by
 unfold World.var? at h
 rw [PD]at h
 rcases qJ 5 w.heap.size with h1|h1
 ·exact h1
 ·simp [Uf h1]at h
theorem jq:Stab qc ajH:=⟨fun w F h=>acV h.2.2,fun w w' F F' hb hF h=>⟨fun i v x=>hF _ _ (h.1 i v x),fun i v x=>hF _ _ (h.2.1 i v x),by
 have h3:=h.2.2
 unfold Lib.TabIs World.var? at h3 ⊢
 rw [PD]at h3 ⊢
 simp only [EU]at h3 ⊢
 rw [hb _ (ou _)];exact h3⟩⟩
theorem TS {z:Int} (h:0≤z∧z≤6):∀ w F,qc w F→F ⟨0,z.toNat,none⟩=some (.int .i64 (ZP z)):=fun w F hB=>hB.1 _ _ (ajE h)
theorem IU {z:Int} (h:0≤z∧z≤6):∀ w F,qc w F→F ⟨1,z.toNat,none⟩=some (.int .i64 (pI z)):=fun w F hB=>hB.2.1 _ _ (U5 h)
theorem Ctg.vS {B:World→View→Prop} {P:Program} {f:FuncId} {args:List AV} {xs:List Value} {res:AV} {v:Value} (hs:scs args=some xs)(hv:∀ F,RP F res v)(h:∀ w F,B w F→Calls P f xs.toArray w (Ret v w)):Ctg B P f args res:=by
 intro w F vs hB hF hR
 exact aiW
theorem zn (n:Int)(h:I64 n):Ctg qc Tryz.prog 108 [.sc (.int .i64 n)] (.sc (.string (bs (Lib.itoa n)))) :=
 Ctg.vS (v:=.string (bs (Lib.itoa n))) rfl (fun _=>.sc _) fun w F hB=>(Tryz.strconv_Itoa n h.1 (by have:=h.2;omega) w hB.2.2).mono fun e w'⟨he,k,os,hw⟩=>⟨he,by
  subst hw
  refine⟨rfl,rfl,rfl,?_,fun i hi=>?_⟩
  ·exact aei
  ·show (w.heap++os)[i]?=w.heap[i]?
   rw [yL hi]⟩
theorem Zi {v:Int} {d t:Bool} (h:jo v d t=true)(h0:v=0):d=false∧t=false:=by
 subst h0
 cases d<;>cases t<;>simp [jo]at h ⊢
theorem ahm {v:Int} {d t:Bool} (h:¬ (v=0∧d=false∧t=false)):jo v d t=decide (0<Eo v d t):=by
 by_cases hv:1≤v∧v≤7
 ·cases hdt:(d && t)
  ·have:=Wy v d t hv hdt
   have e1:decide (0<Eo v d t)=true:=fQ this
   rw [e1];unfold jo;simp [hv,hdt]
  ·have hb:Eo v d t=0:=by unfold Eo;rw [if_pos (by simp [hdt])]
   rw [hb];unfold jo
   cases d<;>cases t<;>simp_all
 ·have hb:Eo v d t=0:=by unfold Eo;rw [if_pos (by omega)]
  rw [hb]
  unfold jo
  have h1:(decide (1≤v) && decide (v≤7))=false:=by
   rw [Bool.and_eq_false_iff,bK,bK];omega
  rw [h1]
  cases hv0:(v == 0)
  ·rfl
  ·have:v=0:=by simpa using hv0
   cases d<;>cases t<;>simp_all
theorem ZI (v:Int) (d t:Bool) (w:World):Calls Tryz.prog 104 #[.agg #[.int .i64 v,.bool d,.bool t]] w (Ret (.bool (jo v d t)) w):=by
 by_cases h:v=0∧d=false∧t=false
 ·obtain ⟨rfl,rfl,rfl⟩:=h
  go_enter Tryz.func104,Tryz.ntmps104
  exact xE
 ·rw [ahm h]
  have HT:=Lib.hid (fun w=>IV v d t w)
  generalize Eo v d t=T at *
  have hcase:(v == 0)=false∨((v == 0)=true∧(d=true∨(d=false∧t=true))):=by
   cases hv:(v == 0)
   ·exact .inl rfl
   ·have:v=0:=by simpa using hv
    refine .inr ⟨rfl,?_⟩
    cases d
    ·cases t
     ·exact absurd ⟨this,rfl,rfl⟩ h
     ·exact .inr ⟨rfl,rfl⟩
    ·exact .inl rfl
  clear h
  rcases hcase with hv|⟨hv,rfl|⟨rfl,rfl⟩⟩
  all_goals
   go_enter Tryz.func104,Tryz.ntmps104
   go_wp2_with (go_at_call 172;refine (HT.out _).mono ?_;rintro e' w1 ⟨rfl,hb1⟩)
   go_ret
   exact Ret.mk' (by first|rfl|simp) jD
theorem Nz {p:aN} {i:Int} {e:Ev} (h:jo e.val e.dot e.three=false∨(i=0∧e.val=0)):MX p i e=20:=if_pos h
theorem af0 {p:aN} {i:Int} {e:Ev} (h:¬ (jo e.val e.dot e.three=false∨(i=0∧e.val=0)))(h1:e.tie=true∧(0<e.stops.length∨i=0)):MX p i e=21:=by unfold MX;rw [if_neg h,if_pos h1]
theorem Xx {p:aN} {i:Int} {e:Ev} (h:¬ (jo e.val e.dot e.three=false∨(i=0∧e.val=0)))(h1:¬ (e.tie=true∧(0<e.stops.length∨i=0))):MX p i e=iW p i 0 e.stops:=by unfold MX;rw [if_neg h,if_neg h1]
theorem nV (M:PM) (p:aN) (w:World) (hP:oI w w.heap.size M p) (hO:fH p):Calls Tryz.prog 51 #[dL M p] w (Ret (.int .i64 (aO p)) w):=by
  obtain ⟨A1, A2, A3, c1, c2, c3⟩:=M
  obtain ⟨cs, st, evs⟩:=p
  have HP:=Lib.hid hP
  have HO:=Lib.hid hO
  have H4:=Lib.hid hO.n4
  have hn3:=hO.n3
  have hCI:=fun (w':World) (hI:gV w' w'.heap.size A1 A2 cs st)=>NU A1 A2 cs st cs.length st.length c1 c2 w' hI rfl rfl
  have hST:=fun (i:Int) (s:Stp) (x:Int) (w':World) (hb:Below w.heap.size w w')=>YW ⟨A1, A2, A3, c1, c2, c3⟩ ⟨cs, st, evs⟩ i s x w' (hP.after hb) hO
  unfold dL TM at *
  simp only at *
  obtain ⟨n1, hn1⟩:∃ n, cs.length=n:=⟨_, rfl⟩
  obtain ⟨n2, hn2⟩:∃ n, st.length=n:=⟨_, rfl⟩
  obtain ⟨n3, hnn⟩:∃ n, evs.length=n:=⟨_, rfl⟩
  have HN:=Lib.hid hnn
  rw [hn1, hn2, hnn] at hST
  rw [hn1, hn2] at hCI
  rw [hnn] at hn3
  rw [hn1, hn2, hnn]
  have KI:=Lib.hid hCI
  have KS:=Lib.hid hST
  have HI:=Lib.hid (fun o=>(hP.1.alloc (Nat.le_refl _) o).more (show w.heap.size≤(w.alloc o).heap.size by simp))
  obtain ⟨p, hp⟩:∃ p:aN, p=⟨cs, st, evs⟩:=⟨_, rfl⟩
  have HE1:=Lib.hid (abW (p:=p))
  have HE2:=Lib.hid (Y3 (p:=p))
  have HE3:=Lib.hid (abV (p:=p))
  rw [← hp] at KS ⊢
  have HPE:=Lib.hid (show p.evs=evs by rw [hp])
  have HPI:=Lib.hid (show gB p.cs p.st=gB cs st by rw [hp])
  obtain ⟨E, hE⟩:∃ E, gB cs st=E:=⟨_, rfl⟩
  rw [hE] at KI HPI
  clear hP hO hCI hST hn1 hn2 hnn hE hp
  by_cases b0:E≠0
  · rw [HE1.out (by rw [HPI.out];exact b0), HPI.out]
    have e1:(E == 0)=false:=by simpa using b0
    have e2:(E != 0)=true:=by simpa using b0
    clear b0
    go_enter Tryz.func51, Tryz.ntmps51
    go_wp2_with (go_at_call 103;refine (KI.out _ (HI.out _)).mono ?_;rintro e' w1 ⟨rfl, hb1⟩)
    go_ret
    exact Ret.mk' rfl jD
  · have b0':E=0:=by omega
    subst b0'
    by_cases b1:400 < n3
    · rw [HE2.out (by rw [HPI.out];exact b0) (by rw [HPE.out, HN.out];exact b1)]
      clear b0
      go_enter Tryz.func51, Tryz.ntmps51
      go_wp2_with (go_at_call 103;refine (KI.out _ (HI.out _)).mono ?_;rintro e' w1 ⟨rfl, hb1⟩;have k1:=(Blk.new _ _ _).after hb1;have x2:w1.cell? ⟨w.heap.size, 2, none⟩=some (.slice A3 n3 c3):=k1.cell 2;clear k1)
      go_ret
      exact Ret.mk' rfl jD
    · rw [HE3.out (by rw [HPI.out];exact b0) (by rw [HPE.out, HN.out];exact b1), HPE.out]
      obtain ⟨V, hV⟩:∃ V, Bv p 0 evs=V:=⟨_, rfl⟩
      rw [hV]
      have HV:=Lib.hid hV
      clear b0 hV
      go_enter Tryz.func51, Tryz.ntmps51
      go_wp2_with (go_at_call 103;refine (KI.out _ (HI.out _)).mono ?_;rintro e' w1 ⟨rfl, hb1⟩;have k1:=(Blk.new _ _ _).after hb1;have x2:w1.cell? ⟨w.heap.size, 2, none⟩=some (.slice A3 n3 c3):=k1.cell 2;have K1:=Lib.hid k1;clear k1)
      go_loopw [23] (fun i wr=>∃ k:Nat, k≤n3∧i=.int .i64 k∧V=Bv p k (evs.drop k)∧Below w.heap.size w wr∧Blk wr w.heap.size 30 #[.slice A1 n1 c1, .slice A2 n2 c2, .slice A3 n3 c3]) (fun i _=>n3 - (intOf i).toNat)
      case atStart=>exact ⟨0, dD _, rfl, HV.out.symm, jD, K1.out⟩
      case round =>
        clear x2
        obtain ⟨k, hk, rfl, hs, hbel, hblk⟩:=hrel
        have HR:=Lib.hid hs
        have HB:=Lib.hid hblk
        have hlt0:w.heap.size < wr.heap.size:=hblk.lt
        have q0:wr.cell? ⟨w.heap.size, 0, none⟩=some (.slice A1 n1 c1):=hblk.cell 0
        have q1:wr.cell? ⟨w.heap.size, 1, none⟩=some (.slice A2 n2 c2):=hblk.cell 1
        have q2:wr.cell? ⟨w.heap.size, 2, none⟩=some (.slice A3 n3 c3):=hblk.cell 2
        clear hs hblk
        by_cases hlt:k < n3
        · have hk2:k < evs.length:=by have:=HN.out;omega
          have HE:=Lib.hid (HP.out.2.1.below hbel)
          obtain ⟨ad, S, c, hA, hb, e0, e1, e2, e3, e4, e5, hS⟩:=HE.out.ev hk2
          subst hA
          have HS:=Lib.hid hS
          have H20:=H4.out _ hk2
          have hs2:=HR.out.trans (af4 hk2)
          obtain ⟨e, he⟩:∃ e, evs[k]=e:=⟨_, rfl⟩
          rw [he] at e0 e1 e2 e3 e4 e5 H20 hs2
          rw [he] at HS
          obtain ⟨m, hm⟩:∃ m, e.stops.length=m:=⟨_, rfl⟩
          rw [hm] at e5 H20
          have HM:=Lib.hid hm
          have KV:=Lib.hid (fun w=>ZI e.val e.dot e.three w)
          have HEV:=Lib.hid he
          clear hS he
          by_cases b2:jo e.val e.dot e.three=false
          · have HE4:=Lib.hid (hs2.trans (by rw [Nz (.inl b2)];first| done|exact if_pos (by decide)))
            rw [b2] at KV
            clear hs2 hm b2
            go_wp2_with (go_at_call 104;refine (KV.out _).mono ?_;rintro e' w1 ⟨rfl, hb1⟩)
            exact Xc
          · have b2':jo e.val e.dot e.three=true:=by simpa using b2
            rw [b2'] at KV
            by_cases b3:k=0∧e.val=0
            · have HE4:=Lib.hid (hs2.trans (by rw [Nz (.inr ⟨by have:=b3.1;omega, b3.2⟩)];first| done|exact if_pos (by decide)))
              obtain ⟨z1, z2⟩:=Zi b2' b3.2
              obtain ⟨alY, z0⟩:=b3
              have dz:((k:Int) == 0)=true:=by simpa using alY
              rw [z0] at e1
              rw [z1] at e2
              rw [z2] at e3
              rw [z0, z1, z2] at KV
              clear hs2 hm b2 b2' z0 z1 z2 alY
              go_wp2_with (go_at_call 104;refine (KV.out _).mono ?_;rintro e' w1 ⟨rfl, hb1⟩;have k1:=(Blk.new _ _ _).after hb1;have x1:w1.cell? ⟨wr.heap.size, 1, none⟩=some (.int .i64 0):=k1.cell 1;have x2:w1.cell? ⟨wr.heap.size, 2, none⟩=some (.bool false):=k1.cell 2;have x3:w1.cell? ⟨wr.heap.size, 3, none⟩=some (.bool false):=k1.cell 3;clear k1)
              exact Xc
            · have g1:¬ (jo e.val e.dot e.three=false∨((k:Int)=0∧e.val=0)):=by rw [b2'];intro h;rcases h with h| h;cases h;exact b3 ⟨by omega, h.2⟩
              have hk0:((k:Int) == 0)=false∨(((k:Int) == 0)=true∧(e.val == 0)=false):=by
                by_cases hz:k=0
                · exact .inr ⟨by simpa using hz, by simpa using fun h=>b3 ⟨hz, h⟩⟩
                · exact .inl (by simpa using hz)
              by_cases b4:e.tie=true∧(0 < e.stops.length∨(k:Int)=0)
              · have HE4:=Lib.hid (hs2.trans (by rw [af0 g1 b4];first| done|exact if_pos (by decide)))
                obtain ⟨b5, b6⟩:=b4
                rw [b5] at e4
                rw [hm] at b6
                have hcase:(0 < m)∨(¬ 0 < m∧((k:Int) == 0)=true):=by
                  by_cases h:0 < m
                  · exact .inl h
                  · exact .inr ⟨h, by have:(k:Int)=0:=by omega
                                      simpa using this⟩
                clear hs2 hm b5 b6 g1 b2 b2' b3
                rcases hcase with d5| ⟨d5, d6⟩
                · rcases hk0 with d1| ⟨d1, d2⟩
                  all_goals
                    go_wp2_with (go_at_call 104;refine (KV.out _).mono ?_;rintro e' w1 ⟨rfl, hb1⟩;have k1:=(Blk.new _ _ _).after hb1;have kp:=(HB.out.alloc _).after hb1;have x0:w1.cell? ⟨wr.heap.size, 0, none⟩=some (.bool e.bar):=k1.cell 0;have x1:w1.cell? ⟨wr.heap.size, 1, none⟩=some (.int .i64 e.val):=k1.cell 1;have x2:w1.cell? ⟨wr.heap.size, 2, none⟩=some (.bool e.dot):=k1.cell 2;have x3:w1.cell? ⟨wr.heap.size, 3, none⟩=some (.bool e.three):=k1.cell 3;have x4:w1.cell? ⟨wr.heap.size, 4, none⟩=some (.bool true):=k1.cell 4;have x5:w1.cell? ⟨wr.heap.size, 5, none⟩=some (.slice S m c):=k1.cell 5;have K1:=Lib.hid k1;have KP:=Lib.hid kp;clear k1 kp)
                    go_ret
                    exact Ret.mk' (by rw [HE4.out];rfl) jD
                · rcases hk0 with d1| ⟨d1, d2⟩
                  · rw [d6] at d1;cases d1
                  · clear d6
                    go_wp2_with (go_at_call 104;refine (KV.out _).mono ?_;rintro e' w1 ⟨rfl, hb1⟩;have k1:=(Blk.new _ _ _).after hb1;have kp:=(HB.out.alloc _).after hb1;have x0:w1.cell? ⟨wr.heap.size, 0, none⟩=some (.bool e.bar):=k1.cell 0;have x1:w1.cell? ⟨wr.heap.size, 1, none⟩=some (.int .i64 e.val):=k1.cell 1;have x2:w1.cell? ⟨wr.heap.size, 2, none⟩=some (.bool e.dot):=k1.cell 2;have x3:w1.cell? ⟨wr.heap.size, 3, none⟩=some (.bool e.three):=k1.cell 3;have x4:w1.cell? ⟨wr.heap.size, 4, none⟩=some (.bool true):=k1.cell 4;have x5:w1.cell? ⟨wr.heap.size, 5, none⟩=some (.slice S m c):=k1.cell 5;have K1:=Lib.hid k1;have KP:=Lib.hid kp;clear k1 kp)
                    exact Xc
              · have hcase:e.tie=false∨(e.tie=true∧¬ 0 < m∧((k:Int) == 0)=false):=by
                  cases ht:e.tie
                  · exact .inl rfl
                  · refine .inr ⟨rfl, ?_, ?_⟩
                    · intro h;exact b4 ⟨ht, .inl aj⟩
                    · by_cases h:(k:Int)=0
                      · exact absurd ⟨ht, .inr h⟩ b4
                      · simpa using h
                rw [Xx g1 b4] at hs2
                obtain ⟨W, hW⟩:∃ W, iW p k 0 e.stops=W:=⟨_, rfl⟩
                rw [hW] at hs2
                have HW:=Lib.hid hW
                have HVW:=Lib.hid (fun (h:W≠0)=>hs2.trans (if_pos h))
                have HVN:=Lib.hid (fun (h:W=0)=>hs2.trans (if_neg (fun k=>k h)))
                have HS0:=Lib.hid (show eP w w.heap.size S e.stops from by
                  obtain ⟨ad', S', c', hA', _, _, _, _, _, _, e5', hS'⟩:=HP.out.2.1.ev hk2
                  obtain rfl:ad=ad':=by injection hA'
                  rw [HEV.out] at e5' hS'
                  have h1:=(hbel.cell (p:=⟨(ad.add (k*6)).block, (ad.add (k*6)).off+5, none⟩) (by show (ad.add (k*6)).block < w.heap.size;rw [block_of_add];exact hb)).trans e5'
                  rw [h1] at e5
                  injection e5 with e5
                  injection e5 with e5 _ _
                  subst e5
                  exact hS')
                clear hs2 hm hW g1 b2 b2' b3 b4
                rcases hcase with ht| ⟨ht, d5, hi0⟩
                · rw [ht] at e4
                  clear ht
                  rcases hk0 with d1| ⟨d1, d2⟩
                  all_goals
                    go_wp2_with (go_at_call 104;refine (KV.out _).mono ?_;rintro e' w1 ⟨rfl, hb1⟩;have k1:=(Blk.new _ _ _).after hb1;have kp:=(HB.out.alloc _).after hb1;have x0:w1.cell? ⟨wr.heap.size, 0, none⟩=some (.bool e.bar):=k1.cell 0;have x1:w1.cell? ⟨wr.heap.size, 1, none⟩=some (.int .i64 e.val):=k1.cell 1;have x2:w1.cell? ⟨wr.heap.size, 2, none⟩=some (.bool e.dot):=k1.cell 2;have x3:w1.cell? ⟨wr.heap.size, 3, none⟩=some (.bool e.three):=k1.cell 3;have x4:w1.cell? ⟨wr.heap.size, 4, none⟩=some (.bool false):=k1.cell 4;have x5:w1.cell? ⟨wr.heap.size, 5, none⟩=some (.slice S m c):=k1.cell 5;have K1:=Lib.hid k1;have KP:=Lib.hid kp;clear k1 kp)
                    go_loopw [6, 57] (fun v u wj=>∃ (j:Nat) (x:Int), j≤m∧v=.int .i64 x∧u=.int .i64 j∧W=iW p k x (e.stops.drop j)∧Below w.heap.size w wj∧Blk wj w.heap.size 30 #[.slice A1 n1 c1, .slice A2 n2 c2, .slice (some ad) n3 c3]) (fun _ u _=>m - (intOf u).toNat)
                    case atStart=>exact ⟨0, 0, dD _, rfl, rfl, HW.out.symm, jD, KP.out⟩
                    case round =>
                      clear x0 x1 x2 x3 x4 x5 q0 q1 q2 e0 e1 e2 e3 e4 e5
                      obtain ⟨j, x, hj, rfl, rfl, hs, aaG, hblk⟩:=hrel
                      have HRJ:=Lib.hid hs
                      have HBJ:=Lib.hid hblk
                      have anO:w.heap.size < wr.heap.size:=hblk.lt
                      have q0:wr.cell? ⟨w.heap.size, 0, none⟩=some (.slice A1 n1 c1):=hblk.cell 0
                      have q1:wr.cell? ⟨w.heap.size, 1, none⟩=some (.slice A2 n2 c2):=hblk.cell 1
                      have q2:wr.cell? ⟨w.heap.size, 2, none⟩=some (.slice (some ad) n3 c3):=hblk.cell 2
                      clear hs hblk
                      by_cases hjm:j < m
                      · have hj2:j < e.stops.length:=by have:=HM.out;omega
                        have HSJ:=Lib.hid (HS0.out.below aaG)
                        obtain ⟨ad2, hA2, hb2, y0, y1, y2, y3, y4⟩:=HSJ.out.stp hj2
                        subst hA2
                        have hs3:=HRJ.out.trans (Zv hj2)
                        have KSS:=KS.out k e.stops[j] x
                        obtain ⟨⟨c', f', r', g', h'⟩, hsj⟩:∃ s, e.stops[j]=s:=⟨_, rfl⟩
                        rw [hsj] at hs3 y0 y1 y2 y3 y4 KSS
                        simp only at y0 y1 y2 y3 y4 KSS hs3
                        obtain ⟨G, hG⟩:∃ G, gY p k (c', f', r', g', h') x=G:=⟨_, rfl⟩
                        rw [hG] at hs3 KSS
                        have KST:=Lib.hid KSS
                        clear hsj hG KSS
                        by_cases hG0:G=0
                        · subst hG0
                          rw [if_neg (by decide)] at hs3
                          have HR3:=Lib.hid hs3
                          clear hs3
                          go_wp2_with (go_at_call 105;refine (KST.out _ jD).mono ?_;rintro e' w3 ⟨rfl, hb3⟩;have k1:=(Blk.new _ _ _).after hb3;have z0:w3.cell? ⟨wr.heap.size, 0, none⟩=some (.int .i64 c'):=k1.cell 0;have KP3:=Lib.hid ((HBJ.out.alloc _).after hb3);clear k1)
                          go_roundw
                          case rel=>exact ⟨j+1, c', by omega, rfl, by go_num, HR3.out, jD, KP3.out⟩
                          case measure=>simp [intOf];omega
                        · rw [if_pos hG0] at hs3
                          have HE4:=Lib.hid (HVW.out (by rw [hs3];exact hG0))
                          have HG:=Lib.hid hs3
                          have d1:(G == 0)=false:=by simpa using hG0
                          have d2:(G != 0)=true:=by simpa using hG0
                          clear hs3 hG0
                          go_wp2_with (go_at_call 105;refine (KST.out _ jD).mono ?_;rintro e' w3 ⟨rfl, hb3⟩)
                          go_ret
                          exact Ret.mk' (by rw [HE4.out, HG.out];rfl) jD
                      · exact aiM
                · rw [ht] at e4
                  clear ht
                  rcases hk0 with d1| ⟨d1, d2⟩
                  · clear hi0
                    go_wp2_with (go_at_call 104;refine (KV.out _).mono ?_;rintro e' w1 ⟨rfl, hb1⟩;have k1:=(Blk.new _ _ _).after hb1;have kp:=(HB.out.alloc _).after hb1;have x0:w1.cell? ⟨wr.heap.size, 0, none⟩=some (.bool e.bar):=k1.cell 0;have x1:w1.cell? ⟨wr.heap.size, 1, none⟩=some (.int .i64 e.val):=k1.cell 1;have x2:w1.cell? ⟨wr.heap.size, 2, none⟩=some (.bool e.dot):=k1.cell 2;have x3:w1.cell? ⟨wr.heap.size, 3, none⟩=some (.bool e.three):=k1.cell 3;have x4:w1.cell? ⟨wr.heap.size, 4, none⟩=some (.bool true):=k1.cell 4;have x5:w1.cell? ⟨wr.heap.size, 5, none⟩=some (.slice S m c):=k1.cell 5;have K1:=Lib.hid k1;have KP:=Lib.hid kp;clear k1 kp)
                    go_loopw [6, 57] (fun v u wj=>∃ (j:Nat) (x:Int), j≤m∧v=.int .i64 x∧u=.int .i64 j∧W=iW p k x (e.stops.drop j)∧Below w.heap.size w wj∧Blk wj w.heap.size 30 #[.slice A1 n1 c1, .slice A2 n2 c2, .slice (some ad) n3 c3]) (fun _ u _=>m - (intOf u).toNat)
                    case atStart=>exact ⟨0, 0, dD _, rfl, rfl, HW.out.symm, jD, KP.out⟩
                    case round =>
                      clear x0 x1 x2 x3 x4 x5 q0 q1 q2 e0 e1 e2 e3 e4 e5
                      obtain ⟨j, x, hj, rfl, rfl, hs, aaG, hblk⟩:=hrel
                      have HRJ:=Lib.hid hs
                      have HBJ:=Lib.hid hblk
                      have anO:w.heap.size < wr.heap.size:=hblk.lt
                      have q0:wr.cell? ⟨w.heap.size, 0, none⟩=some (.slice A1 n1 c1):=hblk.cell 0
                      have q1:wr.cell? ⟨w.heap.size, 1, none⟩=some (.slice A2 n2 c2):=hblk.cell 1
                      have q2:wr.cell? ⟨w.heap.size, 2, none⟩=some (.slice (some ad) n3 c3):=hblk.cell 2
                      clear hs hblk
                      by_cases hjm:j < m
                      · exfalso;omega
                      · exact aiM
                  · rw [hi0] at d1;cases d1
        · have HE4:=Lib.hid (HR.out.trans (show Bv p k (evs.drop k)=0 from by rw [qN (by have:=HN.out;omega)];rfl))
          go_wp2
          exact Xc
end
section
open Go.RowKit Go.Shelf
attribute [local go_sem]Oper.semAt_some
def zO:Int→List Ev→Int
 | t,[]=>t
 | t,e::r=>zO (if 0<Eo e.val e.dot e.three then Eo e.val e.dot e.three else t) r
theorem NJ (e:Ev):∀ (t:Int)(l:List Ev),zO t (l++[e])=if 0<Eo e.val e.dot e.three then Eo e.val e.dot e.three else zO t l
 | t,[]=>rfl
 | t,x::l=>NJ e _ l
theorem aaw {evs:List Ev} {k:Nat} (h:k<evs.length)(t:Int):zO t (evs.take (k+1))=if 0<Eo evs[k].val evs[k].dot evs[k].three then Eo evs[k].val evs[k].dot evs[k].three else zO t (evs.take k):=by
 rw [gq h,NJ]
theorem tN {a b:World} (h:Below a.heap.size a b)(row:Option Nat):a.grownBy b row:=⟨h.os,h.tape,h.output,h.size,fun k hk _=>h.block k hk⟩
theorem IW (n:Nat) (hn:1≤n) (l Bp n₀ len c:Nat) (A:Option Addr) (evs:List Ev) (hlen:evs.length=len) (hO:len≤420) (B0:Nat) (J:Nat→World→Prop) (hJ:AbidesFrom B0 J)
  (hY:∀ k W,J k W→k < len→YieldAt Fence.wide (n - 1) Tryz.prog l #[.int .i64 (k:Int),.int .i64 (zO 0 (evs.take (k+1)))] W fun e W'=>e=.returned (.bool true)∧J (k+1) W'∧Below n₀ W W')
  (W:World) (hn₀:n₀≤W.heap.size) (hc:W.cell? ⟨Bp,2,none⟩=some (.slice A len c)) (hE:oP W n₀ A evs) (h0:J 0 W) :
  CallsIn Fence.wide n Tryz.prog 212 #[.func (.yield l) #[] #[],.pointer (some ⟨Bp,0,none⟩)] W fun e W'=>(∃ v,e=.returned v)∧J len W':=by
 have HE:=Lib.hid hE
 have HJ:=Lib.hid hJ
 have HL:=Lib.hid hlen
 clear hE hlen
 refine callsIn_of_wp Tryz.func212 rfl trivial ?_ rfl
 simp only [Tryz.ntmps212,I8,bW,iC,Nat.reduceAdd,Nat.reduceSub,Uj,Uk,List.push_toArray,Ul,Qg,Ja]
 gi_wp2
 gi_loopw [3,10] (fun t i wr=>∃ k:Nat,k≤len∧i=.int .i64 k∧t=.int .i64 (zO 0 (evs.take k))∧J k wr∧Below n₀ W wr)
  (fun _ i _=>len - (intOf i).toNat)
 case atStart=>exact ⟨0,dD _,rfl,rfl,h0,Below.refl _ _⟩
 case round =>
  obtain ⟨k,hk,rfl,rfl,hJs,hnx⟩:=hrel
  have HX:=Lib.hid hnx
  by_cases hlt:k < len
  ·have hk2:k < evs.length:=by have:=HL.out;omega
   obtain ⟨ad,S,c',hA,hb,e0,e1,e2,e3,e4,e5,hS⟩:=(HE.out.below hnx).ev hk2
   subst hA
   have hfr:=aaw hk2 0
   have KT:=Lib.hid (fun w=>IV evs[k].val evs[k].dot evs[k].three w)
   obtain ⟨T,hT⟩:∃ T,Eo evs[k].val evs[k].dot evs[k].three=T:=⟨_,rfl⟩
   rw [hT] at hfr KT
   obtain ⟨e,he⟩:∃ e,evs[k]=e:=⟨_,rfl⟩
   rw [he] at e0 e1 e2 e3 e4 e5 KT
   obtain ⟨m,hm⟩:∃ m,e.stops.length=m:=⟨_,rfl⟩
   rw [hm] at e5
   clear hS hT
   have HFR:=Lib.hid hfr
   have HY:=hY k
   by_cases hT0:0 < T
   ·rw [if_pos hT0] at HFR
    gi_wp2_with (refine ⟨trivial,?_⟩;gi_at_call 172;refine (callsIn_wide.2 (KT.out _)).mono ?_;rintro e' w1 ⟨rfl,hb1⟩;have hbb:Below wr.heap.size wr w1:=((Below.refl _ wr).alloc (Nat.le_refl _) _).trans (hb1.mono (by simp));have HBB:=Lib.hid hbb;obtain ⟨fn,tmps,assign,body,hy,hR⟩:=HY w1 (HJ.out _ wr w1 none hJs (tN hbb _) (fun r h=>by cases h)) hlt;clear hbb;rw [HFR.out] at hy)
    exact aiX
   ·rw [if_neg hT0] at HFR
    obtain ⟨T0,alJ⟩:∃ T0,zO 0 (evs.take k)=T0:=⟨_,rfl⟩
    rw [alJ] at HFR
    rw [alJ]
    gi_wp2_with (refine ⟨trivial,?_⟩;gi_at_call 172;refine (callsIn_wide.2 (KT.out _)).mono ?_;rintro e' w1 ⟨rfl,hb1⟩;have hbb:Below wr.heap.size wr w1:=((Below.refl _ wr).alloc (Nat.le_refl _) _).trans (hb1.mono (by simp));have HBB:=Lib.hid hbb;obtain ⟨fn,tmps,assign,body,hy,hR⟩:=HY w1 (HJ.out _ wr w1 none hJs (tN hbb _) (fun r h=>by cases h)) hlt;clear hbb;rw [HFR.out] at hy)
    exact aiX
  ·obtain rfl:k=len:=by omega
   gi_wp2
   go_end0
   exact ⟨⟨_,rfl⟩,hJs⟩
theorem IX (M:PM) (p:aN) (w:World):Calls Tryz.prog 153 #[dL M p] w fun e w'=>e=.returned (.func (.func 212) #[] #[.pointer (some ⟨w.heap.size,0,none⟩)]) ∧
  w'=w.alloc (.cells #[.slice M.A1 p.cs.length M.c1,.slice M.A2 p.st.length M.c2,.slice M.A3 p.evs.length M.c3] 30):=by
 unfold dL
 go_enter Tryz.func153,Tryz.ntmps153
 go_wp2
 go_ret
 exact ⟨rfl,rfl⟩
def Wh (n₀:Nat)(I:Nat→World→Prop)(k:Nat)(W:World):Exit→Act→World→Prop
 | .normal,_,W'=>KeepsOthers W W'∧Below n₀ W W'∧I (k+1) W'
 | _,_,_=>False
theorem Qd {P:Program} {n:Nat} {g:Operand} {ps:Array Tmp} {assign body:Code} {Q:Exit→Act→World→Prop} {a:Act} {w:World} {gf:Nat} {lb:Array Value}
  (hg:a.eval g=.func (.func gf) #[] lb) (eg:∀ args w,(callFunc gf args).run P w=.ok (.enter gf args) w) {encs:Nat→Array Value} {len n₀:Nat} (hn₀:n₀≤w.heap.size)
  (hit:∀ (l:Nat) (J:Nat→World→Prop) (W:World),Below w.heap.size w W→AbidesFrom W.heap.size J →
   (∀ k W1,J k W1→k < len→YieldAt Fence.wide (n - 1 - 1) P l (encs k) W1 fun e W'=>e=.returned (.bool true)∧J (k+1) W'∧Below n₀ W1 W')→J 0 W →
   CallsIn Fence.wide (n - 1) P gf (#[.func (.yield l) #[] #[]]++lb) W fun e W'=>(∃ v,e=.returned v)∧J len W')
  (hps:∀ k,(encs k).size=ps.size) (I:Nat→World→Prop) (hI:OwnFrom w.heap.size I) (h0:I 0 w) (a₁:Nat→Act)
  (hassign:∀ (l k:Nat) (W:World) (K:Act→World→Prop),K (a₁ k) W →
   assign.wpIn (Fence.wide.inRound l) (n - 1 - 1) P (Exit.then K (fun _ _ _=>False)) { tmps:=(ps.zip (encs k)).foldl (fun t (p,v)=>t.setIfInBounds p v) a.tmps,defers:=[] } W)
  (hbody:∀ (l k:Nat) (W:World),I k W→k < len→body.wpIn (Fence.wide.inRound l) (n - 1 - 1) P (Wh n₀ I k W) (a₁ k) W)
  (hdone:∀ (D:Nat) (W:World),w.heap.size≤D→I len W→W.heap[D]?=some (.deferred (some []))→Q .normal { a with defers:={ target:=.collected D,args:=#[] }::a.defers } W) :
  (Code.rangeFunc g ps assign body).wpIn Fence.wide n P Q a w:=by
 refine wpIn_rangeFunc fun fn hfn=>?_
 obtain ⟨rec,hrec⟩:∃ rec:LoopState→Option Code→Loop,rec=fun st pe=>{ state:=st,pending:=pe,fn,tmps:=a.tmps,params:=ps,assign,body,defers:=w.heap.size }:=⟨_,rfl⟩
 obtain ⟨W1,hW1⟩:∃ W1,(w.alloc (.deferred (some []))).alloc (.loop (rec .ready none))=W1:=⟨_,rfl⟩
 have hL:W1.heap[w.heap.size+1]?=some (.loop (rec .ready none)):=by
  have:=World.alloc_heap_new (w.alloc (.deferred (some []))) (.loop (rec .ready none))
  rwa [World.size_alloc,hW1] at this
 have hD:W1.heap[w.heap.size]?=some (.deferred (some [])):=by
  rw [← hW1];exact (Below.heap_alloc _ _ _ (by simp)).trans (World.alloc_heap_new w _)
 have hB1:Below w.heap.size w W1:=by rw [← hW1];exact ((Below.refl _ w).alloc (Nat.le_refl _) _).alloc (by simp) _
 have hS1:w.heap.size≤W1.heap.size:=hB1.size
 refine ⟨w.heap.size+1,[{ target:=.collected w.heap.size,args:=#[] }],W1,{ target:=.fn (.func gf) lb,args:=#[.func (.yield (w.heap.size+1)) #[] #[]] },W1,gf,
  #[.func (.yield (w.heap.size+1)) #[] #[]]++lb,W1,?_,?_,fun _ _=>trivial,?_,fun h=>?_,?_⟩
 ·rw [← hW1,hrec];exact run_enterLoop_outer _ _ _ _ _
 ·simp only [resolve,hg]
  simp [go_sem]
 ·simp [invoke,go_sem,eg]
 ·simp [Fence.wide] at h
 ·have turn:∀ {A B:World} {row:Option Nat} {k:Nat} {o:Obj},A.grownBy B row→(∀ r,row=some r→W1.heap.size≤r∧∃ o:Obj,A.heap[r]?=some o∧o.isWalk=true)→A.heap[k]?=some o→o.isWalk=false→B.heap[k]?=some o :=
   fun hg' hr hk ho=>(grownBy_keeps hg' (fun r e=>(hr r e).2) hk ho).trans hk
  refine (hit (w.heap.size+1) (fun k W=>I k W∧W.heap[w.heap.size+1]?=some (.loop (rec .ready none))∧W.heap[w.heap.size]?=some (.deferred (some []))) W1 hB1
   (fun s A B row hs hg' hr=>⟨hI s A B row hs.1 hg' fun r e=>⟨iD hS1 (hr r e).1,(hr r e).2.imp fun o h=>⟨h.1,Obj.not_cells_of_walk h.2⟩⟩,turn hg' hr hs.2.1 rfl,turn hg' hr hs.2.2 rfl⟩)
   ?_ ⟨by rw [← hW1];exact hI.alloc _ (hI.alloc _ h0),hL,hD⟩).mono ?_
  ·rintro k W ⟨hi,hl,hd⟩ hk
   have hlt:w.heap.size+1 < W.heap.size:=(Array.getElem?_eq_some_iff.1 hl).1
   have hy:=run_yield (P:=P) (args:=encs k) hl (by rw [hrec];exact hps k)
   rw [hrec] at hy
   refine ⟨fn,_,assign,body,hy,roundIn_of_wpIn hfn (hassign _ k W _ ⟨_,run_beginRound hl (by rw [hrec]),?_⟩)⟩
   obtain ⟨W2,hW2⟩:∃ W2,W.putObj (w.heap.size+1) (.loop { rec .ready none with state:=.busy })=W2:=⟨_,rfl⟩
   have hl2:W2.heap[w.heap.size+1]?=some (.loop { rec .ready none with state:=.busy }):=by rw [← hW2];exact World.putObj_heap_same hlt
   have hd2:W2.heap[w.heap.size]?=some (.deferred (some [])):=by rw [← hW2];exact (World.putObj_heap_other (by omega)).trans hd
   have hb2:Below n₀ W W2:=by rw [← hW2];exact belowK_b hn₀ W _ _ _ (by omega) hl rfl rfl
   have hi2:I k W2:=by rw [← hW2];exact hI.putObj _ hi (by omega) hl rfl
   rw [hW2]
   refine wpIn_mono (hbody _ k W2 hi2 hk) ?_
   rintro e a3 W3 hp
   cases e with
   | normal =>
    obtain ⟨hk3,hb3,hi3⟩:=hp
    have hl3:=hk3.same _ _ hl2 rfl
    have hr:=run_endRound (P:=P) none hl3
    rw [hrec] at hr
    refine ⟨_,_,hr,rfl,⟨hI.putObj _ hi3 aj hl3 rfl,?_,(World.putObj_heap_other aj).trans (hk3.same _ _ hd2 rfl)⟩,(hb2.trans hb3).trans (belowK_b hn₀ W3 _ _ _ aj hl3 rfl rfl)⟩
    rw [hrec]
    exact World.putObj_heap_same (Array.getElem?_eq_some_iff.1 hl3).1
   | ret=>exact hp.elim
   | exit id=>exact hp.elim
   | goto t=>exact hp.elim
   | panic ch=>exact hp.elim
   | outgrown=>exact hp.elim
  ·rintro e W2 ⟨⟨v,rfl⟩,hi,hl,hd⟩
   have hr:=run_endLoop (P:=P) hl (by rw [hrec];simp)
   rw [hrec] at hr
   exact ⟨none,_,hr,hdone _ _ (Nat.le_refl _) (hI.putObj _ hi aj hl rfl) ((World.putObj_heap_other aj).trans hd)⟩
end
section
open Go.RowKit Go.Shelf
attribute [local go_sem]Oper.semAt_some
attribute [-go_sem]Builtin.append_
theorem akY:((List.range' 1 7).all fun v=>[(false,false),(true,false),(false,true)].all fun p=>decide (Eo (v:Nat) p.1 p.2≤1000))=true:=by decide +kernel
theorem akZ (v:Int) (d t:Bool):0≤Eo v d t∧Eo v d t≤1000:=by
 by_cases hb:v<1∨7<v∨(d && t)=true
 ·have:Eo v d t=0:=if_pos hb
  omega
 ·have hv:1≤v∧v≤7:=by omega
  have hdt:(d && t)=false:=by cases h:(d && t) with|false=>rfl|true=>exact absurd (.inr (.inr h)) hb
  have h0:=Wy v d t hv hdt
  obtain ⟨n,rfl⟩:∃ n:Nat,v=n:=⟨v.toNat,by omega⟩
  have h1:=List.all_eq_true.1 akY n (by rw [List.mem_range'_1];omega)
  have h2:=List.all_eq_true.1 h1 (d,t) (by cases d<;>cases t<;>simp_all)
  have h3:=nC h2
  exact ⟨by omega,h3⟩
theorem CJ:∀ (t:Int)(l:List Ev),0≤t∧t≤1000→0≤zO t l∧zO t l≤1000
 | t,[],h=>h
 | t,e::r,h=>by
  unfold zO
  exact CJ _ r (by split<;>first|exact akZ _ _ _|exact h)
def aJ (evs:List Ev):Nat→Int
 | 0=>0
 | k+1=>aJ evs k+zO 0 (evs.take (k+1))
theorem yu (evs:List Ev):∀ k,0≤aJ evs k∧aJ evs k≤1000*k
 | 0=>⟨ni 0,ni 0⟩
 | k+1=>by have h:=yu evs k;have h2:=CJ 0 (evs.take (k+1)) (by decide);unfold aJ;omega
def iw (evs:List Ev)(k:Nat):List Int:=(List.range (k+1)).map (aJ evs)
theorem YQ (evs:List Ev)(k:Nat):iw evs (k+1)=iw evs k++[aJ evs (k+1)]:=by simp [iw,LM]
theorem l9(evs:List Ev)(k:Nat):(iw evs k).length=k+1:=by simp [iw]
theorem Tryz.J3:(Tryz.prog.info? 3).map (fun i=>(i.zero,i.size,i.bytes))=some (some (.int .i64 0),1,8):=by kernel_rfl
theorem SK (M:PM) (p:aN) (w:World) (hP:oI w w.heap.size M p) (hO:fH p) (h0:aO p=0):Calls Tryz.prog 79 #[dL M p] w fun e w' =>
  ∃ v,e=.returned (.tuple #[v,.int .i64 0])∧w'.ownsRow w.heap.size 3 1 v (p.evs.length+1) ((iw p.evs p.evs.length).map fun x=>.int .i64 x)∧Below w.heap.size w w':=by
 have hC:=fun (w':World) (hb:Below w.heap.size w w')=>nV M p w' (hP.after hb) hO
 rw [h0] at hC
 have hn3:=hO.n3
 have hT:=fun w'=>IX M p w'
 obtain ⟨A1,A2,A3,c1,c2,c3⟩:=M
 obtain ⟨n1,hn1⟩:∃ n,p.cs.length=n:=⟨_,rfl⟩
 obtain ⟨n2,hn2⟩:∃ n,p.st.length=n:=⟨_,rfl⟩
 obtain ⟨n3,hnn⟩:∃ n,p.evs.length=n:=⟨_,rfl⟩
 unfold dL at *
 simp only at *
 rw [hn1,hn2,hnn] at hC hT
 rw [hnn] at hn3
 rw [hn1,hn2,hnn]
 have HC:=Lib.hid hC
 have HT:=Lib.hid hT
 have HP:=Lib.hid hP
 have HN:=Lib.hid hnn
 obtain ⟨i0,hi,hz0,hz1,hz2⟩:=info_parts Tryz.J3
 clear hC hT hP hnn hn1 hn2 hO h0
 refine (callsIn_wide (n:=4)).1 ?_
 refine callsIn_of_wp_marks Tryz.func79 rfl trivial ?_ rfl
 simp only [Tryz.ntmps79,I8,bW,iC,Nat.reduceAdd,Nat.reduceSub,Uj,Uk,List.push_toArray,Ul,Qg,Ja]
 gi_wp2_with (first
  | (refine ⟨trivial,?_⟩;gi_at_call 51;refine (callsIn_wide.2 (HC.out _ jD)).mono ?_;rintro e' w1 ⟨rfl,hb1⟩;have k1:=(Blk.new _ _ _).after hb1;have x0:w1.cell? ⟨w.heap.size,0,none⟩=some (.slice A1 n1 c1):=k1.cell 0;have x1:w1.cell? ⟨w.heap.size,1,none⟩=some (.slice A2 n2 c2):=k1.cell 1;have x2:w1.cell? ⟨w.heap.size,2,none⟩=some (.slice A3 n3 c3):=k1.cell 2;have l1:w.heap.size < w1.heap.size:=k1.lt;have K1:=Lib.hid k1;clear k1)
  | (refine ⟨trivial,?_⟩;gi_at_call 153;refine (callsIn_wide.2 (HT.out _)).mono ?_;rintro e' w2 ⟨rfl,rfl⟩))
 have hB0:Below w.heap.size w w1:=((Below.refl _ w).alloc (Nat.le_refl _) _).trans (hb1.mono (by simp))
 have hB3:Below w.heap.size w (((w1.alloc (Obj.cells #[Value.int IntKind.i64 0] 3)).alloc (Obj.cells #[Value.slice (some { block:=w1.heap.size,off:=0 }) 1 1] 25)).alloc (Obj.cells #[Value.slice A1 n1 c1,Value.slice A2 n2 c2,Value.slice A3 n3 c3] 30)):=((hB0.alloc (by omega) _).alloc (by simp;omega) _).alloc (by simp;omega) _
 have kb:Blk (((w1.alloc (Obj.cells #[Value.int IntKind.i64 0] 3)).alloc (Obj.cells #[Value.slice (some { block:=w1.heap.size,off:=0 }) 1 1] 25)).alloc (Obj.cells #[Value.slice A1 n1 c1,Value.slice A2 n2 c2,Value.slice A3 n3 c3] 30)) (w1.heap.size+1+1) 30 #[Value.slice A1 n1 c1,Value.slice A2 n2 c2,Value.slice A3 n3 c3]:=by
  have:=Blk.new ((w1.alloc (Obj.cells #[Value.int IntKind.i64 0] 3)).alloc (Obj.cells #[Value.slice (some { block:=w1.heap.size,off:=0 }) 1 1] 25)) 30 #[Value.slice A1 n1 c1,Value.slice A2 n2 c2,Value.slice A3 n3 c3]
  rwa [World.size_alloc,World.size_alloc] at this
 refine Qd (n:=4) (gf:=212) (lb:=#[Value.pointer (some ⟨w1.heap.size+1+1,0,none⟩)]) rfl (enters_of Tryz.func212 aK rfl)
  (encs:=fun k=>#[.int .i64 (k:Int),.int .i64 (zO 0 (p.evs.take (k+1)))]) (len:=n3) (n₀:=w.heap.size) (by simp;omega)
  (fun l J W hW hJ hY h0=>IW 3 (by omega) l (w1.heap.size+1+1) w.heap.size n3 c3 A3 p.evs HN.out hn3 _ J hJ hY W (by have:=hW.size;simp at this;omega)
   ((hW.cell (p:=⟨w1.heap.size+1+1,2,none⟩) (by simp)).trans (kb.cell 2))
   (HP.out.2.1.below (hB3.trans (hW.mono hB3.size))) h0)
  (fun _=>rfl)
  (fun k W=>(∃ v,Boxed W (w1.heap.size+1) 25 v∧W.ownsRow w.heap.size 3 1 v (k+1) ((iw p.evs k).map fun x=>.int .i64 x)∧True)∧Below w.heap.size w W)
  (OwnFrom.and (Own.from (holdsRow_own w.heap.size (w1.heap.size+1) 25 3 1 (fun k=>k+1) (fun k=>(iw p.evs k).map fun x=>Value.int .i64 x) (fun _ _=>True)) _) (ownFrom_below (Nat.le_refl _) (by simp;omega)))
  ⟨⟨.slice (some ⟨w1.heap.size,0,none⟩) 1 1,?_,?_,trivial⟩,hB3⟩
  (fun k=>{ tmps:=#[Value.agg #[Value.slice A1 n1 c1,Value.slice A2 n2 c2,Value.slice A3 n3 c3],
     Value.pointer (some { block:=w.heap.size,off:=0 }),Value.slice none 0 0,Value.int IntKind.i64 0,
     Value.int IntKind.i64 0,Value.pointer (some { block:=w1.heap.size+1,off:=0 }),.int .i64 (k:Int),.int .i64 (zO 0 (p.evs.take (k+1))),
     Value.agg #[Value.slice A1 n1 c1,Value.slice A2 n2 c2,Value.slice A3 n3 c3],Value.int IntKind.i64 0,
     Value.int IntKind.i64 0,Value.bool false,undef,Value.slice (some { block:=w1.heap.size,off:=0 }) 1 1,
     Value.agg #[Value.slice A1 n1 c1,Value.slice A2 n2 c2,Value.slice A3 n3 c3],
     Value.func (Fn.func 212) #[] #[Value.pointer (some { block:=w1.heap.size+1+1,off:=0 })],.int .i64 (k:Int),
     .int .i64 (zO 0 (p.evs.take (k+1))),undef,undef,undef,undef,undef,undef,undef,undef,undef,undef],defers:=[] }) ?assign ?body ?done
 ·have:=Boxed.new (w1.alloc (Obj.cells #[Value.int IntKind.i64 0] 3)) 25 (.slice (some ⟨w1.heap.size,0,none⟩) 1 1)
  rw [World.size_alloc] at this
  exact this.alloc _
 ·refine ((World.ownsRow.alloc ?_ _).alloc _)
  exact ⟨by simp [iw],.inr ⟨w1.heap.size,1,#[.int .i64 0],rfl,by omega,World.alloc_heap_new _ _,Nat.le_refl _,by decide,rfl,by simp [iw,aJ]⟩⟩
 case assign =>
  intro l k W K hK
  gi_wp2
  exact hK
 case body =>
  rintro l k W ⟨⟨v,hv,hrow,_⟩,hB⟩ hlt
  obtain ⟨g,cap,rfl⟩:=ownsRow_succ hrow
  have hc:=hv.cell
  obtain ⟨T,hT⟩:∃ T,zO 0 (p.evs.take (k+1))=T:=⟨_,rfl⟩
  have hx:W.cell? ⟨g,k,none⟩=some (.int .i64 (aJ p.evs k)):=by
   rw [hrow.cellAt k (by omega)]
   simp [iw]
  have hbd:=yu p.evs k
  have hTb:=CJ 0 (p.evs.take (k+1)) ⟨by decide,by decide⟩
  rw [hT] at hTb
  rw [hT]
  gi_wp2
  have hwr:IntKind.i64.wrap (aJ p.evs k+T)=aJ p.evs k+T:=Go.IntWalk.i64_in _ ⟨by omega,by omega⟩
  have hk1:((k:Int) < (k:Int)+1):=by omega
  have hfo:Tryz.prog.follows .mixedOrders=true:=by kernel_rfl
  obtain ⟨v',w4,hrun,r1,r2,r3⟩:=run_append_own (P:=Tryz.prog) ((W.alloc (Obj.cells #[.int .i64 (aJ p.evs k+T)] 3)).drew) w.heap.size 25 25 3 i0 (.int .i64 0) 1 8 Tryz.underlying25 hi hz0 hz1 hz2 rfl (by decide) _ (k+1) _ (show (W.alloc _).ownsRow _ _ _ _ _ _ from hrow.alloc _) ⟨W.heap.size,0,none⟩ 1 1 [.int .i64 (aJ p.evs k+T)] rfl (cell_one_new W _ _) (by simp [Value.oneCell']) FC (by omega) (by have:=hB.size;simp;omega)
  obtain ⟨g',cap',rfl⟩:=ownsRow_succ r1
  obtain ⟨hv1,hv2,hr2,hk2,hb2⟩:=hv.appended (tmp:=Obj.cells #[.int .i64 (aJ p.evs k+T)] 3) (by decide) hrow hB.size aj r1 ⟨r2.os,r2.tape,r2.output,r2.size,r2.block⟩
  have hc1:=hv1.cell
  have hlW:=hv.lt
  have hf1:=hv1.frozen
  gi_region_with_o (fail)
  all_goals exact ⟨hk2,hb2,⟨_,hv2,by rw [YQ];simpa [aJ,hT] using hr2,trivial⟩,hB.trans hb2⟩
 case done =>
  rintro D W hD ⟨⟨v,hv,hrow,_⟩,hB⟩ hK
  have hc:=hv.cell
  gi_wp2
  refine ⟨by simp,.inl ⟨_,_,rfl,run_takeDeferred hK,?_⟩⟩
  refine ⟨_,results_tmp2 rfl _ _ _,v,rfl,?_,hB.trans (belowK_b (w:=w) (Nat.le_refl _) W D _ _ (by simp at hD;omega) hK rfl rfl)⟩
  exact ownsRow_putObj hrow _ hK rfl
end
section
open Go.RowKit
attribute [local go_sem]mk_bs bs_size bs_toList bs_append bs_extract
attribute [local simp]run_cut run_cut_to run_cut_from run_add_bs
theorem ab6 (n:Int)(w:World)(h:0≤n∧n≤3) :
  Calls Tryz.prog 343 #[.agg #[],.int .i64 n] w (Ret (.tuple #[.string (bs (rR 3 n)),.bool (okR 3 n)]) w):=by
 have h4:n=0∨n=1∨n=2∨n=3:=by omega
 clear h
 rcases h4 with rfl|rfl|rfl|rfl
 all_goals
  go_enter Tryz.func343,Tryz.ntmps343
  go_wp2
  go_ret2
  exact Ret.mk' rfl jD
theorem abZ (n:Int)(w:World)(h:0≤n∧n≤4) :
  Calls Tryz.prog 337 #[.agg #[],.int .i64 n] w (Ret (.tuple #[.string (bs (rG 3 n)),.bool (yt 3 n)]) w):=by
 have h4:n=0∨n=1∨n=2∨n=3∨n=4:=by omega
 clear h
 rcases h4 with rfl|rfl|rfl|rfl|rfl
 all_goals
  go_enter Tryz.func337,Tryz.ntmps337
  go_wp2
  go_ret2
  exact Ret.mk' rfl jD
theorem ag1 (n L:Int)(w:World)(h:0≤n∧n≤15) :
  Calls Tryz.prog 339 #[.agg #[],.int .i64 n,.int .i64 L] w (Ret (.tuple #[.string (bs (pH 3 n L)),.bool (qY 3 n L)]) w):=by
 obtain⟨hn0,hn1⟩:=h
 by_cases h0:n=0
 ·subst h0
  exact ae5
 ·have hb:(n == 0)=false:=by simp;exact h0
  have e0:pH 3 n L=rH 3 n L:=if_neg h0
  have e1:qY 3 n L=!(rH 3 n L).isEmpty:=by unfold qY;rw [hb];rfl
  rw [e0,e1]
  have e2:rH 3 n L=[]:=rfl
  rw [e2]
  clear e0 e1 e2
  exact ae5
end
section
open Go.RowKit
def X3 (s:List UInt8) (pos:Nat):Opq :=
 ⟨fun w b v φ=>v=.pointer (some ⟨b,0,none⟩)∧φ b∧w.heap[b]?=some (.stringIter (bs s) pos),fun w w' b v φ h ⟨h1,h2,h3⟩=>⟨h1,h2,(h b h2).trans h3⟩⟩
section
variable {P:Program} {C:Cx} {σ σ':St} {G G':Gh} {a:Act} {w w':World} {o:Oper} {d:Tmp} {ops:Array Oper} {rest:List Oper} {Q:Exit→St→Prop}
theorem WO.rgs {T:TypeId} {s:List UInt8} {x:Operand} {q:Nat} (hd:dstB C.N o=some d) (ho:o.op=.range T x) (hT:P.underlying T=some .string) (hx:σ.ev x=some (.sc (.string (bs s)))) (hq:σ.nk=q):WO P C o σ ((σ.new (.opq (X3 s 0))).put d (.sl q)):=by
 intro G a w ok N Q' hN
 obtain ⟨_,hds,hdb⟩:=dstB_of hd
 have ok':=ok.newObj (S:=fun _=>False) (w':=w.iter (bs s) 0) (b:=w.heap.size) (n:=0) (h:=.pointer (some ⟨w.heap.size,0,none⟩)) (φ:=fun x=>x=w.heap.size) (ob:=.opq (X3 s 0))
  (Kept.below ((Below.refl _ _).alloc (Nat.le_refl _) _)) (fun _ h=>h.elim) (fun _ _ _ _ _ h=>h) (fun _ _ _ h=>h)
  (by
   show (X3 s 0).Q _ _ _ _
   rw [with_b,with_h,with_f]
   exact ⟨rfl,rfl,World.iter_heap w _ _⟩) trivial (fun x hx=>by
   subst hx
   exact ⟨.inl ok.bel.size,by simp [World.iter],fun k o h1 h2=>by have:=(ok.my k o _ h1 h2).2;omega,fun p u h1 h2=>by have:=cell_block (ok.fw p u h1);omega⟩)
 subst hq
 refine fU ?_
 simp only [ho,ok.evs hx,run_range_string w T _ hT,Sem.run_bind,Sem.run_pure,Result.andThen_ok]
 show N (a.put o.dst _) _
 exact afg
theorem WL.rgs {T:TypeId} {s:List UInt8} {x:Operand} {t:List (Nat×AV)} {M:List (Nat×AO)} {nk:Nat} (hd:dstB C.N o=some d) (ho:o.op=.range T x) (hT:P.underlying T=some .string) (hx:(⟨t,M,nk⟩:St).ev x=some (.sc (.string (_root_.Go.Proofs.YthohlofpphjofaaGreatDoor.bs s))))
  (k:WL P C ops rest ⟨(d,.sl nk)::t,(nk,.opq (X3 s 0))::M,nk+1⟩ Q):WL P C ops (o::rest) ⟨t,M,nk⟩ Q :=
 WL.op (dstB_of hd).1 (WO.rgs hd ho hT hx rfl) k
theorem aaQ {s:List UInt8} {pos:Nat} (ok:Ok C σ G a w) {q:Nat} {x:Operand} (hx:σ.ev x=some (.sl q)) (hq:look q σ.M=some (.opq (X3 s pos))) :
  a.eval x=.pointer (some ⟨G.b q,0,none⟩)∧G.fp q (G.b q)∧w.heap[G.b q]?=some (.stringIter (bs s) pos):=by
 obtain ⟨h1,h2,h3⟩:(X3 s pos).Q w (G.b q) (G.h q) (G.fp q):=(ok.ob q _ hq).2.2
 exact ⟨(ok.evr hx).2.sl_of.1.trans h1,h2,h3⟩
theorem WO.nxs {s:List UInt8} {pos q:Nat} {x:Operand} (hd:dstB C.N o=some d) (ho:o.op=.next x true) (hx:σ.ev x=some (.sl q)) (hq:look q σ.M=some (.opq (X3 s pos))) (hp:pos<s.length) :
  WO P C o σ ((σ.upd q (.opq (X3 s (pos+(Utf8.decode (bs s) pos).2)))).put d (.tu [.sc (.bool true),.sc (.int .i64 (pos:Int)),.sc (.int .i32 (Utf8.decode (bs s) pos).1)])):=by
 intro G a w ok N Q' hN
 obtain ⟨_,hds,hdb⟩:=dstB_of hd
 obtain ⟨e1,e2,e3⟩:=aaQ ok hx hq
 have ok':Ok C (σ.upd q (.opq (X3 s (pos+(Utf8.decode (bs s) pos).2)))) G a (w.iterAt (G.b q) (bs s) (pos+(Utf8.decode (bs s) pos).2)) :=
  ok.writeG hq e2 ⟨rfl,rfl,rfl,by simp [World.iterAt],fun x _ hx=>nD (fun e=>hx e.symm)⟩ ⟨(ok.ob q _ hq).2.2.1,e2,Lib.iterAt_heap w _ _ _ _ e3⟩ trivial
 refine fU ?_
 simp only [ho,e1,Lib.run_next_any_at w _ _ _ _ e3 (by rw [bs_size];exact hp),Sem.run_bind,Sem.run_pure,Result.andThen_ok]
 show N (a.put o.dst _) _
 rw [hds]
 exact hN _ _ _ (ok'.set (d:=some d) (.pu _ _ (.tu _ _ rfl fun i av u p r=>by
  match i with
  | 0=>cases p;cases r;exact .sc _
  | 1=>cases p;cases r;exact .sc _
  | 2=>cases p;cases r;exact .sc _
  | i+3=>simp at p)) (RP.bd (F:=G.F) (v:=.tuple #[.bool true,.int .i64 pos,.int .i32 (Utf8.decode (bs s) pos).1]) (.tu _ _ rfl fun i av u p r=>by
  match i with
  | 0=>cases p;cases r;exact .sc _
  | 1=>cases p;cases r;exact .sc _
  | 2=>cases p;cases r;exact .sc _
  | i+3=>simp at p) _) fun x hx=>by cases hx;exact of_blt hdb)
theorem WL.nxs {s:List UInt8} {pos q:Nat} {x:Operand} {t:List (Nat×AV)} {M M':List (Nat×AO)} {nk:Nat} (hd:dstB C.N o=some d) (ho:o.op=.next x true) (hx:(⟨t,M,nk⟩:St).ev x=some (.sl q)) (hq:look q M=some (.opq (X3 s pos))) (hM:remS q M=some M') (hp:pos<s.length)
  (k:WL P C ops rest ⟨(d,.tu [.sc (.bool true),.sc (.int .i64 (pos:Int)),.sc (.int .i32 (Utf8.decode (_root_.Go.Proofs.YthohlofpphjofaaGreatDoor.bs s) pos).1)])::t,(q,.opq (X3 s (pos+(Utf8.decode (_root_.Go.Proofs.YthohlofpphjofaaGreatDoor.bs s) pos).2)))::M',nk⟩ Q):WL P C ops (o::rest) ⟨t,M,nk⟩ Q:=by
 rw [remS_eq hM] at k
 exact WL.op (dstB_of hd).1 (wo_rem (WO.nxs (σ:=⟨t,M,nk⟩) hd ho hx hq hp)) k
theorem WV.nxe {s:List UInt8} {pos q:Nat} {x:Operand} (ho:o.op=.next x true) (hx:σ.ev x=some (.sl q)) (hq:look q σ.M=some (.opq (X3 s pos))) (hp:s.length≤pos):WV P C o σ (.tu [.sc (.bool false)]):=by
 have hr:∀ F:View,RP F (.tu [.sc (.bool false)]) (.tuple #[.bool false]):=fun F=>.tu _ _ rfl fun i av u p r=>by
  match i with
  | 0=>cases p;cases r;exact .sc _
  | i+1=>simp at p
 refine WV.val (fun G a w ok=>(hr G.F).bd _) fun G a w ok=>⟨.tuple #[.bool false],?_,.pu _ _ (hr _)⟩
 obtain ⟨e1,e2,e3⟩:=aaQ ok hx hq
 unfold execOp
 simp only [ho,e1,Lib.run_next_end_at w _ _ _ _ e3 Jp,Sem.run_bind,Sem.run_pure,Result.andThen_ok]
end
end
end Go.Proofs.YthohlofpphjofaaGreatDoor
