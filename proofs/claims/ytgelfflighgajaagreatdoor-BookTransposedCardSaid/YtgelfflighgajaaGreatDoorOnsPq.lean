/- piece.Onsets. -/
import Derived.Test.YtgelfflighgajaaGreatDoorPStPq
import Derived.Test.YtgelfflighgajaaGreatDoorHs1Pq
import Derived.Test.YtgelfflighgajaaGreatDoorRInsPq
import Derived.RangeFuncNested
import Derived.RangeFuncBound
import Derived.Shelf.RegionOpen
import Derived.OwnWalkIn
import Derived.LoopNIn
import Derived.LoopIn
set_option maxHeartbeats 8000000
set_option maxRecDepth 100000
set_option linter.unusedVariables false
set_option linter.unusedSimpArgs false
namespace Go.Proofs.YtgelfflighgajaaGreatDoor
section
open Go.RowKit
theorem sgOk_zero {v:Int} {d t:Bool} (h:sgOk v d t=true)(h0:v=0):d=false∧t=false:=by
 subst h0
 cases d<;>cases t<;>simp [sgOk]at h ⊢
theorem sgOk_tk {v:Int} {d t:Bool} (h:¬ (v=0∧d=false∧t=false)):sgOk v d t=decide (0<tkV v d t):=by
 by_cases hv:1≤v∧v≤7
 ·cases hdt:(d && t)
  ·have:=tkV_pos v d t hv hdt
   have e1:decide (0<tkV v d t)=true:=decide_eq_true this
   rw [e1];unfold sgOk;simp [hv,hdt]
  ·have hb:tkV v d t=0:=by unfold tkV;rw [if_pos (by simp [hdt])]
   rw [hb];unfold sgOk
   cases d<;>cases t<;>simp_all
 ·have hb:tkV v d t=0:=by unfold tkV;rw [if_pos (by omega)]
  rw [hb]
  unfold sgOk
  have h1:(decide (1≤v) && decide (v≤7))=false:=by
   rw [Bool.and_eq_false_iff,decide_eq_false_iff_not,decide_eq_false_iff_not];omega
  rw [h1]
  cases hv0:(v == 0)
  ·rfl
  ·have:v=0:=by simpa using hv0
   cases d<;>cases t<;>simp_all
theorem valid_any (v:Int) (d t:Bool) (w:World):Calls Tryz.prog 118 #[.agg #[.int .i64 v,.bool d,.bool t]] w (Ret (.bool (sgOk v d t)) w):=by
 by_cases h:v=0∧d=false∧t=false
 ·obtain ⟨rfl,rfl,rfl⟩:=h
  go_enter Tryz.func118,Tryz.ntmps118
  go_wp2
  go_ret
  exact Ret.mk' rfl zqb
 ·rw [sgOk_tk h]
  have HT:=Lib.hid (fun w=>ticks_any v d t w)
  generalize tkV v d t=T at *
  have hcase:(v == 0)=false∨((v == 0)=true∧(d=true∨(d=false∧t=true))):=by
   cases hv:(v == 0)
   ·exact .inl rfl
   ·have:v=0:=by simpa using hv
    refine .inr ⟨rfl,?_⟩
    cases d
    ·cases t
     ·exact absurd ⟨this,rfl,rfl⟩ h
     ·exact .inr ⟨rfl,rfl⟩
    ·exact .inl rfl
  clear h
  rcases hcase with hv|⟨hv,rfl|⟨rfl,rfl⟩⟩
  all_goals
   go_enter Tryz.func118,Tryz.ntmps118
   go_wp2_with (go_at_call 178;refine (HT.out _).mono ?_;rintro e' w1 ⟨rfl,hb1⟩)
   go_ret
   exact Ret.mk' (by first|rfl|simp) zqb
theorem evE_sign {p:Pce} {i:Int} {e:Ev} (h:sgOk e.val e.dot e.three=false∨(i=0∧e.val=0)):evE p i e=20:=if_pos h
theorem evE_tie {p:Pce} {i:Int} {e:Ev} (h:¬ (sgOk e.val e.dot e.three=false∨(i=0∧e.val=0)))(h1:e.tie=true∧(0<e.stops.length∨i=0)):evE p i e=21:=by unfold evE;rw [if_neg h,if_pos h1]
theorem evE_stops {p:Pce} {i:Int} {e:Ev} (h:¬ (sgOk e.val e.dot e.three=false∨(i=0∧e.val=0)))(h1:¬ (e.tie=true∧(0<e.stops.length∨i=0))):evE p i e=stopsE p i 0 e.stops:=by unfold evE;rw [if_neg h,if_neg h1]
theorem pCheck_any (M:PM) (p:Pce) (w:World) (hP:PcAt w w.heap.size M p) (hO:PcOk p):Calls Tryz.prog 52 #[pcValue M p] w (Ret (.int .i64 (pceE p)) w):=by
  obtain ⟨A1, A2, A3, c1, c2, c3⟩:=M
  obtain ⟨cs, st, evs⟩:=p
  have HP:=Lib.hid hP
  have HO:=Lib.hid hO
  have H4:=Lib.hid hO.n4
  have hn3:=hO.n3
  have hCI:=fun (w':World) (hI:InsAt w' w'.heap.size A1 A2 cs st)=>insCheck A1 A2 cs st cs.length st.length c1 c2 w' hI rfl rfl
  have hST:=fun (i:Int) (s:Stp) (x:Int) (w':World) (hb:Below w.heap.size w w')=>pStop_any ⟨A1, A2, A3, c1, c2, c3⟩ ⟨cs, st, evs⟩ i s x w' (hP.after hb) hO
  unfold pcValue stpVal at *
  simp only at *
  obtain ⟨n1, hn1⟩:∃ n, cs.length=n:=⟨_, rfl⟩
  obtain ⟨n2, hn2⟩:∃ n, st.length=n:=⟨_, rfl⟩
  obtain ⟨n3, hnn⟩:∃ n, evs.length=n:=⟨_, rfl⟩
  have HN:=Lib.hid hnn
  rw [hn1, hn2, hnn] at hST
  rw [hn1, hn2] at hCI
  rw [hnn] at hn3
  rw [hn1, hn2, hnn]
  have KI:=Lib.hid hCI
  have KS:=Lib.hid hST
  have HI:=Lib.hid (fun o=>(hP.1.alloc (Nat.le_refl _) o).more (show w.heap.size≤(w.alloc o).heap.size by simp))
  obtain ⟨p, hp⟩:∃ p:Pce, p=⟨cs, st, evs⟩:=⟨_, rfl⟩
  have HE1:=Lib.hid (pceE_ins (p:=p))
  have HE2:=Lib.hid (pceE_many (p:=p))
  have HE3:=Lib.hid (pceE_evs (p:=p))
  rw [← hp] at KS ⊢
  have HPE:=Lib.hid (show p.evs=evs by rw [hp])
  have HPI:=Lib.hid (show insE p.cs p.st=insE cs st by rw [hp])
  obtain ⟨E, hE⟩:∃ E, insE cs st=E:=⟨_, rfl⟩
  rw [hE] at KI HPI
  clear hP hO hCI hST hn1 hn2 hnn hE hp
  by_cases b0:E≠0
  · rw [HE1.out (by rw [HPI.out];exact b0), HPI.out]
    have e1:(E == 0)=false:=by simpa using b0
    have e2:(E != 0)=true:=by simpa using b0
    clear b0
    go_enter Tryz.func52, Tryz.ntmps52
    go_wp2_with (go_at_call 117;refine (KI.out _ (HI.out _)).mono ?_;rintro e' w1 ⟨rfl, hb1⟩)
    go_ret
    exact Ret.mk' rfl zqb
  · have b0':E=0:=by omega
    subst b0'
    by_cases b1:400 < n3
    · rw [HE2.out (by rw [HPI.out];exact b0) (by rw [HPE.out, HN.out];exact b1)]
      clear b0
      go_enter Tryz.func52, Tryz.ntmps52
      go_wp2_with (go_at_call 117;refine (KI.out _ (HI.out _)).mono ?_;rintro e' w1 ⟨rfl, hb1⟩;have k1:=(Blk.new _ _ _).after hb1;have x2:w1.cell? ⟨w.heap.size, 2, none⟩=some (.slice A3 n3 c3):=k1.cell 2;clear k1)
      go_ret
      exact Ret.mk' rfl zqb
    · rw [HE3.out (by rw [HPI.out];exact b0) (by rw [HPE.out, HN.out];exact b1), HPE.out]
      obtain ⟨V, hV⟩:∃ V, evsE p 0 evs=V:=⟨_, rfl⟩
      rw [hV]
      have HV:=Lib.hid hV
      clear b0 hV
      go_enter Tryz.func52, Tryz.ntmps52
      go_wp2_with (go_at_call 117;refine (KI.out _ (HI.out _)).mono ?_;rintro e' w1 ⟨rfl, hb1⟩;have k1:=(Blk.new _ _ _).after hb1;have x2:w1.cell? ⟨w.heap.size, 2, none⟩=some (.slice A3 n3 c3):=k1.cell 2;have K1:=Lib.hid k1;clear k1)
      go_loopw [23] (fun i wr=>∃ k:Nat, k≤n3∧i=.int .i64 k∧V=evsE p k (evs.drop k)∧Below w.heap.size w wr∧Blk wr w.heap.size 28 #[.slice A1 n1 c1, .slice A2 n2 c2, .slice A3 n3 c3]) (fun i _=>n3 - (intOf i).toNat)
      case atStart=>exact ⟨0, Nat.zero_le _, rfl, HV.out.symm, zqb, K1.out⟩
      case round =>
        clear x2
        obtain ⟨k, hk, rfl, hs, hbel, hblk⟩:=hrel
        have HR:=Lib.hid hs
        have HB:=Lib.hid hblk
        have hlt0:w.heap.size < wr.heap.size:=hblk.lt
        have q0:wr.cell? ⟨w.heap.size, 0, none⟩=some (.slice A1 n1 c1):=hblk.cell 0
        have q1:wr.cell? ⟨w.heap.size, 1, none⟩=some (.slice A2 n2 c2):=hblk.cell 1
        have q2:wr.cell? ⟨w.heap.size, 2, none⟩=some (.slice A3 n3 c3):=hblk.cell 2
        clear hs hblk
        by_cases hlt:k < n3
        · have hk2:k < evs.length:=by have:=HN.out;omega
          have HE:=Lib.hid (HP.out.2.1.below hbel)
          obtain ⟨ad, S, c, hA, hb, e0, e1, e2, e3, e4, e5, hS⟩:=HE.out.ev hk2
          subst hA
          have HS:=Lib.hid hS
          have H20:=H4.out _ hk2
          have hs2:=HR.out.trans (evsE_at hk2)
          obtain ⟨e, he⟩:∃ e, evs[k]=e:=⟨_, rfl⟩
          rw [he] at e0 e1 e2 e3 e4 e5 H20 hs2
          rw [he] at HS
          obtain ⟨m, hm⟩:∃ m, e.stops.length=m:=⟨_, rfl⟩
          rw [hm] at e5 H20
          have HM:=Lib.hid hm
          have KV:=Lib.hid (fun w=>valid_any e.val e.dot e.three w)
          have HEV:=Lib.hid he
          clear hS he
          by_cases b2:sgOk e.val e.dot e.three=false
          · have HE4:=Lib.hid (hs2.trans (by rw [evE_sign (.inl b2)];first| done|exact if_pos (by decide)))
            rw [b2] at KV
            clear hs2 hm b2
            go_wp2_with (go_at_call 118;refine (KV.out _).mono ?_;rintro e' w1 ⟨rfl, hb1⟩)
            go_ret
            exact Ret.mk' (by rw [HE4.out];rfl) zqb
          · have b2':sgOk e.val e.dot e.three=true:=by simpa using b2
            rw [b2'] at KV
            by_cases b3:k=0∧e.val=0
            · have HE4:=Lib.hid (hs2.trans (by rw [evE_sign (.inr ⟨by have:=b3.1;omega, b3.2⟩)];first| done|exact if_pos (by decide)))
              obtain ⟨z1, z2⟩:=sgOk_zero b2' b3.2
              obtain ⟨hk00, z0⟩:=b3
              have dz:((k:Int) == 0)=true:=by simpa using hk00
              rw [z0] at e1
              rw [z1] at e2
              rw [z2] at e3
              rw [z0, z1, z2] at KV
              clear hs2 hm b2 b2' z0 z1 z2 hk00
              go_wp2_with (go_at_call 118;refine (KV.out _).mono ?_;rintro e' w1 ⟨rfl, hb1⟩;have k1:=(Blk.new _ _ _).after hb1;have x1:w1.cell? ⟨wr.heap.size, 1, none⟩=some (.int .i64 0):=k1.cell 1;have x2:w1.cell? ⟨wr.heap.size, 2, none⟩=some (.bool false):=k1.cell 2;have x3:w1.cell? ⟨wr.heap.size, 3, none⟩=some (.bool false):=k1.cell 3;clear k1)
              go_ret
              exact Ret.mk' (by rw [HE4.out];rfl) zqb
            · have g1:¬ (sgOk e.val e.dot e.three=false∨((k:Int)=0∧e.val=0)):=by rw [b2'];intro h;rcases h with h| h;cases h;exact b3 ⟨by omega, h.2⟩
              have hk0:((k:Int) == 0)=false∨(((k:Int) == 0)=true∧(e.val == 0)=false):=by
                by_cases hz:k=0
                · exact .inr ⟨by simpa using hz, by simpa using fun h=>b3 ⟨hz, h⟩⟩
                · exact .inl (by simpa using hz)
              by_cases b4:e.tie=true∧(0 < e.stops.length∨(k:Int)=0)
              · have HE4:=Lib.hid (hs2.trans (by rw [evE_tie g1 b4];first| done|exact if_pos (by decide)))
                obtain ⟨b5, b6⟩:=b4
                rw [b5] at e4
                rw [hm] at b6
                have hcase:(0 < m)∨(¬ 0 < m∧((k:Int) == 0)=true):=by
                  by_cases h:0 < m
                  · exact .inl h
                  · exact .inr ⟨h, by have:(k:Int)=0:=by omega
                                      simpa using this⟩
                clear hs2 hm b5 b6 g1 b2 b2' b3
                rcases hcase with d5| ⟨d5, d6⟩
                · rcases hk0 with d1| ⟨d1, d2⟩
                  all_goals
                    go_wp2_with (go_at_call 118;refine (KV.out _).mono ?_;rintro e' w1 ⟨rfl, hb1⟩;have k1:=(Blk.new _ _ _).after hb1;have kp:=(HB.out.alloc _).after hb1;have x0:w1.cell? ⟨wr.heap.size, 0, none⟩=some (.bool e.bar):=k1.cell 0;have x1:w1.cell? ⟨wr.heap.size, 1, none⟩=some (.int .i64 e.val):=k1.cell 1;have x2:w1.cell? ⟨wr.heap.size, 2, none⟩=some (.bool e.dot):=k1.cell 2;have x3:w1.cell? ⟨wr.heap.size, 3, none⟩=some (.bool e.three):=k1.cell 3;have x4:w1.cell? ⟨wr.heap.size, 4, none⟩=some (.bool true):=k1.cell 4;have x5:w1.cell? ⟨wr.heap.size, 5, none⟩=some (.slice S m c):=k1.cell 5;have K1:=Lib.hid k1;have KP:=Lib.hid kp;clear k1 kp)
                    go_ret
                    exact Ret.mk' (by rw [HE4.out];rfl) zqb
                · rcases hk0 with d1| ⟨d1, d2⟩
                  · rw [d6] at d1;cases d1
                  · clear d6
                    go_wp2_with (go_at_call 118;refine (KV.out _).mono ?_;rintro e' w1 ⟨rfl, hb1⟩;have k1:=(Blk.new _ _ _).after hb1;have kp:=(HB.out.alloc _).after hb1;have x0:w1.cell? ⟨wr.heap.size, 0, none⟩=some (.bool e.bar):=k1.cell 0;have x1:w1.cell? ⟨wr.heap.size, 1, none⟩=some (.int .i64 e.val):=k1.cell 1;have x2:w1.cell? ⟨wr.heap.size, 2, none⟩=some (.bool e.dot):=k1.cell 2;have x3:w1.cell? ⟨wr.heap.size, 3, none⟩=some (.bool e.three):=k1.cell 3;have x4:w1.cell? ⟨wr.heap.size, 4, none⟩=some (.bool true):=k1.cell 4;have x5:w1.cell? ⟨wr.heap.size, 5, none⟩=some (.slice S m c):=k1.cell 5;have K1:=Lib.hid k1;have KP:=Lib.hid kp;clear k1 kp)
                    go_ret
                    exact Ret.mk' (by rw [HE4.out];rfl) zqb
              · have hcase:e.tie=false∨(e.tie=true∧¬ 0 < m∧((k:Int) == 0)=false):=by
                  cases ht:e.tie
                  · exact .inl rfl
                  · refine .inr ⟨rfl, ?_, ?_⟩
                    · intro h;exact b4 ⟨ht, .inl (by omega)⟩
                    · by_cases h:(k:Int)=0
                      · exact absurd ⟨ht, .inr h⟩ b4
                      · simpa using h
                rw [evE_stops g1 b4] at hs2
                obtain ⟨W, hW⟩:∃ W, stopsE p k 0 e.stops=W:=⟨_, rfl⟩
                rw [hW] at hs2
                have HW:=Lib.hid hW
                have HVW:=Lib.hid (fun (h:W≠0)=>hs2.trans (if_pos h))
                have HVN:=Lib.hid (fun (h:W=0)=>hs2.trans (if_neg (fun k=>k h)))
                have HS0:=Lib.hid (show StpsAt w w.heap.size S e.stops from by
                  obtain ⟨ad', S', c', hA', _, _, _, _, _, _, e5', hS'⟩:=HP.out.2.1.ev hk2
                  obtain rfl:ad=ad':=by injection hA'
                  rw [HEV.out] at e5' hS'
                  have h1:=(hbel.cell (p:=⟨(ad.add (k*6)).block, (ad.add (k*6)).off+5, none⟩) (by show (ad.add (k*6)).block < w.heap.size;rw [block_of_add];exact hb)).trans e5'
                  rw [h1] at e5
                  injection e5 with e5
                  injection e5 with e5 _ _
                  subst e5
                  exact hS')
                clear hs2 hm hW g1 b2 b2' b3 b4
                rcases hcase with ht| ⟨ht, d5, hi0⟩
                · rw [ht] at e4
                  clear ht
                  rcases hk0 with d1| ⟨d1, d2⟩
                  all_goals
                    go_wp2_with (go_at_call 118;refine (KV.out _).mono ?_;rintro e' w1 ⟨rfl, hb1⟩;have k1:=(Blk.new _ _ _).after hb1;have kp:=(HB.out.alloc _).after hb1;have x0:w1.cell? ⟨wr.heap.size, 0, none⟩=some (.bool e.bar):=k1.cell 0;have x1:w1.cell? ⟨wr.heap.size, 1, none⟩=some (.int .i64 e.val):=k1.cell 1;have x2:w1.cell? ⟨wr.heap.size, 2, none⟩=some (.bool e.dot):=k1.cell 2;have x3:w1.cell? ⟨wr.heap.size, 3, none⟩=some (.bool e.three):=k1.cell 3;have x4:w1.cell? ⟨wr.heap.size, 4, none⟩=some (.bool false):=k1.cell 4;have x5:w1.cell? ⟨wr.heap.size, 5, none⟩=some (.slice S m c):=k1.cell 5;have K1:=Lib.hid k1;have KP:=Lib.hid kp;clear k1 kp)
                    go_loopw [6, 57] (fun v u wj=>∃ (j:Nat) (x:Int), j≤m∧v=.int .i64 x∧u=.int .i64 j∧W=stopsE p k x (e.stops.drop j)∧Below w.heap.size w wj∧Blk wj w.heap.size 28 #[.slice A1 n1 c1, .slice A2 n2 c2, .slice (some ad) n3 c3]) (fun _ u _=>m - (intOf u).toNat)
                    case atStart=>exact ⟨0, 0, Nat.zero_le _, rfl, rfl, HW.out.symm, zqb, KP.out⟩
                    case round =>
                      clear x0 x1 x2 x3 x4 x5 q0 q1 q2 e0 e1 e2 e3 e4 e5
                      obtain ⟨j, x, hj, rfl, rfl, hs, hbel2, hblk⟩:=hrel
                      have HRJ:=Lib.hid hs
                      have HBJ:=Lib.hid hblk
                      have hltj:w.heap.size < wr.heap.size:=hblk.lt
                      have q0:wr.cell? ⟨w.heap.size, 0, none⟩=some (.slice A1 n1 c1):=hblk.cell 0
                      have q1:wr.cell? ⟨w.heap.size, 1, none⟩=some (.slice A2 n2 c2):=hblk.cell 1
                      have q2:wr.cell? ⟨w.heap.size, 2, none⟩=some (.slice (some ad) n3 c3):=hblk.cell 2
                      clear hs hblk
                      by_cases hjm:j < m
                      · have hj2:j < e.stops.length:=by have:=HM.out;omega
                        have HSJ:=Lib.hid (HS0.out.below hbel2)
                        obtain ⟨ad2, hA2, hb2, y0, y1, y2, y3, y4⟩:=HSJ.out.stp hj2
                        subst hA2
                        have hs3:=HRJ.out.trans (stopsE_at hj2)
                        have KSS:=KS.out k e.stops[j] x
                        obtain ⟨⟨c', f', r', g', h'⟩, hsj⟩:∃ s, e.stops[j]=s:=⟨_, rfl⟩
                        rw [hsj] at hs3 y0 y1 y2 y3 y4 KSS
                        simp only at y0 y1 y2 y3 y4 KSS hs3
                        obtain ⟨G, hG⟩:∃ G, stopE p k (c', f', r', g', h') x=G:=⟨_, rfl⟩
                        rw [hG] at hs3 KSS
                        have KST:=Lib.hid KSS
                        clear hsj hG KSS
                        by_cases hG0:G=0
                        · subst hG0
                          rw [if_neg (by decide)] at hs3
                          have HR3:=Lib.hid hs3
                          clear hs3
                          go_wp2_with (go_at_call 119;refine (KST.out _ zqb).mono ?_;rintro e' w3 ⟨rfl, hb3⟩;have k1:=(Blk.new _ _ _).after hb3;have z0:w3.cell? ⟨wr.heap.size, 0, none⟩=some (.int .i64 c'):=k1.cell 0;have KP3:=Lib.hid ((HBJ.out.alloc _).after hb3);clear k1)
                          go_roundw
                          case rel=>exact ⟨j+1, c', by omega, rfl, by go_num, HR3.out, zqb, KP3.out⟩
                          case measure=>simp [intOf];omega
                        · rw [if_pos hG0] at hs3
                          have HE4:=Lib.hid (HVW.out (by rw [hs3];exact hG0))
                          have HG:=Lib.hid hs3
                          have d1:(G == 0)=false:=by simpa using hG0
                          have d2:(G != 0)=true:=by simpa using hG0
                          clear hs3 hG0
                          go_wp2_with (go_at_call 119;refine (KST.out _ zqb).mono ?_;rintro e' w3 ⟨rfl, hb3⟩)
                          go_ret
                          exact Ret.mk' (by rw [HE4.out, HG.out];rfl) zqb
                      · have hW0:W=0:=HRJ.out.trans (show stopsE p k x (e.stops.drop j)=0 from by rw [List.drop_eq_nil_of_le (by have:=HM.out;omega)];rfl)
                        have HR4:=Lib.hid (HVN.out hW0)
                        clear hW0
                        go_wp2_with fail
                        go_roundw
                        case rel=>exact ⟨k+1, by omega, by go_num, HR4.out, hbel2, HBJ.out⟩
                        case measure=>simp [intOf];omega
                · rw [ht] at e4
                  clear ht
                  rcases hk0 with d1| ⟨d1, d2⟩
                  · clear hi0
                    go_wp2_with (go_at_call 118;refine (KV.out _).mono ?_;rintro e' w1 ⟨rfl, hb1⟩;have k1:=(Blk.new _ _ _).after hb1;have kp:=(HB.out.alloc _).after hb1;have x0:w1.cell? ⟨wr.heap.size, 0, none⟩=some (.bool e.bar):=k1.cell 0;have x1:w1.cell? ⟨wr.heap.size, 1, none⟩=some (.int .i64 e.val):=k1.cell 1;have x2:w1.cell? ⟨wr.heap.size, 2, none⟩=some (.bool e.dot):=k1.cell 2;have x3:w1.cell? ⟨wr.heap.size, 3, none⟩=some (.bool e.three):=k1.cell 3;have x4:w1.cell? ⟨wr.heap.size, 4, none⟩=some (.bool true):=k1.cell 4;have x5:w1.cell? ⟨wr.heap.size, 5, none⟩=some (.slice S m c):=k1.cell 5;have K1:=Lib.hid k1;have KP:=Lib.hid kp;clear k1 kp)
                    go_loopw [6, 57] (fun v u wj=>∃ (j:Nat) (x:Int), j≤m∧v=.int .i64 x∧u=.int .i64 j∧W=stopsE p k x (e.stops.drop j)∧Below w.heap.size w wj∧Blk wj w.heap.size 28 #[.slice A1 n1 c1, .slice A2 n2 c2, .slice (some ad) n3 c3]) (fun _ u _=>m - (intOf u).toNat)
                    case atStart=>exact ⟨0, 0, Nat.zero_le _, rfl, rfl, HW.out.symm, zqb, KP.out⟩
                    case round =>
                      clear x0 x1 x2 x3 x4 x5 q0 q1 q2 e0 e1 e2 e3 e4 e5
                      obtain ⟨j, x, hj, rfl, rfl, hs, hbel2, hblk⟩:=hrel
                      have HRJ:=Lib.hid hs
                      have HBJ:=Lib.hid hblk
                      have hltj:w.heap.size < wr.heap.size:=hblk.lt
                      have q0:wr.cell? ⟨w.heap.size, 0, none⟩=some (.slice A1 n1 c1):=hblk.cell 0
                      have q1:wr.cell? ⟨w.heap.size, 1, none⟩=some (.slice A2 n2 c2):=hblk.cell 1
                      have q2:wr.cell? ⟨w.heap.size, 2, none⟩=some (.slice (some ad) n3 c3):=hblk.cell 2
                      clear hs hblk
                      by_cases hjm:j < m
                      · exfalso;omega
                      · have hW0:W=0:=HRJ.out.trans (show stopsE p k x (e.stops.drop j)=0 from by rw [List.drop_eq_nil_of_le (by have:=HM.out;omega)];rfl)
                        have HR4:=Lib.hid (HVN.out hW0)
                        clear hW0
                        go_wp2_with fail
                        go_roundw
                        case rel=>exact ⟨k+1, by omega, by go_num, HR4.out, hbel2, HBJ.out⟩
                        case measure=>simp [intOf];omega
                  · rw [hi0] at d1;cases d1
        · have HE4:=Lib.hid (HR.out.trans (show evsE p k (evs.drop k)=0 from by rw [List.drop_eq_nil_of_le (by have:=HN.out;omega)];rfl))
          go_wp2
          go_ret
          exact Ret.mk' (by rw [HE4.out];rfl) zqb
end
section
open Go.RowKit Go.Shelf
attribute [local go_sem]Oper.semAt_some
def frc:Int→List Ev→Int
 | t,[]=>t
 | t,e::r=>frc (if 0<tkV e.val e.dot e.three then tkV e.val e.dot e.three else t) r
theorem frc_snoc (e:Ev):∀ (t:Int)(l:List Ev),frc t (l++[e])=if 0<tkV e.val e.dot e.three then tkV e.val e.dot e.three else frc t l
 | t,[]=>rfl
 | t,x::l=>frc_snoc e _ l
theorem frc_take {evs:List Ev} {k:Nat} (h:k<evs.length)(t:Int):frc t (evs.take (k+1))=if 0<tkV evs[k].val evs[k].dot evs[k].three then tkV evs[k].val evs[k].dot evs[k].three else frc t (evs.take k):=by
 rw [List.take_succ_eq_append_getElem h,frc_snoc]
theorem grown_of_below {a b:World} (h:Below a.heap.size a b)(row:Option Nat):a.grownBy b row:=⟨h.os,h.tape,h.output,h.size,fun k hk _=>h.block k hk⟩
theorem timed1_in (n:Nat) (hn:1≤n) (l Bp n₀ len c:Nat) (A:Option Addr) (evs:List Ev) (hlen:evs.length=len) (hO:len≤420) (B0:Nat) (J:Nat→World→Prop) (hJ:AbidesFrom B0 J)
  (hY:∀ k W,J k W→k < len→YieldAt Fence.wide (n - 1) Tryz.prog l #[.int .i64 (k:Int),.int .i64 (frc 0 (evs.take (k+1)))] W fun e W'=>e=.returned (.bool true)∧J (k+1) W'∧Below n₀ W W')
  (W:World) (hn₀:n₀≤W.heap.size) (hc:W.cell? ⟨Bp,2,none⟩=some (.slice A len c)) (hE:EvsAt W n₀ A evs) (h0:J 0 W) :
  CallsIn Fence.wide n Tryz.prog 212 #[.func (.yield l) #[] #[],.pointer (some ⟨Bp,0,none⟩)] W fun e W'=>(∃ v,e=.returned v)∧J len W':=by
 have HE:=Lib.hid hE
 have HJ:=Lib.hid hJ
 have HL:=Lib.hid hlen
 clear hE hlen
 refine callsIn_of_wp Tryz.func212 rfl trivial ?_ rfl
 simp only [Tryz.ntmps212,List.size_toArray,List.length_cons,List.length_nil,Nat.reduceAdd,Nat.reduceSub,Array.replicate_succ,Array.replicate_zero,List.push_toArray,List.append_toArray,List.nil_append,List.cons_append]
 gi_wp2
 gi_loopw [3,10] (fun t i wr=>∃ k:Nat,k≤len∧i=.int .i64 k∧t=.int .i64 (frc 0 (evs.take k))∧J k wr∧Below n₀ W wr)
  (fun _ i _=>len - (intOf i).toNat)
 case atStart=>exact ⟨0,Nat.zero_le _,rfl,rfl,h0,Below.refl _ _⟩
 case round =>
  obtain ⟨k,hk,rfl,rfl,hJs,hnx⟩:=hrel
  have HX:=Lib.hid hnx
  by_cases hlt:k < len
  ·have hk2:k < evs.length:=by have:=HL.out;omega
   obtain ⟨ad,S,c',hA,hb,e0,e1,e2,e3,e4,e5,hS⟩:=(HE.out.below hnx).ev hk2
   subst hA
   have hfr:=frc_take hk2 0
   have KT:=Lib.hid (fun w=>ticks_any evs[k].val evs[k].dot evs[k].three w)
   obtain ⟨T,hT⟩:∃ T,tkV evs[k].val evs[k].dot evs[k].three=T:=⟨_,rfl⟩
   rw [hT] at hfr KT
   obtain ⟨e,he⟩:∃ e,evs[k]=e:=⟨_,rfl⟩
   rw [he] at e0 e1 e2 e3 e4 e5 KT
   obtain ⟨m,hm⟩:∃ m,e.stops.length=m:=⟨_,rfl⟩
   rw [hm] at e5
   clear hS hT
   have HFR:=Lib.hid hfr
   have HY:=hY k
   by_cases hT0:0 < T
   ·rw [if_pos hT0] at HFR
    gi_wp2_with (refine ⟨trivial,?_⟩;gi_at_call 178;refine (callsIn_wide.2 (KT.out _)).mono ?_;rintro e' w1 ⟨rfl,hb1⟩;have hbb:Below wr.heap.size wr w1:=((Below.refl _ wr).alloc (Nat.le_refl _) _).trans (hb1.mono (by simp));have HBB:=Lib.hid hbb;obtain ⟨fn,tmps,assign,body,hy,hR⟩:=HY w1 (HJ.out _ wr w1 none hJs (grown_of_below hbb _) (fun r h=>by cases h)) hlt;clear hbb;rw [HFR.out] at hy)
    refine hR.mono ?_
    rintro e W3 ⟨rfl,hJ3,hk3⟩
    gi_wp2
    go_roundw
    case rel=>exact ⟨k+1,by omega,by go_num,by rw [HFR.out],hJ3,(HX.out.trans (HBB.out.mono (by have:=HX.out.size;omega))).trans hk3⟩
    case measure=>simp [intOf];omega
   ·rw [if_neg hT0] at HFR
    obtain ⟨T0,hT0'⟩:∃ T0,frc 0 (evs.take k)=T0:=⟨_,rfl⟩
    rw [hT0'] at HFR
    rw [hT0']
    gi_wp2_with (refine ⟨trivial,?_⟩;gi_at_call 178;refine (callsIn_wide.2 (KT.out _)).mono ?_;rintro e' w1 ⟨rfl,hb1⟩;have hbb:Below wr.heap.size wr w1:=((Below.refl _ wr).alloc (Nat.le_refl _) _).trans (hb1.mono (by simp));have HBB:=Lib.hid hbb;obtain ⟨fn,tmps,assign,body,hy,hR⟩:=HY w1 (HJ.out _ wr w1 none hJs (grown_of_below hbb _) (fun r h=>by cases h)) hlt;clear hbb;rw [HFR.out] at hy)
    refine hR.mono ?_
    rintro e W3 ⟨rfl,hJ3,hk3⟩
    gi_wp2
    go_roundw
    case rel=>exact ⟨k+1,by omega,by go_num,by rw [HFR.out],hJ3,(HX.out.trans (HBB.out.mono (by have:=HX.out.size;omega))).trans hk3⟩
    case measure=>simp [intOf];omega
  ·obtain rfl:k=len:=by omega
   gi_wp2
   go_end0
   exact ⟨⟨_,rfl⟩,hJs⟩
theorem timed_any (M:PM) (p:Pce) (w:World):Calls Tryz.prog 173 #[pcValue M p] w fun e w'=>e=.returned (.func (.func 212) #[] #[.pointer (some ⟨w.heap.size,0,none⟩)]) ∧
  w'=w.alloc (.cells #[.slice M.A1 p.cs.length M.c1,.slice M.A2 p.st.length M.c2,.slice M.A3 p.evs.length M.c3] 28):=by
 unfold pcValue
 go_enter Tryz.func173,Tryz.ntmps173
 go_wp2
 go_ret
 exact ⟨rfl,rfl⟩
def rngPost (n₀:Nat)(I:Nat→World→Prop)(k:Nat)(W:World):Exit→Act→World→Prop
 | .normal,_,W'=>KeepsOthers W W'∧Below n₀ W W'∧I (k+1) W'
 | _,_,_=>False
theorem wp_range {P:Program} {n:Nat} {g:Operand} {ps:Array Tmp} {assign body:Code} {Q:Exit→Act→World→Prop} {a:Act} {w:World} {gf:Nat} {lb:Array Value}
  (hg:a.eval g=.func (.func gf) #[] lb) (eg:∀ args w,(callFunc gf args).run P w=.ok (.enter gf args) w) {encs:Nat→Array Value} {len n₀:Nat} (hn₀:n₀≤w.heap.size)
  (hit:∀ (l:Nat) (J:Nat→World→Prop) (W:World),Below w.heap.size w W→AbidesFrom W.heap.size J →
   (∀ k W1,J k W1→k < len→YieldAt Fence.wide (n - 1 - 1) P l (encs k) W1 fun e W'=>e=.returned (.bool true)∧J (k+1) W'∧Below n₀ W1 W')→J 0 W →
   CallsIn Fence.wide (n - 1) P gf (#[.func (.yield l) #[] #[]]++lb) W fun e W'=>(∃ v,e=.returned v)∧J len W')
  (hps:∀ k,(encs k).size=ps.size) (I:Nat→World→Prop) (hI:OwnFrom w.heap.size I) (h0:I 0 w) (a₁:Nat→Act)
  (hassign:∀ (l k:Nat) (W:World) (K:Act→World→Prop),K (a₁ k) W →
   assign.wpIn (Fence.wide.inRound l) (n - 1 - 1) P (Exit.then K (fun _ _ _=>False)) { tmps:=(ps.zip (encs k)).foldl (fun t (p,v)=>t.setIfInBounds p v) a.tmps,defers:=[] } W)
  (hbody:∀ (l k:Nat) (W:World),I k W→k < len→body.wpIn (Fence.wide.inRound l) (n - 1 - 1) P (rngPost n₀ I k W) (a₁ k) W)
  (hdone:∀ (D:Nat) (W:World),w.heap.size≤D→I len W→W.heap[D]?=some (.deferred (some []))→Q .normal { a with defers:={ target:=.collected D,args:=#[] }::a.defers } W) :
  (Code.rangeFunc g ps assign body).wpIn Fence.wide n P Q a w:=by
 refine wpIn_rangeFunc fun fn hfn=>?_
 obtain ⟨rec,hrec⟩:∃ rec:LoopState→Option Code→Loop,rec=fun st pe=>{ state:=st,pending:=pe,fn,tmps:=a.tmps,params:=ps,assign,body,defers:=w.heap.size }:=⟨_,rfl⟩
 obtain ⟨W1,hW1⟩:∃ W1,(w.alloc (.deferred (some []))).alloc (.loop (rec .ready none))=W1:=⟨_,rfl⟩
 have hL:W1.heap[w.heap.size+1]?=some (.loop (rec .ready none)):=by
  have:=World.alloc_heap_new (w.alloc (.deferred (some []))) (.loop (rec .ready none))
  rwa [World.size_alloc,hW1] at this
 have hD:W1.heap[w.heap.size]?=some (.deferred (some [])):=by
  rw [← hW1];exact (Below.heap_alloc _ _ _ (by simp)).trans (World.alloc_heap_new w _)
 have hB1:Below w.heap.size w W1:=by rw [← hW1];exact ((Below.refl _ w).alloc (Nat.le_refl _) _).alloc (by simp) _
 have hS1:w.heap.size≤W1.heap.size:=hB1.size
 refine ⟨w.heap.size+1,[{ target:=.collected w.heap.size,args:=#[] }],W1,{ target:=.fn (.func gf) lb,args:=#[.func (.yield (w.heap.size+1)) #[] #[]] },W1,gf,
  #[.func (.yield (w.heap.size+1)) #[] #[]]++lb,W1,?_,?_,fun _ _=>trivial,?_,fun h=>?_,?_⟩
 ·rw [← hW1,hrec];exact run_enterLoop_outer _ _ _ _ _
 ·simp only [resolve,hg]
  simp [go_sem]
 ·simp [invoke,go_sem,eg]
 ·simp [Fence.wide] at h
 ·have turn:∀ {A B:World} {row:Option Nat} {k:Nat} {o:Obj},A.grownBy B row→(∀ r,row=some r→W1.heap.size≤r∧∃ o:Obj,A.heap[r]?=some o∧o.isWalk=true)→A.heap[k]?=some o→o.isWalk=false→B.heap[k]?=some o :=
   fun hg' hr hk ho=>(grownBy_keeps hg' (fun r e=>(hr r e).2) hk ho).trans hk
  refine (hit (w.heap.size+1) (fun k W=>I k W∧W.heap[w.heap.size+1]?=some (.loop (rec .ready none))∧W.heap[w.heap.size]?=some (.deferred (some []))) W1 hB1
   (fun s A B row hs hg' hr=>⟨hI s A B row hs.1 hg' fun r e=>⟨Nat.le_trans hS1 (hr r e).1,(hr r e).2.imp fun o h=>⟨h.1,Obj.not_cells_of_walk h.2⟩⟩,turn hg' hr hs.2.1 rfl,turn hg' hr hs.2.2 rfl⟩)
   ?_ ⟨by rw [← hW1];exact hI.alloc _ (hI.alloc _ h0),hL,hD⟩).mono ?_
  ·rintro k W ⟨hi,hl,hd⟩ hk
   have hlt:w.heap.size+1 < W.heap.size:=(Array.getElem?_eq_some_iff.1 hl).1
   have hy:=run_yield (P:=P) (args:=encs k) hl (by rw [hrec];exact hps k)
   rw [hrec] at hy
   refine ⟨fn,_,assign,body,hy,roundIn_of_wpIn hfn (hassign _ k W _ ⟨_,run_beginRound hl (by rw [hrec]),?_⟩)⟩
   obtain ⟨W2,hW2⟩:∃ W2,W.putObj (w.heap.size+1) (.loop { rec .ready none with state:=.busy })=W2:=⟨_,rfl⟩
   have hl2:W2.heap[w.heap.size+1]?=some (.loop { rec .ready none with state:=.busy }):=by rw [← hW2];exact World.putObj_heap_same hlt
   have hd2:W2.heap[w.heap.size]?=some (.deferred (some [])):=by rw [← hW2];exact (World.putObj_heap_other (by omega)).trans hd
   have hb2:Below n₀ W W2:=by rw [← hW2];exact belowK_b hn₀ W _ _ _ (by omega) hl rfl rfl
   have hi2:I k W2:=by rw [← hW2];exact hI.putObj _ hi (by omega) hl rfl
   rw [hW2]
   refine wpIn_mono (hbody _ k W2 hi2 hk) ?_
   rintro e a3 W3 hp
   cases e with
   | normal =>
    obtain ⟨hk3,hb3,hi3⟩:=hp
    have hl3:=hk3.same _ _ hl2 rfl
    have hr:=run_endRound (P:=P) none hl3
    rw [hrec] at hr
    refine ⟨_,_,hr,rfl,⟨hI.putObj _ hi3 (by omega) hl3 rfl,?_,(World.putObj_heap_other (by omega)).trans (hk3.same _ _ hd2 rfl)⟩,(hb2.trans hb3).trans (belowK_b hn₀ W3 _ _ _ (by omega) hl3 rfl rfl)⟩
    rw [hrec]
    exact World.putObj_heap_same (Array.getElem?_eq_some_iff.1 hl3).1
   | ret=>exact hp.elim
   | exit id=>exact hp.elim
   | goto t=>exact hp.elim
   | panic ch=>exact hp.elim
   | outgrown=>exact hp.elim
  ·rintro e W2 ⟨⟨v,rfl⟩,hi,hl,hd⟩
   have hr:=run_endLoop (P:=P) hl (by rw [hrec];simp)
   rw [hrec] at hr
   exact ⟨none,_,hr,hdone _ _ (Nat.le_refl _) (hI.putObj _ hi (by omega) hl rfl) ((World.putObj_heap_other (by omega)).trans hd)⟩
end
section
open Go.RowKit Go.Shelf
attribute [local go_sem]Oper.semAt_some
attribute [-go_sem]Builtin.append_
theorem tkAll2:((List.range' 1 7).all fun v=>[(false,false),(true,false),(false,true)].all fun p=>decide (tkV (v:Nat) p.1 p.2≤1000))=true:=by decide +kernel
theorem tkV_le (v:Int) (d t:Bool):0≤tkV v d t∧tkV v d t≤1000:=by
 by_cases hb:v<1∨7<v∨(d && t)=true
 ·have:tkV v d t=0:=if_pos hb
  omega
 ·have hv:1≤v∧v≤7:=by omega
  have hdt:(d && t)=false:=by cases h:(d && t) with|false=>rfl|true=>exact absurd (.inr (.inr h)) hb
  have h0:=tkV_pos v d t hv hdt
  obtain ⟨n,rfl⟩:∃ n:Nat,v=n:=⟨v.toNat,by omega⟩
  have h1:=List.all_eq_true.1 tkAll2 n (by rw [List.mem_range'_1];omega)
  have h2:=List.all_eq_true.1 h1 (d,t) (by cases d<;>cases t<;>simp_all)
  have h3:=of_decide_eq_true h2
  exact ⟨by omega,h3⟩
theorem frc_le:∀ (t:Int)(l:List Ev),0≤t∧t≤1000→0≤frc t l∧frc t l≤1000
 | t,[],h=>h
 | t,e::r,h=>by
  unfold frc
  exact frc_le _ r (by split<;>first|exact tkV_le _ _ _|exact h)
def onsAt (evs:List Ev):Nat→Int
 | 0=>0
 | k+1=>onsAt evs k+frc 0 (evs.take (k+1))
theorem onsAt_le (evs:List Ev):∀ k,0≤onsAt evs k∧onsAt evs k≤1000*k
 | 0=>⟨Int.le_refl 0,Int.le_refl 0⟩
 | k+1=>by have h:=onsAt_le evs k;have h2:=frc_le 0 (evs.take (k+1)) (by decide);unfold onsAt;omega
def onsL (evs:List Ev)(k:Nat):List Int:=(List.range (k+1)).map (onsAt evs)
theorem onsL_succ (evs:List Ev)(k:Nat):onsL evs (k+1)=onsL evs k++[onsAt evs (k+1)]:=by simp [onsL,List.range_succ]
theorem onsL_length(evs:List Ev)(k:Nat):(onsL evs k).length=k+1:=by simp [onsL]
theorem Tryz.infoInt:(Tryz.prog.info? 3).map (fun i=>(i.zero,i.size,i.bytes))=some (some (.int .i64 0),1,8):=by kernel_rfl
theorem pOnsets_ok (M:PM) (p:Pce) (w:World) (hP:PcAt w w.heap.size M p) (hO:PcOk p) (h0:pceE p=0):Calls Tryz.prog 111 #[pcValue M p] w fun e w' =>
  ∃ v,e=.returned (.tuple #[v,.int .i64 0])∧w'.ownsRow w.heap.size 3 1 v (p.evs.length+1) ((onsL p.evs p.evs.length).map fun x=>.int .i64 x)∧Below w.heap.size w w':=by
 have hC:=fun (w':World) (hb:Below w.heap.size w w')=>pCheck_any M p w' (hP.after hb) hO
 rw [h0] at hC
 have hn3:=hO.n3
 have hT:=fun w'=>timed_any M p w'
 obtain ⟨A1,A2,A3,c1,c2,c3⟩:=M
 obtain ⟨n1,hn1⟩:∃ n,p.cs.length=n:=⟨_,rfl⟩
 obtain ⟨n2,hn2⟩:∃ n,p.st.length=n:=⟨_,rfl⟩
 obtain ⟨n3,hnn⟩:∃ n,p.evs.length=n:=⟨_,rfl⟩
 unfold pcValue at *
 simp only at *
 rw [hn1,hn2,hnn] at hC hT
 rw [hnn] at hn3
 rw [hn1,hn2,hnn]
 have HC:=Lib.hid hC
 have HT:=Lib.hid hT
 have HP:=Lib.hid hP
 have HN:=Lib.hid hnn
 obtain ⟨i0,hi,hz0,hz1,hz2⟩:=info_parts Tryz.infoInt
 clear hC hT hP hnn hn1 hn2 hO h0
 refine (callsIn_wide (n:=4)).1 ?_
 refine callsIn_of_wp_marks Tryz.func111 rfl trivial ?_ rfl
 simp only [Tryz.ntmps111,List.size_toArray,List.length_cons,List.length_nil,Nat.reduceAdd,Nat.reduceSub,Array.replicate_succ,Array.replicate_zero,List.push_toArray,List.append_toArray,List.nil_append,List.cons_append]
 gi_wp2_with (first
  | (refine ⟨trivial,?_⟩;gi_at_call 52;refine (callsIn_wide.2 (HC.out _ zqb)).mono ?_;rintro e' w1 ⟨rfl,hb1⟩;have k1:=(Blk.new _ _ _).after hb1;have x0:w1.cell? ⟨w.heap.size,0,none⟩=some (.slice A1 n1 c1):=k1.cell 0;have x1:w1.cell? ⟨w.heap.size,1,none⟩=some (.slice A2 n2 c2):=k1.cell 1;have x2:w1.cell? ⟨w.heap.size,2,none⟩=some (.slice A3 n3 c3):=k1.cell 2;have l1:w.heap.size < w1.heap.size:=k1.lt;have K1:=Lib.hid k1;clear k1)
  | (refine ⟨trivial,?_⟩;gi_at_call 173;refine (callsIn_wide.2 (HT.out _)).mono ?_;rintro e' w2 ⟨rfl,rfl⟩))
 have hB0:Below w.heap.size w w1:=((Below.refl _ w).alloc (Nat.le_refl _) _).trans (hb1.mono (by simp))
 have hB3:Below w.heap.size w (((w1.alloc (Obj.cells #[Value.int IntKind.i64 0] 3)).alloc (Obj.cells #[Value.slice (some { block:=w1.heap.size,off:=0 }) 1 1] 23)).alloc (Obj.cells #[Value.slice A1 n1 c1,Value.slice A2 n2 c2,Value.slice A3 n3 c3] 28)):=((hB0.alloc (by omega) _).alloc (by simp;omega) _).alloc (by simp;omega) _
 have kb:Blk (((w1.alloc (Obj.cells #[Value.int IntKind.i64 0] 3)).alloc (Obj.cells #[Value.slice (some { block:=w1.heap.size,off:=0 }) 1 1] 23)).alloc (Obj.cells #[Value.slice A1 n1 c1,Value.slice A2 n2 c2,Value.slice A3 n3 c3] 28)) (w1.heap.size+1+1) 28 #[Value.slice A1 n1 c1,Value.slice A2 n2 c2,Value.slice A3 n3 c3]:=by
  have:=Blk.new ((w1.alloc (Obj.cells #[Value.int IntKind.i64 0] 3)).alloc (Obj.cells #[Value.slice (some { block:=w1.heap.size,off:=0 }) 1 1] 23)) 28 #[Value.slice A1 n1 c1,Value.slice A2 n2 c2,Value.slice A3 n3 c3]
  rwa [World.size_alloc,World.size_alloc] at this
 refine wp_range (n:=4) (gf:=212) (lb:=#[Value.pointer (some ⟨w1.heap.size+1+1,0,none⟩)]) rfl (enters_of Tryz.func212 (by kernel_rfl) rfl)
  (encs:=fun k=>#[.int .i64 (k:Int),.int .i64 (frc 0 (p.evs.take (k+1)))]) (len:=n3) (n₀:=w.heap.size) (by simp;omega)
  (fun l J W hW hJ hY h0=>timed1_in 3 (by omega) l (w1.heap.size+1+1) w.heap.size n3 c3 A3 p.evs HN.out hn3 _ J hJ hY W (by have:=hW.size;simp at this;omega)
   ((hW.cell (p:=⟨w1.heap.size+1+1,2,none⟩) (by simp)).trans (kb.cell 2))
   (HP.out.2.1.below (hB3.trans (hW.mono hB3.size))) h0)
  (fun _=>rfl)
  (fun k W=>(∃ v,Boxed W (w1.heap.size+1) 23 v∧W.ownsRow w.heap.size 3 1 v (k+1) ((onsL p.evs k).map fun x=>.int .i64 x)∧True)∧Below w.heap.size w W)
  (OwnFrom.and (Own.from (holdsRow_own w.heap.size (w1.heap.size+1) 23 3 1 (fun k=>k+1) (fun k=>(onsL p.evs k).map fun x=>Value.int .i64 x) (fun _ _=>True)) _) (ownFrom_below (Nat.le_refl _) (by simp;omega)))
  ⟨⟨.slice (some ⟨w1.heap.size,0,none⟩) 1 1,?_,?_,trivial⟩,hB3⟩
  (fun k=>{ tmps:=#[Value.agg #[Value.slice A1 n1 c1,Value.slice A2 n2 c2,Value.slice A3 n3 c3],
     Value.pointer (some { block:=w.heap.size,off:=0 }),Value.slice none 0 0,Value.int IntKind.i64 0,
     Value.int IntKind.i64 0,Value.pointer (some { block:=w1.heap.size+1,off:=0 }),.int .i64 (k:Int),.int .i64 (frc 0 (p.evs.take (k+1))),
     Value.agg #[Value.slice A1 n1 c1,Value.slice A2 n2 c2,Value.slice A3 n3 c3],Value.int IntKind.i64 0,
     Value.int IntKind.i64 0,Value.bool false,undef,Value.slice (some { block:=w1.heap.size,off:=0 }) 1 1,
     Value.agg #[Value.slice A1 n1 c1,Value.slice A2 n2 c2,Value.slice A3 n3 c3],
     Value.func (Fn.func 212) #[] #[Value.pointer (some { block:=w1.heap.size+1+1,off:=0 })],.int .i64 (k:Int),
     .int .i64 (frc 0 (p.evs.take (k+1))),undef,undef,undef,undef,undef,undef,undef,undef,undef,undef],defers:=[] }) ?assign ?body ?done
 ·have:=Boxed.new (w1.alloc (Obj.cells #[Value.int IntKind.i64 0] 3)) 23 (.slice (some ⟨w1.heap.size,0,none⟩) 1 1)
  rw [World.size_alloc] at this
  exact this.alloc _
 ·refine ((World.ownsRow.alloc ?_ _).alloc _)
  exact ⟨by simp [onsL],.inr ⟨w1.heap.size,1,#[.int .i64 0],rfl,by omega,World.alloc_heap_new _ _,Nat.le_refl _,by decide,rfl,by simp [onsL,onsAt]⟩⟩
 case assign =>
  intro l k W K hK
  gi_wp2
  exact hK
 case body =>
  rintro l k W ⟨⟨v,hv,hrow,_⟩,hB⟩ hlt
  obtain ⟨g,cap,rfl⟩:=ownsRow_succ hrow
  have hc:=hv.cell
  obtain ⟨T,hT⟩:∃ T,frc 0 (p.evs.take (k+1))=T:=⟨_,rfl⟩
  have hx:W.cell? ⟨g,k,none⟩=some (.int .i64 (onsAt p.evs k)):=by
   rw [hrow.cellAt k (by omega)]
   simp [onsL]
  have hbd:=onsAt_le p.evs k
  have hTb:=frc_le 0 (p.evs.take (k+1)) ⟨by decide,by decide⟩
  rw [hT] at hTb
  rw [hT]
  gi_wp2
  have hwr:IntKind.i64.wrap (onsAt p.evs k+T)=onsAt p.evs k+T:=Go.IntWalk.i64_in _ ⟨by omega,by omega⟩
  have hk1:((k:Int) < (k:Int)+1):=by omega
  have hfo:Tryz.prog.follows .mixedOrders=true:=by kernel_rfl
  obtain ⟨v',w4,hrun,r1,r2,r3⟩:=run_append_own (P:=Tryz.prog) ((W.alloc (Obj.cells #[.int .i64 (onsAt p.evs k+T)] 3)).drew) w.heap.size 23 23 3 i0 (.int .i64 0) 1 8 Tryz.underlying23 hi hz0 hz1 hz2 rfl (by decide) _ (k+1) _ (show (W.alloc _).ownsRow _ _ _ _ _ _ from hrow.alloc _) ⟨W.heap.size,0,none⟩ 1 1 [.int .i64 (onsAt p.evs k+T)] rfl (cell_one_new W _ _) (by simp [Value.oneCell']) (by unfold maxLen;omega) (by omega) (by have:=hB.size;simp;omega)
  obtain ⟨g',cap',rfl⟩:=ownsRow_succ r1
  obtain ⟨hv1,hv2,hr2,hk2,hb2⟩:=hv.appended (tmp:=Obj.cells #[.int .i64 (onsAt p.evs k+T)] 3) (by decide) hrow hB.size (by omega) r1 ⟨r2.os,r2.tape,r2.output,r2.size,r2.block⟩
  have hc1:=hv1.cell
  have hlW:=hv.lt
  have hf1:=hv1.frozen
  gi_region_with_o (fail)
  all_goals exact ⟨hk2,hb2,⟨_,hv2,by rw [onsL_succ];simpa [onsAt,hT] using hr2,trivial⟩,hB.trans hb2⟩
 case done =>
  rintro D W hD ⟨⟨v,hv,hrow,_⟩,hB⟩ hK
  have hc:=hv.cell
  gi_wp2
  refine ⟨by simp,.inl ⟨_,_,rfl,run_takeDeferred hK,?_⟩⟩
  refine ⟨_,results_tmp2 rfl _ _ _,v,rfl,?_,hB.trans (belowK_b (w:=w) (Nat.le_refl _) W D _ _ (by simp at hD;omega) hK rfl rfl)⟩
  exact ownsRow_putObj hrow _ hK rfl
end
end Go.Proofs.YtgelfflighgajaaGreatDoor
