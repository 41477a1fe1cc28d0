/- Check of a piece: the program. -/
import Derived.Test.YthehkchjdkdbiaaGreatDoorK2Kq
import Derived.Test.YthehkchjdkdbiaaGreatDoorTkKq
import Derived.Test.YthehkchjdkdbiaaGreatDoorRInsKq
set_option maxHeartbeats 8000000
set_option maxRecDepth 100000
set_option linter.unusedVariables false
set_option linter.unusedSimpArgs false
namespace Go.Proofs.YthehkchjdkdbiaaGreatDoor
theorem aqo {p:Prop}(h:p:=by show ¬ ((h < 0∨((ah evs i ((q:Int)+1):Nat):Int) < h)∨(0 < h∧f=0));rw [hLg];omega):p:=h
section
variable {p:Prop}
theorem Nw(h:p:=by
 clear hn1 hLg hfr g1 g2 hq
 exact akc):p:=h
theorem aly(h:p:=by
 have d12:decide (0 < h)=true:=dG b12
 clear hn1 hLg hfr g1 g2 g3 hq b13
 exact auk):p:=h
theorem akh(h:p:=by
 clear hn1 hLg
 go_enter Tryz.func105,Tryz.ntmps105
 go_wp2
 go_ret
 exact eG.mk' rfl jT):p:=h
theorem ada(h:p:=by
 go_ret
 exact eG.mk' (by rw [HE4.out];rfl) jT):p:=h
theorem aqV(h:p:=by
 have hW0:W=0:=HRJ.out.trans (show gK p k x (e.stops.drop j)=0 from by rw [wU (by have:=HM.out;omega)];rfl)
 have HR4:=Lib.hid (HVN.out hW0)
 clear hW0
 go_wp2_with fail
 go_roundw
 case rel=>exact ⟨k+1, by omega, by go_num, HR4.out, agW, HBJ.out⟩
 case measure=>simp [intOf];omega):p:=h
theorem akc(h:p:=by
 go_enter Tryz.func105,Tryz.ntmps105
 go_wp2
 go_quiet (fail)
 go_wp2
 go_ret
 exact eG.mk' rfl jT):p:=h
theorem auk(h:p:=by
 go_enter Tryz.func105,Tryz.ntmps105
 go_wp2
 go_quiet (fail)
 go_wp2
 refine aw8 ?_
 repeat
   first
   | go_big_quiet_skip
   | (go_big_quiet_want
      apply af6
      focus
        intro w' hw'
        obtain ⟨bc,bp⟩:=adt hw'
        go_simp
        first|done|rfl|exact rfl
      (try simp only [Act.put,List.setIfInBounds_toArray,MB,aas])
      go_big_quiet_on)
   | (go_big_quiet_want
      apply X8 (f:=95)
      focus
        intro w' hw'
        go_simp
        first|done|rfl|exact rfl
      focus
        intro w' hw'
        have hw2:Below _ _ w':=hw'
        exact HL.out w' jT
      (try simp only [Act.put,List.setIfInBounds_toArray,MB,aas])
      go_big_quiet_on)
 refine wpQuiet_nil ?_
 intro w1 hw1
 have hw2:Below _ _ w1:=hw1
 clear hw1
 go_wp2
 go_ret
 exact eG.mk' rfl jT):p:=h
end
theorem aw8 {p q:Prop}(k:q)(h:aP q→p:=by
 intro hq
 refine LZ _ bD bD (EO (Below.refl _ _) _) ?_
 exact hq.k):p:=h ⟨k⟩
section
open Go.RowKit
theorem aeW (M:PM) (p:aS) (i:Int) (s:Stp) (last:Int) (w:World) (hP:uZ w w.heap.size M p) (hO:jm p) :
    Calls Tryz.prog 105 #[iD M p,.int .i64 i,Z9 s,.int .i64 last] w (eG (.int .i64 (gQ p i s last)) w):=by
  obtain ⟨A1,A2,A3,c1,c2,c3⟩:=M
  obtain ⟨c,f,r,g,h⟩:=s
  have HL:=Lib.hid (fun (w':World) (hb:Below w.heap.size w w')=>rY ⟨A1,A2,A3,c1,c2,c3⟩ p i c w' (hP.after hb) hO)
  have HI:=Lib.hid hP.1
  obtain ⟨cs,st,evs⟩:=p
  unfold iD Z9 at *
  have ayJ:=hO.n1
  simp only at *
  generalize hLg:ah evs i c=Lg at *
  obtain ⟨n1,hn1⟩:∃ n,cs.length=n:=⟨_,rfl⟩
  generalize st.length=n2 at *
  generalize evs.length=n3 at *
  rw [hn1] at HL ayJ ⊢
  have HN:=Lib.hid hn1
  have HLG:=Lib.hid hLg
  clear hP hO
  by_cases b1:c < 1
  · rw [FY (.inl b1)]
    exact akh
  · by_cases b2:(n1:Int) < c
    · rw [FY (.inr (by show (cs.length:Int) < c;omega))]
      exact akh
    · obtain ⟨q,rfl⟩:∃ q:Nat,c=(q:Int)+1:=⟨c.toNat - 1,by omega⟩
      have hq:q < cs.length:=by omega
      obtain ⟨ad,hA,hb,hc⟩:∃ ad,A1=some ad∧ad.block < w.heap.size∧w.cell? ⟨(ad.add (q*3)).block,(ad.add (q*3)).off+1,none⟩=some (.int .i64 cs[q].2.1):=by
        obtain ⟨ad,x,y,_,z,_⟩:=HI.out.aT hq
        exact ⟨ad,x,y,z⟩
      subst hA
      have hfr:=BQ hq
      have g1:¬ ((q:Int)+1 < 1∨(cs.length:Int) < (q:Int)+1):=by omega
      obtain ⟨F,hF⟩:∃ F,cs[q].2.1=F:=⟨_,rfl⟩
      rw [hF] at hc hfr
      have hc2:∀ o o':Obj,((w.alloc o).alloc o').cell? ⟨(ad.add (q*3)).block,(ad.add (q*3)).off+1,none⟩=some (.int .i64 F):=fun o o'=>by
        exact akd
      have hq2:q < n1:=by omega
      have ayv:ad.block < w.heap.size:=hb
      clear hc hF
      by_cases b3:f < 0
      · rw [CW g1 (.inl b3)]
        clear hn1 hLg hfr g1 hq
        exact akc
      · have d3:decide (f < 0)=false:=cZ b3
        by_cases b4:F < f
        · rw [CW g1 (.inr (by show dJ cs ((q:Int)+1) < f;rw [hfr];exact b4))]
          clear hn1 hLg hfr g1 hq
          exact akc
        · have g2:¬ (f < 0∨dJ cs ((q:Int)+1) < f):=by rw [hfr];omega
          have d4:decide (F < f)=false:=cZ b4
          by_cases b5:(q:Int)+1≤last
          · rw [Hy g1 g2 b5]
            exact Nw
          · by_cases b6:r < 0
            · rw [tY g1 g2 b5 (.inl (.inl b6))]
              exact Nw
            · by_cases b7:3 < r
              · rw [tY g1 g2 b5 (.inl (.inr b7))]
                exact Nw
              · by_cases b8:g < 0
                · rw [tY g1 g2 b5 (.inr (.inl b8))]
                  exact Nw
                · by_cases b9:4 < g
                  · rw [tY g1 g2 b5 (.inr (.inr b9))]
                    exact Nw
                  · have g3:¬ ((r < 0∨3 < r)∨(g < 0∨4 < g)):=by omega
                    by_cases b10:h < 0
                    · rw [xY g1 g2 b5 g3 (.inl (.inl b10))]
                      clear hn1 hLg hfr g1 g2 g3 hq
                      go_enter Tryz.func105,Tryz.ntmps105
                      go_wp2
                      go_quiet (fail)
                      go_wp2
                      go_quiet (fail)
                      exact Dh
                    · have d10:decide (h < 0)=false:=cZ b10
                      by_cases b11:(Lg:Int) < h
                      · rw [xY g1 g2 b5 g3 (.inl (.inr (by show ((ah evs i ((q:Int)+1):Nat):Int) < h;rw [hLg];exact b11)))]
                        have d11:decide ((Lg:Int) < h)=true:=dG b11
                        clear hn1 hLg hfr g1 g2 g3 hq
                        exact auk
                      · have d11:decide ((Lg:Int) < h)=false:=cZ b11
                        by_cases b12:0 < h
                        · by_cases b13:f=0
                          · rw [xY g1 g2 b5 g3 (.inr ⟨b12,b13⟩)]
                            have d13:(f == 0)=true:=by simpa using b13
                            exact aly
                          · rw [zF g1 g2 b5 g3 aqo]
                            have d13:(f == 0)=false:=by simpa using b13
                            exact aly
                        · have hh0:h=0:=by omega
                          rw [zF g1 g2 b5 g3 aqo]
                          have d14:decide ((Lg:Int) < 0)=false:=cZ au
                          clear hn1 hLg hfr g1 g2 g3 hq d10 d11 b10 b11 b12
                          subst hh0
                          exact auk
theorem afm {v:Int} {d t:Bool} (h:gZ v d t=true)(h0:v=0):d=false∧t=false:=by
 subst h0
 cases d<;>cases t<;>simp [gZ]at h ⊢
theorem aoL {v:Int} {d t:Bool} (h:¬ (v=0∧d=false∧t=false)):gZ v d t=decide (0<Dl v d t):=by
 by_cases hv:1≤v∧v≤7
 ·cases hdt:(d && t)
  ·have:=SV v d t hv hdt
   have e1:decide (0<Dl v d t)=true:=dG this
   rw [e1];unfold gZ;simp [hv,hdt]
  ·have hb:Dl v d t=0:=by unfold Dl;rw [if_pos (by simp [hdt])]
   rw [hb];unfold gZ
   cases d<;>cases t<;>simp_all
 ·have hb:Dl v d t=0:=by unfold Dl;rw [if_pos (by omega)]
  rw [hb]
  unfold gZ
  have h1:(decide (1≤v) && decide (v≤7))=false:=by
   rw [Bool.and_eq_false_iff,jS,jS];omega
  rw [h1]
  cases hv0:(v == 0)
  ·rfl
  ·have:v=0:=by simpa using hv0
   cases d<;>cases t<;>simp_all
theorem afD (v:Int) (d t:Bool) (w:World):Calls Tryz.prog 104 #[.agg #[.int .i64 v,.bool d,.bool t]] w (eG (.bool (gZ v d t)) w):=by
 by_cases h:v=0∧d=false∧t=false
 ·obtain ⟨rfl,rfl,rfl⟩:=h
  go_enter Tryz.func104,Tryz.ntmps104
  exact Dh
 ·rw [aoL h]
  have HT:=Lib.hid (fun w=>Qh v d t w)
  generalize Dl v d t=T at *
  have hcase:(v == 0)=false∨((v == 0)=true∧(d=true∨(d=false∧t=true))):=by
   cases hv:(v == 0)
   ·exact .inl rfl
   ·have:v=0:=by simpa using hv
    refine .inr ⟨rfl,?_⟩
    cases d
    ·cases t
     ·exact absurd ⟨this,rfl,rfl⟩ h
     ·exact .inr ⟨rfl,rfl⟩
    ·exact .inl rfl
  clear h
  rcases hcase with hv|⟨hv,rfl|⟨rfl,rfl⟩⟩
  all_goals
   go_enter Tryz.func104,Tryz.ntmps104
   go_wp2_with (go_at_call 172;refine (HT.out _).mono ?_;rintro e' w1 ⟨rfl,hb1⟩)
   go_ret
   exact eG.mk' (by first|rfl|simp) jT
theorem UG {p:aS} {i:Int} {e:Ev} (h:gZ e.val e.dot e.three=false∨(i=0∧e.val=0)):AY p i e=20:=if_pos h
theorem amX {p:aS} {i:Int} {e:Ev} (h:¬ (gZ e.val e.dot e.three=false∨(i=0∧e.val=0)))(h1:e.tie=true∧(0<e.stops.length∨i=0)):AY p i e=21:=by unfold AY;rw [if_neg h,if_pos h1]
theorem adE {p:aS} {i:Int} {e:Ev} (h:¬ (gZ e.val e.dot e.three=false∨(i=0∧e.val=0)))(h1:¬ (e.tie=true∧(0<e.stops.length∨i=0))):AY p i e=gK p i 0 e.stops:=by unfold AY;rw [if_neg h,if_neg h1]
theorem CO (M:PM) (p:aS) (w:World) (hP:uZ w w.heap.size M p) (hO:jm p):Calls Tryz.prog 51 #[iD M p] w (eG (.int .i64 (aV p)) w):=by
  obtain ⟨A1, A2, A3, c1, c2, c3⟩:=M
  obtain ⟨cs, st, evs⟩:=p
  have HP:=Lib.hid hP
  have HO:=Lib.hid hO
  have H4:=Lib.hid hO.n4
  have hn3:=hO.n3
  have hCI:=fun (w':World) (hI:jq w' w'.heap.size A1 A2 cs st)=>JI A1 A2 cs st cs.length st.length c1 c2 w' hI rfl rfl
  have hST:=fun (i:Int) (s:Stp) (x:Int) (w':World) (hb:Below w.heap.size w w')=>aeW ⟨A1, A2, A3, c1, c2, c3⟩ ⟨cs, st, evs⟩ i s x w' (hP.after hb) hO
  unfold iD Z9 at *
  simp only at *
  obtain ⟨n1, hn1⟩:∃ n, cs.length=n:=⟨_, rfl⟩
  obtain ⟨n2, hn2⟩:∃ n, st.length=n:=⟨_, rfl⟩
  obtain ⟨n3, hnn⟩:∃ n, evs.length=n:=⟨_, rfl⟩
  have HN:=Lib.hid hnn
  rw [hn1, hn2, hnn] at hST
  rw [hn1, hn2] at hCI
  rw [hnn] at hn3
  rw [hn1, hn2, hnn]
  have KI:=Lib.hid hCI
  have KS:=Lib.hid hST
  have HI:=Lib.hid (fun o=>(hP.1.alloc (bJ _) o).more (show w.heap.size≤(w.alloc o).heap.size by simp))
  obtain ⟨p, hp⟩:∃ p:aS, p=⟨cs, st, evs⟩:=⟨_, rfl⟩
  have HE1:=Lib.hid (Wy (p:=p))
  have HE2:=Lib.hid (PN (p:=p))
  have HE3:=Lib.hid (Wx (p:=p))
  rw [← hp] at KS ⊢
  have HPE:=Lib.hid (show p.evs=evs by rw [hp])
  have HPI:=Lib.hid (show fU p.cs p.st=fU cs st by rw [hp])
  obtain ⟨E, hE⟩:∃ E, fU cs st=E:=⟨_, rfl⟩
  rw [hE] at KI HPI
  clear hP hO hCI hST hn1 hn2 hnn hE hp
  by_cases b0:E≠0
  · rw [HE1.out (by rw [HPI.out];exact b0), HPI.out]
    have e1:(E == 0)=false:=by simpa using b0
    have e2:(E != 0)=true:=by simpa using b0
    clear b0
    go_enter Tryz.func51, Tryz.ntmps51
    go_wp2_with (go_at_call 103;refine (KI.out _ (HI.out _)).mono ?_;rintro e' w1 ⟨rfl, hb1⟩)
    go_ret
    exact eG.mk' rfl jT
  · have b0':E=0:=by omega
    subst b0'
    by_cases b1:400 < n3
    · rw [HE2.out (by rw [HPI.out];exact b0) (by rw [HPE.out, HN.out];exact b1)]
      clear b0
      go_enter Tryz.func51, Tryz.ntmps51
      go_wp2_with (go_at_call 103;refine (KI.out _ (HI.out _)).mono ?_;rintro e' w1 ⟨rfl, hb1⟩;have k1:=(nN.new _ _ _).after hb1;have x2:w1.cell? ⟨w.heap.size, 2, none⟩=some (.slice A3 n3 c3):=k1.cell 2;clear k1)
      go_ret
      exact eG.mk' rfl jT
    · rw [HE3.out (by rw [HPI.out];exact b0) (by rw [HPE.out, HN.out];exact b1), HPE.out]
      obtain ⟨V, hV⟩:∃ V, yL p 0 evs=V:=⟨_, rfl⟩
      rw [hV]
      have HV:=Lib.hid hV
      clear b0 hV
      go_enter Tryz.func51, Tryz.ntmps51
      go_wp2_with (go_at_call 103;refine (KI.out _ (HI.out _)).mono ?_;rintro e' w1 ⟨rfl, hb1⟩;have k1:=(nN.new _ _ _).after hb1;have x2:w1.cell? ⟨w.heap.size, 2, none⟩=some (.slice A3 n3 c3):=k1.cell 2;have K1:=Lib.hid k1;clear k1)
      go_loopw [23] (fun i wr=>∃ k:Nat, k≤n3∧i=.int .i64 k∧V=yL p k (evs.drop k)∧Below w.heap.size w wr∧nN wr w.heap.size 30 #[.slice A1 n1 c1, .slice A2 n2 c2, .slice A3 n3 c3]) (fun i _=>n3 - (intOf i).toNat)
      case atStart=>exact ⟨0, gU _, rfl, HV.out.symm, jT, K1.out⟩
      case round =>
        clear x2
        obtain ⟨k, hk, rfl, hs, hbel, hblk⟩:=hrel
        have HR:=Lib.hid hs
        have HB:=Lib.hid hblk
        have hlt0:w.heap.size < wr.heap.size:=hblk.lt
        have q0:wr.cell? ⟨w.heap.size, 0, none⟩=some (.slice A1 n1 c1):=hblk.cell 0
        have q1:wr.cell? ⟨w.heap.size, 1, none⟩=some (.slice A2 n2 c2):=hblk.cell 1
        have q2:wr.cell? ⟨w.heap.size, 2, none⟩=some (.slice A3 n3 c3):=hblk.cell 2
        clear hs hblk
        by_cases hlt:k < n3
        · have hk2:k < evs.length:=by have:=HN.out;omega
          have HE:=Lib.hid (HP.out.2.1.below hbel)
          obtain ⟨ad, S, c, hA, hb, e0, e1, e2, e3, e4, e5, hS⟩:=HE.out.ev hk2
          subst hA
          have HS:=Lib.hid hS
          have H20:=H4.out _ hk2
          have hs2:=HR.out.trans (abk hk2)
          obtain ⟨e, he⟩:∃ e, evs[k]=e:=⟨_, rfl⟩
          rw [he] at e0 e1 e2 e3 e4 e5 H20 hs2
          rw [he] at HS
          obtain ⟨m, hm⟩:∃ m, e.stops.length=m:=⟨_, rfl⟩
          rw [hm] at e5 H20
          have HM:=Lib.hid hm
          have KV:=Lib.hid (fun w=>afD e.val e.dot e.three w)
          have HEV:=Lib.hid he
          clear hS he
          by_cases b2:gZ e.val e.dot e.three=false
          · have HE4:=Lib.hid (hs2.trans (by rw [UG (.inl b2)];first| done|exact if_pos (by decide)))
            rw [b2] at KV
            clear hs2 hm b2
            go_wp2_with (go_at_call 104;refine (KV.out _).mono ?_;rintro e' w1 ⟨rfl, hb1⟩)
            exact ada
          · have b2':gZ e.val e.dot e.three=true:=by simpa using b2
            rw [b2'] at KV
            by_cases b3:k=0∧e.val=0
            · have HE4:=Lib.hid (hs2.trans (by rw [UG (.inr ⟨by have:=b3.1;omega, b3.2⟩)];first| done|exact if_pos (by decide)))
              obtain ⟨z1, z2⟩:=afm b2' b3.2
              obtain ⟨avL, z0⟩:=b3
              have dz:((k:Int) == 0)=true:=by simpa using avL
              rw [z0] at e1
              rw [z1] at e2
              rw [z2] at e3
              rw [z0, z1, z2] at KV
              clear hs2 hm b2 b2' z0 z1 z2 avL
              go_wp2_with (go_at_call 104;refine (KV.out _).mono ?_;rintro e' w1 ⟨rfl, hb1⟩;have k1:=(nN.new _ _ _).after hb1;have x1:w1.cell? ⟨wr.heap.size, 1, none⟩=some (.int .i64 0):=k1.cell 1;have x2:w1.cell? ⟨wr.heap.size, 2, none⟩=some (.bool false):=k1.cell 2;have x3:w1.cell? ⟨wr.heap.size, 3, none⟩=some (.bool false):=k1.cell 3;clear k1)
              exact ada
            · have g1:¬ (gZ e.val e.dot e.three=false∨((k:Int)=0∧e.val=0)):=by rw [b2'];intro h;rcases h with h| h;cases h;exact b3 ⟨by omega, h.2⟩
              have hk0:((k:Int) == 0)=false∨(((k:Int) == 0)=true∧(e.val == 0)=false):=by
                by_cases hz:k=0
                · exact .inr ⟨by simpa using hz, by simpa using fun h=>b3 ⟨hz, h⟩⟩
                · exact .inl (by simpa using hz)
              by_cases b4:e.tie=true∧(0 < e.stops.length∨(k:Int)=0)
              · have HE4:=Lib.hid (hs2.trans (by rw [amX g1 b4];first| done|exact if_pos (by decide)))
                obtain ⟨b5, b6⟩:=b4
                rw [b5] at e4
                rw [hm] at b6
                have hcase:(0 < m)∨(¬ 0 < m∧((k:Int) == 0)=true):=by
                  by_cases h:0 < m
                  · exact .inl h
                  · exact .inr ⟨h, by have:(k:Int)=0:=by omega
                                      simpa using this⟩
                clear hs2 hm b5 b6 g1 b2 b2' b3
                rcases hcase with d5| ⟨d5, d6⟩
                · rcases hk0 with d1| ⟨d1, d2⟩
                  all_goals
                    go_wp2_with (go_at_call 104;refine (KV.out _).mono ?_;rintro e' w1 ⟨rfl, hb1⟩;have k1:=(nN.new _ _ _).after hb1;have kp:=(HB.out.alloc _).after hb1;have x0:w1.cell? ⟨wr.heap.size, 0, none⟩=some (.bool e.bar):=k1.cell 0;have x1:w1.cell? ⟨wr.heap.size, 1, none⟩=some (.int .i64 e.val):=k1.cell 1;have x2:w1.cell? ⟨wr.heap.size, 2, none⟩=some (.bool e.dot):=k1.cell 2;have x3:w1.cell? ⟨wr.heap.size, 3, none⟩=some (.bool e.three):=k1.cell 3;have x4:w1.cell? ⟨wr.heap.size, 4, none⟩=some (.bool true):=k1.cell 4;have x5:w1.cell? ⟨wr.heap.size, 5, none⟩=some (.slice S m c):=k1.cell 5;have K1:=Lib.hid k1;have KP:=Lib.hid kp;clear k1 kp)
                    go_ret
                    exact eG.mk' (by rw [HE4.out];rfl) jT
                · rcases hk0 with d1| ⟨d1, d2⟩
                  · rw [d6] at d1;cases d1
                  · clear d6
                    go_wp2_with (go_at_call 104;refine (KV.out _).mono ?_;rintro e' w1 ⟨rfl, hb1⟩;have k1:=(nN.new _ _ _).after hb1;have kp:=(HB.out.alloc _).after hb1;have x0:w1.cell? ⟨wr.heap.size, 0, none⟩=some (.bool e.bar):=k1.cell 0;have x1:w1.cell? ⟨wr.heap.size, 1, none⟩=some (.int .i64 e.val):=k1.cell 1;have x2:w1.cell? ⟨wr.heap.size, 2, none⟩=some (.bool e.dot):=k1.cell 2;have x3:w1.cell? ⟨wr.heap.size, 3, none⟩=some (.bool e.three):=k1.cell 3;have x4:w1.cell? ⟨wr.heap.size, 4, none⟩=some (.bool true):=k1.cell 4;have x5:w1.cell? ⟨wr.heap.size, 5, none⟩=some (.slice S m c):=k1.cell 5;have K1:=Lib.hid k1;have KP:=Lib.hid kp;clear k1 kp)
                    exact ada
              · have hcase:e.tie=false∨(e.tie=true∧¬ 0 < m∧((k:Int) == 0)=false):=by
                  cases ht:e.tie
                  · exact .inl rfl
                  · refine .inr ⟨rfl, ?_, ?_⟩
                    · intro h;exact b4 ⟨ht, .inl au⟩
                    · by_cases h:(k:Int)=0
                      · exact absurd ⟨ht, .inr h⟩ b4
                      · simpa using h
                rw [adE g1 b4] at hs2
                obtain ⟨W, hW⟩:∃ W, gK p k 0 e.stops=W:=⟨_, rfl⟩
                rw [hW] at hs2
                have HW:=Lib.hid hW
                have HVW:=Lib.hid (fun (h:W≠0)=>hs2.trans (if_pos h))
                have HVN:=Lib.hid (fun (h:W=0)=>hs2.trans (if_neg (fun k=>k h)))
                have HS0:=Lib.hid (show iG w w.heap.size S e.stops from by
                  obtain ⟨ad', S', c', hA', _, _, _, _, _, _, e5', hS'⟩:=HP.out.2.1.ev hk2
                  obtain rfl:ad=ad':=by injection hA'
                  rw [HEV.out] at e5' hS'
                  have h1:=(hbel.cell (p:=⟨(ad.add (k*6)).block, (ad.add (k*6)).off+5, none⟩) (by show (ad.add (k*6)).block < w.heap.size;rw [bW];exact hb)).trans e5'
                  rw [h1] at e5
                  injection e5 with e5
                  injection e5 with e5 _ _
                  subst e5
                  exact hS')
                clear hs2 hm hW g1 b2 b2' b3 b4
                rcases hcase with ht| ⟨ht, d5, hi0⟩
                · rw [ht] at e4
                  clear ht
                  rcases hk0 with d1| ⟨d1, d2⟩
                  all_goals
                    go_wp2_with (go_at_call 104;refine (KV.out _).mono ?_;rintro e' w1 ⟨rfl, hb1⟩;have k1:=(nN.new _ _ _).after hb1;have kp:=(HB.out.alloc _).after hb1;have x0:w1.cell? ⟨wr.heap.size, 0, none⟩=some (.bool e.bar):=k1.cell 0;have x1:w1.cell? ⟨wr.heap.size, 1, none⟩=some (.int .i64 e.val):=k1.cell 1;have x2:w1.cell? ⟨wr.heap.size, 2, none⟩=some (.bool e.dot):=k1.cell 2;have x3:w1.cell? ⟨wr.heap.size, 3, none⟩=some (.bool e.three):=k1.cell 3;have x4:w1.cell? ⟨wr.heap.size, 4, none⟩=some (.bool false):=k1.cell 4;have x5:w1.cell? ⟨wr.heap.size, 5, none⟩=some (.slice S m c):=k1.cell 5;have K1:=Lib.hid k1;have KP:=Lib.hid kp;clear k1 kp)
                    go_loopw [6, 57] (fun v u wj=>∃ (j:Nat) (x:Int), j≤m∧v=.int .i64 x∧u=.int .i64 j∧W=gK p k x (e.stops.drop j)∧Below w.heap.size w wj∧nN wj w.heap.size 30 #[.slice A1 n1 c1, .slice A2 n2 c2, .slice (some ad) n3 c3]) (fun _ u _=>m - (intOf u).toNat)
                    case atStart=>exact ⟨0, 0, gU _, rfl, rfl, HW.out.symm, jT, KP.out⟩
                    case round =>
                      clear x0 x1 x2 x3 x4 x5 q0 q1 q2 e0 e1 e2 e3 e4 e5
                      obtain ⟨j, x, hj, rfl, rfl, hs, agW, hblk⟩:=hrel
                      have HRJ:=Lib.hid hs
                      have HBJ:=Lib.hid hblk
                      have ayF:w.heap.size < wr.heap.size:=hblk.lt
                      have q0:wr.cell? ⟨w.heap.size, 0, none⟩=some (.slice A1 n1 c1):=hblk.cell 0
                      have q1:wr.cell? ⟨w.heap.size, 1, none⟩=some (.slice A2 n2 c2):=hblk.cell 1
                      have q2:wr.cell? ⟨w.heap.size, 2, none⟩=some (.slice (some ad) n3 c3):=hblk.cell 2
                      clear hs hblk
                      by_cases hjm:j < m
                      · have hj2:j < e.stops.length:=by have:=HM.out;omega
                        have HSJ:=Lib.hid (HS0.out.below agW)
                        obtain ⟨ad2, hA2, hb2, y0, y1, y2, y3, y4⟩:=HSJ.out.stp hj2
                        subst hA2
                        have hs3:=HRJ.out.trans (Qc hj2)
                        have KSS:=KS.out k e.stops[j] x
                        obtain ⟨⟨c', f', r', g', h'⟩, hsj⟩:∃ s, e.stops[j]=s:=⟨_, rfl⟩
                        rw [hsj] at hs3 y0 y1 y2 y3 y4 KSS
                        simp only at y0 y1 y2 y3 y4 KSS hs3
                        obtain ⟨G, hG⟩:∃ G, gQ p k (c', f', r', g', h') x=G:=⟨_, rfl⟩
                        rw [hG] at hs3 KSS
                        have KST:=Lib.hid KSS
                        clear hsj hG KSS
                        by_cases hG0:G=0
                        · subst hG0
                          rw [if_neg (by decide)] at hs3
                          have HR3:=Lib.hid hs3
                          clear hs3
                          go_wp2_with (go_at_call 105;refine (KST.out _ jT).mono ?_;rintro e' w3 ⟨rfl, hb3⟩;have k1:=(nN.new _ _ _).after hb3;have z0:w3.cell? ⟨wr.heap.size, 0, none⟩=some (.int .i64 c'):=k1.cell 0;have KP3:=Lib.hid ((HBJ.out.alloc _).after hb3);clear k1)
                          go_roundw
                          case rel=>exact ⟨j+1, c', by omega, rfl, by go_num, HR3.out, jT, KP3.out⟩
                          case measure=>simp [intOf];omega
                        · rw [if_pos hG0] at hs3
                          have HE4:=Lib.hid (HVW.out (by rw [hs3];exact hG0))
                          have HG:=Lib.hid hs3
                          have d1:(G == 0)=false:=by simpa using hG0
                          have d2:(G != 0)=true:=by simpa using hG0
                          clear hs3 hG0
                          go_wp2_with (go_at_call 105;refine (KST.out _ jT).mono ?_;rintro e' w3 ⟨rfl, hb3⟩)
                          go_ret
                          exact eG.mk' (by rw [HE4.out, HG.out];rfl) jT
                      · exact aqV
                · rw [ht] at e4
                  clear ht
                  rcases hk0 with d1| ⟨d1, d2⟩
                  · clear hi0
                    go_wp2_with (go_at_call 104;refine (KV.out _).mono ?_;rintro e' w1 ⟨rfl, hb1⟩;have k1:=(nN.new _ _ _).after hb1;have kp:=(HB.out.alloc _).after hb1;have x0:w1.cell? ⟨wr.heap.size, 0, none⟩=some (.bool e.bar):=k1.cell 0;have x1:w1.cell? ⟨wr.heap.size, 1, none⟩=some (.int .i64 e.val):=k1.cell 1;have x2:w1.cell? ⟨wr.heap.size, 2, none⟩=some (.bool e.dot):=k1.cell 2;have x3:w1.cell? ⟨wr.heap.size, 3, none⟩=some (.bool e.three):=k1.cell 3;have x4:w1.cell? ⟨wr.heap.size, 4, none⟩=some (.bool true):=k1.cell 4;have x5:w1.cell? ⟨wr.heap.size, 5, none⟩=some (.slice S m c):=k1.cell 5;have K1:=Lib.hid k1;have KP:=Lib.hid kp;clear k1 kp)
                    go_loopw [6, 57] (fun v u wj=>∃ (j:Nat) (x:Int), j≤m∧v=.int .i64 x∧u=.int .i64 j∧W=gK p k x (e.stops.drop j)∧Below w.heap.size w wj∧nN wj w.heap.size 30 #[.slice A1 n1 c1, .slice A2 n2 c2, .slice (some ad) n3 c3]) (fun _ u _=>m - (intOf u).toNat)
                    case atStart=>exact ⟨0, 0, gU _, rfl, rfl, HW.out.symm, jT, KP.out⟩
                    case round =>
                      clear x0 x1 x2 x3 x4 x5 q0 q1 q2 e0 e1 e2 e3 e4 e5
                      obtain ⟨j, x, hj, rfl, rfl, hs, agW, hblk⟩:=hrel
                      have HRJ:=Lib.hid hs
                      have HBJ:=Lib.hid hblk
                      have ayF:w.heap.size < wr.heap.size:=hblk.lt
                      have q0:wr.cell? ⟨w.heap.size, 0, none⟩=some (.slice A1 n1 c1):=hblk.cell 0
                      have q1:wr.cell? ⟨w.heap.size, 1, none⟩=some (.slice A2 n2 c2):=hblk.cell 1
                      have q2:wr.cell? ⟨w.heap.size, 2, none⟩=some (.slice (some ad) n3 c3):=hblk.cell 2
                      clear hs hblk
                      by_cases hjm:j < m
                      · exfalso;omega
                      · exact aqV
                  · rw [hi0] at d1;cases d1
        · have HE4:=Lib.hid (HR.out.trans (show yL p k (evs.drop k)=0 from by rw [wU XI];rfl))
          go_wp2
          exact ada
end
end Go.Proofs.YthehkchjdkdbiaaGreatDoor
