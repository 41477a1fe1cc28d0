/- A stop of a piece, checked: the program. -/
import Derived.Test.YthehkchjdkdbiaaGreatDoorNr4Gq
set_option maxHeartbeats 8000000
set_option maxRecDepth 100000
set_option linter.unusedVariables false
set_option linter.unusedSimpArgs false
namespace Go.Proofs.YthehkchjdkdbiaaGreatDoor
open Go.RowKit
theorem pStop_any (M:PM) (p:Pce) (i:Int) (s:Stp) (last:Int) (w:World) (hP:PcAt w w.heap.size M p) (hO:PcOk p) :
    Calls Tryz.prog 105 #[pcValue M p,.int .i64 i,stpVal s,.int .i64 last] w (Ret (.int .i64 (stopE p i s last)) w):=by
  obtain ⟨A1,A2,A3,c1,c2,c3⟩:=M
  obtain ⟨c,f,r,g,h⟩:=s
  have HL:=Lib.hid (fun (w':World) (hb:Below w.heap.size w w')=>pLongest_any ⟨A1,A2,A3,c1,c2,c3⟩ p i c w' (hP.after hb) hO)
  have HI:=Lib.hid hP.1
  obtain ⟨cs,st,evs⟩:=p
  unfold pcValue stpVal at *
  have hn1b:=hO.n1
  simp only at *
  generalize hLg:longestN evs i c=Lg at *
  obtain ⟨n1,hn1⟩:∃ n,cs.length=n:=⟨_,rfl⟩
  generalize st.length=n2 at *
  generalize evs.length=n3 at *
  rw [hn1] at HL hn1b ⊢
  have HN:=Lib.hid hn1
  have HLG:=Lib.hid hLg
  clear hP hO
  by_cases b1:c < 1
  · rw [stopE_crs (.inl b1)]
    clear hn1 hLg
    go_enter Tryz.func105,Tryz.ntmps105
    go_wp2
    go_ret
    exact Ret.mk' rfl zqb
  · by_cases b2:(n1:Int) < c
    · rw [stopE_crs (.inr (by show (cs.length:Int) < c;omega))]
      clear hn1 hLg
      go_enter Tryz.func105,Tryz.ntmps105
      go_wp2
      go_ret
      exact Ret.mk' rfl zqb
    · obtain ⟨q,rfl⟩:∃ q:Nat,c=(q:Int)+1:=⟨c.toNat - 1,by omega⟩
      have hq:q < cs.length:=by omega
      obtain ⟨ad,hA,hb,hc⟩:∃ ad,A1=some ad∧ad.block < w.heap.size∧w.cell? ⟨(ad.add (q*3)).block,(ad.add (q*3)).off+1,none⟩=some (.int .i64 cs[q].2.1):=by
        obtain ⟨ad,x,y,_,z,_⟩:=HI.out.crs hq
        exact ⟨ad,x,y,z⟩
      subst hA
      have hfr:=fretsOf_at hq
      have g1:¬ ((q:Int)+1 < 1∨(cs.length:Int) < (q:Int)+1):=by omega
      obtain ⟨F,hF⟩:∃ F,cs[q].2.1=F:=⟨_,rfl⟩
      rw [hF] at hc hfr
      have hc2:∀ o o':Obj,((w.alloc o).alloc o').cell? ⟨(ad.add (q*3)).block,(ad.add (q*3)).off+1,none⟩=some (.int .i64 F):=fun o o'=>by
        rw [World.cell?_alloc_lt _ _ _ (by rw [block_of_add];simp;omega),World.cell?_alloc_lt _ _ _ (by rw [block_of_add];omega),hc]
      have hq2:q < n1:=by omega
      have hadb:ad.block < w.heap.size:=hb
      clear hc hF
      by_cases b3:f < 0
      · rw [stopE_fret g1 (.inl b3)]
        clear hn1 hLg hfr g1 hq
        go_enter Tryz.func105,Tryz.ntmps105
        go_wp2
        go_quiet (fail)
        go_wp2
        go_ret
        exact Ret.mk' rfl zqb
      · have d3:decide (f < 0)=false:=decide_eq_false b3
        by_cases b4:F < f
        · rw [stopE_fret g1 (.inr (by show fretsOf cs ((q:Int)+1) < f;rw [hfr];exact b4))]
          clear hn1 hLg hfr g1 hq
          go_enter Tryz.func105,Tryz.ntmps105
          go_wp2
          go_quiet (fail)
          go_wp2
          go_ret
          exact Ret.mk' rfl zqb
        · have g2:¬ (f < 0∨fretsOf cs ((q:Int)+1) < f):=by rw [hfr];omega
          have d4:decide (F < f)=false:=decide_eq_false b4
          by_cases b5:(q:Int)+1≤last
          · rw [stopE_order g1 g2 b5]
            clear hn1 hLg hfr g1 g2 hq
            go_enter Tryz.func105,Tryz.ntmps105
            go_wp2
            go_quiet (fail)
            go_wp2
            go_ret
            exact Ret.mk' rfl zqb
          · by_cases b6:r < 0
            · rw [stopE_mark g1 g2 b5 (.inl (.inl b6))]
              clear hn1 hLg hfr g1 g2 hq
              go_enter Tryz.func105,Tryz.ntmps105
              go_wp2
              go_quiet (fail)
              go_wp2
              go_ret
              exact Ret.mk' rfl zqb
            · by_cases b7:3 < r
              · rw [stopE_mark g1 g2 b5 (.inl (.inr b7))]
                clear hn1 hLg hfr g1 g2 hq
                go_enter Tryz.func105,Tryz.ntmps105
                go_wp2
                go_quiet (fail)
                go_wp2
                go_ret
                exact Ret.mk' rfl zqb
              · by_cases b8:g < 0
                · rw [stopE_mark g1 g2 b5 (.inr (.inl b8))]
                  clear hn1 hLg hfr g1 g2 hq
                  go_enter Tryz.func105,Tryz.ntmps105
                  go_wp2
                  go_quiet (fail)
                  go_wp2
                  go_ret
                  exact Ret.mk' rfl zqb
                · by_cases b9:4 < g
                  · rw [stopE_mark g1 g2 b5 (.inr (.inr b9))]
                    clear hn1 hLg hfr g1 g2 hq
                    go_enter Tryz.func105,Tryz.ntmps105
                    go_wp2
                    go_quiet (fail)
                    go_wp2
                    go_ret
                    exact Ret.mk' rfl zqb
                  · have g3:¬ ((r < 0∨3 < r)∨(g < 0∨4 < g)):=by omega
                    by_cases b10:h < 0
                    · rw [stopE_hold g1 g2 b5 g3 (.inl (.inl b10))]
                      clear hn1 hLg hfr g1 g2 g3 hq
                      go_enter Tryz.func105,Tryz.ntmps105
                      go_wp2
                      go_quiet (fail)
                      go_wp2
                      go_quiet (fail)
                      go_wp2
                      go_ret
                      exact Ret.mk' rfl zqb
                    · have d10:decide (h < 0)=false:=decide_eq_false b10
                      by_cases b11:(Lg:Int) < h
                      · rw [stopE_hold g1 g2 b5 g3 (.inl (.inr (by show ((longestN evs i ((q:Int)+1):Nat):Int) < h;rw [hLg];exact b11)))]
                        have d11:decide ((Lg:Int) < h)=true:=decide_eq_true b11
                        clear hn1 hLg hfr g1 g2 g3 hq
                        go_enter Tryz.func105,Tryz.ntmps105
                        go_wp2
                        go_quiet (fail)
                        go_wp2
                        refine wp_region_calm _ zqk zqk (bel_drewN (Below.refl _ _) _) ?_
                        repeat
                          first
                          | go_big_quiet_skip
                          | (go_big_quiet_want
                             apply calm_val
                             focus
                               intro w' hw'
                               obtain ⟨bc,bp⟩:=calm_cell hw'
                               go_simp
                               first|done|rfl|exact rfl
                             (try simp only [Act.put,List.setIfInBounds_toArray,List.set_cons_zero,List.set_cons_succ])
                             go_big_quiet_on)
                          | (go_big_quiet_want
                             apply calm_enter (f:=95)
                             focus
                               intro w' hw'
                               go_simp
                               first|done|rfl|exact rfl
                             focus
                               intro w' hw'
                               have hw2:Below _ _ w':=hw'
                               exact HL.out w' zqb
                             (try simp only [Act.put,List.setIfInBounds_toArray,List.set_cons_zero,List.set_cons_succ])
                             go_big_quiet_on)
                        refine wpQuiet_nil ?_
                        intro w1 hw1
                        have hw2:Below _ _ w1:=hw1
                        clear hw1
                        go_wp2
                        go_ret
                        exact Ret.mk' rfl zqb
                      · have d11:decide ((Lg:Int) < h)=false:=decide_eq_false b11
                        by_cases b12:0 < h
                        · by_cases b13:f=0
                          · rw [stopE_hold g1 g2 b5 g3 (.inr ⟨b12,b13⟩)]
                            have d13:(f == 0)=true:=by simpa using b13
                            have d12:decide (0 < h)=true:=decide_eq_true b12
                            clear hn1 hLg hfr g1 g2 g3 hq b13
                            go_enter Tryz.func105,Tryz.ntmps105
                            go_wp2
                            go_quiet (fail)
                            go_wp2
                            refine wp_region_calm _ zqk zqk (bel_drewN (Below.refl _ _) _) ?_
                            repeat
                              first
                              | go_big_quiet_skip
                              | (go_big_quiet_want
                                 apply calm_val
                                 focus
                                   intro w' hw'
                                   obtain ⟨bc,bp⟩:=calm_cell hw'
                                   go_simp
                                   first|done|rfl|exact rfl
                                 (try simp only [Act.put,List.setIfInBounds_toArray,List.set_cons_zero,List.set_cons_succ])
                                 go_big_quiet_on)
                              | (go_big_quiet_want
                                 apply calm_enter (f:=95)
                                 focus
                                   intro w' hw'
                                   go_simp
                                   first|done|rfl|exact rfl
                                 focus
                                   intro w' hw'
                                   have hw2:Below _ _ w':=hw'
                                   exact HL.out w' zqb
                                 (try simp only [Act.put,List.setIfInBounds_toArray,List.set_cons_zero,List.set_cons_succ])
                                 go_big_quiet_on)
                            refine wpQuiet_nil ?_
                            intro w1 hw1
                            have hw2:Below _ _ w1:=hw1
                            clear hw1
                            go_wp2
                            go_ret
                            exact Ret.mk' rfl zqb
                          · rw [stopE_ok g1 g2 b5 g3 (by show ¬ ((h < 0∨((longestN evs i ((q:Int)+1):Nat):Int) < h)∨(0 < h∧f=0));rw [hLg];omega)]
                            have d13:(f == 0)=false:=by simpa using b13
                            have d12:decide (0 < h)=true:=decide_eq_true b12
                            clear hn1 hLg hfr g1 g2 g3 hq b13
                            go_enter Tryz.func105,Tryz.ntmps105
                            go_wp2
                            go_quiet (fail)
                            go_wp2
                            refine wp_region_calm _ zqk zqk (bel_drewN (Below.refl _ _) _) ?_
                            repeat
                              first
                              | go_big_quiet_skip
                              | (go_big_quiet_want
                                 apply calm_val
                                 focus
                                   intro w' hw'
                                   obtain ⟨bc,bp⟩:=calm_cell hw'
                                   go_simp
                                   first|done|rfl|exact rfl
                                 (try simp only [Act.put,List.setIfInBounds_toArray,List.set_cons_zero,List.set_cons_succ])
                                 go_big_quiet_on)
                              | (go_big_quiet_want
                                 apply calm_enter (f:=95)
                                 focus
                                   intro w' hw'
                                   go_simp
                                   first|done|rfl|exact rfl
                                 focus
                                   intro w' hw'
                                   have hw2:Below _ _ w':=hw'
                                   exact HL.out w' zqb
                                 (try simp only [Act.put,List.setIfInBounds_toArray,List.set_cons_zero,List.set_cons_succ])
                                 go_big_quiet_on)
                            refine wpQuiet_nil ?_
                            intro w1 hw1
                            have hw2:Below _ _ w1:=hw1
                            clear hw1
                            go_wp2
                            go_ret
                            exact Ret.mk' rfl zqb
                        · have hh0:h=0:=by omega
                          rw [stopE_ok g1 g2 b5 g3 (by show ¬ ((h < 0∨((longestN evs i ((q:Int)+1):Nat):Int) < h)∨(0 < h∧f=0));rw [hLg];omega)]
                          have d14:decide ((Lg:Int) < 0)=false:=decide_eq_false zqo
                          clear hn1 hLg hfr g1 g2 g3 hq d10 d11 b10 b11 b12
                          subst hh0
                          go_enter Tryz.func105,Tryz.ntmps105
                          go_wp2
                          go_quiet (fail)
                          go_wp2
                          refine wp_region_calm _ zqk zqk (bel_drewN (Below.refl _ _) _) ?_
                          repeat
                            first
                            | go_big_quiet_skip
                            | (go_big_quiet_want
                               apply calm_val
                               focus
                                 intro w' hw'
                                 obtain ⟨bc,bp⟩:=calm_cell hw'
                                 go_simp
                                 first|done|rfl|exact rfl
                               (try simp only [Act.put,List.setIfInBounds_toArray,List.set_cons_zero,List.set_cons_succ])
                               go_big_quiet_on)
                            | (go_big_quiet_want
                               apply calm_enter (f:=95)
                               focus
                                 intro w' hw'
                                 go_simp
                                 first|done|rfl|exact rfl
                               focus
                                 intro w' hw'
                                 have hw2:Below _ _ w':=hw'
                                 exact HL.out w' zqb
                               (try simp only [Act.put,List.setIfInBounds_toArray,List.set_cons_zero,List.set_cons_succ])
                               go_big_quiet_on)
                          refine wpQuiet_nil ?_
                          intro w1 hw1
                          have hw2:Below _ _ w1:=hw1
                          clear hw1
                          go_wp2
                          go_ret
                          exact Ret.mk' rfl zqb
end Go.Proofs.YthehkchjdkdbiaaGreatDoor
