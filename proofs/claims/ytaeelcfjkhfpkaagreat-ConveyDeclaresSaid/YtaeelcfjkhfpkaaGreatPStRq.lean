/- A stop of a piece, checked: the program. -/
import Derived.Test.YtaeelcfjkhfpkaaGreatBigRq
import Derived.Test.YtaeelcfjkhfpkaaGreatPl4Rq
set_option maxHeartbeats 8000000
set_option maxRecDepth 100000
set_option linter.unusedVariables false
set_option linter.unusedSimpArgs false
namespace Go.Proofs.YtaeelcfjkhfpkaaGreat
section
open Go.RowKit
attribute [local go_sem]mk_bs bs_size bs_toList bs_append bs_extract
attribute [local simp]run_cut run_cut_to run_cut_from run_add_bs
theorem phas_2 (n:Int)(w:World):Calls Tryz.prog 220 #[.agg #[],.int .i64 n] w (Ret (.bool (if (2:Int)=3 then n != 8 else if (2:Int)=4 then n == 8 else true)) w):=by
 go_enter Tryz.func220,Tryz.ntmps220
 go_wp2
 go_ret
 exact Ret.mk' rfl zqb
end
section
open Go.RowKit
attribute [local go_sem]mk_bs bs_size bs_toList bs_append bs_extract
attribute [local simp]run_cut run_cut_to run_cut_from run_add_bs
theorem phas_3 (n:Int)(w:World):Calls Tryz.prog 227 #[.agg #[],.int .i64 n] w (Ret (.bool (if (3:Int)=3 then n != 8 else if (3:Int)=4 then n == 8 else true)) w):=by
 go_enter Tryz.func227,Tryz.ntmps227
 go_wp2
 go_ret
 exact Ret.mk' rfl zqb
end
section
open Go.RowKit
attribute [local go_sem]mk_bs bs_size bs_toList bs_append bs_extract
attribute [local simp]run_cut run_cut_to run_cut_from run_add_bs
theorem pright_4 (n:Int)(w:World)(h:0≤n∧n≤3) :
  Calls Tryz.prog 239 #[.agg #[],.int .i64 n] w (Ret (.tuple #[.string (bs (rR 4 n)),.bool (okR 4 n)]) w):=by
 have h4:n=0∨n=1∨n=2∨n=3:=by omega
 clear h
 rcases h4 with rfl|rfl|rfl|rfl
 all_goals
  go_enter Tryz.func239,Tryz.ntmps239
  go_wp2
  go_ret2
  exact Ret.mk' rfl zqb
theorem pgrace_4 (n:Int)(w:World)(h:0≤n∧n≤4) :
  Calls Tryz.prog 234 #[.agg #[],.int .i64 n] w (Ret (.tuple #[.string (bs (rG 4 n)),.bool (okG 4 n)]) w):=by
 have h4:n=0∨n=1∨n=2∨n=3∨n=4:=by omega
 clear h
 rcases h4 with rfl|rfl|rfl|rfl|rfl
 all_goals
  go_enter Tryz.func234,Tryz.ntmps234
  go_wp2
  go_ret2
  exact Ret.mk' rfl zqb
theorem phold_4 (n L:Int) (w:World) (h:0≤n∧n≤15) :
  Calls Tryz.prog 218 #[.agg #[],.int .i64 n,.int .i64 L] w (Ret (.tuple #[.string (bs (pH 4 n L)),.bool (okH 4 n L)]) w):=by
 obtain ⟨hn0,hn1⟩:=h
 by_cases h0:n=0
 ·subst h0
  go_enter Tryz.func218,Tryz.ntmps218
  go_wp2
  go_ret2
  exact Ret.mk' rfl zqb
 ·have hb:(n == 0)=false:=by simp;exact h0
  have e0:pH 4 n L=rH 4 n L:=if_neg h0
  have e1:okH 4 n L=!(rH 4 n L).isEmpty:=by unfold okH;rw [hb];rfl
  rw [e0,e1]
  by_cases hL:n=L
  ·have e2:rH 4 n L=[42]:=by unfold rH;rw [if_neg (by decide),if_pos ⟨by decide,hL⟩]
   have hbL:(n == L)=true:=by simpa using hL
   rw [e2]
   clear e0 e1 e2 hL
   go_enter Tryz.func218,Tryz.ntmps218
   go_wp2
   go_ret2
   exact Ret.mk' rfl zqb
  ·have e2:rH 4 n L=[]:=by unfold rH;rw [if_neg (by decide),if_neg (fun h=>hL h.2)]
   have hbL:(n == L)=false:=by simpa using hL
   rw [e2]
   clear e0 e1 e2 hL
   go_enter Tryz.func218,Tryz.ntmps218
   go_wp2
   go_ret2
   exact Ret.mk' rfl zqb
theorem pcell_4 (c f r g h L:Int) (w:World) (hc:1≤c∧c≤14) (hf:0≤f∧f≤18) (hr:0≤r∧r≤3) (hg:0≤g∧g≤4) (hh:0≤h∧h≤15) :
  Calls Tryz.prog 105 #[(.iface 175 (.agg #[])),.agg #[.int .i64 c,.int .i64 f,.int .i64 r,.int .i64 g,.int .i64 h],.int .i64 L] w
   (Ret (.tuple #[.string (bs (cellS 4 c f r g h L)),.bool (cellOk 4 c f r g h L)]) w):=by
 have a1:=(pS_len 4 c f (by decide) hc hf).1
 have a2:=rR_len 4 r
 have a3:=rG_len 4 g
 have a4:=pH_len 4 h L
 have b1:(pS 4 c f).length+(rR 4 r).length≤9223372036854775807:=by omega
 have b2:(pS 4 c f).length+(rR 4 r).length+(rG 4 g).length≤9223372036854775807:=by omega
 have b2':(pS 4 c f).length+((rR 4 r).length+(rG 4 g).length)≤9223372036854775807:=by omega
 have b3:(pS 4 c f).length+(rR 4 r).length+(rG 4 g).length+(pH 4 h L).length≤9223372036854775807:=by omega
 have b3':(pS 4 c f).length+((rR 4 r).length+((rG 4 g).length+(pH 4 h L).length))≤9223372036854775807:=by omega
 have b3c:(pS 4 c f).length+((rR 4 r).length+(rG 4 g).length)+(pH 4 h L).length≤9223372036854775807:=by omega
 clear a1 a2 a3 a4
 unfold cellS cellOk
 go_enter Tryz.func105,Tryz.ntmps105
 go_wp2_with (first
  | (go_at_call 240;refine (psym_4 _ _ _ hc hf).mono ?_;rintro e w1 ⟨rfl,hb1⟩;have k1:=(Blk.new _ _ _).after hb1;have x1:w1.cell? ⟨w.heap.size,2,none⟩=some (.int .i64 r):=k1.cell 2;have K1:=Lib.hid k1;clear k1)
  | (go_at_call 239;refine (pright_4 _ _ hr).mono ?_;rintro e w2 ⟨rfl,hb2⟩;have k2:=K1.out.after hb2;have x2:w2.cell? ⟨w.heap.size,3,none⟩=some (.int .i64 g):=k2.cell 3;have K2:=Lib.hid k2;clear k2)
  | (go_at_call 234;refine (pgrace_4 _ _ hg).mono ?_;rintro e w3 ⟨rfl,hb3⟩;have k3:=K2.out.after hb3;have x3:w3.cell? ⟨w.heap.size,4,none⟩=some (.int .i64 h):=k3.cell 4;have K3:=Lib.hid k3;clear k3)
  | (go_at_call 218;refine (phold_4 _ _ _ hh).mono ?_;rintro e w4 ⟨rfl,hb4⟩))
 all_goals go_ret2
 all_goals exact Ret.mk' (by simp [*]) zqb
end
section
open Go.RowKit
def Calm(W w:World):Prop:=Below W.heap.size W w
theorem wp_region_calm {P:Program} {id:Nat} {Q:Exit→Act→World→Prop} {a:Act} {w:World} {l:List Oper} (W:World) (hm:P.follows .mixedOrders=true) (hB:Region.lexB .any l.toArray=true) (hW:Below W.heap.size W w)
  (h:wpQuiet P l.toArray (Calm W) (fun a'=>∀ w',Calm W w'→Q .normal a' w') l a):(Code.region id l.toArray true).wp P Q a w :=
 wp_region_quiet (C:=Calm W) hm hB (show Below W.heap.size W _ from ⟨hW.os,hW.tape,hW.output,hW.size,hW.block⟩) (by simpa using h)
theorem calm_val {P:Program} {W:World} {o:Oper} {a:Act} {K:Act→Prop} {v:Value} (h:∀ w',Calm W w'→(execOp a.eval o).run P w'=.ok (.value v) w')(hk:K (a.put o.dst v)):o.quiet P a (Calm W) K:=by
 refine⟨v,fun w' hw'=>?_,hk⟩
 unfold Oper.quietAt
 rw [h w' hw']
 exact⟨rfl,rfl⟩
theorem calm_enter {P:Program} {W:World} {o:Oper} {a:Act} {K:Act→Prop} {v:Value} {f:FuncId} {args:Array Value} (h:∀ w',Calm W w'→(execOp a.eval o).run P w'=.ok (.enter f args) w')(hc:∀ w',Calm W w'→Calls P f args w' (Ret v w'))(hk:K (a.put o.dst v)) :
  o.quiet P a (Calm W) K:=by
 refine⟨v,fun w' hw'=>?_,hk⟩
 unfold Oper.quietAt
 rw [h w' hw']
 exact⟨rfl,(hc w' hw').mono fun e w''⟨he,hb⟩=>⟨he,show Below W.heap.size W w'' from Below.trans hw' (hb.mono (Below.size hw'))⟩⟩
theorem calm_cell {W w':World} (h:Calm W w'):(∀ b o,b<W.heap.size→w'.cell? ⟨b,o,none⟩=W.cell? ⟨b,o,none⟩)∧(∀ p:Addr,p.block<W.heap.size→w'.cell? p=W.cell? p) :=
 ⟨fun b o h'=>Below.cell (p:=⟨b,o,none⟩) h h',fun p h'=>Below.cell (p:=p) h h'⟩
end
section
open Go.RowKit
theorem pStop_any (M:PM) (p:Pce) (i:Int) (s:Stp) (last:Int) (w:World) (hP:PcAt w w.heap.size M p) (hO:PcOk p) :
    Calls Tryz.prog 95 #[pcValue M p,.int .i64 i,stpVal s,.int .i64 last] w (Ret (.int .i64 (stopE p i s last)) w):=by
  obtain ⟨A1,A2,A3,c1,c2,c3⟩:=M
  obtain ⟨c,f,r,g,h⟩:=s
  have HL:=Lib.hid (fun (w':World) (hb:Below w.heap.size w w')=>pLongest_any ⟨A1,A2,A3,c1,c2,c3⟩ p i c w' (hP.after hb) hO)
  have HI:=Lib.hid hP.1
  obtain ⟨cs,st,evs⟩:=p
  unfold pcValue stpVal at *
  have hn1b:=hO.n1
  simp only at *
  generalize hLg:longestN evs i c=Lg at *
  obtain ⟨n1,hn1⟩:∃ n,cs.length=n:=⟨_,rfl⟩
  generalize st.length=n2 at *
  generalize evs.length=n3 at *
  rw [hn1] at HL hn1b ⊢
  have HN:=Lib.hid hn1
  have HLG:=Lib.hid hLg
  clear hP hO
  by_cases b1:c < 1
  · rw [stopE_crs (.inl b1)]
    clear hn1 hLg
    go_enter Tryz.func95,Tryz.ntmps95
    go_wp2
    go_ret
    exact Ret.mk' rfl zqb
  · by_cases b2:(n1:Int) < c
    · rw [stopE_crs (.inr (by show (cs.length:Int) < c;omega))]
      clear hn1 hLg
      go_enter Tryz.func95,Tryz.ntmps95
      go_wp2
      go_ret
      exact Ret.mk' rfl zqb
    · obtain ⟨q,rfl⟩:∃ q:Nat,c=(q:Int)+1:=⟨c.toNat - 1,by omega⟩
      have hq:q < cs.length:=by omega
      obtain ⟨ad,hA,hb,hc⟩:∃ ad,A1=some ad∧ad.block < w.heap.size∧w.cell? ⟨(ad.add (q*3)).block,(ad.add (q*3)).off+1,none⟩=some (.int .i64 cs[q].2.1):=by
        obtain ⟨ad,x,y,_,z,_⟩:=HI.out.crs hq
        exact ⟨ad,x,y,z⟩
      subst hA
      have hfr:=fretsOf_at hq
      have g1:¬ ((q:Int)+1 < 1∨(cs.length:Int) < (q:Int)+1):=by omega
      obtain ⟨F,hF⟩:∃ F,cs[q].2.1=F:=⟨_,rfl⟩
      rw [hF] at hc hfr
      have hc2:∀ o o':Obj,((w.alloc o).alloc o').cell? ⟨(ad.add (q*3)).block,(ad.add (q*3)).off+1,none⟩=some (.int .i64 F):=fun o o'=>by
        rw [World.cell?_alloc_lt _ _ _ (by rw [block_of_add];simp;omega),World.cell?_alloc_lt _ _ _ (by rw [block_of_add];omega),hc]
      have hq2:q < n1:=by omega
      have hadb:ad.block < w.heap.size:=hb
      clear hc hF
      by_cases b3:f < 0
      · rw [stopE_fret g1 (.inl b3)]
        clear hn1 hLg hfr g1 hq
        go_enter Tryz.func95,Tryz.ntmps95
        go_wp2
        go_quiet (fail)
        go_wp2
        go_ret
        exact Ret.mk' rfl zqb
      · have d3:decide (f < 0)=false:=decide_eq_false b3
        by_cases b4:F < f
        · rw [stopE_fret g1 (.inr (by show fretsOf cs ((q:Int)+1) < f;rw [hfr];exact b4))]
          clear hn1 hLg hfr g1 hq
          go_enter Tryz.func95,Tryz.ntmps95
          go_wp2
          go_quiet (fail)
          go_wp2
          go_ret
          exact Ret.mk' rfl zqb
        · have g2:¬ (f < 0∨fretsOf cs ((q:Int)+1) < f):=by rw [hfr];omega
          have d4:decide (F < f)=false:=decide_eq_false b4
          by_cases b5:(q:Int)+1≤last
          · rw [stopE_order g1 g2 b5]
            clear hn1 hLg hfr g1 g2 hq
            go_enter Tryz.func95,Tryz.ntmps95
            go_wp2
            go_quiet (fail)
            go_wp2
            go_ret
            exact Ret.mk' rfl zqb
          · by_cases b6:r < 0
            · rw [stopE_mark g1 g2 b5 (.inl (.inl b6))]
              clear hn1 hLg hfr g1 g2 hq
              go_enter Tryz.func95,Tryz.ntmps95
              go_wp2
              go_quiet (fail)
              go_wp2
              go_ret
              exact Ret.mk' rfl zqb
            · by_cases b7:3 < r
              · rw [stopE_mark g1 g2 b5 (.inl (.inr b7))]
                clear hn1 hLg hfr g1 g2 hq
                go_enter Tryz.func95,Tryz.ntmps95
                go_wp2
                go_quiet (fail)
                go_wp2
                go_ret
                exact Ret.mk' rfl zqb
              · by_cases b8:g < 0
                · rw [stopE_mark g1 g2 b5 (.inr (.inl b8))]
                  clear hn1 hLg hfr g1 g2 hq
                  go_enter Tryz.func95,Tryz.ntmps95
                  go_wp2
                  go_quiet (fail)
                  go_wp2
                  go_ret
                  exact Ret.mk' rfl zqb
                · by_cases b9:4 < g
                  · rw [stopE_mark g1 g2 b5 (.inr (.inr b9))]
                    clear hn1 hLg hfr g1 g2 hq
                    go_enter Tryz.func95,Tryz.ntmps95
                    go_wp2
                    go_quiet (fail)
                    go_wp2
                    go_ret
                    exact Ret.mk' rfl zqb
                  · have g3:¬ ((r < 0∨3 < r)∨(g < 0∨4 < g)):=by omega
                    by_cases b10:h < 0
                    · rw [stopE_hold g1 g2 b5 g3 (.inl (.inl b10))]
                      clear hn1 hLg hfr g1 g2 g3 hq
                      go_enter Tryz.func95,Tryz.ntmps95
                      go_wp2
                      go_quiet (fail)
                      go_wp2
                      go_quiet (fail)
                      go_wp2
                      go_ret
                      exact Ret.mk' rfl zqb
                    · have d10:decide (h < 0)=false:=decide_eq_false b10
                      by_cases b11:(Lg:Int) < h
                      · rw [stopE_hold g1 g2 b5 g3 (.inl (.inr (by show ((longestN evs i ((q:Int)+1):Nat):Int) < h;rw [hLg];exact b11)))]
                        have d11:decide ((Lg:Int) < h)=true:=decide_eq_true b11
                        clear hn1 hLg hfr g1 g2 g3 hq
                        go_enter Tryz.func95,Tryz.ntmps95
                        go_wp2
                        go_quiet (fail)
                        go_wp2
                        refine wp_region_calm _ zqk zqk (bel_drewN (Below.refl _ _) _) ?_
                        repeat
                          first
                          | go_big_quiet_skip
                          | (go_big_quiet_want
                             apply calm_val
                             focus
                               intro w' hw'
                               obtain ⟨bc,bp⟩:=calm_cell hw'
                               go_simp
                               first|done|rfl|exact rfl
                             (try simp only [Act.put,List.setIfInBounds_toArray,List.set_cons_zero,List.set_cons_succ])
                             go_big_quiet_on)
                          | (go_big_quiet_want
                             apply calm_enter (f:=107)
                             focus
                               intro w' hw'
                               go_simp
                               first|done|rfl|exact rfl
                             focus
                               intro w' hw'
                               have hw2:Below _ _ w':=hw'
                               exact HL.out w' zqb
                             (try simp only [Act.put,List.setIfInBounds_toArray,List.set_cons_zero,List.set_cons_succ])
                             go_big_quiet_on)
                        refine wpQuiet_nil ?_
                        intro w1 hw1
                        have hw2:Below _ _ w1:=hw1
                        clear hw1
                        go_wp2
                        go_ret
                        exact Ret.mk' rfl zqb
                      · have d11:decide ((Lg:Int) < h)=false:=decide_eq_false b11
                        by_cases b12:0 < h
                        · by_cases b13:f=0
                          · rw [stopE_hold g1 g2 b5 g3 (.inr ⟨b12,b13⟩)]
                            have d13:(f == 0)=true:=by simpa using b13
                            have d12:decide (0 < h)=true:=decide_eq_true b12
                            clear hn1 hLg hfr g1 g2 g3 hq b13
                            go_enter Tryz.func95,Tryz.ntmps95
                            go_wp2
                            go_quiet (fail)
                            go_wp2
                            refine wp_region_calm _ zqk zqk (bel_drewN (Below.refl _ _) _) ?_
                            repeat
                              first
                              | go_big_quiet_skip
                              | (go_big_quiet_want
                                 apply calm_val
                                 focus
                                   intro w' hw'
                                   obtain ⟨bc,bp⟩:=calm_cell hw'
                                   go_simp
                                   first|done|rfl|exact rfl
                                 (try simp only [Act.put,List.setIfInBounds_toArray,List.set_cons_zero,List.set_cons_succ])
                                 go_big_quiet_on)
                              | (go_big_quiet_want
                                 apply calm_enter (f:=107)
                                 focus
                                   intro w' hw'
                                   go_simp
                                   first|done|rfl|exact rfl
                                 focus
                                   intro w' hw'
                                   have hw2:Below _ _ w':=hw'
                                   exact HL.out w' zqb
                                 (try simp only [Act.put,List.setIfInBounds_toArray,List.set_cons_zero,List.set_cons_succ])
                                 go_big_quiet_on)
                            refine wpQuiet_nil ?_
                            intro w1 hw1
                            have hw2:Below _ _ w1:=hw1
                            clear hw1
                            go_wp2
                            go_ret
                            exact Ret.mk' rfl zqb
                          · rw [stopE_ok g1 g2 b5 g3 (by show ¬ ((h < 0∨((longestN evs i ((q:Int)+1):Nat):Int) < h)∨(0 < h∧f=0));rw [hLg];omega)]
                            have d13:(f == 0)=false:=by simpa using b13
                            have d12:decide (0 < h)=true:=decide_eq_true b12
                            clear hn1 hLg hfr g1 g2 g3 hq b13
                            go_enter Tryz.func95,Tryz.ntmps95
                            go_wp2
                            go_quiet (fail)
                            go_wp2
                            refine wp_region_calm _ zqk zqk (bel_drewN (Below.refl _ _) _) ?_
                            repeat
                              first
                              | go_big_quiet_skip
                              | (go_big_quiet_want
                                 apply calm_val
                                 focus
                                   intro w' hw'
                                   obtain ⟨bc,bp⟩:=calm_cell hw'
                                   go_simp
                                   first|done|rfl|exact rfl
                                 (try simp only [Act.put,List.setIfInBounds_toArray,List.set_cons_zero,List.set_cons_succ])
                                 go_big_quiet_on)
                              | (go_big_quiet_want
                                 apply calm_enter (f:=107)
                                 focus
                                   intro w' hw'
                                   go_simp
                                   first|done|rfl|exact rfl
                                 focus
                                   intro w' hw'
                                   have hw2:Below _ _ w':=hw'
                                   exact HL.out w' zqb
                                 (try simp only [Act.put,List.setIfInBounds_toArray,List.set_cons_zero,List.set_cons_succ])
                                 go_big_quiet_on)
                            refine wpQuiet_nil ?_
                            intro w1 hw1
                            have hw2:Below _ _ w1:=hw1
                            clear hw1
                            go_wp2
                            go_ret
                            exact Ret.mk' rfl zqb
                        · have hh0:h=0:=by omega
                          rw [stopE_ok g1 g2 b5 g3 (by show ¬ ((h < 0∨((longestN evs i ((q:Int)+1):Nat):Int) < h)∨(0 < h∧f=0));rw [hLg];omega)]
                          have d14:decide ((Lg:Int) < 0)=false:=decide_eq_false zqo
                          clear hn1 hLg hfr g1 g2 g3 hq d10 d11 b10 b11 b12
                          subst hh0
                          go_enter Tryz.func95,Tryz.ntmps95
                          go_wp2
                          go_quiet (fail)
                          go_wp2
                          refine wp_region_calm _ zqk zqk (bel_drewN (Below.refl _ _) _) ?_
                          repeat
                            first
                            | go_big_quiet_skip
                            | (go_big_quiet_want
                               apply calm_val
                               focus
                                 intro w' hw'
                                 obtain ⟨bc,bp⟩:=calm_cell hw'
                                 go_simp
                                 first|done|rfl|exact rfl
                               (try simp only [Act.put,List.setIfInBounds_toArray,List.set_cons_zero,List.set_cons_succ])
                               go_big_quiet_on)
                            | (go_big_quiet_want
                               apply calm_enter (f:=107)
                               focus
                                 intro w' hw'
                                 go_simp
                                 first|done|rfl|exact rfl
                               focus
                                 intro w' hw'
                                 have hw2:Below _ _ w':=hw'
                                 exact HL.out w' zqb
                               (try simp only [Act.put,List.setIfInBounds_toArray,List.set_cons_zero,List.set_cons_succ])
                               go_big_quiet_on)
                          refine wpQuiet_nil ?_
                          intro w1 hw1
                          have hw2:Below _ _ w1:=hw1
                          clear hw1
                          go_wp2
                          go_ret
                          exact Ret.mk' rfl zqb
end
end Go.Proofs.YtaeelcfjkhfpkaaGreat
