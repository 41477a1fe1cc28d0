/- ParseTime of the program, in one system. -/
import Derived.Test.YthehkchjdkdbiaaGreatDoorHs4Gq
set_option maxHeartbeats 1600000
set_option maxRecDepth 100000
set_option linter.unusedVariables false
set_option linter.unusedSimpArgs false
namespace Go.Proofs.YthehkchjdkdbiaaGreatDoor
open Go.RowKit
attribute [local go_sem]mk_bs bs_size bs_toList bs_append bs_extract
attribute [local simp]run_cut run_cut_to run_cut_from run_add_bs
theorem pparseTime_4 (l:List UInt8) (w:World):Calls Tryz.prog 92 #[.int .u8 4,.string (bs l)] w (Ret (ptV (scanT (tmM 4 l) 0 8)) w):=by
 go_enter Tryz.func92,Tryz.ntmps92
 go_wp2_with (go_at_call 50;refine (of_4 _).mono ?_;rintro e w' ⟨rfl,rfl⟩)
 go_loopw [8] (fun u wr=>∃ v:Nat,v≤8∧u=.int .i64 v∧scanT (tmM 4 l) 0 8=scanT (tmM 4 l) v (8 - v)∧Below w.heap.size w wr∧Blk wr w.heap.size 87 #[.int .i64 0,.bool false,.bool false])
  (fun u _=>8 - (intOf u).toNat)
 case atStart=>exact ⟨0,by omega,rfl,rfl,zqb,Blk.new _ _ _⟩
 case round =>
  obtain ⟨v,hv8,rfl,hsc,hbel,hblk⟩:=hrel
  have HS:=Lib.hid hsc
  have HB:=Lib.hid hblk
  have hlt:w.heap.size < wr.heap.size:=hblk.lt
  have q0:wr.cell? ⟨w.heap.size,0,none⟩=some (.int .i64 0):=hblk.cell 0
  have q1:wr.cell? ⟨w.heap.size,1,none⟩=some (.bool false):=hblk.cell 1
  have q2:wr.cell? ⟨w.heap.size,2,none⟩=some (.bool false):=hblk.cell 2
  have q3:=hblk.frozen 0
  have q4:=hblk.frozen 1
  have q5:=hblk.frozen 2
  clear hsc hblk
  by_cases hle:v≤7
  ·obtain ⟨wo,hwo⟩:∃ wo:World,wo=wr:=⟨_,rfl⟩
   subst hwo
   have hvi:0≤(v:Int)∧(v:Int)≤7:=by omega
   have hz0:(v:Int)=0→(0:Nat)=0:=fun _=>rfl
   have P0:=Lib.hid (show ∀ w:World,Calls Tryz.prog 110 #[(.iface 178 (.agg #[])),.agg #[.int .i64 v,.bool false,.bool false]] w (Ret (.tuple #[.string (bs (tW v 0)),.bool (tOk 4 v 0)]) w) from fun w=>ptw_4 v 0 w hvi zqo hz0)
   have KS0:=Lib.hid (Blk.new wo 87 #[.int .i64 v,.bool false,.bool false,.int .i64 v,.bool true,.bool false,.int .i64 v,.bool false,.bool true])
   have KR0:=Lib.hid (HB.out.alloc (.cells #[.int .i64 v,.bool false,.bool false,.int .i64 v,.bool true,.bool false,.int .i64 v,.bool false,.bool true] 87))
   by_cases hv:v=0
   ·subst hv
    have e0:tW 0 0=[45]:=rfl
    have o0:tOk 4 (0:Nat) 0=decide ((4:Int)≠4):=rfl
    by_cases t0:tmM 4 l 0 0=true
    ·have HR:=Lib.hid (show scanT (tmM 4 l) 0 8=some (0,0) from scanT_yes _ _ _ _ (by rw [find3,if_pos t0]))
     simp only [tmM,Bool.and_eq_true] at t0
     obtain ⟨_,t1,t2⟩:=t0
     have t1':tOk 4 0 0=true:=t1
     have t2':(([45]:List UInt8) == l)=true:=t2
     clear o0 t1 t2
     go_wp2_with fail
     refine wp_loop_rounds 4 ?_
     rw [rounds_succ]
     go_wp2_with fail
     refine (P0.out _).mono ?_
     rintro e w1 ⟨rfl,hb1⟩
     have kS1:=(KS0.out.alloc _).after hb1
     have kR1:=(KR0.out.alloc _).after hb1
     have kV1:=(Blk.new _ _ _).after hb1
     have s10:w1.cell? ⟨wo.heap.size,0,none⟩=some (.int .i64 0):=kS1.cell 0
     have s11:w1.cell? ⟨wo.heap.size,1,none⟩=some (.bool false):=kS1.cell 1
     have s12:w1.cell? ⟨wo.heap.size,2,none⟩=some (.bool false):=kS1.cell 2
     have s13:w1.cell? ⟨wo.heap.size,3,none⟩=some (.int .i64 0):=kS1.cell 3
     have s14:w1.cell? ⟨wo.heap.size,4,none⟩=some (.bool true):=kS1.cell 4
     have s15:w1.cell? ⟨wo.heap.size,5,none⟩=some (.bool false):=kS1.cell 5
     have s16:w1.cell? ⟨wo.heap.size,6,none⟩=some (.int .i64 0):=kS1.cell 6
     have s17:w1.cell? ⟨wo.heap.size,7,none⟩=some (.bool false):=kS1.cell 7
     have s18:w1.cell? ⟨wo.heap.size,8,none⟩=some (.bool true):=kS1.cell 8
     have r10:w1.cell? ⟨w.heap.size,0,none⟩=some (.int .i64 0):=kR1.cell 0
     have f10:=kR1.frozen 0
     have r11:w1.cell? ⟨w.heap.size,1,none⟩=some (.bool false):=kR1.cell 1
     have f11:=kR1.frozen 1
     have r12:w1.cell? ⟨w.heap.size,2,none⟩=some (.bool false):=kR1.cell 2
     have f12:=kR1.frozen 2
     have x10:w1.cell? ⟨wo.heap.size+1,0,none⟩=some (.int .i64 0):=by simpa using kV1.cell 0
     have x11:w1.cell? ⟨wo.heap.size+1,1,none⟩=some (.bool false):=by simpa using kV1.cell 1
     have x12:w1.cell? ⟨wo.heap.size+1,2,none⟩=some (.bool false):=by simpa using kV1.cell 2
     have zS1:=kS1.lt
     have zR1:=kR1.lt
     have zV1:wo.heap.size+1 < w1.heap.size:=by simpa using kV1.lt
     have KS1:=Lib.hid kS1
     have KR1:=Lib.hid kR1
     clear kS1 kR1 kV1
     go_wp2_with fail
     exact bodyPost_ret (v:=.tuple #[.agg #[.int .i64 0,.bool false,.bool false],.int .i64 0]) (by simp [results,Tryz.results92,go_sem,r10,r11,r12]) rfl (Ret.mk' (by rw [HR.out];rfl) zqb)
    ·have t0':tmM 4 l 0 0=false:=by simpa using t0
     have HN:=Lib.hid (show scanT (tmM 4 l) 0 8=scanT (tmM 4 l) 1 7 from scanT_no _ _ _ (by rw [find3,if_neg t0,if_neg (by simp [tmM]),if_neg (by simp [tmM])]))
     clear t0
     have t1:tOk 4 ((0:Nat):Int) 0=false∨(tOk 4 ((0:Nat):Int) 0=true∧(tW ((0:Nat):Int) 0 == l)=false):=by
      cases hk:tOk 4 ((0:Nat):Int) 0 with
      | false=>exact .inl rfl
      | true=>refine .inr ⟨rfl,?_⟩;unfold tmM at t0';rw [hk] at t0';simpa using t0'
     clear t0' o0
     have t3:tOk 4 0 0=false∨(tOk 4 0 0=true∧(([45]:List UInt8) == l)=false):=t1
     clear t1
     rcases t3 with t1|⟨t1,t2⟩
     all_goals
      go_wp2_with fail
      refine wp_loop_rounds 4 ?_
      rw [rounds_succ]
      go_wp2_with fail
      refine (P0.out _).mono ?_
      rintro e w1 ⟨rfl,hb1⟩
      have kS1:=(KS0.out.alloc _).after hb1
      have kR1:=(KR0.out.alloc _).after hb1
      have kV1:=(Blk.new _ _ _).after hb1
      have s10:w1.cell? ⟨wo.heap.size,0,none⟩=some (.int .i64 0):=kS1.cell 0
      have s11:w1.cell? ⟨wo.heap.size,1,none⟩=some (.bool false):=kS1.cell 1
      have s12:w1.cell? ⟨wo.heap.size,2,none⟩=some (.bool false):=kS1.cell 2
      have s13:w1.cell? ⟨wo.heap.size,3,none⟩=some (.int .i64 0):=kS1.cell 3
      have s14:w1.cell? ⟨wo.heap.size,4,none⟩=some (.bool true):=kS1.cell 4
      have s15:w1.cell? ⟨wo.heap.size,5,none⟩=some (.bool false):=kS1.cell 5
      have s16:w1.cell? ⟨wo.heap.size,6,none⟩=some (.int .i64 0):=kS1.cell 6
      have s17:w1.cell? ⟨wo.heap.size,7,none⟩=some (.bool false):=kS1.cell 7
      have s18:w1.cell? ⟨wo.heap.size,8,none⟩=some (.bool true):=kS1.cell 8
      have r10:w1.cell? ⟨w.heap.size,0,none⟩=some (.int .i64 0):=kR1.cell 0
      have f10:=kR1.frozen 0
      have r11:w1.cell? ⟨w.heap.size,1,none⟩=some (.bool false):=kR1.cell 1
      have f11:=kR1.frozen 1
      have r12:w1.cell? ⟨w.heap.size,2,none⟩=some (.bool false):=kR1.cell 2
      have f12:=kR1.frozen 2
      have x10:w1.cell? ⟨wo.heap.size+1,0,none⟩=some (.int .i64 0):=by simpa using kV1.cell 0
      have x11:w1.cell? ⟨wo.heap.size+1,1,none⟩=some (.bool false):=by simpa using kV1.cell 1
      have x12:w1.cell? ⟨wo.heap.size+1,2,none⟩=some (.bool false):=by simpa using kV1.cell 2
      have zS1:=kS1.lt
      have zR1:=kR1.lt
      have zV1:wo.heap.size+1 < w1.heap.size:=by simpa using kV1.lt
      have KS1:=Lib.hid kS1
      have KR1:=Lib.hid kR1
      clear kS1 kR1 kV1
      go_wp2_with fail
      rw [rounds_succ]
      go_wp2_with fail
      rw [rounds_succ]
      go_wp2_with fail
      rw [rounds_succ]
      go_wp2_with fail
      go_roundw
      case rel=>exact ⟨1,by omega,by go_num,HN.out,zqb,(((KR1.out.alloc _).alloc _))⟩
      case measure=>simp [intOf]
   ·have hv0:(v != 0)=true:=by simpa using hv
    have hvb:((v:Int) == 0)=false:=by simp;omega
    have hz1:(v:Int)=0→(1:Nat)=0:=fun h=>by omega
    have hz2:(v:Int)=0→(2:Nat)=0:=fun h=>by omega
    have P1:=Lib.hid (show ∀ w:World,Calls Tryz.prog 110 #[(.iface 178 (.agg #[])),.agg #[.int .i64 v,.bool true,.bool false]] w (Ret (.tuple #[.string (bs (tW v 1)),.bool (tOk 4 v 1)]) w) from fun w=>ptw_4 v 1 w hvi zqo hz1)
    have P2:=Lib.hid (show ∀ w:World,Calls Tryz.prog 110 #[(.iface 178 (.agg #[])),.agg #[.int .i64 v,.bool false,.bool true]] w (Ret (.tuple #[.string (bs (tW v 2)),.bool (tOk 4 v 2)]) w) from fun w=>ptw_4 v 2 w hvi zqo hz2)
    have o0:tOk 4 v 0=true:=by unfold tOk;rw [if_neg (by omega)];rfl
    have o1:tOk 4 v 1=true:=by unfold tOk;rw [if_neg (by omega)];rfl
    by_cases t0:(tW v 0 == l)=true
    ·have HR:=Lib.hid (show scanT (tmM 4 l) 0 8=some (v,0) from by rw [HS.out,show 8 - v=(7 - v)+1 from by omega];exact scanT_yes _ _ _ _ (by rw [find3,if_pos (by unfold tmM;rw [hv0,o0,t0];rfl)]))
     go_wp2_with fail
     refine wp_loop_rounds 4 ?_
     rw [rounds_succ]
     go_wp2_with fail
     refine (P0.out _).mono ?_
     rintro e w1 ⟨rfl,hb1⟩
     have kS1:=(KS0.out.alloc _).after hb1
     have kR1:=(KR0.out.alloc _).after hb1
     have kV1:=(Blk.new _ _ _).after hb1
     have s10:w1.cell? ⟨wo.heap.size,0,none⟩=some (.int .i64 v):=kS1.cell 0
     have s11:w1.cell? ⟨wo.heap.size,1,none⟩=some (.bool false):=kS1.cell 1
     have s12:w1.cell? ⟨wo.heap.size,2,none⟩=some (.bool false):=kS1.cell 2
     have s13:w1.cell? ⟨wo.heap.size,3,none⟩=some (.int .i64 v):=kS1.cell 3
     have s14:w1.cell? ⟨wo.heap.size,4,none⟩=some (.bool true):=kS1.cell 4
     have s15:w1.cell? ⟨wo.heap.size,5,none⟩=some (.bool false):=kS1.cell 5
     have s16:w1.cell? ⟨wo.heap.size,6,none⟩=some (.int .i64 v):=kS1.cell 6
     have s17:w1.cell? ⟨wo.heap.size,7,none⟩=some (.bool false):=kS1.cell 7
     have s18:w1.cell? ⟨wo.heap.size,8,none⟩=some (.bool true):=kS1.cell 8
     have r10:w1.cell? ⟨w.heap.size,0,none⟩=some (.int .i64 0):=kR1.cell 0
     have f10:=kR1.frozen 0
     have r11:w1.cell? ⟨w.heap.size,1,none⟩=some (.bool false):=kR1.cell 1
     have f11:=kR1.frozen 1
     have r12:w1.cell? ⟨w.heap.size,2,none⟩=some (.bool false):=kR1.cell 2
     have f12:=kR1.frozen 2
     have x10:w1.cell? ⟨wo.heap.size+1,0,none⟩=some (.int .i64 v):=by simpa using kV1.cell 0
     have x11:w1.cell? ⟨wo.heap.size+1,1,none⟩=some (.bool false):=by simpa using kV1.cell 1
     have x12:w1.cell? ⟨wo.heap.size+1,2,none⟩=some (.bool false):=by simpa using kV1.cell 2
     have zS1:=kS1.lt
     have zR1:=kR1.lt
     have zV1:wo.heap.size+1 < w1.heap.size:=by simpa using kV1.lt
     have KS1:=Lib.hid kS1
     have KR1:=Lib.hid kR1
     clear kS1 kR1 kV1
     go_wp2_with fail
     exact bodyPost_ret (v:=.tuple #[.agg #[.int .i64 v,.bool false,.bool false],.int .i64 0]) (by simp [results,Tryz.results92,go_sem,r10,r11,r12]) rfl (Ret.mk' (by rw [HR.out];rfl) zqb)
    ·have t0':(tW v 0 == l)=false:=by simpa using t0
     have m0:tmM 4 l v 0=false:=by unfold tmM;rw [t0',Bool.and_false,Bool.and_false]
     clear t0
     by_cases t1:(tW v 1 == l)=true
     ·have HR:=Lib.hid (show scanT (tmM 4 l) 0 8=some (v,1) from by rw [HS.out,show 8 - v=(7 - v)+1 from by omega];exact scanT_yes _ _ _ _ (by rw [find3,m0,if_neg (by decide),if_pos (by unfold tmM;rw [hv0,o1,t1];rfl)]))
      clear m0
      go_wp2_with fail
      refine wp_loop_rounds 4 ?_
      rw [rounds_succ]
      go_wp2_with fail
      refine (P0.out _).mono ?_
      rintro e w1 ⟨rfl,hb1⟩
      have kS1:=(KS0.out.alloc _).after hb1
      have kR1:=(KR0.out.alloc _).after hb1
      have kV1:=(Blk.new _ _ _).after hb1
      have s10:w1.cell? ⟨wo.heap.size,0,none⟩=some (.int .i64 v):=kS1.cell 0
      have s11:w1.cell? ⟨wo.heap.size,1,none⟩=some (.bool false):=kS1.cell 1
      have s12:w1.cell? ⟨wo.heap.size,2,none⟩=some (.bool false):=kS1.cell 2
      have s13:w1.cell? ⟨wo.heap.size,3,none⟩=some (.int .i64 v):=kS1.cell 3
      have s14:w1.cell? ⟨wo.heap.size,4,none⟩=some (.bool true):=kS1.cell 4
      have s15:w1.cell? ⟨wo.heap.size,5,none⟩=some (.bool false):=kS1.cell 5
      have s16:w1.cell? ⟨wo.heap.size,6,none⟩=some (.int .i64 v):=kS1.cell 6
      have s17:w1.cell? ⟨wo.heap.size,7,none⟩=some (.bool false):=kS1.cell 7
      have s18:w1.cell? ⟨wo.heap.size,8,none⟩=some (.bool true):=kS1.cell 8
      have r10:w1.cell? ⟨w.heap.size,0,none⟩=some (.int .i64 0):=kR1.cell 0
      have f10:=kR1.frozen 0
      have r11:w1.cell? ⟨w.heap.size,1,none⟩=some (.bool false):=kR1.cell 1
      have f11:=kR1.frozen 1
      have r12:w1.cell? ⟨w.heap.size,2,none⟩=some (.bool false):=kR1.cell 2
      have f12:=kR1.frozen 2
      have x10:w1.cell? ⟨wo.heap.size+1,0,none⟩=some (.int .i64 v):=by simpa using kV1.cell 0
      have x11:w1.cell? ⟨wo.heap.size+1,1,none⟩=some (.bool false):=by simpa using kV1.cell 1
      have x12:w1.cell? ⟨wo.heap.size+1,2,none⟩=some (.bool false):=by simpa using kV1.cell 2
      have zS1:=kS1.lt
      have zR1:=kR1.lt
      have zV1:wo.heap.size+1 < w1.heap.size:=by simpa using kV1.lt
      have KS1:=Lib.hid kS1
      have KR1:=Lib.hid kR1
      clear kS1 kR1 kV1
      go_wp2_with fail
      rw [rounds_succ]
      go_wp2_with fail
      refine (P1.out _).mono ?_
      rintro e w2 ⟨rfl,hb2⟩
      have kS2:=(KS1.out.alloc _).after hb2
      have kR2:=(KR1.out.alloc _).after hb2
      have kV2:=(Blk.new _ _ _).after hb2
      have s20:w2.cell? ⟨wo.heap.size,0,none⟩=some (.int .i64 v):=kS2.cell 0
      have s21:w2.cell? ⟨wo.heap.size,1,none⟩=some (.bool false):=kS2.cell 1
      have s22:w2.cell? ⟨wo.heap.size,2,none⟩=some (.bool false):=kS2.cell 2
      have s23:w2.cell? ⟨wo.heap.size,3,none⟩=some (.int .i64 v):=kS2.cell 3
      have s24:w2.cell? ⟨wo.heap.size,4,none⟩=some (.bool true):=kS2.cell 4
      have s25:w2.cell? ⟨wo.heap.size,5,none⟩=some (.bool false):=kS2.cell 5
      have s26:w2.cell? ⟨wo.heap.size,6,none⟩=some (.int .i64 v):=kS2.cell 6
      have s27:w2.cell? ⟨wo.heap.size,7,none⟩=some (.bool false):=kS2.cell 7
      have s28:w2.cell? ⟨wo.heap.size,8,none⟩=some (.bool true):=kS2.cell 8
      have r20:w2.cell? ⟨w.heap.size,0,none⟩=some (.int .i64 0):=kR2.cell 0
      have f20:=kR2.frozen 0
      have r21:w2.cell? ⟨w.heap.size,1,none⟩=some (.bool false):=kR2.cell 1
      have f21:=kR2.frozen 1
      have r22:w2.cell? ⟨w.heap.size,2,none⟩=some (.bool false):=kR2.cell 2
      have f22:=kR2.frozen 2
      have x20:w2.cell? ⟨w1.heap.size,0,none⟩=some (.int .i64 v):=kV2.cell 0
      have x21:w2.cell? ⟨w1.heap.size,1,none⟩=some (.bool true):=kV2.cell 1
      have x22:w2.cell? ⟨w1.heap.size,2,none⟩=some (.bool false):=kV2.cell 2
      have zS2:=kS2.lt
      have zR2:=kR2.lt
      have zV2:w1.heap.size < w2.heap.size:=kV2.lt
      have KS2:=Lib.hid kS2
      have KR2:=Lib.hid kR2
      clear kS2 kR2 kV2
      go_wp2_with fail
      exact bodyPost_ret (v:=.tuple #[.agg #[.int .i64 v,.bool true,.bool false],.int .i64 0]) (by simp [results,Tryz.results92,go_sem,r20,r21,r22]) rfl (Ret.mk' (by rw [HR.out];rfl) zqb)
     ·have t1':(tW v 1 == l)=false:=by simpa using t1
      have m1:tmM 4 l v 1=false:=by unfold tmM;rw [t1',Bool.and_false,Bool.and_false]
      clear t1
      by_cases t2:tmM 4 l v 2=true
      ·have HR:=Lib.hid (show scanT (tmM 4 l) 0 8=some (v,2) from by rw [HS.out,show 8 - v=(7 - v)+1 from by omega];exact scanT_yes _ _ _ _ (by rw [find3,m0,m1,if_neg (by decide),if_neg (by decide),if_pos t2]))
       simp only [tmM,Bool.and_eq_true] at t2
       obtain ⟨_,t3,t4⟩:=t2
       clear m0 m1
       go_wp2_with fail
       refine wp_loop_rounds 4 ?_
       rw [rounds_succ]
       go_wp2_with fail
       refine (P0.out _).mono ?_
       rintro e w1 ⟨rfl,hb1⟩
       have kS1:=(KS0.out.alloc _).after hb1
       have kR1:=(KR0.out.alloc _).after hb1
       have kV1:=(Blk.new _ _ _).after hb1
       have s10:w1.cell? ⟨wo.heap.size,0,none⟩=some (.int .i64 v):=kS1.cell 0
       have s11:w1.cell? ⟨wo.heap.size,1,none⟩=some (.bool false):=kS1.cell 1
       have s12:w1.cell? ⟨wo.heap.size,2,none⟩=some (.bool false):=kS1.cell 2
       have s13:w1.cell? ⟨wo.heap.size,3,none⟩=some (.int .i64 v):=kS1.cell 3
       have s14:w1.cell? ⟨wo.heap.size,4,none⟩=some (.bool true):=kS1.cell 4
       have s15:w1.cell? ⟨wo.heap.size,5,none⟩=some (.bool false):=kS1.cell 5
       have s16:w1.cell? ⟨wo.heap.size,6,none⟩=some (.int .i64 v):=kS1.cell 6
       have s17:w1.cell? ⟨wo.heap.size,7,none⟩=some (.bool false):=kS1.cell 7
       have s18:w1.cell? ⟨wo.heap.size,8,none⟩=some (.bool true):=kS1.cell 8
       have r10:w1.cell? ⟨w.heap.size,0,none⟩=some (.int .i64 0):=kR1.cell 0
       have f10:=kR1.frozen 0
       have r11:w1.cell? ⟨w.heap.size,1,none⟩=some (.bool false):=kR1.cell 1
       have f11:=kR1.frozen 1
       have r12:w1.cell? ⟨w.heap.size,2,none⟩=some (.bool false):=kR1.cell 2
       have f12:=kR1.frozen 2
       have x10:w1.cell? ⟨wo.heap.size+1,0,none⟩=some (.int .i64 v):=by simpa using kV1.cell 0
       have x11:w1.cell? ⟨wo.heap.size+1,1,none⟩=some (.bool false):=by simpa using kV1.cell 1
       have x12:w1.cell? ⟨wo.heap.size+1,2,none⟩=some (.bool false):=by simpa using kV1.cell 2
       have zS1:=kS1.lt
       have zR1:=kR1.lt
       have zV1:wo.heap.size+1 < w1.heap.size:=by simpa using kV1.lt
       have KS1:=Lib.hid kS1
       have KR1:=Lib.hid kR1
       clear kS1 kR1 kV1
       go_wp2_with fail
       rw [rounds_succ]
       go_wp2_with fail
       refine (P1.out _).mono ?_
       rintro e w2 ⟨rfl,hb2⟩
       have kS2:=(KS1.out.alloc _).after hb2
       have kR2:=(KR1.out.alloc _).after hb2
       have kV2:=(Blk.new _ _ _).after hb2
       have s20:w2.cell? ⟨wo.heap.size,0,none⟩=some (.int .i64 v):=kS2.cell 0
       have s21:w2.cell? ⟨wo.heap.size,1,none⟩=some (.bool false):=kS2.cell 1
       have s22:w2.cell? ⟨wo.heap.size,2,none⟩=some (.bool false):=kS2.cell 2
       have s23:w2.cell? ⟨wo.heap.size,3,none⟩=some (.int .i64 v):=kS2.cell 3
       have s24:w2.cell? ⟨wo.heap.size,4,none⟩=some (.bool true):=kS2.cell 4
       have s25:w2.cell? ⟨wo.heap.size,5,none⟩=some (.bool false):=kS2.cell 5
       have s26:w2.cell? ⟨wo.heap.size,6,none⟩=some (.int .i64 v):=kS2.cell 6
       have s27:w2.cell? ⟨wo.heap.size,7,none⟩=some (.bool false):=kS2.cell 7
       have s28:w2.cell? ⟨wo.heap.size,8,none⟩=some (.bool true):=kS2.cell 8
       have r20:w2.cell? ⟨w.heap.size,0,none⟩=some (.int .i64 0):=kR2.cell 0
       have f20:=kR2.frozen 0
       have r21:w2.cell? ⟨w.heap.size,1,none⟩=some (.bool false):=kR2.cell 1
       have f21:=kR2.frozen 1
       have r22:w2.cell? ⟨w.heap.size,2,none⟩=some (.bool false):=kR2.cell 2
       have f22:=kR2.frozen 2
       have x20:w2.cell? ⟨w1.heap.size,0,none⟩=some (.int .i64 v):=kV2.cell 0
       have x21:w2.cell? ⟨w1.heap.size,1,none⟩=some (.bool true):=kV2.cell 1
       have x22:w2.cell? ⟨w1.heap.size,2,none⟩=some (.bool false):=kV2.cell 2
       have zS2:=kS2.lt
       have zR2:=kR2.lt
       have zV2:w1.heap.size < w2.heap.size:=kV2.lt
       have KS2:=Lib.hid kS2
       have KR2:=Lib.hid kR2
       clear kS2 kR2 kV2
       go_wp2_with fail
       rw [rounds_succ]
       go_wp2_with fail
       refine (P2.out _).mono ?_
       rintro e w3 ⟨rfl,hb3⟩
       have kS3:=(KS2.out.alloc _).after hb3
       have kR3:=(KR2.out.alloc _).after hb3
       have kV3:=(Blk.new _ _ _).after hb3
       have s30:w3.cell? ⟨wo.heap.size,0,none⟩=some (.int .i64 v):=kS3.cell 0
       have s31:w3.cell? ⟨wo.heap.size,1,none⟩=some (.bool false):=kS3.cell 1
       have s32:w3.cell? ⟨wo.heap.size,2,none⟩=some (.bool false):=kS3.cell 2
       have s33:w3.cell? ⟨wo.heap.size,3,none⟩=some (.int .i64 v):=kS3.cell 3
       have s34:w3.cell? ⟨wo.heap.size,4,none⟩=some (.bool true):=kS3.cell 4
       have s35:w3.cell? ⟨wo.heap.size,5,none⟩=some (.bool false):=kS3.cell 5
       have s36:w3.cell? ⟨wo.heap.size,6,none⟩=some (.int .i64 v):=kS3.cell 6
       have s37:w3.cell? ⟨wo.heap.size,7,none⟩=some (.bool false):=kS3.cell 7
       have s38:w3.cell? ⟨wo.heap.size,8,none⟩=some (.bool true):=kS3.cell 8
       have r30:w3.cell? ⟨w.heap.size,0,none⟩=some (.int .i64 0):=kR3.cell 0
       have f30:=kR3.frozen 0
       have r31:w3.cell? ⟨w.heap.size,1,none⟩=some (.bool false):=kR3.cell 1
       have f31:=kR3.frozen 1
       have r32:w3.cell? ⟨w.heap.size,2,none⟩=some (.bool false):=kR3.cell 2
       have f32:=kR3.frozen 2
       have x30:w3.cell? ⟨w2.heap.size,0,none⟩=some (.int .i64 v):=kV3.cell 0
       have x31:w3.cell? ⟨w2.heap.size,1,none⟩=some (.bool false):=kV3.cell 1
       have x32:w3.cell? ⟨w2.heap.size,2,none⟩=some (.bool true):=kV3.cell 2
       have zS3:=kS3.lt
       have zR3:=kR3.lt
       have zV3:w2.heap.size < w3.heap.size:=kV3.lt
       have KS3:=Lib.hid kS3
       have KR3:=Lib.hid kR3
       clear kS3 kR3 kV3
       go_wp2_with fail
       exact bodyPost_ret (v:=.tuple #[.agg #[.int .i64 v,.bool false,.bool true],.int .i64 0]) (by simp [results,Tryz.results92,go_sem,r30,r31,r32]) rfl (Ret.mk' (by rw [HR.out];rfl) zqb)
      ·have HN:=Lib.hid (show scanT (tmM 4 l) 0 8=scanT (tmM 4 l) (v+1) (8 - (v+1)) from by
        rw [HS.out,show 8 - v=(8 - (v+1))+1 from by omega]
        exact scanT_no _ _ _ (by rw [find3,m0,m1,if_neg (by decide),if_neg (by decide),if_neg t2]))
       have t2':tmM 4 l v 2=false:=by simpa using t2
       clear t2 m0 m1
       have t3:tOk 4 v 2=false∨(tOk 4 v 2=true∧(tW v 2 == l)=false):=by
        cases hk:tOk 4 v 2 with
        | false=>exact .inl rfl
        | true=>refine .inr ⟨rfl,?_⟩;unfold tmM at t2';rw [hk,hv0] at t2';simpa using t2'
       clear t2'
       rcases t3 with t3|⟨t3,t4⟩
       all_goals
        go_wp2_with fail
        refine wp_loop_rounds 4 ?_
        rw [rounds_succ]
        go_wp2_with fail
        refine (P0.out _).mono ?_
        rintro e w1 ⟨rfl,hb1⟩
        have kS1:=(KS0.out.alloc _).after hb1
        have kR1:=(KR0.out.alloc _).after hb1
        have kV1:=(Blk.new _ _ _).after hb1
        have s10:w1.cell? ⟨wo.heap.size,0,none⟩=some (.int .i64 v):=kS1.cell 0
        have s11:w1.cell? ⟨wo.heap.size,1,none⟩=some (.bool false):=kS1.cell 1
        have s12:w1.cell? ⟨wo.heap.size,2,none⟩=some (.bool false):=kS1.cell 2
        have s13:w1.cell? ⟨wo.heap.size,3,none⟩=some (.int .i64 v):=kS1.cell 3
        have s14:w1.cell? ⟨wo.heap.size,4,none⟩=some (.bool true):=kS1.cell 4
        have s15:w1.cell? ⟨wo.heap.size,5,none⟩=some (.bool false):=kS1.cell 5
        have s16:w1.cell? ⟨wo.heap.size,6,none⟩=some (.int .i64 v):=kS1.cell 6
        have s17:w1.cell? ⟨wo.heap.size,7,none⟩=some (.bool false):=kS1.cell 7
        have s18:w1.cell? ⟨wo.heap.size,8,none⟩=some (.bool true):=kS1.cell 8
        have r10:w1.cell? ⟨w.heap.size,0,none⟩=some (.int .i64 0):=kR1.cell 0
        have f10:=kR1.frozen 0
        have r11:w1.cell? ⟨w.heap.size,1,none⟩=some (.bool false):=kR1.cell 1
        have f11:=kR1.frozen 1
        have r12:w1.cell? ⟨w.heap.size,2,none⟩=some (.bool false):=kR1.cell 2
        have f12:=kR1.frozen 2
        have x10:w1.cell? ⟨wo.heap.size+1,0,none⟩=some (.int .i64 v):=by simpa using kV1.cell 0
        have x11:w1.cell? ⟨wo.heap.size+1,1,none⟩=some (.bool false):=by simpa using kV1.cell 1
        have x12:w1.cell? ⟨wo.heap.size+1,2,none⟩=some (.bool false):=by simpa using kV1.cell 2
        have zS1:=kS1.lt
        have zR1:=kR1.lt
        have zV1:wo.heap.size+1 < w1.heap.size:=by simpa using kV1.lt
        have KS1:=Lib.hid kS1
        have KR1:=Lib.hid kR1
        clear kS1 kR1 kV1
        go_wp2_with fail
        rw [rounds_succ]
        go_wp2_with fail
        refine (P1.out _).mono ?_
        rintro e w2 ⟨rfl,hb2⟩
        have kS2:=(KS1.out.alloc _).after hb2
        have kR2:=(KR1.out.alloc _).after hb2
        have kV2:=(Blk.new _ _ _).after hb2
        have s20:w2.cell? ⟨wo.heap.size,0,none⟩=some (.int .i64 v):=kS2.cell 0
        have s21:w2.cell? ⟨wo.heap.size,1,none⟩=some (.bool false):=kS2.cell 1
        have s22:w2.cell? ⟨wo.heap.size,2,none⟩=some (.bool false):=kS2.cell 2
        have s23:w2.cell? ⟨wo.heap.size,3,none⟩=some (.int .i64 v):=kS2.cell 3
        have s24:w2.cell? ⟨wo.heap.size,4,none⟩=some (.bool true):=kS2.cell 4
        have s25:w2.cell? ⟨wo.heap.size,5,none⟩=some (.bool false):=kS2.cell 5
        have s26:w2.cell? ⟨wo.heap.size,6,none⟩=some (.int .i64 v):=kS2.cell 6
        have s27:w2.cell? ⟨wo.heap.size,7,none⟩=some (.bool false):=kS2.cell 7
        have s28:w2.cell? ⟨wo.heap.size,8,none⟩=some (.bool true):=kS2.cell 8
        have r20:w2.cell? ⟨w.heap.size,0,none⟩=some (.int .i64 0):=kR2.cell 0
        have f20:=kR2.frozen 0
        have r21:w2.cell? ⟨w.heap.size,1,none⟩=some (.bool false):=kR2.cell 1
        have f21:=kR2.frozen 1
        have r22:w2.cell? ⟨w.heap.size,2,none⟩=some (.bool false):=kR2.cell 2
        have f22:=kR2.frozen 2
        have x20:w2.cell? ⟨w1.heap.size,0,none⟩=some (.int .i64 v):=kV2.cell 0
        have x21:w2.cell? ⟨w1.heap.size,1,none⟩=some (.bool true):=kV2.cell 1
        have x22:w2.cell? ⟨w1.heap.size,2,none⟩=some (.bool false):=kV2.cell 2
        have zS2:=kS2.lt
        have zR2:=kR2.lt
        have zV2:w1.heap.size < w2.heap.size:=kV2.lt
        have KS2:=Lib.hid kS2
        have KR2:=Lib.hid kR2
        clear kS2 kR2 kV2
        go_wp2_with fail
        rw [rounds_succ]
        go_wp2_with fail
        refine (P2.out _).mono ?_
        rintro e w3 ⟨rfl,hb3⟩
        have kS3:=(KS2.out.alloc _).after hb3
        have kR3:=(KR2.out.alloc _).after hb3
        have kV3:=(Blk.new _ _ _).after hb3
        have s30:w3.cell? ⟨wo.heap.size,0,none⟩=some (.int .i64 v):=kS3.cell 0
        have s31:w3.cell? ⟨wo.heap.size,1,none⟩=some (.bool false):=kS3.cell 1
        have s32:w3.cell? ⟨wo.heap.size,2,none⟩=some (.bool false):=kS3.cell 2
        have s33:w3.cell? ⟨wo.heap.size,3,none⟩=some (.int .i64 v):=kS3.cell 3
        have s34:w3.cell? ⟨wo.heap.size,4,none⟩=some (.bool true):=kS3.cell 4
        have s35:w3.cell? ⟨wo.heap.size,5,none⟩=some (.bool false):=kS3.cell 5
        have s36:w3.cell? ⟨wo.heap.size,6,none⟩=some (.int .i64 v):=kS3.cell 6
        have s37:w3.cell? ⟨wo.heap.size,7,none⟩=some (.bool false):=kS3.cell 7
        have s38:w3.cell? ⟨wo.heap.size,8,none⟩=some (.bool true):=kS3.cell 8
        have r30:w3.cell? ⟨w.heap.size,0,none⟩=some (.int .i64 0):=kR3.cell 0
        have f30:=kR3.frozen 0
        have r31:w3.cell? ⟨w.heap.size,1,none⟩=some (.bool false):=kR3.cell 1
        have f31:=kR3.frozen 1
        have r32:w3.cell? ⟨w.heap.size,2,none⟩=some (.bool false):=kR3.cell 2
        have f32:=kR3.frozen 2
        have x30:w3.cell? ⟨w2.heap.size,0,none⟩=some (.int .i64 v):=kV3.cell 0
        have x31:w3.cell? ⟨w2.heap.size,1,none⟩=some (.bool false):=kV3.cell 1
        have x32:w3.cell? ⟨w2.heap.size,2,none⟩=some (.bool true):=kV3.cell 2
        have zS3:=kS3.lt
        have zR3:=kR3.lt
        have zV3:w2.heap.size < w3.heap.size:=kV3.lt
        have KS3:=Lib.hid kS3
        have KR3:=Lib.hid kR3
        clear kS3 kR3 kV3
        go_wp2_with fail
        rw [rounds_succ]
        go_wp2_with fail
        go_roundw
        case rel=>exact ⟨v+1,by omega,by go_num,HN.out,zqb,KR3.out⟩
        case measure=>simp [intOf];omega
  ·have HR:=Lib.hid (show scanT (tmM 4 l) 0 8=none from by rw [HS.out,show 8 - v=0 from by omega];rfl)
   go_wp2_with fail
   exact bodyPost_ret (v:=.tuple #[.agg #[.int .i64 0,.bool false,.bool false],.int .i64 4]) (by simp [results,Tryz.results92,go_sem,q0,q1,q2]) rfl (Ret.mk' (by rw [HR.out];rfl) zqb)
end Go.Proofs.YthehkchjdkdbiaaGreatDoor
