/- Cell of the reference. -/
import Derived.Test.YthehkchjdkdbiaaGreatDoorRMkHq
set_option maxHeartbeats 1600000
set_option maxRecDepth 100000
set_option linter.unusedVariables false
set_option linter.unusedSimpArgs false
namespace Go.Proofs.YthehkchjdkdbiaaGreatDoor
section
open Go.RowKit
attribute [local go_sem]mk_bs bs_size bs_toList bs_append bs_extract
attribute [local simp]run_cut run_cut_to run_cut_from run_add_bs
def wantsL(s c f r g h L:Int):List Int :=
 if rS s c f=[]then [1]else(if okR s r=true then []else [2])++(if okG s g=true then []else [3])++(if okH s h L=true then []else [4])
theorem part_of(b:Bool)(n:Int):∃ l:List Int,(if b=true then []else [n])=l∧(b=true→l=[])∧(b=false→l=[n])∧l.length≤1:=by
 cases b
 ·exact⟨[n],rfl,(fun h=>by cases h),fun _=>rfl,by simp⟩
 ·exact⟨[],rfl,fun _=>rfl,(fun h=>by cases h),by simp⟩
theorem mark_cases (n:Int) (l:List UInt8) (h:0≤n) :
  (n≤0∧(n == 0|| !l.isEmpty)=true∧n<1)∨(0<n∧(n == 0|| !l.isEmpty)=true∧(l == [])=false∧l.isEmpty=false)∨(0<n∧(n == 0|| !l.isEmpty)=false∧(l == [])=true∧l.isEmpty=true):=by
 by_cases h0:n=0
 ·subst h0;exact .inl ⟨by omega,rfl,by omega⟩
 ·have hb:(n == 0)=false:=by simpa using h0
  cases l with
  | nil=>exact .inr (.inr ⟨by omega,by rw [hb];rfl,rfl,rfl⟩)
  | cons a r=>exact .inr (.inl ⟨by omega,by rw [hb];rfl,rfl,rfl⟩)
def RetInts (l:List Int)(W:World)(en:Ending)(w':World):Prop:=∃ v,en=.returned v∧w'.ownsRow W.heap.size 3 1 v l.length (l.map (Value.int .i64))∧Below W.heap.size W w'
theorem info_int:(Tryz.prog.info? 3).map (fun i=>(i.zero,i.size,i.bytes))=some (some (.int .i64 0),1,8):=by kernel_rfl
theorem wants_some (s c f r g h L:Int) (w:World) (hs:1≤s∧s≤4) (hc:1≤c∧c≤14) (hf:0≤f∧f≤18) (hr:0≤r∧r≤3) (hg:0≤g∧g≤4) (hh:0≤h∧h≤99) (hne:rS s c f≠[]) :
  Calls Tryz.prog 132 #[.int .u8 s,.agg #[.int .i64 c,.int .i64 f,.int .i64 r,.int .i64 g,.int .i64 h],.int .i64 L] w (RetInts (wantsL s c f r g h L) w):=by
 have e:wantsL s c f r g h L=(if okR s r=true then [] else [2])++(if okG s g=true then [] else [3])++(if okH s h L=true then [] else [4]):=if_neg hne
 have h1:(rS s c f == [])=false:=by simpa using hne
 have h2:(rS s c f).isEmpty=false:=by simpa using hne
 rw [e]
 obtain ⟨lr,elr,r1,r2,r3⟩:=part_of (okR s r) 2
 obtain ⟨lg,elg,g1,g2,g3⟩:=part_of (okG s g) 3
 obtain ⟨lh,elh,j1,j2,j3⟩:=part_of (okH s h L) 4
 rw [elr,elg,elh]
 have PR1:=Lib.hid r1
 have PR2:=Lib.hid r2
 have PG1:=Lib.hid g1
 have PG2:=Lib.hid g2
 have PH1:=Lib.hid j1
 have PH2:=Lib.hid j2
 clear elr elg elh r1 r2 g1 g2 j1 j2
 have HS:=Lib.hid hs
 obtain ⟨i0,hi,hz0,hz1,hz2⟩:=info_parts info_int
 clear e hne hs
 go_enter Tryz.func132,Tryz.ntmps132
 go_upto_region 4 with (go_at_call 192;refine (rsymbol_any _ _ _ _ HS.out hc hf).mono ?_;rintro e w1 ⟨rfl,hb1⟩;have k1:=(Blk.new _ _ _).after hb1;have K1:=Lib.hid k1;clear k1)
 obtain ⟨wA0,hwA⟩:∃ x:World,x=w1:=⟨_,rfl⟩
 subst hwA
 have N0:=Lib.hid (show wA0.ownsRow (w.heap.size+1) 3 1 (.slice none 0 0) ([]:List Int).length (([]:List Int).map (Value.int .i64)) from ⟨rfl,.inl ⟨rfl,rfl⟩⟩)
 have B0:=Lib.hid (show Below w.heap.size w wA0 from zqb)
 have D0:=K1
 clear K1 hb1
 go_upto_region 4 with fail
 have x0:wA0.cell? ⟨w.heap.size,2,none⟩=some (.int .i64 r):=D0.out.cell 2
 go_cut [25] (fun b wx=>b=.bool (!okR s r)∧wx=wA0)
 case first =>
  rcases mark_cases r (rR s r) hr.1 with ⟨q1,q2,q3⟩|⟨q1,q2,q3,q4⟩|⟨q1,q2,q3,q4⟩
  all_goals
   go_wp2_with (go_at_call 193;refine (rright_any _ _ _ HS.out hr).mono ?_;rintro e w' ⟨rfl,hw⟩;rw [hw];clear hw)
   go_meet
   exact ⟨by unfold okR;rw [q2];rfl,rfl⟩
 case rest =>
 obtain ⟨hcb,hcw⟩:=hcut
 subst hcb
 subst hcw
 obtain ⟨wB0,hwA⟩:∃ x:World,x=wc:=⟨_,rfl⟩
 subst hwA
 clear x0
 go_upto_if 25 with fail
 go_cut [7] (fun v wx=>wx.ownsRow (w.heap.size+1) 3 1 v (([]:List Int)++lr).length ((([]:List Int)++lr).map (Value.int .i64))∧Below w.heap.size w wx∧Blk wx w.heap.size 69 #[.int .i64 c,.int .i64 f,.int .i64 r,.int .i64 g,.int .i64 h])
 case first =>
  cases hk:okR s r with
  | true =>
   have el:lr=[]:=PR1.out hk
   subst el
   go_wp2_with fail
   go_meet
   exact ⟨by simpa using N0.out,B0.out,D0.out⟩
  | false =>
   have el:lr=_:=PR2.out hk
   subst el
   have Q1:=Lib.hid (World.news_of_block (cs:=#[.int .i64 2]) (t:=3) (fr:=(0,0)) (heap_alloc_new wB0 (.cells #[.int .i64 2] 3)))
   have Q2:=Lib.hid (show ∀ u∈[Value.int .i64 2],u.oneCell'=true from by simp [Value.oneCell'])
   have Q3:=Lib.hid (show ([]:List Int).length+1≤maxLen from by unfold maxLen;simp;try omega)
   have Q4:=Lib.hid (show (([]:List Int).length+1)*8≤140737488355328 from by simp;try omega)
   have Q5:=Lib.hid (show w.heap.size+1≤(wB0.alloc (.cells #[.int .i64 2] 3)).heap.size from by have hz9:=D0.out.lt;simp;omega)
   go_wp2_with (at_builtin;refine wpList_append_own _ rfl (.tmp 26) (.tmp 27) 25 rfl (w.heap.size+1) 3 i0 (.int .i64 0) 1 8 Tryz.underlying25 hi hz0 hz1 hz2 rfl (by decide) _ _ _ rfl (N0.out.alloc _) ⟨wB0.heap.size,0,none⟩ 1 1 [.int .i64 2] rfl rfl Q1.out Q2.out Q3.out Q4.out Q5.out ?_)
   intro v' w2 hown1 hgrow _
   have hbel1:Below w.heap.size w w2:=(bel_alloc B0.out _).grown hgrow (by have:=B0.out.size;simp;omega) (fun k hk=>by have:=own_ge (N0.out.alloc (.cells #[] 0)) k hk;omega)
   have hblk1:Blk w2 w.heap.size 69 #[.int .i64 c,.int .i64 f,.int .i64 r,.int .i64 g,.int .i64 h]:=(D0.out.alloc _).below ((Below.refl (w.heap.size+1) _).grown hgrow (by have:=D0.out.lt;simp;omega) (own_ge (N0.out.alloc (.cells #[] 0)))) (by omega)
   have Q:=Lib.hid (And.intro hown1 (And.intro hbel1 hblk1))
   clear hown1 hgrow hbel1 hblk1
   go_wp2_with fail
   go_meet
   exact ⟨by simpa [Nat.add_assoc] using Q.out.1,Q.out.2.1,Q.out.2.2⟩
 case rest =>
 obtain ⟨hc1,hc2,hc3⟩:=hcut
 obtain ⟨wA1,hwA⟩:∃ x:World,x=wc:=⟨_,rfl⟩
 subst hwA
 have N1:=Lib.hid hc1
 have B1:=Lib.hid hc2
 have D1:=Lib.hid hc3
 clear hc1 hc2 hc3 N0 B0 D0
 go_upto_region 6 with fail
 have x1:wA1.cell? ⟨w.heap.size,3,none⟩=some (.int .i64 g):=D1.out.cell 3
 go_cut [38] (fun b wx=>b=.bool (!okG s g)∧wx=wA1)
 case first =>
  rcases mark_cases g (rG s g) hg.1 with ⟨q1,q2,q3⟩|⟨q1,q2,q3,q4⟩|⟨q1,q2,q3,q4⟩
  all_goals
   go_wp2_with (go_at_call 194;refine (rgrace_any _ _ _ HS.out hg).mono ?_;rintro e w' ⟨rfl,hw⟩;rw [hw];clear hw)
   go_meet
   exact ⟨by unfold okG;rw [q2];rfl,rfl⟩
 case rest =>
 obtain ⟨hcb,hcw⟩:=hcut
 subst hcb
 subst hcw
 obtain ⟨wB1,hwA⟩:∃ x:World,x=wc:=⟨_,rfl⟩
 subst hwA
 clear x1
 go_upto_if 38 with fail
 go_cut [7] (fun v wx=>wx.ownsRow (w.heap.size+1) 3 1 v ((([]:List Int)++lr)++lg).length (((([]:List Int)++lr)++lg).map (Value.int .i64))∧Below w.heap.size w wx∧Blk wx w.heap.size 69 #[.int .i64 c,.int .i64 f,.int .i64 r,.int .i64 g,.int .i64 h])
 case first =>
  cases hk:okG s g with
  | true =>
   have el:lg=[]:=PG1.out hk
   subst el
   go_wp2_with fail
   go_meet
   exact ⟨by simpa using N1.out,B1.out,D1.out⟩
  | false =>
   have el:lg=_:=PG2.out hk
   subst el
   have Q1:=Lib.hid (World.news_of_block (cs:=#[.int .i64 3]) (t:=3) (fr:=(0,0)) (heap_alloc_new wB1 (.cells #[.int .i64 3] 3)))
   have Q2:=Lib.hid (show ∀ u∈[Value.int .i64 3],u.oneCell'=true from by simp [Value.oneCell'])
   have Q3:=Lib.hid (show ([]++lr).length+1≤maxLen from by unfold maxLen;simp;try omega)
   have Q4:=Lib.hid (show (([]++lr).length+1)*8≤140737488355328 from by simp;try omega)
   have Q5:=Lib.hid (show w.heap.size+1≤(wB1.alloc (.cells #[.int .i64 3] 3)).heap.size from by have hz9:=D1.out.lt;simp;omega)
   go_wp2_with (at_builtin;refine wpList_append_own _ rfl (.tmp 39) (.tmp 40) 25 rfl (w.heap.size+1) 3 i0 (.int .i64 0) 1 8 Tryz.underlying25 hi hz0 hz1 hz2 rfl (by decide) _ _ _ rfl (N1.out.alloc _) ⟨wB1.heap.size,0,none⟩ 1 1 [.int .i64 3] rfl rfl Q1.out Q2.out Q3.out Q4.out Q5.out ?_)
   intro v' w2 hown1 hgrow _
   have hbel1:Below w.heap.size w w2:=(bel_alloc B1.out _).grown hgrow (by have:=B1.out.size;simp;omega) (fun k hk=>by have:=own_ge (N1.out.alloc (.cells #[] 0)) k hk;omega)
   have hblk1:Blk w2 w.heap.size 69 #[.int .i64 c,.int .i64 f,.int .i64 r,.int .i64 g,.int .i64 h]:=(D1.out.alloc _).below ((Below.refl (w.heap.size+1) _).grown hgrow (by have:=D1.out.lt;simp;omega) (own_ge (N1.out.alloc (.cells #[] 0)))) (by omega)
   have Q:=Lib.hid (And.intro hown1 (And.intro hbel1 hblk1))
   clear hown1 hgrow hbel1 hblk1
   go_wp2_with fail
   go_meet
   exact ⟨by simpa [Nat.add_assoc] using Q.out.1,Q.out.2.1,Q.out.2.2⟩
 case rest =>
 obtain ⟨hc1,hc2,hc3⟩:=hcut
 obtain ⟨wA2,hwA⟩:∃ x:World,x=wc:=⟨_,rfl⟩
 subst hwA
 have N2:=Lib.hid hc1
 have B2:=Lib.hid hc2
 have D2:=Lib.hid hc3
 clear hc1 hc2 hc3 N1 B1 D1
 go_upto_region 8 with fail
 have x2:wA2.cell? ⟨w.heap.size,4,none⟩=some (.int .i64 h):=D2.out.cell 4
 go_cut [52] (fun b wx=>b=.bool (!okH s h L)∧wx=wA2)
 case first =>
  rcases mark_cases h (rH s h L) hh.1 with ⟨q1,q2,q3⟩|⟨q1,q2,q3,q4⟩|⟨q1,q2,q3,q4⟩
  all_goals
   go_wp2_with (go_at_call 195;refine (rhold_any _ _ _ _ HS.out hh).mono ?_;rintro e w' ⟨rfl,hw⟩;rw [hw];clear hw)
   go_meet
   exact ⟨by unfold okH;rw [q2];rfl,rfl⟩
 case rest =>
 obtain ⟨hcb,hcw⟩:=hcut
 subst hcb
 subst hcw
 obtain ⟨wB2,hwA⟩:∃ x:World,x=wc:=⟨_,rfl⟩
 subst hwA
 clear x2
 go_upto_if 52 with fail
 go_cut [7] (fun v wx=>wx.ownsRow (w.heap.size+1) 3 1 v (((([]:List Int)++lr)++lg)++lh).length ((((([]:List Int)++lr)++lg)++lh).map (Value.int .i64))∧Below w.heap.size w wx∧Blk wx w.heap.size 69 #[.int .i64 c,.int .i64 f,.int .i64 r,.int .i64 g,.int .i64 h])
 case first =>
  cases hk:okH s h L with
  | true =>
   have el:lh=[]:=PH1.out hk
   subst el
   go_wp2_with fail
   go_meet
   exact ⟨by simpa using N2.out,B2.out,D2.out⟩
  | false =>
   have el:lh=_:=PH2.out hk
   subst el
   have Q1:=Lib.hid (World.news_of_block (cs:=#[.int .i64 4]) (t:=3) (fr:=(0,0)) (heap_alloc_new wB2 (.cells #[.int .i64 4] 3)))
   have Q2:=Lib.hid (show ∀ u∈[Value.int .i64 4],u.oneCell'=true from by simp [Value.oneCell'])
   have Q3:=Lib.hid (show ([]++lr++lg).length+1≤maxLen from by unfold maxLen;simp;try omega)
   have Q4:=Lib.hid (show (([]++lr++lg).length+1)*8≤140737488355328 from by simp;try omega)
   have Q5:=Lib.hid (show w.heap.size+1≤(wB2.alloc (.cells #[.int .i64 4] 3)).heap.size from by have hz9:=D2.out.lt;simp;omega)
   go_wp2_with (at_builtin;refine wpList_append_own _ rfl (.tmp 53) (.tmp 54) 25 rfl (w.heap.size+1) 3 i0 (.int .i64 0) 1 8 Tryz.underlying25 hi hz0 hz1 hz2 rfl (by decide) _ _ _ rfl (N2.out.alloc _) ⟨wB2.heap.size,0,none⟩ 1 1 [.int .i64 4] rfl rfl Q1.out Q2.out Q3.out Q4.out Q5.out ?_)
   intro v' w2 hown1 hgrow _
   have hbel1:Below w.heap.size w w2:=(bel_alloc B2.out _).grown hgrow (by have:=B2.out.size;simp;omega) (fun k hk=>by have:=own_ge (N2.out.alloc (.cells #[] 0)) k hk;omega)
   have hblk1:Blk w2 w.heap.size 69 #[.int .i64 c,.int .i64 f,.int .i64 r,.int .i64 g,.int .i64 h]:=(D2.out.alloc _).below ((Below.refl (w.heap.size+1) _).grown hgrow (by have:=D2.out.lt;simp;omega) (own_ge (N2.out.alloc (.cells #[] 0)))) (by omega)
   have Q:=Lib.hid (And.intro hown1 (And.intro hbel1 hblk1))
   clear hown1 hgrow hbel1 hblk1
   go_wp2_with fail
   go_meet
   exact ⟨by simpa [Nat.add_assoc] using Q.out.1,Q.out.2.1,Q.out.2.2⟩
 case rest =>
 obtain ⟨hc1,hc2,hc3⟩:=hcut
 obtain ⟨wA3,hwA⟩:∃ x:World,x=wc:=⟨_,rfl⟩
 subst hwA
 have N3:=Lib.hid hc1
 have B3:=Lib.hid hc2
 have D3:=Lib.hid hc3
 clear hc1 hc2 hc3 N2 B2 D2
 go_wp2_with fail
 go_ret
 exact ⟨_,rfl,own_weaken (by simpa using N3.out) (by omega),B3.out⟩
end
section
open Go.RowKit
attribute [local go_sem]mk_bs bs_size bs_toList bs_append bs_extract
attribute [local simp]run_cut run_cut_to run_cut_from run_add_bs
theorem rCell_place (s c f r g h L E:Int) (T:List UInt8) (w:World) (hSY:∀ w,Calls Tryz.prog 129 #[.int .u8 s,.agg #[.int .i64 c,.int .i64 f]] w (Ret (.tuple #[.string (bs T),.int .i64 E]) w)) (h0:E≠0) (h1:E≠31) :
  Calls Tryz.prog 246 #[.int .u8 s,.agg #[.int .i64 c,.int .i64 f,.int .i64 r,.int .i64 g,.int .i64 h],.int .i64 L] w (Ret (.tuple #[.string (bs []),.int .i64 E]) w):=by
 have SY:=Lib.hid hSY
 clear hSY
 have e1:(E == 0)=false:=by simpa using h0
 have e2:(E != 0)=true:=by simpa using h0
 have e3:(E == 31)=false:=by simpa using h1
 have e4:(E != 31)=true:=by simpa using h1
 clear h0 h1
 go_enter Tryz.func246,Tryz.ntmps246
 go_wp2_with (go_at_call 129;refine (SY.out _).mono ?_;rintro e w1 ⟨rfl,hb1⟩;have k1:=(Blk.new _ _ _).after hb1;have x0:w1.cell? ⟨w.heap.size,0,none⟩=some (.int .i64 c):=k1.cell 0;have x1:w1.cell? ⟨w.heap.size,1,none⟩=some (.int .i64 f):=k1.cell 1;have x2:w1.cell? ⟨w.heap.size,2,none⟩=some (.int .i64 r):=k1.cell 2;have x3:w1.cell? ⟨w.heap.size,3,none⟩=some (.int .i64 g):=k1.cell 3;have x4:w1.cell? ⟨w.heap.size,4,none⟩=some (.int .i64 h):=k1.cell 4;have K1:=Lib.hid k1;clear k1)
 go_ret2
 exact Ret.mk' rfl zqb
theorem rCell_marks (s c f r g h L E:Int) (T:List UInt8) (w:World) (hSY:∀ w,Calls Tryz.prog 129 #[.int .u8 s,.agg #[.int .i64 c,.int .i64 f]] w (Ret (.tuple #[.string (bs T),.int .i64 E]) w)) (hE:E=0∨E=31) (hm:(r < 0∨3 < r)∨(g < 0∨4 < g)) :
  Calls Tryz.prog 246 #[.int .u8 s,.agg #[.int .i64 c,.int .i64 f,.int .i64 r,.int .i64 g,.int .i64 h],.int .i64 L] w (Ret (.tuple #[.string (bs []),.int .i64 23]) w):=by
 have SY:=Lib.hid hSY
 clear hSY
 by_cases h1:r < 0
 ·clear hm
  rcases hE with rfl|rfl
  all_goals
   go_enter Tryz.func246,Tryz.ntmps246
   go_wp2_with (go_at_call 129;refine (SY.out _).mono ?_;rintro e w1 ⟨rfl,hb1⟩;have k1:=(Blk.new _ _ _).after hb1;have x0:w1.cell? ⟨w.heap.size,0,none⟩=some (.int .i64 c):=k1.cell 0;have x1:w1.cell? ⟨w.heap.size,1,none⟩=some (.int .i64 f):=k1.cell 1;have x2:w1.cell? ⟨w.heap.size,2,none⟩=some (.int .i64 r):=k1.cell 2;have x3:w1.cell? ⟨w.heap.size,3,none⟩=some (.int .i64 g):=k1.cell 3;have x4:w1.cell? ⟨w.heap.size,4,none⟩=some (.int .i64 h):=k1.cell 4;have K1:=Lib.hid k1;clear k1)
   go_ret2
   exact Ret.mk' rfl zqb
 ·by_cases h2:3 < r
  ·clear hm
   rcases hE with rfl|rfl
   all_goals
    go_enter Tryz.func246,Tryz.ntmps246
    go_wp2_with (go_at_call 129;refine (SY.out _).mono ?_;rintro e w1 ⟨rfl,hb1⟩;have k1:=(Blk.new _ _ _).after hb1;have x0:w1.cell? ⟨w.heap.size,0,none⟩=some (.int .i64 c):=k1.cell 0;have x1:w1.cell? ⟨w.heap.size,1,none⟩=some (.int .i64 f):=k1.cell 1;have x2:w1.cell? ⟨w.heap.size,2,none⟩=some (.int .i64 r):=k1.cell 2;have x3:w1.cell? ⟨w.heap.size,3,none⟩=some (.int .i64 g):=k1.cell 3;have x4:w1.cell? ⟨w.heap.size,4,none⟩=some (.int .i64 h):=k1.cell 4;have K1:=Lib.hid k1;clear k1)
    go_ret2
    exact Ret.mk' rfl zqb
  ·by_cases h3:g < 0
   ·clear hm
    rcases hE with rfl|rfl
    all_goals
     go_enter Tryz.func246,Tryz.ntmps246
     go_wp2_with (go_at_call 129;refine (SY.out _).mono ?_;rintro e w1 ⟨rfl,hb1⟩;have k1:=(Blk.new _ _ _).after hb1;have x0:w1.cell? ⟨w.heap.size,0,none⟩=some (.int .i64 c):=k1.cell 0;have x1:w1.cell? ⟨w.heap.size,1,none⟩=some (.int .i64 f):=k1.cell 1;have x2:w1.cell? ⟨w.heap.size,2,none⟩=some (.int .i64 r):=k1.cell 2;have x3:w1.cell? ⟨w.heap.size,3,none⟩=some (.int .i64 g):=k1.cell 3;have x4:w1.cell? ⟨w.heap.size,4,none⟩=some (.int .i64 h):=k1.cell 4;have K1:=Lib.hid k1;clear k1)
     go_ret2
     exact Ret.mk' rfl zqb
   ·have h4:4 < g:=by omega
    clear hm
    rcases hE with rfl|rfl
    all_goals
     go_enter Tryz.func246,Tryz.ntmps246
     go_wp2_with (go_at_call 129;refine (SY.out _).mono ?_;rintro e w1 ⟨rfl,hb1⟩;have k1:=(Blk.new _ _ _).after hb1;have x0:w1.cell? ⟨w.heap.size,0,none⟩=some (.int .i64 c):=k1.cell 0;have x1:w1.cell? ⟨w.heap.size,1,none⟩=some (.int .i64 f):=k1.cell 1;have x2:w1.cell? ⟨w.heap.size,2,none⟩=some (.int .i64 r):=k1.cell 2;have x3:w1.cell? ⟨w.heap.size,3,none⟩=some (.int .i64 g):=k1.cell 3;have x4:w1.cell? ⟨w.heap.size,4,none⟩=some (.int .i64 h):=k1.cell 4;have K1:=Lib.hid k1;clear k1)
     go_ret2
     exact Ret.mk' rfl zqb
theorem rCell_holds (s c f r g h L E:Int) (T:List UInt8) (w:World) (hSY:∀ w,Calls Tryz.prog 129 #[.int .u8 s,.agg #[.int .i64 c,.int .i64 f]] w (Ret (.tuple #[.string (bs T),.int .i64 E]) w)) (hE:E=0∨E=31) (hr:0≤r∧r≤3) (hg:0≤g∧g≤4) (hm:((L < 0∨15 < L)∨(h < 0∨L < h))∨(0 < h∧f=0)) :
  Calls Tryz.prog 246 #[.int .u8 s,.agg #[.int .i64 c,.int .i64 f,.int .i64 r,.int .i64 g,.int .i64 h],.int .i64 L] w (Ret (.tuple #[.string (bs []),.int .i64 24]) w):=by
 have SY:=Lib.hid hSY
 clear hSY
 have n1:¬ r < 0:=by omega
 have n2:¬ 3 < r:=by omega
 have n3:¬ g < 0:=by omega
 have n4:¬ 4 < g:=by omega
 by_cases h1:L < 0
 ·clear hm
  rcases hE with rfl|rfl
  all_goals
   go_enter Tryz.func246,Tryz.ntmps246
   go_wp2_with (go_at_call 129;refine (SY.out _).mono ?_;rintro e w1 ⟨rfl,hb1⟩;have k1:=(Blk.new _ _ _).after hb1;have x0:w1.cell? ⟨w.heap.size,0,none⟩=some (.int .i64 c):=k1.cell 0;have x1:w1.cell? ⟨w.heap.size,1,none⟩=some (.int .i64 f):=k1.cell 1;have x2:w1.cell? ⟨w.heap.size,2,none⟩=some (.int .i64 r):=k1.cell 2;have x3:w1.cell? ⟨w.heap.size,3,none⟩=some (.int .i64 g):=k1.cell 3;have x4:w1.cell? ⟨w.heap.size,4,none⟩=some (.int .i64 h):=k1.cell 4;have K1:=Lib.hid k1;clear k1)
   go_ret2
   exact Ret.mk' rfl zqb
 ·by_cases h2:15 < L
  ·clear hm
   rcases hE with rfl|rfl
   all_goals
    go_enter Tryz.func246,Tryz.ntmps246
    go_wp2_with (go_at_call 129;refine (SY.out _).mono ?_;rintro e w1 ⟨rfl,hb1⟩;have k1:=(Blk.new _ _ _).after hb1;have x0:w1.cell? ⟨w.heap.size,0,none⟩=some (.int .i64 c):=k1.cell 0;have x1:w1.cell? ⟨w.heap.size,1,none⟩=some (.int .i64 f):=k1.cell 1;have x2:w1.cell? ⟨w.heap.size,2,none⟩=some (.int .i64 r):=k1.cell 2;have x3:w1.cell? ⟨w.heap.size,3,none⟩=some (.int .i64 g):=k1.cell 3;have x4:w1.cell? ⟨w.heap.size,4,none⟩=some (.int .i64 h):=k1.cell 4;have K1:=Lib.hid k1;clear k1)
    go_ret2
    exact Ret.mk' rfl zqb
  ·by_cases h3:h < 0
   ·clear hm
    rcases hE with rfl|rfl
    all_goals
     go_enter Tryz.func246,Tryz.ntmps246
     go_wp2_with (go_at_call 129;refine (SY.out _).mono ?_;rintro e w1 ⟨rfl,hb1⟩;have k1:=(Blk.new _ _ _).after hb1;have x0:w1.cell? ⟨w.heap.size,0,none⟩=some (.int .i64 c):=k1.cell 0;have x1:w1.cell? ⟨w.heap.size,1,none⟩=some (.int .i64 f):=k1.cell 1;have x2:w1.cell? ⟨w.heap.size,2,none⟩=some (.int .i64 r):=k1.cell 2;have x3:w1.cell? ⟨w.heap.size,3,none⟩=some (.int .i64 g):=k1.cell 3;have x4:w1.cell? ⟨w.heap.size,4,none⟩=some (.int .i64 h):=k1.cell 4;have K1:=Lib.hid k1;clear k1)
     go_ret2
     exact Ret.mk' rfl zqb
   ·by_cases h4:L < h
    ·clear hm
     rcases hE with rfl|rfl
     all_goals
      go_enter Tryz.func246,Tryz.ntmps246
      go_wp2_with (go_at_call 129;refine (SY.out _).mono ?_;rintro e w1 ⟨rfl,hb1⟩;have k1:=(Blk.new _ _ _).after hb1;have x0:w1.cell? ⟨w.heap.size,0,none⟩=some (.int .i64 c):=k1.cell 0;have x1:w1.cell? ⟨w.heap.size,1,none⟩=some (.int .i64 f):=k1.cell 1;have x2:w1.cell? ⟨w.heap.size,2,none⟩=some (.int .i64 r):=k1.cell 2;have x3:w1.cell? ⟨w.heap.size,3,none⟩=some (.int .i64 g):=k1.cell 3;have x4:w1.cell? ⟨w.heap.size,4,none⟩=some (.int .i64 h):=k1.cell 4;have K1:=Lib.hid k1;clear k1)
      go_ret2
      exact Ret.mk' rfl zqb
    ·have h5:0 < h:=by omega
     have h6:f=0:=by omega
     have h7:(h == 0)=false:=by simp;omega
     have h8:(h != 0)=true:=by simp;omega
     have h9:(f == 0)=true:=by simpa using h6
     clear hm h6
     rcases hE with rfl|rfl
     all_goals
      go_enter Tryz.func246,Tryz.ntmps246
      go_wp2_with (go_at_call 129;refine (SY.out _).mono ?_;rintro e w1 ⟨rfl,hb1⟩;have k1:=(Blk.new _ _ _).after hb1;have x0:w1.cell? ⟨w.heap.size,0,none⟩=some (.int .i64 c):=k1.cell 0;have x1:w1.cell? ⟨w.heap.size,1,none⟩=some (.int .i64 f):=k1.cell 1;have x2:w1.cell? ⟨w.heap.size,2,none⟩=some (.int .i64 r):=k1.cell 2;have x3:w1.cell? ⟨w.heap.size,3,none⟩=some (.int .i64 g):=k1.cell 3;have x4:w1.cell? ⟨w.heap.size,4,none⟩=some (.int .i64 h):=k1.cell 4;have K1:=Lib.hid k1;clear k1)
      go_ret2
      exact Ret.mk' rfl zqb
theorem rCell_cannot (s c f r g h L E:Int) (T:List UInt8) (w:World) (hSY:∀ w,Calls Tryz.prog 129 #[.int .u8 s,.agg #[.int .i64 c,.int .i64 f]] w (Ret (.tuple #[.string (bs T),.int .i64 E]) w)) (hE:E=31) (hr:0≤r∧r≤3) (hg:0≤g∧g≤4) (hm:¬ (((L < 0∨15 < L)∨(h < 0∨L < h))∨(0 < h∧f=0))) :
  Calls Tryz.prog 246 #[.int .u8 s,.agg #[.int .i64 c,.int .i64 f,.int .i64 r,.int .i64 g,.int .i64 h],.int .i64 L] w (Ret (.tuple #[.string (bs []),.int .i64 31]) w):=by
 have SY:=Lib.hid hSY
 clear hSY
 have n1:¬ r < 0:=by omega
 have n2:¬ 3 < r:=by omega
 have n3:¬ g < 0:=by omega
 have n4:¬ 4 < g:=by omega
 have n5:¬ L < 0:=by omega
 have n6:¬ 15 < L:=by omega
 have n7:¬ h < 0:=by omega
 have n8:¬ L < h:=by omega
 have hcase:((f == 0)=true∧(h == 0)=true∧(h != 0)=false)∨((f == 0)=false∧True∧True):=by
  by_cases hz:f=0
  ·have:h=0:=by omega
   exact .inl ⟨by simpa using hz,by simpa using this,by simpa using this⟩
  ·exact .inr ⟨by simpa using hz,trivial,trivial⟩
 clear hm
 subst hE
 rcases hcase with ⟨m1,m2,m3⟩|⟨m1,m2,m3⟩
 all_goals
  go_enter Tryz.func246,Tryz.ntmps246
  go_wp2_with (go_at_call 129;refine (SY.out _).mono ?_;rintro e w1 ⟨rfl,hb1⟩;have k1:=(Blk.new _ _ _).after hb1;have x0:w1.cell? ⟨w.heap.size,0,none⟩=some (.int .i64 c):=k1.cell 0;have x1:w1.cell? ⟨w.heap.size,1,none⟩=some (.int .i64 f):=k1.cell 1;have x2:w1.cell? ⟨w.heap.size,2,none⟩=some (.int .i64 r):=k1.cell 2;have x3:w1.cell? ⟨w.heap.size,3,none⟩=some (.int .i64 g):=k1.cell 3;have x4:w1.cell? ⟨w.heap.size,4,none⟩=some (.int .i64 h):=k1.cell 4;have K1:=Lib.hid k1;clear k1)
  go_ret2
  exact Ret.mk' rfl zqb
end
end Go.Proofs.YthehkchjdkdbiaaGreatDoor
