/- Marks and cells of the program, in one system. -/
import Derived.Test.YthehkchjdkdbiaaGreatDoorEZGq
set_option maxHeartbeats 1600000
set_option maxRecDepth 100000
set_option linter.unusedVariables false
set_option linter.unusedSimpArgs false
namespace Go.Proofs.YthehkchjdkdbiaaGreatDoor
section
open Go.RowKit
attribute [local go_sem]mk_bs bs_size bs_toList bs_append bs_extract
attribute [local simp]run_cut run_cut_to run_cut_from run_add_bs
theorem of_2 (w:World):Calls Tryz.prog 50 #[.int .u8 2] w fun e w'=>e=.returned (.tuple #[(.iface 174 (.agg #[])),.bool true])∧w=w':=by
 go_enter Tryz.func50,Tryz.ntmps50
 go_wp2
 go_ret2
 exact⟨rfl,rfl⟩
theorem placed_2 (c f:Int)(w:World)(hc:1≤c∧c≤14)(hf:0≤f∧f≤18) :
  Calls Tryz.prog 84 #[.int .u8 2,.int .i64 c,.int .i64 f] w fun e w'=>e=.returned (.tuple #[(.iface 174 (.agg #[])),.int .i64 0])∧w=w':=by
 have h1:¬ c < 1:=by omega
 have h2:¬ 14 < c:=by omega
 have h3:¬ f < 0:=by omega
 have h4:¬ 18 < f:=by omega
 clear hc hf
 go_enter Tryz.func84,Tryz.ntmps84
 go_wp2_with (go_at_call 50;refine (of_2 _).mono ?_;rintro e w'⟨rfl,rfl⟩)
 go_ret2
 exact⟨rfl,rfl⟩
theorem placed_bad_2 (c f:Int)(w:World)(h:(c < 1∨14 < c)∨(f < 0∨18 < f)) :
  Calls Tryz.prog 84 #[.int .u8 2,.int .i64 c,.int .i64 f] w fun e w'=>e=.returned (.tuple #[.nilIface,.int .i64 (if c < 1∨14 < c then 12 else 13)])∧w=w':=by
 by_cases hc:c < 1∨14 < c
 ·rw [if_pos hc]
  clear h
  by_cases h1:c < 1
  ·clear hc
   go_enter Tryz.func84,Tryz.ntmps84
   go_wp2_with (go_at_call 50;refine (of_2 _).mono ?_;rintro e w'⟨rfl,rfl⟩)
   go_ret2
   exact⟨rfl,rfl⟩
  ·have h2:14 < c:=by omega
   clear hc
   go_enter Tryz.func84,Tryz.ntmps84
   go_wp2_with (go_at_call 50;refine (of_2 _).mono ?_;rintro e w'⟨rfl,rfl⟩)
   go_ret2
   exact⟨rfl,rfl⟩
 ·rw [if_neg hc]
  have h1:¬ c < 1:=by omega
  have h2:¬ 14 < c:=by omega
  by_cases h3:f < 0
  ·clear h hc
   go_enter Tryz.func84,Tryz.ntmps84
   go_wp2_with (go_at_call 50;refine (of_2 _).mono ?_;rintro e w'⟨rfl,rfl⟩)
   go_ret2
   exact⟨rfl,rfl⟩
  ·have h4:18 < f:=by omega
   clear h hc
   go_enter Tryz.func84,Tryz.ntmps84
   go_wp2_with (go_at_call 50;refine (of_2 _).mono ?_;rintro e w'⟨rfl,rfl⟩)
   go_ret2
   exact⟨rfl,rfl⟩
theorem psymbol_ok_2 (c f:Int)(w:World)(hc:1≤c∧c≤14)(hf:0≤f∧f≤18) :
  Calls Tryz.prog 34 #[.int .u8 2,.agg #[.int .i64 c,.int .i64 f]] w (Ret (.tuple #[.string (bs (symTxt 2 c f)),.int .i64 (symErr 2 c f)]) w):=by
 obtain⟨l1,l2⟩:=sym_law 2 c f (by decide) hc hf
 by_cases hok:pOk 2 c f=true
 ·have l3:=l2 hok
  have hne:rS 2 c f≠[]:=by intro h0;rw [h0] at l1;rw [l1] at hok;cases hok
  have e0:symErr 2 c f=0:=by unfold symErr;rw [if_neg (by decide),if_neg (by omega),if_neg (by omega),if_neg hne]
  have e1:symTxt 2 c f=rS 2 c f:=by unfold symTxt;rw [if_pos e0]
  rw [e0,e1,← l3]
  clear l1 l2 l3 e0 e1 hne
  go_enter Tryz.func34,Tryz.ntmps34
  go_wp2_with (first|(go_at_call 84;refine (placed_2 _ _ _ hc hf).mono ?_;rintro e w'⟨rfl,rfl⟩)|(go_at_call 336;refine (psym_2 _ _ _ hc hf).mono ?_;rintro e w'⟨rfl,hb⟩))
  go_ret2
  exact Ret.mk' rfl zqb
 ·have hok':pOk 2 c f=false:=by simpa using hok
  have he:rS 2 c f=[]:=by rw [hok'] at l1;simpa using l1.symm
  have e0:symErr 2 c f=31:=by unfold symErr;rw [if_neg (by decide),if_neg (by omega),if_neg (by omega),if_pos he]
  have e1:symTxt 2 c f=[]:=by unfold symTxt;rw [e0,if_neg (by decide)]
  rw [e0,e1]
  clear l1 l2 e0 e1 he hok
  go_enter Tryz.func34,Tryz.ntmps34
  go_wp2_with (first|(go_at_call 84;refine (placed_2 _ _ _ hc hf).mono ?_;rintro e w'⟨rfl,rfl⟩)|(go_at_call 336;refine (psym_2 _ _ _ hc hf).mono ?_;rintro e w'⟨rfl,hb⟩))
  go_ret2
  exact Ret.mk' rfl zqb
theorem psymbol_bad_2 (c f:Int)(w:World)(h:(c < 1∨14 < c)∨(f < 0∨18 < f)) :
  Calls Tryz.prog 34 #[.int .u8 2,.agg #[.int .i64 c,.int .i64 f]] w (Ret (.tuple #[.string (bs (symTxt 2 c f)),.int .i64 (symErr 2 c f)]) w):=by
 obtain⟨E,hE1,hE2⟩:∃ E:Int,(if c < 1∨14 < c then 12 else 13)=E∧E≠0:=⟨_,rfl,by by_cases hc:c < 1∨14 < c<;>simp [hc]⟩
 have hE:symErr 2 c f=E:=by rw [symErr_bad 2 c f (by decide) h,hE1]
 have e1:symTxt 2 c f=[]:=by unfold symTxt;rw [hE,if_neg hE2]
 have hb2:(E == 0)=false:=by simp;exact hE2
 have hpl:=placed_bad_2 c f
 rw [hE1] at hpl
 have H:=Lib.hid hpl
 rw [hE,e1]
 clear hpl hE hE1 e1
 go_enter Tryz.func34,Tryz.ntmps34
 go_wp2_with (go_at_call 84;refine (H.out _ h).mono ?_;rintro e w'⟨rfl,rfl⟩)
 go_ret2
 exact Ret.mk' rfl zqb
theorem standing_ok_2 (crs:Int)(w:World)(h:spotErr 2 crs=0) :
  Calls Tryz.prog 85 #[.int .u8 2,.int .i64 crs] w fun e w'=>e=.returned (.tuple #[(.iface 174 (.agg #[])),.int .i64 0])∧w=w':=by
 unfold spotErr at h
 rw [if_neg (by decide)] at h
 by_cases hb:(crs < 0∨6 < crs)∨((2:Int)=4∧crs≠0)
 ·rw [if_pos hb] at h;cases h
 ·have h1:¬ crs < 0:=by omega
  have h2:¬ 6 < crs:=by omega
  clear h hb
  go_enter Tryz.func85,Tryz.ntmps85
  go_wp2_with (go_at_call 50;refine (of_2 _).mono ?_;rintro e w'⟨rfl,rfl⟩)
  go_ret2
  exact⟨rfl,rfl⟩
theorem standing_bad_2 (crs:Int)(w:World)(h:spotErr 2 crs≠0) :
    Calls Tryz.prog 85 #[.int .u8 2,.int .i64 crs] w fun e w'=>e=.returned (.tuple #[.nilIface,.int .i64 (spotErr 2 crs)])∧w=w':=by
  unfold spotErr at h ⊢
  rw [if_neg (by decide)] at h ⊢
  by_cases hb:(crs < 0∨6 < crs)∨((2:Int)=4∧crs≠0)
  · rw [if_pos hb]
    clear h
    by_cases h1:crs < 0
    · clear hb
      go_enter Tryz.func85,Tryz.ntmps85
      go_wp2_with (go_at_call 50;refine (of_2 _).mono ?_;rintro e w'⟨rfl,rfl⟩)
      go_ret2
      exact⟨rfl,rfl⟩
    · by_cases h2:6 < crs
      · clear hb
        go_enter Tryz.func85,Tryz.ntmps85
        go_wp2_with (go_at_call 50;refine (of_2 _).mono ?_;rintro e w'⟨rfl,rfl⟩)
        go_ret2
        exact⟨rfl,rfl⟩
      · have h3:(crs == 0)=false:=by simp;omega
        have h3':(crs != 0)=true:=by simp;omega
        have h5:(2:Int)=4:=by omega
        first
        | (exfalso;revert h5;decide)
        | (clear hb h5
           go_enter Tryz.func85,Tryz.ntmps85
           go_wp2_with (go_at_call 50;refine (of_2 _).mono ?_;rintro e w'⟨rfl,rfl⟩)
           go_ret2
           exact⟨rfl,rfl⟩)
  · rw [if_neg hb] at h;exact absurd rfl h
theorem place_ok_2 (crs:Int) (l:List UInt8) (w:World) (h:spotErr 2 crs=0) :
  Calls Tryz.prog 35 #[.int .u8 2,.int .i64 crs,.string (bs l)] w (Ret (placeV 2 crs l) w):=by
 have HE:=Lib.hid h
 clear h
 go_enter Tryz.func35,Tryz.ntmps35
 go_wp2_with (go_at_call 85;refine (standing_ok_2 _ _ HE.out).mono ?_;rintro e w' ⟨rfl,rfl⟩)
 go_loopw [10] (fun v wr=>∃ c:Nat,1≤c∧c≤15∧v=.int .i64 c∧scanC (plM 2 crs l) 1 14=scanC (plM 2 crs l) c (15 - c)∧Below w.heap.size w wr∧Blk wr w.heap.size 64 #[.int .i64 0,.int .i64 0])
  (fun v _=>15 - (intOf v).toNat)
 case atStart=>exact ⟨1,by omega,by omega,rfl,rfl,zqb,Blk.new _ _ _⟩
 case round =>
  obtain ⟨c,hc1,hc15,rfl,hsc,hbel,hblk⟩:=hrel
  have HS:=Lib.hid hsc
  have HB:=Lib.hid hblk
  have hlt:w.heap.size < wr.heap.size:=hblk.lt
  have q0:wr.cell? ⟨w.heap.size,0,none⟩=some (.int .i64 0):=hblk.cell 0
  have q1:wr.cell? ⟨w.heap.size,1,none⟩=some (.int .i64 0):=hblk.cell 1
  have q2:=hblk.frozen 0
  have q3:=hblk.frozen 1
  clear hsc hblk
  by_cases hle:c≤14
  ·clear q0 q1 q2 q3
   obtain ⟨wo,hwo⟩:∃ wo:World,wo=wr:=⟨_,rfl⟩
   subst hwo
   have hci:1≤(c:Int)∧(c:Int)≤14:=by omega
   go_wp2_with fail
   go_loopw [11] (fun v wi=>∃ f:Nat,f≤19∧v=.int .i64 f∧scanF (plM 2 crs l c) 0 19=scanF (plM 2 crs l c) f (19 - f)∧Below w.heap.size w wi∧Blk wi w.heap.size 64 #[.int .i64 0,.int .i64 0])
    (fun v _=>19 - (intOf v).toNat)
   case atStart=>exact ⟨0,by omega,rfl,rfl,hbel,HB.out⟩
   case round =>
    obtain ⟨f,hf19,rfl,hsf,hbel2,hblk2⟩:=hrel
    have HF:=Lib.hid hsf
    have HB2:=Lib.hid hblk2
    have hlt2:w.heap.size < wr.heap.size:=hblk2.lt
    have q0:wr.cell? ⟨w.heap.size,0,none⟩=some (.int .i64 0):=hblk2.cell 0
    have q1:wr.cell? ⟨w.heap.size,1,none⟩=some (.int .i64 0):=hblk2.cell 1
    have q2:=hblk2.frozen 0
    have q3:=hblk2.frozen 1
    clear hsf hblk2
    by_cases hle2:f≤18
    ·have hfi:0≤(f:Int)∧(f:Int)≤18:=by omega
     by_cases hst:standsB 2 crs c=true
     ·by_cases hm:plM 2 crs l c f=true
      ·obtain ⟨h1,h2⟩:=plM_yes (by decide) ⟨hc1,hle⟩ hle2 hm
       have HR:=Lib.hid (placeOf_some HE.out (show scanC (plM 2 crs l) 1 14=some (c,f) from by
        rw [HS.out,show 15 - c=(14 - c)+1 from by omega]
        exact scanC_yes _ _ _ _ (by rw [HF.out,show 19 - f=(18 - f)+1 from by omega,scanF_yes _ _ _ hm])))
       clear hm
       go_wp2_with (first|(go_at_call 86;refine (stands_any _ _ _ _).mono ?_;rintro e w' ⟨rfl,hw⟩;rw [hw];clear hw)|(go_at_call 336;refine (psym_2 _ _ _ hci hfi).mono ?_;rintro e w2 ⟨rfl,hb⟩;have k1:=(HB2.out.alloc _).after hb;have k2:=(Blk.new _ _ _).after hb;have r0:w2.cell? ⟨w.heap.size,0,none⟩=some (.int .i64 0):=k1.cell 0;have r1:w2.cell? ⟨w.heap.size,1,none⟩=some (.int .i64 0):=k1.cell 1;have r2:=k1.frozen 0;have r3:=k1.frozen 1;have s0:w2.cell? ⟨wr.heap.size,0,none⟩=some (.int .i64 c):=k2.cell 0;have s1:w2.cell? ⟨wr.heap.size,1,none⟩=some (.int .i64 f):=k2.cell 1;have K1:=Lib.hid k1;clear k1 k2))
       exact bodyPost_ret (v:=.tuple #[.agg #[.int .i64 c,.int .i64 f],.int .i64 0]) (by simp [results,Tryz.results35,go_sem,r0,r1]) rfl (Ret.mk' (by unfold placeV;rw [HR.out]) zqb)
      ·have hm':plM 2 crs l c f=false:=by simpa using hm
       have HN:=Lib.hid (show scanF (plM 2 crs l c) 0 19=scanF (plM 2 crs l c) (f+1) (19 - (f+1)) from by
        rw [HF.out,show 19 - f=(19 - (f+1))+1 from by omega,scanF_no _ _ _ hm'])
       rcases plM_no (by decide) ⟨hc1,hle⟩ hle2 hst hm' with h1|⟨h1,h2⟩
       ·clear hm hm'
        go_wp2_with (first|(go_at_call 86;refine (stands_any _ _ _ _).mono ?_;rintro e w' ⟨rfl,hw⟩;rw [hw];clear hw)|(go_at_call 336;refine (psym_2 _ _ _ hci hfi).mono ?_;rintro e w2 ⟨rfl,hb⟩;have k1:=(HB2.out.alloc _).after hb;have k2:=(Blk.new _ _ _).after hb;have r0:w2.cell? ⟨w.heap.size,0,none⟩=some (.int .i64 0):=k1.cell 0;have r1:w2.cell? ⟨w.heap.size,1,none⟩=some (.int .i64 0):=k1.cell 1;have r2:=k1.frozen 0;have r3:=k1.frozen 1;have s0:w2.cell? ⟨wr.heap.size,0,none⟩=some (.int .i64 c):=k2.cell 0;have s1:w2.cell? ⟨wr.heap.size,1,none⟩=some (.int .i64 f):=k2.cell 1;have K1:=Lib.hid k1;clear k1 k2))
        go_roundw
        case rel=>exact ⟨f+1,by omega,by go_num,HN.out,zqb,K1.out⟩
        case measure=>simp [intOf];omega
       ·clear hm hm'
        go_wp2_with (first|(go_at_call 86;refine (stands_any _ _ _ _).mono ?_;rintro e w' ⟨rfl,hw⟩;rw [hw];clear hw)|(go_at_call 336;refine (psym_2 _ _ _ hci hfi).mono ?_;rintro e w2 ⟨rfl,hb⟩;have k1:=(HB2.out.alloc _).after hb;have k2:=(Blk.new _ _ _).after hb;have r0:w2.cell? ⟨w.heap.size,0,none⟩=some (.int .i64 0):=k1.cell 0;have r1:w2.cell? ⟨w.heap.size,1,none⟩=some (.int .i64 0):=k1.cell 1;have r2:=k1.frozen 0;have r3:=k1.frozen 1;have s0:w2.cell? ⟨wr.heap.size,0,none⟩=some (.int .i64 c):=k2.cell 0;have s1:w2.cell? ⟨wr.heap.size,1,none⟩=some (.int .i64 f):=k2.cell 1;have K1:=Lib.hid k1;clear k1 k2))
        go_roundw
        case rel=>exact ⟨f+1,by omega,by go_num,HN.out,zqb,K1.out⟩
        case measure=>simp [intOf];omega
     ·have hst':standsB 2 crs c=false:=by simpa using hst
      have HN:=Lib.hid (show scanC (plM 2 crs l) 1 14=scanC (plM 2 crs l) (c+1) (15 - (c+1)) from by
       rw [HS.out,show 15 - c=(15 - (c+1))+1 from by omega]
       exact scanC_no _ _ _ (scanF_none _ _ _ (fun _ _ _=>plM_stands hst')))
      clear hst
      go_wp2_with (first|(go_at_call 86;refine (stands_any _ _ _ _).mono ?_;rintro e w' ⟨rfl,hw⟩;rw [hw];clear hw)|(go_at_call 336;refine (psym_2 _ _ _ hci hfi).mono ?_;rintro e w2 ⟨rfl,hb⟩;have k1:=(HB2.out.alloc _).after hb;have k2:=(Blk.new _ _ _).after hb;have r0:w2.cell? ⟨w.heap.size,0,none⟩=some (.int .i64 0):=k1.cell 0;have r1:w2.cell? ⟨w.heap.size,1,none⟩=some (.int .i64 0):=k1.cell 1;have r2:=k1.frozen 0;have r3:=k1.frozen 1;have s0:w2.cell? ⟨wr.heap.size,0,none⟩=some (.int .i64 c):=k2.cell 0;have s1:w2.cell? ⟨wr.heap.size,1,none⟩=some (.int .i64 f):=k2.cell 1;have K1:=Lib.hid k1;clear k1 k2))
      go_roundw
      case rel=>exact ⟨c+1,by omega,by omega,by go_num,HN.out,hbel2,HB2.out⟩
      case measure=>simp [intOf];omega
    ·have HN:=Lib.hid (show scanC (plM 2 crs l) 1 14=scanC (plM 2 crs l) (c+1) (15 - (c+1)) from by
      rw [HS.out,show 15 - c=(15 - (c+1))+1 from by omega]
      exact scanC_no _ _ _ (by rw [HF.out,show 19 - f=0 from by omega];rfl))
     go_wp2_with fail
     go_roundw
     case rel=>exact ⟨c+1,by omega,by omega,by go_num,HN.out,hbel2,HB2.out⟩
     case measure=>simp [intOf];omega
  ·have HR:=Lib.hid (placeOf_none HE.out (show scanC (plM 2 crs l) 1 14=none from by rw [HS.out,show 15 - c=0 from by omega];rfl))
   go_wp2_with fail
   exact bodyPost_ret (v:=.tuple #[.agg #[.int .i64 0,.int .i64 0],.int .i64 4]) (by simp [results,Tryz.results35,go_sem,q0,q1]) rfl (Ret.mk' (by unfold placeV;rw [HR.out]) zqb)
theorem place_bad_2 (crs:Int) (l:List UInt8) (w:World) (h:spotErr 2 crs≠0) :
  Calls Tryz.prog 35 #[.int .u8 2,.int .i64 crs,.string (bs l)] w (Ret (placeV 2 crs l) w):=by
 have HR:=Lib.hid (placeOf_bad (l:=l) h)
 have HC:=Lib.hid (standing_bad_2 crs w.drew)
 have hb2:(spotErr 2 crs == 0)=false:=by simpa using h
 have HE:=Lib.hid h
 clear h
 go_enter Tryz.func35,Tryz.ntmps35
 go_wp2_with (go_at_call 85;refine (standing_bad_2 _ _ HE.out).mono ?_;rintro e w' ⟨rfl,rfl⟩)
 go_returns
 exact Ret.mk' (by unfold placeV;rw [HR.out]) zqb
end
section
open Go.RowKit
attribute [local go_sem]mk_bs bs_size bs_toList bs_append bs_extract
attribute [local simp]run_cut run_cut_to run_cut_from run_add_bs
theorem pright_2 (n:Int)(w:World)(h:0≤n∧n≤3) :
  Calls Tryz.prog 335 #[.agg #[],.int .i64 n] w (Ret (.tuple #[.string (bs (rR 2 n)),.bool (okR 2 n)]) w):=by
 have h4:n=0∨n=1∨n=2∨n=3:=by omega
 clear h
 rcases h4 with rfl|rfl|rfl|rfl
 all_goals
  go_enter Tryz.func335,Tryz.ntmps335
  go_wp2
  go_ret2
  exact Ret.mk' rfl zqb
theorem pgrace_2 (n:Int)(w:World)(h:0≤n∧n≤4) :
  Calls Tryz.prog 330 #[.agg #[],.int .i64 n] w (Ret (.tuple #[.string (bs (rG 2 n)),.bool (okG 2 n)]) w):=by
 have h4:n=0∨n=1∨n=2∨n=3∨n=4:=by omega
 clear h
 rcases h4 with rfl|rfl|rfl|rfl|rfl
 all_goals
  go_enter Tryz.func330,Tryz.ntmps330
  go_wp2
  go_ret2
  exact Ret.mk' rfl zqb
theorem phold_2 (n L:Int) (w:World) (h:0≤n∧n≤15) :
  Calls Tryz.prog 329 #[.agg #[],.int .i64 n,.int .i64 L] w (Ret (.tuple #[.string (bs (pH 2 n L)),.bool (okH 2 n L)]) w):=by
 obtain ⟨hn0,hn1⟩:=h
 by_cases h0:n=0
 ·subst h0
  go_enter Tryz.func329,Tryz.ntmps329
  go_wp2
  go_ret2
  exact Ret.mk' rfl zqb
 ·have hb:(n == 0)=false:=by simp;exact h0
  have e0:pH 2 n L=rH 2 n L:=if_neg h0
  have e1:okH 2 n L=!(rH 2 n L).isEmpty:=by unfold okH;rw [hb];rfl
  rw [e0,e1]
  by_cases hL:n=L
  ·have e2:rH 2 n L=[42]:=by unfold rH;rw [if_neg (by decide),if_pos ⟨by decide,hL⟩]
   have hbL:(n == L)=true:=by simpa using hL
   rw [e2]
   clear e0 e1 e2 hL
   go_enter Tryz.func329,Tryz.ntmps329
   go_wp2
   go_ret2
   exact Ret.mk' rfl zqb
  ·have e2:rH 2 n L=[]:=by unfold rH;rw [if_neg (by decide),if_neg (fun h=>hL h.2)]
   have hbL:(n == L)=false:=by simpa using hL
   rw [e2]
   clear e0 e1 e2 hL
   go_enter Tryz.func329,Tryz.ntmps329
   go_wp2
   go_ret2
   exact Ret.mk' rfl zqb
theorem pcell_2 (c f r g h L:Int) (w:World) (hc:1≤c∧c≤14) (hf:0≤f∧f≤18) (hr:0≤r∧r≤3) (hg:0≤g∧g≤4) (hh:0≤h∧h≤15) :
  Calls Tryz.prog 87 #[(.iface 174 (.agg #[])),.agg #[.int .i64 c,.int .i64 f,.int .i64 r,.int .i64 g,.int .i64 h],.int .i64 L] w
   (Ret (.tuple #[.string (bs (cellS 2 c f r g h L)),.bool (cellOk 2 c f r g h L)]) w):=by
 have a1:=(pS_len 2 c f (by decide) hc hf).1
 have a2:=rR_len 2 r
 have a3:=rG_len 2 g
 have a4:=pH_len 2 h L
 have b1:(pS 2 c f).length+(rR 2 r).length≤9223372036854775807:=by omega
 have b2:(pS 2 c f).length+(rR 2 r).length+(rG 2 g).length≤9223372036854775807:=by omega
 have b2':(pS 2 c f).length+((rR 2 r).length+(rG 2 g).length)≤9223372036854775807:=by omega
 have b3:(pS 2 c f).length+(rR 2 r).length+(rG 2 g).length+(pH 2 h L).length≤9223372036854775807:=by omega
 have b3':(pS 2 c f).length+((rR 2 r).length+((rG 2 g).length+(pH 2 h L).length))≤9223372036854775807:=by omega
 have b3c:(pS 2 c f).length+((rR 2 r).length+(rG 2 g).length)+(pH 2 h L).length≤9223372036854775807:=by omega
 clear a1 a2 a3 a4
 unfold cellS cellOk
 go_enter Tryz.func87,Tryz.ntmps87
 go_wp2_with (first
  | (go_at_call 336;refine (psym_2 _ _ _ hc hf).mono ?_;rintro e w1 ⟨rfl,hb1⟩;have k1:=(Blk.new _ _ _).after hb1;have x1:w1.cell? ⟨w.heap.size,2,none⟩=some (.int .i64 r):=k1.cell 2;have K1:=Lib.hid k1;clear k1)
  | (go_at_call 335;refine (pright_2 _ _ hr).mono ?_;rintro e w2 ⟨rfl,hb2⟩;have k2:=K1.out.after hb2;have x2:w2.cell? ⟨w.heap.size,3,none⟩=some (.int .i64 g):=k2.cell 3;have K2:=Lib.hid k2;clear k2)
  | (go_at_call 330;refine (pgrace_2 _ _ hg).mono ?_;rintro e w3 ⟨rfl,hb3⟩;have k3:=K2.out.after hb3;have x3:w3.cell? ⟨w.heap.size,4,none⟩=some (.int .i64 h):=k3.cell 4;have K3:=Lib.hid k3;clear k3)
  | (go_at_call 329;refine (phold_2 _ _ _ hh).mono ?_;rintro e w4 ⟨rfl,hb4⟩))
 all_goals go_ret2
 all_goals exact Ret.mk' (by simp [*]) zqb
end
end Go.Proofs.YthehkchjdkdbiaaGreatDoor
