/- Signs of the reference: valid, words, all. -/
import Derived.Test.YthehkchjdkdbiaaGreatDoorGaHq
set_option maxHeartbeats 4000000
set_option maxRecDepth 100000
set_option linter.unusedVariables false
set_option linter.unusedSimpArgs false
namespace Go.Proofs.YthehkchjdkdbiaaGreatDoor
section
open Go.RowKit
theorem reverse_G (l:List (List UInt8)) (hl:l.length≤1000000):Cto truB 0 Tryz.prog 162 [.sl 0] [(0,.row 9 1 (l.map eTx))] 1 (.tu []) [(0,.row 9 1 (l.reverse.map eTx))] 1:=by
 refine Cto.intro truS Tryz.func162 rfl Tryz.ntmps162 (Nat.le_of_ble_eq_true rfl) rfl fun w0 F0 fp pg hB=>?_
 dsimp only [number,Nat.reduceAdd]
 have hml:(l.map eTx).length=l.length:=List.length_map _
 refine zqg51 ?_
 refine W.loop (fun k:Nat=>2*k≤l.length) (fun k=>⟨[(0,.sl 0),(2,.sc (.int .i64 (k:Int))),(3,.sc (.int .i64 ((l.length:Int) - 1 - (k:Int))))],[(0,.row 9 1 ((nr_rvK l k).map eTx))],1⟩) (fun k=>l.length - 2*k) 0 (by omega) (by rw [show (l.length:Int) - 1 - ((0:Nat):Int)=(l.length:Int) - 1 by omega];exact (zqu (fun q=>q) (by repeat (first|exact trivial|refine ⟨⟨?_,?_,?_⟩,?_⟩|rfl|exact congrArg (fun q=>some (AO.row _ _ q)) (by rw [nr_rvK_0]))) rfl)) fun k hk=>?_
 by_cases hlt:2*k+1 < l.length
 rotate_left
 ·rw [nr_rvK_end (l:=l) (k:=k) (by omega)]
  refine zqg51 ?_
  exact finTrL (σ':=⟨[],[(0,.row 9 1 (l.reverse.map eTx))],1⟩) (zqt id) (finMuL rfl rfl rfl rfl rfl)
 have z0:((k:Int)).toNat=k:=Int.toNat_natCast k
 have z1:((l.length:Int) - 1 - (k:Int)).toNat=l.length - 1 - k:=by omega
 obtain ⟨x,hx⟩:∃ z,l[k]' zqo=z:=⟨_,rfl⟩
 obtain ⟨y,hy⟩:∃ z,l[l.length - 1 - k]' zqo=z:=⟨_,rfl⟩
 have r0:((nr_rvK l k).map eTx)[((k:Int)).toNat]?=some (eTx x):=by rw [z0,List.getElem?_map,nr_rvK_lo hlt,hx];rfl
 have r1:((nr_rvK l k).map eTx)[((l.length:Int) - 1 - (k:Int)).toNat]?=some (eTx y):=by rw [z1,List.getElem?_map,nr_rvK_hi hlt,hy];rfl
 have r2:(((nr_rvK l k).map eTx).set ((k:Int)).toNat (eTx y))[((l.length:Int) - 1 - (k:Int)).toNat]?=some (eTx y):=by
  rw [List.getElem?_set_ne (by omega)];exact r1
 have r3:(((nr_rvK l k).map eTx).set ((k:Int)).toNat (eTx y)).set ((l.length:Int) - 1 - (k:Int)).toNat (eTx x)=(nr_rvK l (k+1)).map eTx:=by
  rw [z0,z1,← nr_rvK_s hlt,List.map_set,List.map_set,hx,hy]
 obtain ⟨D,hD⟩:∃ z,(nr_rvK l k).map eTx=z:=⟨_,rfl⟩
 have hDl:D.length=l.length:=by rw [← hD,List.length_map,nr_rvK_len]
 rw [hD] at r0 r1 r2 r3 ⊢
 refine zqg51 ?_
 refine W.drawT 14 zqk zqk zqk ?_
 refine WA.dt [false,false,false,false,false,false,false,false,false,false,false,false,false,true] [] [0] 13 zqk zqk zqk trivial ⟨rfl,trivial⟩ ?_
 refine DTK.st rfl zqk rfl ?_
 refine DTK.st rfl zqk rfl ?_
 refine DTK.v0 rfl (stepV_of rfl rfl) ?_
 refine DTK.v0 rfl (stepV_of rfl rfl) ?_
 refine DTK.st rfl zqk rfl ?_
 refine DTK.st rfl zqk rfl ?_
 refine DTK.ixs rfl zqk rfl ⟨by omega,by omega⟩ ?_
 refine DTK.ldr rfl zqk rfl r1 rfl rfl ?_
 refine DTK.st rfl zqk rfl ?_
 refine DTK.st rfl zqk rfl ?_
 refine DTK.ixs rfl zqk rfl ⟨by omega,by omega⟩ ?_
 refine DTK.ldr rfl zqk rfl r0 rfl rfl ?_
 refine DTK.ixs rfl zqk rfl ⟨by omega,by omega⟩ ?_
 refine DTK.sto rfl rfl rfl rfl rfl rfl rfl rfl rfl rfl rfl rfl (put_row r0 (by show 0+1≤1;omega) rfl) rfl trivial (fun h=>by cases h) ?_
 refine DTK.nil ?_
 refine ⟨rfl,?_⟩
 refine (?_:WL _ _ _ _ _ _)
 refine zqg51 ?_
 refine WL.sto rfl rfl rfl rfl r2 (by show 0+1≤1;omega) ?_
 refine zqg51 ?_
 refine ⟨k+1,by omega,by omega,?_⟩
 rw [show (l.length:Int) - 1 - (k:Int) - 1=(l.length:Int) - 1 - ((k+1:Nat):Int) by omega]
 exact (zqu (fun q=>q) (by repeat (first|exact trivial|refine ⟨⟨?_,?_,?_⟩,?_⟩|rfl|exact congrArg (fun q=>some (AO.row _ _ q)) r3)) rfl)
end
section
open Go.RowKit
attribute [local go_sem]mk_bs bs_size bs_toList bs_append bs_extract
attribute [local simp]run_cut run_cut_to run_cut_from run_add_bs
theorem rstands_any (s crs c:Int)(w:World) :
  Calls Tryz.prog 274 #[.int .u8 s,.int .i64 crs,.int .i64 c] w fun e w'=>e=.returned (.bool (standsB s crs c))∧w'=w:=by
 by_cases h:0<crs
 ·have e1:standsB s crs c=(c == crs):=if_pos h
  rw [e1]
  go_enter Tryz.func274,Tryz.ntmps274
  go_wp2
  go_ret
  exact⟨rfl,rfl⟩
 ·have e1:standsB s crs c=(s == 4|| decide (6<c)):=if_neg h
  rw [e1]
  by_cases h4:s=4
  ·subst h4
   go_enter Tryz.func274,Tryz.ntmps274
   go_wp2
   go_ret
   exact⟨rfl,rfl⟩
  ·have hb:(s == 4)=false:=by simp;exact h4
   go_enter Tryz.func274,Tryz.ntmps274
   go_wp2
   go_ret
   exact⟨rfl,rfl⟩
theorem rspot_any (s crs:Int) (w:World) :
  Calls Tryz.prog 258 #[.int .u8 s,.int .i64 crs] w fun e w'=>e=.returned (.int .i64 (spotErr s crs))∧w'=w:=by
 by_cases hs:1≤s∧s≤4
 ·have hd:decide (1≤s∧s≤4)=true:=decide_eq_true hs
  by_cases h1:crs < 0
  ·have e:spotErr s crs=12:=by unfold spotErr;rw [if_neg (fun k=>k hs),if_pos (.inl (.inl h1))]
   rw [e]
   clear hs
   go_enter Tryz.func258,Tryz.ntmps258
   go_wp2_with (go_at_call 67;refine (known_any _ _).mono ?_;rintro e w' ⟨rfl,hw⟩;rw [hw];clear hw)
   go_ret
   exact ⟨rfl,rfl⟩
  ·by_cases h2:6 < crs
   ·have e:spotErr s crs=12:=by unfold spotErr;rw [if_neg (fun k=>k hs),if_pos (.inl (.inr h2))]
    rw [e]
    clear hs
    go_enter Tryz.func258,Tryz.ntmps258
    go_wp2_with (go_at_call 67;refine (known_any _ _).mono ?_;rintro e w' ⟨rfl,hw⟩;rw [hw];clear hw)
    go_ret
    exact ⟨rfl,rfl⟩
   ·by_cases h4:s=4
    ·subst h4
     by_cases h0:crs=0
     ·subst h0
      clear hs
      go_enter Tryz.func258,Tryz.ntmps258
      go_wp2_with (go_at_call 67;refine (known_any _ _).mono ?_;rintro e w' ⟨rfl,hw⟩;rw [hw];clear hw)
      go_ret
      exact ⟨rfl,rfl⟩
     ·have e:spotErr 4 crs=12:=by unfold spotErr;rw [if_neg (fun k=>k hs),if_pos (.inr ⟨rfl,h0⟩)]
      have hb:(crs == 0)=false:=by simp;exact h0
      have hb':(crs != 0)=true:=by simp;exact h0
      rw [e]
      clear hs
      go_enter Tryz.func258,Tryz.ntmps258
      go_wp2_with (go_at_call 67;refine (known_any _ _).mono ?_;rintro e w' ⟨rfl,hw⟩;rw [hw];clear hw)
      go_ret
      exact ⟨rfl,rfl⟩
    ·have e:spotErr s crs=0:=by unfold spotErr;rw [if_neg (fun k=>k hs),if_neg (by omega)]
     have hb:(s == 4)=false:=by simp;exact h4
     rw [e]
     clear hs
     go_enter Tryz.func258,Tryz.ntmps258
     go_wp2_with (go_at_call 67;refine (known_any _ _).mono ?_;rintro e w' ⟨rfl,hw⟩;rw [hw];clear hw)
     go_ret
     exact ⟨rfl,rfl⟩
 ·have hd:decide (1≤s∧s≤4)=false:=decide_eq_false hs
  have e:spotErr s crs=30:=if_pos hs
  rw [e]
  clear hs
  go_enter Tryz.func258,Tryz.ntmps258
  go_wp2_with (go_at_call 67;refine (known_any _ _).mono ?_;rintro e w' ⟨rfl,hw⟩;rw [hw];clear hw)
  go_ret
  exact ⟨rfl,rfl⟩
theorem rsymbolT_any (s c f:Int)(w:World) :
  Calls Tryz.prog 129 #[.int .u8 s,.agg #[.int .i64 c,.int .i64 f]] w (Ret (.tuple #[.string (bs (symTxt s c f)),.int .i64 (symErr s c f)]) w):=by
 by_cases hs:1≤s∧s≤4
 ·have hd:decide (1≤s∧s≤4)=true:=decide_eq_true hs
  by_cases h:(c < 1∨14 < c)∨(f < 0∨18 < f)
  ·have e0:=symErr_bad s c f hs h
   by_cases hc:c < 1∨14 < c
   ·rw [if_pos hc] at e0
    have e1:symTxt s c f=[]:=by unfold symTxt;rw [e0,if_neg (by decide)]
    rw [e0,e1]
    by_cases h1:c < 1
    ·clear hs h hc e0 e1
     go_enter Tryz.func129,Tryz.ntmps129
     go_wp2_with (go_at_call 67;refine (known_any _ _).mono ?_;rintro e w'⟨rfl,hw⟩;rw [hw];clear hw)
     go_ret2
     exact Ret.mk' rfl zqb
    ·have h2:14 < c:=by omega
     clear hs h hc e0 e1
     go_enter Tryz.func129,Tryz.ntmps129
     go_wp2_with (go_at_call 67;refine (known_any _ _).mono ?_;rintro e w'⟨rfl,hw⟩;rw [hw];clear hw)
     go_ret2
     exact Ret.mk' rfl zqb
   ·rw [if_neg hc] at e0
    have e1:symTxt s c f=[]:=by unfold symTxt;rw [e0,if_neg (by decide)]
    rw [e0,e1]
    have h1:¬ c < 1:=by omega
    have h2:¬ 14 < c:=by omega
    by_cases h3:f < 0
    ·clear hs h hc e0 e1
     go_enter Tryz.func129,Tryz.ntmps129
     go_wp2_with (go_at_call 67;refine (known_any _ _).mono ?_;rintro e w'⟨rfl,hw⟩;rw [hw];clear hw)
     go_ret2
     exact Ret.mk' rfl zqb
    ·have h4:18 < f:=by omega
     clear hs h hc e0 e1
     go_enter Tryz.func129,Tryz.ntmps129
     go_wp2_with (go_at_call 67;refine (known_any _ _).mono ?_;rintro e w'⟨rfl,hw⟩;rw [hw];clear hw)
     go_ret2
     exact Ret.mk' rfl zqb
  ·have hc:1≤c∧c≤14:=by omega
   have hf:0≤f∧f≤18:=by omega
   have h1:¬ c < 1:=by omega
   have h2:¬ 14 < c:=by omega
   have h3:¬ f < 0:=by omega
   have h4:¬ 18 < f:=by omega
   have HS:=Lib.hid hs
   by_cases hr:rS s c f=[]
   ·have e0:symErr s c f=31:=by unfold symErr;rw [if_neg (fun k=>k hs),if_neg (by omega),if_neg (by omega),if_pos hr]
    have e1:symTxt s c f=[]:=by unfold symTxt;rw [e0,if_neg (by decide)]
    rw [e0,e1]
    clear hs h e0 e1
    go_enter Tryz.func129,Tryz.ntmps129
    go_wp2_with (first|(go_at_call 67;refine (known_any _ _).mono ?_;rintro e w'⟨rfl,hw⟩;rw [hw];clear hw)|(go_at_call 192;refine (rsymbol_any _ _ _ _ HS.out hc hf).mono ?_;rintro e w'⟨rfl,hb⟩))
    go_ret2
    exact Ret.mk' rfl zqb
   ·have e0:symErr s c f=0:=by unfold symErr;rw [if_neg (fun k=>k hs),if_neg (by omega),if_neg (by omega),if_neg hr]
    have e1:symTxt s c f=rS s c f:=by unfold symTxt;rw [if_pos e0]
    have hb2:(rS s c f == [])=false:=by simpa using hr
    have hb3:(rS s c f).isEmpty=false:=by simpa using hr
    rw [e0,e1]
    clear hs h e0 e1
    go_enter Tryz.func129,Tryz.ntmps129
    go_wp2_with (first|(go_at_call 67;refine (known_any _ _).mono ?_;rintro e w'⟨rfl,hw⟩;rw [hw];clear hw)|(go_at_call 192;refine (rsymbol_any _ _ _ _ HS.out hc hf).mono ?_;rintro e w'⟨rfl,hb⟩))
    go_ret2
    exact Ret.mk' rfl zqb
 ·have hd:decide (1≤s∧s≤4)=false:=decide_eq_false hs
  have e0:symErr s c f=30:=if_pos hs
  have e1:symTxt s c f=[]:=by unfold symTxt;rw [e0,if_neg (by decide)]
  rw [e0,e1]
  clear hs e0 e1
  go_enter Tryz.func129,Tryz.ntmps129
  go_wp2_with (go_at_call 67;refine (known_any _ _).mono ?_;rintro e w'⟨rfl,hw⟩;rw [hw];clear hw)
  go_ret2
  exact Ret.mk' rfl zqb
end
section
open Go.RowKit
attribute [local go_sem]mk_bs bs_size bs_toList bs_append bs_extract
attribute [local simp]run_cut run_cut_to run_cut_from run_add_bs
theorem plM_cases (s crs:Int) (l:List UInt8) (c f:Nat):(plM s crs l c f=true∧standsB s crs c=true∧(l == [])=false∧l.isEmpty=false∧(rS s c f == l)=true) ∨
  (plM s crs l c f=false∧((l=[])∨((l == [])=false∧l.isEmpty=false∧standsB s crs c=false)∨((l == [])=false∧l.isEmpty=false∧standsB s crs c=true∧(rS s c f == l)=false))):=by
 unfold plM
 by_cases hl:l=[]
 ·subst hl
  refine .inr ⟨?_,.inl rfl⟩
  cases h:rS s c f<;>simp
 ·have hl1:(l == [])=false:=by simpa using hl
  have hl2:l.isEmpty=false:=by simpa using hl
  cases hst:standsB s crs c with
  | false=>exact .inr ⟨by simp,.inr (.inl ⟨hl1,hl2,rfl⟩)⟩
  | true =>
   cases he:(rS s c f == l)with
   | false=>exact .inr ⟨by simp,.inr (.inr ⟨hl1,hl2,rfl,rfl⟩)⟩
   | true =>
    refine .inl ⟨?_,rfl,hl1,hl2,rfl⟩
    have:rS s c f=l:=by simpa using he
    rw [this,hl2];rfl
theorem rplace_ok (s crs:Int) (l:List UInt8) (w:World) (hs:1≤s∧s≤4) (h:spotErr s crs=0) :
  Calls Tryz.prog 259 #[.int .u8 s,.int .i64 crs,.string (bs l)] w (Ret (placeV s crs l) w):=by
 have HE:=Lib.hid h
 have HS4:=Lib.hid hs
 have h0:=h
 clear h hs
 go_enter Tryz.func259,Tryz.ntmps259
 go_wp2_with (go_at_call 258;refine (rspot_any _ _ _).mono ?_;rintro e w' ⟨rfl,hw⟩;rw [hw];clear hw)
 clear h0
 go_loopw [9] (fun v wr=>∃ c:Nat,1≤c∧c≤15∧v=.int .i64 c∧scanC (plM s crs l) 1 14=scanC (plM s crs l) c (15 - c)∧Below w.heap.size w wr∧Blk wr w.heap.size 64 #[.int .i64 0,.int .i64 0])
  (fun v _=>15 - (intOf v).toNat)
 case atStart=>exact ⟨1,by omega,by omega,rfl,rfl,zqb,Blk.new _ _ _⟩
 case round =>
  obtain ⟨c,hc1,hc15,rfl,hsc,hbel,hblk⟩:=hrel
  have HS:=Lib.hid hsc
  have HB:=Lib.hid hblk
  have hlt:w.heap.size < wr.heap.size:=hblk.lt
  have q0:wr.cell? ⟨w.heap.size,0,none⟩=some (.int .i64 0):=hblk.cell 0
  have q1:wr.cell? ⟨w.heap.size,1,none⟩=some (.int .i64 0):=hblk.cell 1
  have q2:=hblk.frozen 0
  have q3:=hblk.frozen 1
  clear hsc hblk
  by_cases hle:c≤14
  ·clear q0 q1 q2 q3
   obtain ⟨wo,hwo⟩:∃ wo:World,wo=wr:=⟨_,rfl⟩
   subst hwo
   have hci:1≤(c:Int)∧(c:Int)≤14:=by omega
   go_wp2_with fail
   go_loopw [10] (fun v wi=>∃ f:Nat,f≤19∧v=.int .i64 f∧scanF (plM s crs l c) 0 19=scanF (plM s crs l c) f (19 - f)∧Below w.heap.size w wi∧Blk wi w.heap.size 64 #[.int .i64 0,.int .i64 0])
    (fun v _=>19 - (intOf v).toNat)
   case atStart=>exact ⟨0,by omega,rfl,rfl,hbel,HB.out⟩
   case round =>
    obtain ⟨f,hf19,rfl,hsf,hbel2,hblk2⟩:=hrel
    have HF:=Lib.hid hsf
    have HB2:=Lib.hid hblk2
    have hlt2:w.heap.size < wr.heap.size:=hblk2.lt
    have q0:wr.cell? ⟨w.heap.size,0,none⟩=some (.int .i64 0):=hblk2.cell 0
    have q1:wr.cell? ⟨w.heap.size,1,none⟩=some (.int .i64 0):=hblk2.cell 1
    have q2:=hblk2.frozen 0
    have q3:=hblk2.frozen 1
    clear hsf hblk2
    by_cases hle2:f≤18
    ·have hfi:0≤(f:Int)∧(f:Int)≤18:=by omega
     rcases plM_cases s crs l c f with ⟨hm,hst,hl1,hl2,heq⟩|⟨hm,hno⟩
     ·have HR:=Lib.hid (placeOf_some HE.out (show scanC (plM s crs l) 1 14=some (c,f) from by
       rw [HS.out,show 15 - c=(14 - c)+1 from by omega]
       exact scanC_yes _ _ _ _ (by rw [HF.out,show 19 - f=(18 - f)+1 from by omega,scanF_yes _ _ _ hm])))
      clear hm
      go_wp2_with (first|(go_at_call 274;refine (rstands_any _ _ _ _).mono ?_;rintro e w' ⟨rfl,hw⟩;rw [hw];clear hw)|(go_at_call 192;refine (rsymbol_any _ _ _ _ HS4.out hci hfi).mono ?_;rintro e w2 ⟨rfl,hb⟩;have k1:=HB2.out.after hb;have r0:w2.cell? ⟨w.heap.size,0,none⟩=some (.int .i64 0):=k1.cell 0;have r1:w2.cell? ⟨w.heap.size,1,none⟩=some (.int .i64 0):=k1.cell 1;have r2:=k1.frozen 0;have r3:=k1.frozen 1;have K1:=Lib.hid k1;clear k1))
      exact bodyPost_ret (v:=.tuple #[.agg #[.int .i64 c,.int .i64 f],.int .i64 0]) (by simp [results,Tryz.results259,go_sem,r0,r1]) rfl (Ret.mk' (by unfold placeV;rw [HR.out]) zqb)
     ·have HN:=Lib.hid (show scanF (plM s crs l c) 0 19=scanF (plM s crs l c) (f+1) (19 - (f+1)) from by
       rw [HF.out,show 19 - f=(19 - (f+1))+1 from by omega,scanF_no _ _ _ hm])
      clear hm
      rcases hno with hl|⟨hl1,hl2,hst⟩|⟨hl1,hl2,hst,heq⟩
      ·have hl1:(l == [])=true:=by simpa using hl
       have hl2:l.isEmpty=true:=by simpa using hl
       clear hl
       go_wp2_with (first|(go_at_call 274;refine (rstands_any _ _ _ _).mono ?_;rintro e w' ⟨rfl,hw⟩;rw [hw];clear hw)|(go_at_call 192;refine (rsymbol_any _ _ _ _ HS4.out hci hfi).mono ?_;rintro e w2 ⟨rfl,hb⟩;have k1:=HB2.out.after hb;have r0:w2.cell? ⟨w.heap.size,0,none⟩=some (.int .i64 0):=k1.cell 0;have r1:w2.cell? ⟨w.heap.size,1,none⟩=some (.int .i64 0):=k1.cell 1;have r2:=k1.frozen 0;have r3:=k1.frozen 1;have K1:=Lib.hid k1;clear k1))
       go_roundw
       case rel=>exact ⟨f+1,by omega,by go_num,HN.out,hbel2,HB2.out⟩
       case measure=>simp [intOf];omega
      ·go_wp2_with (first|(go_at_call 274;refine (rstands_any _ _ _ _).mono ?_;rintro e w' ⟨rfl,hw⟩;rw [hw];clear hw)|(go_at_call 192;refine (rsymbol_any _ _ _ _ HS4.out hci hfi).mono ?_;rintro e w2 ⟨rfl,hb⟩;have k1:=HB2.out.after hb;have r0:w2.cell? ⟨w.heap.size,0,none⟩=some (.int .i64 0):=k1.cell 0;have r1:w2.cell? ⟨w.heap.size,1,none⟩=some (.int .i64 0):=k1.cell 1;have r2:=k1.frozen 0;have r3:=k1.frozen 1;have K1:=Lib.hid k1;clear k1))
       go_roundw
       case rel=>exact ⟨f+1,by omega,by go_num,HN.out,hbel2,HB2.out⟩
       case measure=>simp [intOf];omega
      ·go_wp2_with (first|(go_at_call 274;refine (rstands_any _ _ _ _).mono ?_;rintro e w' ⟨rfl,hw⟩;rw [hw];clear hw)|(go_at_call 192;refine (rsymbol_any _ _ _ _ HS4.out hci hfi).mono ?_;rintro e w2 ⟨rfl,hb⟩;have k1:=HB2.out.after hb;have r0:w2.cell? ⟨w.heap.size,0,none⟩=some (.int .i64 0):=k1.cell 0;have r1:w2.cell? ⟨w.heap.size,1,none⟩=some (.int .i64 0):=k1.cell 1;have r2:=k1.frozen 0;have r3:=k1.frozen 1;have K1:=Lib.hid k1;clear k1))
       go_roundw
       case rel=>exact ⟨f+1,by omega,by go_num,HN.out,zqb,K1.out⟩
       case measure=>simp [intOf];omega
    ·have HN:=Lib.hid (show scanC (plM s crs l) 1 14=scanC (plM s crs l) (c+1) (15 - (c+1)) from by
      rw [HS.out,show 15 - c=(15 - (c+1))+1 from by omega]
      exact scanC_no _ _ _ (by rw [HF.out,show 19 - f=0 from by omega];rfl))
     go_wp2_with fail
     go_roundw
     case rel=>exact ⟨c+1,by omega,by omega,by go_num,HN.out,hbel2,HB2.out⟩
     case measure=>simp [intOf];omega
  ·have HR:=Lib.hid (placeOf_none HE.out (show scanC (plM s crs l) 1 14=none from by rw [HS.out,show 15 - c=0 from by omega];rfl))
   go_wp2_with fail
   exact bodyPost_ret (v:=.tuple #[.agg #[.int .i64 0,.int .i64 0],.int .i64 4]) (by simp [results,Tryz.results259,go_sem,q0,q1]) rfl (Ret.mk' (by unfold placeV;rw [HR.out]) zqb)
theorem rplace_any (s crs:Int) (l:List UInt8) (w:World) :
  Calls Tryz.prog 259 #[.int .u8 s,.int .i64 crs,.string (bs l)] w (Ret (placeV s crs l) w):=by
 by_cases h:spotErr s crs=0
 ·refine rplace_ok s crs l w ?_ h
  by_cases hs:1≤s∧s≤4
  ·exact hs
  ·unfold spotErr at h;rw [if_pos hs] at h;cases h
 ·have HR:=Lib.hid (placeOf_bad (l:=l) h)
  have hb2:(spotErr s crs == 0)=false:=by simpa using h
  clear h
  go_enter Tryz.func259,Tryz.ntmps259
  go_wp2_with (go_at_call 258;refine (rspot_any _ _ _).mono ?_;rintro e w' ⟨rfl,hw⟩;rw [hw];clear hw)
  go_returns
  exact Ret.mk' (by unfold placeV;rw [HR.out]) zqb
end
section
open Go.RowKit
attribute [local go_sem]mk_bs bs_size bs_toList bs_append bs_extract
attribute [local simp]run_cut run_cut_to run_cut_from run_add_bs
theorem rCell_lacks (s c f r g h L:Int) (w:World) (hSY:∀ w,Calls Tryz.prog 129 #[.int .u8 s,.agg #[.int .i64 c,.int .i64 f]] w (Ret (.tuple #[.string (bs (rS s c f)),.int .i64 0]) w)) (hs:1≤s∧s≤4) (hc:1≤c∧c≤14) (hf:0≤f∧f≤18) (hne:rS s c f≠[]) (hr:0≤r∧r≤3) (hg:0≤g∧g≤4) (hm:¬ (((L < 0∨15 < L)∨(h < 0∨L < h))∨(0 < h∧f=0))) (hk:0 < (wantsL s c f r g h L).length) :
  Calls Tryz.prog 246 #[.int .u8 s,.agg #[.int .i64 c,.int .i64 f,.int .i64 r,.int .i64 g,.int .i64 h],.int .i64 L] w (Ret (.tuple #[.string (bs []),.int .i64 31]) w):=by
 have SY:=Lib.hid hSY
 have HS:=Lib.hid hs
 have hh:0≤h∧h≤99:=by omega
 obtain ⟨n,hn⟩:∃ n,(wantsL s c f r g h L).length=n:=⟨_,rfl⟩
 have HWt:=Lib.hid (fun w=>wants_len s c f r g h L w hs hc hf hr hg hh hne)
 rw [hn] at HWt hk
 have hk':(0:Int) < (n:Int):=by omega
 have n1:¬ r < 0:=by omega
 have n2:¬ 3 < r:=by omega
 have n3:¬ g < 0:=by omega
 have n4:¬ 4 < g:=by omega
 have n5:¬ L < 0:=by omega
 have n6:¬ 15 < L:=by omega
 have n7:¬ h < 0:=by omega
 have n8:¬ L < h:=by omega
 have hcase:((f == 0)=true∧(h == 0)=true∧(h != 0)=false)∨((f == 0)=false∧True∧True):=by
  by_cases hz:f=0
  ·have:h=0:=by omega
   exact .inl ⟨by simpa using hz,by simpa using this,by simpa using this⟩
  ·exact .inr ⟨by simpa using hz,trivial,trivial⟩
 clear hm
 clear hn hSY hs hne
 rcases hcase with ⟨m1,m2,m3⟩|⟨m1,m2,m3⟩
 all_goals
  go_enter Tryz.func246,Tryz.ntmps246
  go_wp2_with (first|(go_at_call 129;refine (SY.out _).mono ?_;rintro e w1 ⟨rfl,hb1⟩;have k1:=(Blk.new _ _ _).after hb1;have x0:w1.cell? ⟨w.heap.size,0,none⟩=some (.int .i64 c):=k1.cell 0;have x1:w1.cell? ⟨w.heap.size,1,none⟩=some (.int .i64 f):=k1.cell 1;have x2:w1.cell? ⟨w.heap.size,2,none⟩=some (.int .i64 r):=k1.cell 2;have x3:w1.cell? ⟨w.heap.size,3,none⟩=some (.int .i64 g):=k1.cell 3;have x4:w1.cell? ⟨w.heap.size,4,none⟩=some (.int .i64 h):=k1.cell 4;have K1:=Lib.hid k1;clear k1)|(go_at_call 132;refine (HWt.out _).mono ?_;rintro e w2 ⟨a,cap,rfl,hb2⟩;have k2:=K1.out.after hb2;have y0:w2.cell? ⟨w.heap.size,0,none⟩=some (.int .i64 c):=k2.cell 0;have y1:w2.cell? ⟨w.heap.size,1,none⟩=some (.int .i64 f):=k2.cell 1;have y2:w2.cell? ⟨w.heap.size,2,none⟩=some (.int .i64 r):=k2.cell 2;have y3:w2.cell? ⟨w.heap.size,3,none⟩=some (.int .i64 g):=k2.cell 3;have y4:w2.cell? ⟨w.heap.size,4,none⟩=some (.int .i64 h):=k2.cell 4;clear k2))
  go_ret2
  exact Ret.mk' rfl zqb
theorem rCell_says (s c f r g h L:Int) (w:World) (hSY:∀ w,Calls Tryz.prog 129 #[.int .u8 s,.agg #[.int .i64 c,.int .i64 f]] w (Ret (.tuple #[.string (bs (rS s c f)),.int .i64 0]) w)) (hs:1≤s∧s≤4) (hc:1≤c∧c≤14) (hf:0≤f∧f≤18) (hne:rS s c f≠[]) (hr:0≤r∧r≤3) (hg:0≤g∧g≤4) (hm:¬ (((L < 0∨15 < L)∨(h < 0∨L < h))∨(0 < h∧f=0))) (hk:(wantsL s c f r g h L).length=0) :
  Calls Tryz.prog 246 #[.int .u8 s,.agg #[.int .i64 c,.int .i64 f,.int .i64 r,.int .i64 g,.int .i64 h],.int .i64 L] w (Ret (.tuple #[.string (bs (rS s c f++rR s r++rG s g++pH s h L)),.int .i64 0]) w):=by
 have SY:=Lib.hid hSY
 have HS:=Lib.hid hs
 have hh:0≤h∧h≤99:=by omega
 have HWt:=Lib.hid (fun w=>wants_len s c f r g h L w hs hc hf hr hg hh hne)
 rw [hk] at HWt
 have a1:=(pS_len s c f hs hc hf).2
 have a2:=rR_len s r
 have a3:=rG_len s g
 have a4:=rH_len s h L
 have b1:(rS s c f).length+(rR s r).length≤9223372036854775807:=by omega
 have b2:(rS s c f).length+(rR s r).length+(rG s g).length≤9223372036854775807:=by omega
 have b2':(rS s c f).length+((rR s r).length+(rG s g).length)≤9223372036854775807:=by omega
 have b3:(rS s c f).length+(rR s r).length+(rG s g).length+(rH s h L).length≤9223372036854775807:=by omega
 have b3':(rS s c f).length+((rR s r).length+((rG s g).length+(rH s h L).length))≤9223372036854775807:=by omega
 have b3c:(rS s c f).length+((rR s r).length+(rG s g).length)+(rH s h L).length≤9223372036854775807:=by omega
 clear a1 a2 a3 a4
 have n1:¬ r < 0:=by omega
 have n2:¬ 3 < r:=by omega
 have n3:¬ g < 0:=by omega
 have n4:¬ 4 < g:=by omega
 have n5:¬ L < 0:=by omega
 have n6:¬ 15 < L:=by omega
 have n7:¬ h < 0:=by omega
 have n8:¬ L < h:=by omega
 by_cases hz:h=0
 ·have e:pH s h L=[]:=if_pos hz
  have hz1:¬ 0 < h:=by omega
  have hz2:(h == 0)=true:=by simpa using hz
  have hz3:(h != 0)=false:=by simpa using hz
  rw [e]
  clear e hz hm hk hSY hs hne
  cases hfz:(f == 0)
  all_goals
   go_enter Tryz.func246,Tryz.ntmps246
   go_wp2_with (first|(go_at_call 129;refine (SY.out _).mono ?_;rintro e w1 ⟨rfl,hb1⟩;have k1:=(Blk.new _ _ _).after hb1;have x0:w1.cell? ⟨w.heap.size,0,none⟩=some (.int .i64 c):=k1.cell 0;have x1:w1.cell? ⟨w.heap.size,1,none⟩=some (.int .i64 f):=k1.cell 1;have x2:w1.cell? ⟨w.heap.size,2,none⟩=some (.int .i64 r):=k1.cell 2;have x3:w1.cell? ⟨w.heap.size,3,none⟩=some (.int .i64 g):=k1.cell 3;have x4:w1.cell? ⟨w.heap.size,4,none⟩=some (.int .i64 h):=k1.cell 4;have K1:=Lib.hid k1;clear k1)|(go_at_call 132;refine (HWt.out _).mono ?_;rintro e w2 ⟨a,cap,rfl,hb2⟩;have k2:=K1.out.after hb2;have y0:w2.cell? ⟨w.heap.size,0,none⟩=some (.int .i64 c):=k2.cell 0;have y1:w2.cell? ⟨w.heap.size,1,none⟩=some (.int .i64 f):=k2.cell 1;have y2:w2.cell? ⟨w.heap.size,2,none⟩=some (.int .i64 r):=k2.cell 2;have y3:w2.cell? ⟨w.heap.size,3,none⟩=some (.int .i64 g):=k2.cell 3;have y4:w2.cell? ⟨w.heap.size,4,none⟩=some (.int .i64 h):=k2.cell 4;clear k2))
   go_quiet ((first|(go_at_call 193;exact Calls.quiet_of_same (rright_any _ _ _ HS.out hr))|(go_at_call 194;exact Calls.quiet_of_same (rgrace_any _ _ _ HS.out hg))))
   go_wp2_with fail
   go_ret2
   exact Ret.mk' (by simp) zqb
 ·have e:pH s h L=rH s h L:=if_neg hz
  have hz1:0 < h:=by omega
  have hfz:(f == 0)=false:=by simp;omega
  rw [e]
  clear e hz hm hk hSY hs hne
  go_enter Tryz.func246,Tryz.ntmps246
  go_wp2_with (first|(go_at_call 129;refine (SY.out _).mono ?_;rintro e w1 ⟨rfl,hb1⟩;have k1:=(Blk.new _ _ _).after hb1;have x0:w1.cell? ⟨w.heap.size,0,none⟩=some (.int .i64 c):=k1.cell 0;have x1:w1.cell? ⟨w.heap.size,1,none⟩=some (.int .i64 f):=k1.cell 1;have x2:w1.cell? ⟨w.heap.size,2,none⟩=some (.int .i64 r):=k1.cell 2;have x3:w1.cell? ⟨w.heap.size,3,none⟩=some (.int .i64 g):=k1.cell 3;have x4:w1.cell? ⟨w.heap.size,4,none⟩=some (.int .i64 h):=k1.cell 4;have K1:=Lib.hid k1;clear k1)|(go_at_call 132;refine (HWt.out _).mono ?_;rintro e w2 ⟨a,cap,rfl,hb2⟩;have k2:=K1.out.after hb2;have y0:w2.cell? ⟨w.heap.size,0,none⟩=some (.int .i64 c):=k2.cell 0;have y1:w2.cell? ⟨w.heap.size,1,none⟩=some (.int .i64 f):=k2.cell 1;have y2:w2.cell? ⟨w.heap.size,2,none⟩=some (.int .i64 r):=k2.cell 2;have y3:w2.cell? ⟨w.heap.size,3,none⟩=some (.int .i64 g):=k2.cell 3;have y4:w2.cell? ⟨w.heap.size,4,none⟩=some (.int .i64 h):=k2.cell 4;clear k2))
  go_quiet ((first|(go_at_call 193;exact Calls.quiet_of_same (rright_any _ _ _ HS.out hr))|(go_at_call 194;exact Calls.quiet_of_same (rgrace_any _ _ _ HS.out hg))))
  go_wp2_with (go_at_call 195;refine (rhold_any _ _ _ _ HS.out hh).mono ?_;rintro e w' ⟨rfl,hw⟩;rw [hw];clear hw)
  go_ret2
  exact Ret.mk' (by simp) zqb
theorem rCell_any (s c f r g h L:Int) (w:World):Calls Tryz.prog 246 #[.int .u8 s,.agg #[.int .i64 c,.int .i64 f,.int .i64 r,.int .i64 g,.int .i64 h],.int .i64 L] w (Ret (.tuple #[.string (bs (cellTxt s c f r g h L)),.int .i64 (cellErr s c f r g h L)]) w):=by
 have hSY:=fun w=>rsymbolT_any s c f w
 by_cases hs:1≤s∧s≤4
 ·by_cases hb:(c < 1∨14 < c)∨(f < 0∨18 < f)
  ·have e:=cellErr_place s c f r g h L hs hb
   have es:=symErr_bad s c f hs hb
   rw [e.1,e.2]
   exact rCell_place s c f r g h L _ _ w hSY (by rw [es];split<;>decide) (by rw [es];split<;>decide)
  ·have hc:1≤c∧c≤14:=by omega
   have hf:0≤f∧f≤18:=by omega
   have hE:=symErr_good s c f hs hc hf
   by_cases h1:(r < 0∨3 < r)∨(g < 0∨4 < g)
   ·have e:=cellErr_marks s c f r g h L hs hc hf h1
    rw [e.1,e.2];exact rCell_marks s c f r g h L _ _ w hSY hE h1
   ·have hr:0≤r∧r≤3:=by omega
    have hg:0≤g∧g≤4:=by omega
    by_cases h2:((L < 0∨15 < L)∨(h < 0∨L < h))∨(0 < h∧f=0)
    ·have e:=cellErr_holds s c f r g h L hs hc hf h1 h2
     rw [e.1,e.2];exact rCell_holds s c f r g h L _ _ w hSY hE hr hg h2
    ·rw [cellErr_ok s c f r g h L hs hc hf h1 h2]
     obtain ⟨l1,l2⟩:=sym_law s c f hs hc hf
     by_cases hne:rS s c f=[]
     ·have hk:cellOk s c f r g h L=false:=by unfold cellOk;rw [l1,hne];rfl
      rw [hk,if_neg (by decide)]
      refine rCell_cannot s c f r g h L _ _ w hSY ?_ hr hg h2
      unfold symErr;rw [if_neg (fun k=>k hs),if_neg (by omega),if_neg (by omega),if_pos hne]
     ·have e0:symErr s c f=0:=by unfold symErr;rw [if_neg (fun k=>k hs),if_neg (by omega),if_neg (by omega),if_neg hne]
      have e1:symTxt s c f=rS s c f:=by unfold symTxt;rw [if_pos e0]
      rw [e0,e1] at hSY
      rcases wants_ok s c f r g h L hs hc hf hne with ⟨k1,k2⟩|⟨k1,k2⟩
      ·rw [k2,if_pos rfl]
       have hp:pOk s c f=true:=by rw [l1];simpa using hne
       have ec:cellS s c f r g h L=rS s c f++rR s r++rG s g++pH s h L:=by unfold cellS;rw [l2 hp]
       rw [ec]
       exact rCell_says s c f r g h L w hSY hs hc hf hne hr hg h2 k1
      ·rw [k2,if_neg (by decide)]
       exact rCell_lacks s c f r g h L w hSY hs hc hf hne hr hg h2 k1
 ·have e0:symErr s c f=30:=if_pos hs
  have e1:cellErr s c f r g h L=30:=by unfold cellErr;rw [e0,if_pos (by decide)]
  have e2:cellTxt s c f r g h L=[]:=by unfold cellTxt;rw [e1,if_neg (by decide)]
  rw [e1,e2]
  rw [e0] at hSY
  exact rCell_place s c f r g h L _ _ w hSY (by decide) (by decide)
end
section
open Go.RowKit
attribute [local go_sem]mk_bs bs_size bs_toList bs_append bs_extract
attribute [local simp]run_cut run_cut_to run_cut_from run_add_bs
theorem rword_any (s v:Int)(i:Nat)(w:World)(hv:0≤v∧v≤7)(hi:i≤2)(hz:v=0→i=0) :
    Calls Tryz.prog 200 #[.int .u8 s,.agg #[.int .i64 v,.bool (sgD i),.bool (sgT i)]] w (Ret (.string (bs (rW s v i))) w):=by
  have h3:i=0∨i=1∨i=2:=by omega
  have h8:v=0∨v=1∨v=2∨v=3∨v=4∨v=5∨v=6∨v=7:=by omega
  clear hi hv
  by_cases h4:s=4
  · subst h4
    rcases h3 with rfl|rfl|rfl<;>rcases h8 with rfl|rfl|rfl|rfl|rfl|rfl|rfl|rfl
    all_goals first
      | (exfalso;revert hz;decide)
      | (clear hz
         simp only [sgD,sgT]
         go_enter Tryz.func200,Tryz.ntmps200
         go_wp2
         go_ret
         exact Ret.mk' rfl zqb)
  · have hb:(s == 4)=false:=by simpa using h4
    have hd:decide (s≠4)=true:=decide_eq_true h4
    have e:rW s v i=tW v i:=by
      unfold rW tOk
      rw [hd];split<;>simp
    rw [e]
    clear e h4 hd
    rcases h3 with rfl|rfl|rfl<;>rcases h8 with rfl|rfl|rfl|rfl|rfl|rfl|rfl|rfl
    all_goals first
      | (exfalso;revert hz;decide)
      | (clear hz
         simp only [sgD,sgT]
         go_enter Tryz.func200,Tryz.ntmps200
         go_wp2
         go_ret
         exact Ret.mk' rfl zqb)
def sgCells (l:List (Nat×Nat)):List Value:=l.flatMap fun p=>[.int .i64 p.1,.bool (sgD p.2),.bool (sgT p.2)]
theorem sgStep (v:Nat)(h:2≤v∧v≤7):sgCells (refSigns.take (2+3*(v-2)))++[.int .i64 v,.bool true,.bool false,.int .i64 ((v:Int)-1),.bool false,.bool true,.int .i64 v,.bool false,.bool false]=sgCells (refSigns.take (2+3*(v+1-2))):=by
 have h6:v=2∨v=3∨v=4∨v=5∨v=6∨v=7:=by omega
 rcases h6 with rfl|rfl|rfl|rfl|rfl|rfl<;>rfl
theorem info_sign:(Tryz.prog.info? 87).map (fun i=>(i.zero,i.size,i.bytes))=some (some (.agg #[.int .i64 0,.bool false,.bool false]),3,16):=by kernel_rfl
def RetRow(e:TypeId)(size n:Nat)(xs:List Value)(W:World)(en:Ending)(w':World):Prop:=∃ v,en=.returned v∧w'.ownsRow W.heap.size e size v n xs∧Below W.heap.size W w'
theorem all_any (w:World):Calls Tryz.prog 227 #[] w (RetRow 87 3 21 (sgCells (refSigns.take 21)) w):=by
 obtain ⟨i0,hi,hz0,hz1,hz2⟩:=info_parts info_sign
 go_enter Tryz.func227,Tryz.ntmps227
 go_wp2_with fail
 go_loopw [1,2] (fun s u wr=>∃ v:Nat,2≤v∧v≤8∧u=.int .i64 v∧wr.ownsRow w.heap.size 87 3 s (2+3*(v - 2)) (sgCells (refSigns.take (2+3*(v - 2))))∧Below w.heap.size w wr)
  (fun _ u _=>8 - (intOf u).toNat)
 case atStart=>exact ⟨2,by omega,by omega,rfl,own_built w 87 3 2 _ (by unfold maxLen;omega) rfl,zqb⟩
 case round =>
  obtain ⟨v,hv2,hv8,rfl,hown,hbel⟩:=hrel
  have HO:=Lib.hid hown
  clear hown
  by_cases hle:v≤7
  ·have g1:1≤(v:Int):=by omega
   have HS:=Lib.hid (sgStep v ⟨hv2,hle⟩)
   go_wp2_with (at_builtin;refine wpList_append_own _ rfl (.tmp 10) (.tmp 18) 248 rfl w.heap.size 87 i0 (.agg #[.int .i64 0,.bool false,.bool false]) 3 16 Tryz.underlying248 hi hz0 hz1 hz2 rfl (by decide) _ _ _ rfl (HO.out.alloc _) ⟨wr.heap.size,0,none⟩ 3 3 [.int .i64 v,.bool true,.bool false,.int .i64 ((v:Int) - 1),.bool false,.bool true,.int .i64 v,.bool false,.bool false] rfl rfl ?c1 ?c2 ?c3 ?c4 ?c5 ?_)
   case c1=>exact World.news_of_block (cs:=#[.int .i64 v,.bool true,.bool false,.int .i64 ((v:Int) - 1),.bool false,.bool true,.int .i64 v,.bool false,.bool false]) (t:=87) (fr:=(0,0)) (heap_alloc_new wr _)
   case c2=>simp [Value.oneCell']
   case c3=>unfold maxLen;omega
   case c4=>omega
   case c5=>have:=hbel.size;simp;omega
   intro v' w1 hown1 hgrow _
   have hbel1:Below w.heap.size w w1:=(bel_alloc hbel _).grown hgrow (by have:=hbel.size;simp;omega) (own_ge (HO.out.alloc (.cells #[] 0)))
   rw [HS.out] at hown1
   have HO1:=Lib.hid hown1
   clear hown1 hgrow
   go_wp2_with fail
   go_roundw
   case rel=>exact ⟨v+1,by omega,by omega,by go_num,by have:=HO1.out;rw [show 2+3*(v - 2)+3=2+3*(v+1 - 2) from by omega] at this;exact this,hbel1⟩
   case measure=>simp [intOf];omega
  ·have hv:v=8:=by omega
   subst hv
   go_wp2_with (at_builtin;refine wpList_append_own _ rfl (.tmp 20) (.tmp 22) 248 rfl w.heap.size 87 i0 (.agg #[.int .i64 0,.bool false,.bool false]) 3 16 Tryz.underlying248 hi hz0 hz1 hz2 rfl (by decide) _ _ _ rfl (HO.out.alloc _) ⟨wr.heap.size,0,none⟩ 1 1 [.int .i64 7,.bool false,.bool true] rfl rfl ?d1 ?d2 ?d3 ?d4 ?d5 ?_)
   case d1=>exact World.news_of_block (cs:=#[.int .i64 7,.bool false,.bool true]) (t:=87) (fr:=(0,0)) (heap_alloc_new wr _)
   case d2=>simp [Value.oneCell']
   case d3=>unfold maxLen;omega
   case d4=>omega
   case d5=>have:=hbel.size;simp;omega
   intro v' w1 hown1 hgrow _
   have hbel1:Below w.heap.size w w1:=(bel_alloc hbel _).grown hgrow (by have:=hbel.size;simp;omega) (own_ge (HO.out.alloc (.cells #[] 0)))
   have HO1:=Lib.hid hown1
   clear hown1 hgrow
   go_wp2_with fail
   go_ret
   exact ⟨_,rfl,HO1.out,hbel1⟩
end
end Go.Proofs.YthehkchjdkdbiaaGreatDoor
