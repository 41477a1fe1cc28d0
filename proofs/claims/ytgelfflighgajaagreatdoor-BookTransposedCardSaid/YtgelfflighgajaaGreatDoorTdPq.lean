/- What the row's condition on package-level variables gives: the tables. -/
import Derived.Test.YtgelfflighgajaaGreatDoorRows
import Derived.Test.YtgelfflighgajaaGreatDoorSfPPq
import Derived.LaidMore
import Derived.Stop.Joined
import Derived.Stop.LaidErr
set_option maxRecDepth 100000
set_option linter.unusedVariables false
set_option linter.unusedSimpArgs false
namespace Go.Proofs.YtgelfflighgajaaGreatDoor
open Go.ChangeShapes Go.WideShapes Go.ChangeAt Go.RowKit
theorem z51k {α:Sort _} {a b:α} (h:a = b:=by kernel_rfl):a = b:=h
def laidT:List (String×DataW Unit):=[("math/bits.deBruijn32tab",Rows.laid_math_bits_deBruijn32tab),("math/bits.deBruijn64tab",Rows.laid_math_bits_deBruijn64tab),("internal/strconv.uint64pow10",Rows.laid_internal_strconv_uint64pow10),("theorbo/instrument.bases",Rows.laid_theorbo_instrument_bases),("theorbo/instrument.fifths",Rows.laid_theorbo_instrument_fifths)]
theorem ownT:ownKnob Tryz.prog.godebug=none:=by kernel_rfl
theorem tab_of_laid {W:World} (h:laidMetH Tryz.prog laidT W):tabB W (fun p=>W.cell? p):=by
 rw [MakeChecks.laidMetH_plain _ _ _ z51k] at h
 have h3:=h.tail.tail
 have e1:Lib.TabIs Tryz.prog W "internal/strconv.uint64pow10" .u64 Lib.pow10Tab :=
  Lib.tabIs_of_head (g:=3) (t:=344) (e:=322) (n:=20) z51k z51k Tryz.underlying344 Tryz.underlying322 z51k z51k h3
 have e2:Lib.TabIs Tryz.prog W "theorbo/instrument.bases" .i64 bsL :=
  Lib.tabIs_of_head (g:=1) (t:=303) (e:=3) (n:=7) z51k z51k Tryz.underlying303 Tryz.underlying3 z51k z51k h3.tail
 have e3:Lib.TabIs Tryz.prog W "theorbo/instrument.fifths" .i64 ftL :=
  Lib.tabIs_of_head (g:=0) (t:=303) (e:=3) (n:=7) z51k z51k Tryz.underlying303 Tryz.underlying3 z51k z51k h3.tail.tail
 have get:∀ (l:List Int) (i:Nat) v,l[i]?=some v→i<l.length∧l.getD i 0=v:=fun l i v hv=>by
  obtain ⟨hi,e⟩:=List.getElem?_eq_some_iff.1 hv
  exact ⟨hi,by rw [List.getD_eq_getElem?_getD,hv];rfl⟩
 refine ⟨fun i v hv=>?_,fun i v hv=>?_,e1⟩
 ·obtain ⟨hi,e⟩:=get _ _ _ hv
  rw [← e];exact e3.cell z51k i hi
 ·obtain ⟨hi,e⟩:=get _ _ _ hv
  rw [← e];exact e2.cell z51k i hi
theorem door_met (os:Os) (args:Array Value):laidMetH Tryz.prog laidT ((World.doorLaid Tryz.prog 400 os).forCall (fun _ _=>0) ⟨#[],args,[]⟩).memory :=
 laidMetH_of_parts3 (fuel:=8) (laidMet_of_run' 8 z51k z51k) z51k z51k
end Go.Proofs.YtgelfflighgajaaGreatDoor
