/- What the row's condition on package-level variables gives (reading and writing), and the frame that keeps the world's shape beside it. -/
import Derived.Test.YthehkchjdkdbiaaGreatDoorG9Kq
import Derived.LaidMore
import Derived.HandedShaped
import Derived.Stop.LaidErr
import Derived.Lay
set_option maxRecDepth 100000
set_option linter.unusedVariables false
set_option linter.unusedSimpArgs false
namespace Go.Proofs.YthehkchjdkdbiaaGreatDoor
open Go.ChangeShapes Go.WideShapes Go.ChangeAt Go.RowKit
def Gy:List (String×DataW Unit):=[("math/bits.deBruijn32tab",Rows.laid_math_bits_deBruijn32tab),("math/bits.deBruijn64tab",Rows.laid_math_bits_deBruijn64tab),("internal/strconv.uint64pow10",Rows.laid_internal_strconv_uint64pow10),("unicode/utf8.acceptRanges",Rows.laid_unicode_utf8_acceptRanges),("theorbo/instrument.bases",Rows.laid_theorbo_instrument_bases),("theorbo/instrument.fifths",Rows.laid_theorbo_instrument_fifths),("unicode/utf8.first",Rows.laid_unicode_utf8_first)]
theorem azg:ownKnob Tryz.prog.godebug=none:=by kernel_rfl
theorem acH(l:List Int)(i:Nat)(v:Int)(hv:l[i]?=some v):i<l.length∧l.getD i 0=v:=by
 obtain⟨hi,e⟩:=List.getElem?_eq_some_iff.1 hv
 exact⟨hi,by rw [oP,hv];rfl⟩
theorem SQ {W:World} (h:laidMetH Tryz.prog Gy W) (hs:W.ShapedOpen Tryz.prog):aag W (fun p=>W.cell? p):=by
 rw [MakeChecks.laidMetH_plain _ _ _ bD] at h
 have h3:=h.tail.tail
 have h5:=h3.tail.tail
 have e1:Lib.TabIs Tryz.prog W "internal/strconv.uint64pow10" .u64 Lib.pow10Tab :=
  Lib.tabIs_of_head (g:=5) (t:=371) (e:=349) (n:=20) bD bD Tryz.underlying371 Tryz.underlying349 bD bD h3
 have e2:Lib.TabIs Tryz.prog W "theorbo/instrument.bases" .i64 bsL :=
  Lib.tabIs_of_head (g:=1) (t:=261) (e:=3) (n:=7) bD bD Tryz.underlying261 Tryz.underlying3 bD bD h5
 have e3:Lib.TabIs Tryz.prog W "theorbo/instrument.fifths" .i64 ftL :=
  Lib.tabIs_of_head (g:=0) (t:=261) (e:=3) (n:=7) bD bD Tryz.underlying261 Tryz.underlying3 bD bD h5.tail
 have c2:∀ (i:Nat) v,bsL[i]?=some v→W.cell? ⟨1,i,none⟩=some (.int .i64 v):=fun i v hv=>by
  obtain ⟨hi,e⟩:=acH _ _ _ hv
  rw [← e];exact e2.cell bD i hi
 have c3:∀ (i:Nat) v,ftL[i]?=some v→W.cell? ⟨0,i,none⟩=some (.int .i64 v):=fun i v hv=>by
  obtain ⟨hi,e⟩:=acH _ _ _ hv
  rw [← e];exact e3.cell bD i hi
 exact ⟨⟨c3,c2,e1⟩,c2,e1,cell_of_shapedOpen_int (zero:=#[.int .i64 0]) (t:=3) hs (iY bD) bD rfl bD bD Tryz.underlying3⟩
theorem adB (os:Os) (args:Array Value):laidMetH Tryz.prog Gy ((World.laidAll Tryz.prog os Gy).forCall (fun _ _=>0) ⟨#[],args,[]⟩).memory:=by
 rw [MakeChecks.laidMetH_plain _ _ _ bD]
 exact laidMet_laidAll _ bD bD
theorem aoN (os:Os):(World.laidAll Tryz.prog os Gy).Shaped Tryz.prog:=World.shaped_of_ZipB (by kernel_rfl) (by kernel_rfl)
theorem aiN {H:Type} {enc:TypeId×Value→H} {a:Assume} {C:Checked} {os:Os} {f:FuncId} {fn:Func} {s:ChangeSpec} {conds:List PathCond} {apart fresh handsOn again:Bool} {X:World→Array Value→Prop}
  (hX:∀ (w w':World) (args:Array Value),w.heap=w'.heap→X w args→X w' args)
  (own:ownKnob C.prog.godebug=none) (started:os.Started) (noInit:C.prog.inits.idxOf? f=none) (hfn:C.prog.funcs[f]?=some fn)
  (witness:∃ (w:World) (tape:Tape) (i:Input),w.os=os∧(w.forCall tape i).Shaped C.prog∧i.vars=[]∧Input.okWide C.prog (w.forCall tape i) .any w.heap.size f i ∧
   ((s.pre enc C.prog fn conds apart (w.forCall tape i).memory i.args∧X (w.forCall tape i).memory i.args)∧sizedMet enc C.prog fn (OpenSpec.ofChange s) apart (w.forCall tape i).memory i.args)∧a.holds C.prog (lone (Frame.enter C.prog f i.args .normal) [] (w.forCall tape i)))
  (contract:∀ (W:World) (base:Nat) (args:Array Value) (ds gs:List (DataW H)) (before:List MemPlace),
   (∀ (j:Nat) t v,fn.params[j]?=some t→args[j]?=some v→Value.okWide C.prog W .any base t v) →
   DataW.Whole enc C.prog fn.params.toList s.vars apart W args.toList ds gs before→X W args→W.ShapedOpen C.prog →
   Calls C.prog f args W fun e W'=>∃ v,e=.returned v∧s.post enc C.prog fn apart fresh handsOn again W args v W') :
  ReturnsInHanded a C os f .any (fun w args=>(s.pre enc C.prog fn conds apart w args∧X w args)∧sizedMet enc C.prog fn (OpenSpec.ofChange s) apart w args) (s.post enc C.prog fn apart fresh handsOn again):=by
 refine returnsInHanded_of_calls own started noInit witness ?_
 intro w tape i _ hsh _ hok hpre _
 obtain ⟨_,_,_,fn',hfn',_,_,_,_,hval⟩:=hok
 obtain rfl:fn'=fn:=Option.some.inj (hfn'.symm.trans hfn)
 obtain ⟨⟨⟨ds,gs,before,hw,_⟩,hx⟩,_⟩:=hpre
 refine (contract (w.forCall tape i) w.heap.size i.args ds gs before hval (DataW.Whole.of_heap (w':=w.forCall tape i) (by rfl) hw) (hX _ _ _ (by rfl) hx) hsh).mono fun e W' ⟨v,he,hp⟩=>?_
 subst he
 exact ChangeSpec.post_blind hp
end Go.Proofs.YthehkchjdkdbiaaGreatDoor
