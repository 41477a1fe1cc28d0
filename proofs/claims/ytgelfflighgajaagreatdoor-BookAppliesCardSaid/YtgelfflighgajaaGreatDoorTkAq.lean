/- Time words of the program: signs. -/
import Derived.Below
import Derived.ChangeSame
import Derived.Lib.SmallJoins
import Derived.Deep.Fields
import Derived.Test.YtgelfflighgajaaGreatDoorChPAq
set_option linter.unusedVariables false
set_option linter.unusedSimpArgs false
namespace Go.Proofs.YtgelfflighgajaaGreatDoor
open Go.RowKit Go.WideShapes Go.ChangeShapes Go.Joins Go.Deep
section
variable {H:Type} {enc:TypeId×Value→H} {P:Program} {w:World} {base:Nat} {spare:Nat→Bool} {held:Bool}
theorem post_of_below {f:Func} {s:ChangeSpec} {apart fresh handsOn again:Bool} {W W':World} {args:Array Value} {v:Value} {ds gs:List (DataW H)} {before pa pv:List MemPlace}
  (hW:DataW.Whole enc P f.params.toList s.vars apart W args.toList ds gs before)
  (hres:∀ (b:Nat) (sp:Nat→Bool) (hd:Bool),DataW.TrodAll enc P W' b sp hd f.resultTypes.toList (v.resultList f.resultTypes.size) (s.fn H (ds++gs)).results [])
  (hargs:∀ sp:Nat→Bool,(∀ p∈before,sp p.block=true)→DataW.TrodAll enc P W' 0 sp true f.params.toList args.toList (s.fn H (ds++gs)).args pa)
  (hvars:∀ sp:Nat→Bool,(∀ p∈before,sp p.block=true)→DataW.TrodVars enc P W' sp s.vars (s.fn H (ds++gs)).vars pv)
  (hps:before=pa++pv) (hb:Below W.heap.size W W')
  (hok:∀ (j:Nat) (t:TypeId) (r:Value),f.resultTypes[j]?=some t→(v.resultList f.resultTypes.size)[j]?=some r→Value.okWide P W' .any 0 t r) :
  s.post enc P f apart fresh handsOn again W args v W':=by
 have hlt:∀ p∈before,p.block<W.heap.size:=fun p hp=>hW.lt p hp
 have hold:∀ p∈before,(fun b=>decide (b<W.heap.size)) p.block=true:=fun p hp=>by simpa using hlt p hp
 refine ⟨ds,gs,before,[],pa,pv,hW,hres _ _ _,hargs _ hold,hvars _ hold,World.keptBut_mono (fun p hp=>⟨hp,?_⟩) (hb.frame (·∈before)),fun _=>?_⟩
 ·rw [hps,List.mem_append] at hp
  exact Or.inr hp
 ·obtain ⟨_,_,_,_,_,hz,hn⟩:=hW
  refine ⟨hok,_,_,([]++pa)++pv,⟨[]++pa,pv,trodAll_append (hargs _ (fun _ _=>rfl)) (hres _ _ _),hvars _ (fun _ _=>rfl),rfl,?_,?_⟩,?_⟩
  ·intro b off hp
   have hin:MemPlace.cell b off∈before:=by rw [hps];simpa using hp
   rw [hb.frozen (hlt _ hin)]
   exact hz b off hin
  ·intro ha
   have:=hn ha
   rw [hps] at this
   simpa using this
  ·intro p hp _
   rw [hps]
   simpa using hp
end
end Go.Proofs.YtgelfflighgajaaGreatDoor
namespace Go.Proofs.YtgelfflighgajaaGreatDoor
open Go.RowKit
set_option maxHeartbeats 1600000
set_option maxRecDepth 100000
attribute [local go_sem] mk_bs bs_size bs_toList bs_append bs_extract
attribute [local simp] run_cut run_cut_to run_cut_from run_add_bs
theorem of_bad (n:Int) (w:World) (h:n<1∨4<n):Calls Tryz.prog 122 #[.int .u8 n] w fun e w'=>e=.returned (.tuple #[.nilIface,.bool false])∧w=w':=by
 have h1:(n == 1)=false:=by simp;omega
 have h2:(n == 2)=false:=by simp;omega
 have h3:(n == 3)=false:=by simp;omega
 have h4:(n == 4)=false:=by simp;omega
 go_enter Tryz.func122,Tryz.ntmps122
 go_wp2
 go_ret2
 exact ⟨rfl,rfl⟩
theorem psym_1 (c f:Int) (w:World) (hc:1≤c∧c≤14) (hf:0≤f∧f≤18) :
  Calls Tryz.prog 280 #[.agg #[],.agg #[.int .i64 c,.int .i64 f]] w (Ret (.tuple #[.string (bs (pS 1 c f)),.bool (pOk 1 c f)]) w):=fr_symbol c f w hc hf
theorem psym_2 (c f:Int) (w:World) (hc:1≤c∧c≤14) (hf:0≤f∧f≤18) :
  Calls Tryz.prog 290 #[.agg #[],.agg #[.int .i64 c,.int .i64 f]] w (Ret (.tuple #[.string (bs (pS 2 c f)),.bool (pOk 2 c f)]) w):=it_symbol c f w hc hf
theorem psym_3 (c f:Int) (w:World) (hc:1≤c∧c≤14) (hf:0≤f∧f≤18) :
  Calls Tryz.prog 298 #[.agg #[],.agg #[.int .i64 c,.int .i64 f]] w (Ret (.tuple #[.string (bs (pS 3 c f)),.bool (pOk 3 c f)]) w):=sp_symbol c f w hf
theorem psym_4 (c f:Int) (w:World) (hc:1≤c∧c≤14) (hf:0≤f∧f≤18) :
  Calls Tryz.prog 305 #[.agg #[],.agg #[.int .i64 c,.int .i64 f]] w (Ret (.tuple #[.string (bs (pS 4 c f)),.bool (pOk 4 c f)]) w):=ge_symbol c f w hc hf
end Go.Proofs.YtgelfflighgajaaGreatDoor
namespace Go.Proofs.YtgelfflighgajaaGreatDoor
open Go.RowKit
set_option maxHeartbeats 1600000
set_option maxRecDepth 100000
attribute [local go_sem] mk_bs bs_size bs_toList bs_append bs_extract
attribute [local simp] run_cut run_cut_to run_cut_from run_add_bs
theorem ticks_bad (v:Int) (d t:Bool) (w:World) (h:v < 1∨7 < v∨(d && t)=true):Calls Tryz.prog 178 #[.agg #[.int .i64 v,.bool d,.bool t]] w (Ret (.int .i64 0) w):=by
 by_cases h1:v < 1
 ·clear h
  go_enter Tryz.func178,Tryz.ntmps178
  go_wp2
  go_ret
  exact Ret.mk' rfl (by repeat (first|exact Below.refl _ _|assumption|refine bel_drewN ?_ _|refine Below.drew ?_|refine bel_alloc ?_ _|refine Below.setCell ?_ (by first|omega|(simp;done)|(simp;omega)) _|refine bel_step ?_ (by assumption)))
 ·by_cases h2:7 < v
  ·clear h
   go_enter Tryz.func178,Tryz.ntmps178
   go_wp2
   go_ret
   exact Ret.mk' rfl (by repeat (first|exact Below.refl _ _|assumption|refine bel_drewN ?_ _|refine Below.drew ?_|refine bel_alloc ?_ _|refine Below.setCell ?_ (by first|omega|(simp;done)|(simp;omega)) _|refine bel_step ?_ (by assumption)))
  ·have h3:d=true∧t=true:=by
    rcases h with h|h|h
    ·exact absurd h h1
    ·exact absurd h h2
    ·simpa using h
   obtain ⟨rfl,rfl⟩:=h3
   clear h
   go_enter Tryz.func178,Tryz.ntmps178
   go_wp2
   go_ret
   exact Ret.mk' rfl (by repeat (first|exact Below.refl _ _|assumption|refine bel_drewN ?_ _|refine Below.drew ?_|refine bel_alloc ?_ _|refine Below.setCell ?_ (by first|omega|(simp;done)|(simp;omega)) _|refine bel_step ?_ (by assumption)))
theorem ticks_good (v:Int) (d t:Bool) (w:World) (hv:1≤v∧v≤7) (h:(d && t)=false):Calls Tryz.prog 178 #[.agg #[.int .i64 v,.bool d,.bool t]] w (Ret (.int .i64 (tkV v d t)) w):=by
  have h7:v=1∨v=2∨v=3∨v=4∨v=5∨v=6∨v=7:=by omega
  clear hv
  cases d<;>cases t
  all_goals first
    | (exfalso;revert h;decide)
    | (clear h
       rcases h7 with rfl|rfl|rfl|rfl|rfl|rfl|rfl
       all_goals
         go_enter Tryz.func178,Tryz.ntmps178
         go_wp2
         go_ret
         exact Ret.mk' rfl (by repeat (first|exact Below.refl _ _|assumption|refine bel_drewN ?_ _|refine Below.drew ?_|refine bel_alloc ?_ _|refine Below.setCell ?_ (by first|omega|(simp;done)|(simp;omega)) _|refine bel_step ?_ (by assumption))))
theorem ticks_any (v:Int) (d t:Bool) (w:World):Calls Tryz.prog 178 #[.agg #[.int .i64 v,.bool d,.bool t]] w (Ret (.int .i64 (tkV v d t)) w):=by
 by_cases h:v<1∨7<v∨(d && t)=true
 ·have e:tkV v d t=0:=if_pos h
  rw [e];exact ticks_bad v d t w h
 ·exact ticks_good v d t w (by omega) (by cases hd:(d && t) with|false=>rfl|true=>exact absurd (.inr (.inr hd)) h)
end Go.Proofs.YtgelfflighgajaaGreatDoor
