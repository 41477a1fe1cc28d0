/- The symbols of the reference: contracts. -/
import Derived.Test.YthehkchjdkdbiaaGreatDoorProg
import Derived.Test.YthehkchjdkdbiaaGreatDoorE1Gq
import Derived.BigQuiet
set_option maxHeartbeats 800000
set_option maxRecDepth 100000
set_option linter.unusedVariables false
set_option linter.unusedSimpArgs false
namespace Go.Proofs.YthehkchjdkdbiaaGreatDoor
open Go.RowKit
attribute [local go_sem]mk_bs bs_size bs_toList bs_append bs_extract
attribute [local simp]run_cut run_cut_to run_cut_from run_add_bs
def frLetters:List UInt8:=[97,98,99,100,101,102,103,104,105,107,108,109,110,111,112,113,114,115,116]
def figLetters:List UInt8:=[48,49,50,51,52,53,54,55,56,57,120]
def rsmall:List UInt8:=[97,98,99,100,101,102,103,104,105,107,108,109,110,111,112,113,114,115,116,118,120,121,122,38,57]
def rge (c f:Int):List UInt8 :=
 if c=6 then cut [43,65,66,67,68,69,70,71,72,73,75] f (f+1)
 else if f=0 then cut [49,50,51,52,53] (5-c) (6-c)
 else if 5<f then cut rsmall (5*((f-1) % 5)+5-c) (5*((f-1) % 5)+6-c)++cut rsmall (5*((f-1) % 5)+5-c) (5*((f-1) % 5)+6-c)
 else cut rsmall (5*((f-1) % 5)+5-c) (5*((f-1) % 5)+6-c)
def itOuter (c:Int):List UInt8:=[[55],[56],[57],[120],[49,49],[49,50],[49,51],[49,52]].getD (c-7).toNat []
def rS (s c f:Int):List UInt8 :=
 if s=1 then
  (if c≤7 then cut frLetters f (f+1) else if c≤10 then cut [47,47,47] 0 (c-7)++cut frLetters f (f+1) else if f=0 then cut [52,53,54,55] (c-11) (c-10) else [])
 else if s=4 then (if c≤6∧f≤10 then rge c f else [])
 else if c≤6∧f≤10 then cut figLetters f (f+1) else if s=2∧6<c∧f=0 then itOuter c else []
end Go.Proofs.YthehkchjdkdbiaaGreatDoor
