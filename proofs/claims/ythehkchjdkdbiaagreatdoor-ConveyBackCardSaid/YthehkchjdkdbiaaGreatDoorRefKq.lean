/- The symbols of the reference: contracts. -/
import Derived.Test.YthehkchjdkdbiaaGreatDoorProg
import Derived.Test.YthehkchjdkdbiaaGreatDoorNr4Kq
set_option maxHeartbeats 800000
set_option maxRecDepth 100000
set_option linter.unusedVariables false
set_option linter.unusedSimpArgs false
namespace Go.Proofs.YthehkchjdkdbiaaGreatDoor
open Go.RowKit
attribute [local go_sem]wC bY gW gV dU
attribute [local simp]mV iK eF je
def OJ:List UInt8:=[97,98,99,100,101,102,103,104,105,107,108,109,110,111,112,113,114,115,116]
def Yo:List UInt8:=[48,49,50,51,52,53,54,55,56,57,120]
def ZQ:List UInt8:=[97,98,99,100,101,102,103,104,105,107,108,109,110,111,112,113,114,115,116,118,120,121,122,38,57]
def rge (c f:Int):List UInt8 :=
 if c=6 then cut [43,65,66,67,68,69,70,71,72,73,75] f (f+1)
 else if f=0 then cut [49,50,51,52,53] (5-c) (6-c)
 else if 5<f then cut ZQ (5*((f-1) % 5)+5-c) (5*((f-1) % 5)+6-c)++cut ZQ (5*((f-1) % 5)+5-c) (5*((f-1) % 5)+6-c)
 else cut ZQ (5*((f-1) % 5)+5-c) (5*((f-1) % 5)+6-c)
def anI (c:Int):List UInt8:=[[55],[56],[57],[120],[49,49],[49,50],[49,51],[49,52]].getD (c-7).toNat []
def rS (s c f:Int):List UInt8 :=
 if s=1 then
  (if c≤7 then cut OJ f (f+1) else if c≤10 then cut [47,47,47] 0 (c-7)++cut OJ f (f+1) else if f=0 then cut [52,53,54,55] (c-11) (c-10) else [])
 else if s=4 then (if c≤6∧f≤10 then rge c f else [])
 else if c≤6∧f≤10 then cut Yo f (f+1) else if s=2∧6<c∧f=0 then anI c else []
end Go.Proofs.YthehkchjdkdbiaaGreatDoor
