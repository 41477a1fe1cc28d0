/- The reader of the reference: the loop of a chord in plain words. -/
import Derived.Test.YthehkchjdkdbiaaGreatDoorNrHKq
import Derived.Test.YthehkchjdkdbiaaGreatDoorNrKKq
set_option maxHeartbeats 4000000
set_option maxRecDepth 100000
set_option linter.unusedVariables false
set_option linter.unusedSimpArgs false
namespace Go.Proofs.YthehkchjdkdbiaaGreatDoor
section
open Go.RowKit
def rZ(s n mm i:Int):Int:=if n<(if s=2 then mm-i else i+1)then 0 else(if s=2 then mm-i else i+1)
def aiP(s:Int)(n mm:Nat):Prop:=mm<n∨mm=0∨(s=3∧n<mm)
instance (s:Int)(n mm:Nat):Decidable (aiP s n mm):=by unfold aiP;exact inferInstance
structure aAE (s:Int)(n:Nat)(W:List (List UInt8))(P:Nat→Prop)(LL:Nat→List N5)(la:Nat→Nat)(RR:Option (List N5)):Prop where
 start:P 0∧LL 0=[]∧la 0=0
 bad:∀ k (h:k<W.length),P k→¬ (0<rZ s n W.length k∧W[k]=[45])→jr s (rZ s n W.length k) W[k]=none→RR=none
 dash:∀ k (h:k<W.length),P k→0<rZ s n W.length k→W[k]=[45]→P (k+1)∧LL (k+1)=LL k∧la (k+1)=la k
 on:∀ k (h:k<W.length) x,P k→0<rZ s n W.length k→W[k]≠[45]→jr s (rZ s n W.length k) W[k]=some x→P (k+1)∧LL (k+1)=RN (LL k) x∧la (k+1)=la k
 fall:∀ k (h:k<W.length)(x:N5),P k→rZ s n W.length k=0→jr s (rZ s n W.length k) W[k]=some x→0<la k→(s=2∧la k≤x.1∨s≠2∧x.1≤la k)→RR=none
 out:∀ k (h:k<W.length)(x:N5),P k→rZ s n W.length k=0→jr s (rZ s n W.length k) W[k]=some x→¬ (0<la k∧(s=2∧la k≤x.1∨s≠2∧x.1≤la k))→P (k+1)∧LL (k+1)=RN (LL k) x∧la (k+1)=x.1
 done:P W.length→RR=if LL W.length=[] then none else some (LL W.length)
 len:∀ k,(LL k).length≤k
end
end Go.Proofs.YthehkchjdkdbiaaGreatDoor
