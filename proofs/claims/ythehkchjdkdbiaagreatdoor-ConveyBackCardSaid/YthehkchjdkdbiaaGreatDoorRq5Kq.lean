/- Lines, numbers: the reference. -/
import Derived.Test.YthehkchjdkdbiaaGreatDoorGPKq
set_option maxHeartbeats 4000000
set_option maxRecDepth 100000
set_option linter.unusedVariables false
set_option linter.unusedSimpArgs false
namespace Go.Proofs.YthehkchjdkdbiaaGreatDoor
section
open Go.RowKit
def iV (t:List UInt8):List AV:=[.sc (.string (bs t))]
theorem kJ.an6 {B:World→View→Prop} {P:Program} {f:FuncId} {args:List AV} {xs:List Value} {T:TypeId} {L:List (List UInt8)} (hs:EG args=some xs)
  (h:∀ w F,B w F→Calls P f xs.toArray w fun e w'=>e=.returned (.slice (some ⟨w.heap.size,0,none⟩) L.length L.length)∧w'=w.alloc (.cells (L.map fun l=>Value.string (bs l)).toArray T)):kJ B P f args (.ls 1 (L.map iV)):=by
 intro w F vs hB hF hR
 have:vs=xs:=xW (G:=⟨F,fun _=>0,fun _=>0,fun _=>undef,fun _ _=>False⟩) hs hR.1 fun i av u a b=>.pu _ _ (hR.2 i av u a b)
 subst this
 refine (h w F hB).mono fun e w' ⟨he,hw⟩=>?_
 have hb:Below w.heap.size w w':=by subst hw;exact EN (Below.refl _ _) _
 have hcell:∀ (i:Nat) l,L[i]?=some l→w'.cell? ⟨w.heap.size,i,none⟩=some (.string (bs l)):=fun i l hl=>by
  have hh:w'.heap[w.heap.size]?=some (.cells (L.map fun l=>Value.string (bs l)).toArray T):=by
   subst hw
   show (w.heap.push _)[w.heap.size]?=_
   simp
  rw [Lib.cell_of_heap hh]
  simp [hl]
 refine ⟨_,newF F w w',he,hb,I5 hF,I4 hF hb,DN,?_⟩
 have hlen:L.length=(L.map iV).length:=by simp
 rw [hlen]
 refine .ls 1 (L.map iV) _ _ ⟨w.heap.size,0,none⟩ (fun i j=>((L[i]?).map fun l=>Value.string (bs l)).getD undef) (by simp) (fun r hr=>?_) (fun _=>rfl) (fun i r j av hr hav=>?_) (fun i r j av hr hav=>?_)
 ·obtain ⟨l,_,rfl⟩:=List.mem_map.1 hr;rfl
 ·rw [bT] at hr
  cases hx:L[i]? with
  | none=>simp [hx] at hr
  | some l =>
   rw [hx] at hr
   obtain rfl:iV l=r:=by simpa using hr
   match j,hav with
   | 0,hav =>
    refine ⟨?_,by simp [Value.oneCell']⟩
    unfold newF
    have e:Addr.add (⟨w.heap.size,0,none⟩:Addr) (i*1+0)=⟨w.heap.size,i,none⟩:=by
     simp [Addr.add]
     intro h;exact h.symm
    rw [e,if_neg (by show ¬ w.heap.size<w.heap.size;omega),hcell i l hx]
    simp
   | j+1,hav=>simp [iV] at hav
 ·rw [bT] at hr
  cases hx:L[i]? with
  | none=>simp [hx] at hr
  | some l =>
   rw [hx] at hr
   obtain rfl:iV l=r:=by simpa using hr
   match j,hav with
   | 0,hav =>
    obtain rfl:AV.sc (.string (bs l))=av:=by simpa [iV] using hav
    simp [hx]
    exact .sc _
   | j+1,hav=>simp [iV] at hav
theorem Ho:∀ (w:List UInt8)(n:Nat),(∀ b∈w,48≤b.toNat∧b.toNat≤57)→uQ n w=some (w.foldl (fun a b=>10*a+(b.toNat-48)) n)
 | [],n,_=>rfl
 | b::r,n,h=>by
  rw [uQ,if_pos (h b (by simp)),Ho r _ fun x hx=>h x rU];rfl
theorem Hq:∀ (w:List UInt8) (n:Nat) (k:Nat) (hk:k<w.length),¬ (48≤w[k].toNat∧w[k].toNat≤57)→uQ n w=none
 | b::r,n,0,_,h=>by rw [uQ,if_neg rP]
 | b::r,n,k+1,hk,h=>by
  rw [uQ]
  split
  ·exact Hq r _ k zX rP
  ·rfl
def qj (w:List UInt8)(k:Nat):Nat:=(w.take k).foldl (fun a b=>10*a+(b.toNat-48)) 0
theorem Ef {w:List UInt8} {k:Nat} (hk:k<w.length):qj w (k+1)=10*qj w k+(w[k].toNat-48):=by
 unfold qj
 rw [mJ hk,List.foldl_append];rfl
end
end Go.Proofs.YthehkchjdkdbiaaGreatDoor
