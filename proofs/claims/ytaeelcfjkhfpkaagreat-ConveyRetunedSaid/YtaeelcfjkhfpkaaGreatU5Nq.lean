/- A course tuned otherwise, a piece there; tuned back. Plain. -/
import Derived.Test.YtaeelcfjkhfpkaaGreatLngNq
set_option maxHeartbeats 8000000
set_option maxRecDepth 100000
set_option linter.unusedVariables false
set_option linter.unusedSimpArgs false
namespace Go.Proofs.YtaeelcfjkhfpkaaGreat
open Go.RowKit
def tnC (cs:List (Int×Int×Bool)) (c b:Int):List (Int×Int×Bool):=cs.set (c.toNat-1) ((cs.getD (c.toNat-1) (0,0,false)).1+b,(cs.getD (c.toNat-1) (0,0,false)).2)
def tnX (cs:List (Int×Int×Bool))(st:List Int)(c b:Int):Int:=if insE cs st≠0 then insE cs st else if c < 1∨(cs.length:Int) < c then 12 else if b < -127∨127 < b then 1 else insE (tnC cs c b) st
def tnCs (cs:List (Int×Int×Bool))(st:List Int)(c b:Int):List (Int×Int×Bool):=if tnX cs st c b=0 then tnC cs c b else []
def tnSt (cs:List (Int×Int×Bool))(st:List Int)(c b:Int):List Int:=if tnX cs st c b=0 then st else []
def frN (cs:List (Int×Int×Bool))(st:List Int)(c q:Int):Option Nat:=(List.range ((fretsOf cs c).toNat+1)).find? fun f=>pitN cs st c (f:Int) == q
def rtF (cs0 cs:List (Int×Int×Bool))(st:List Int)(c:Int)(x:Stp):Stp×Bool:=match frN cs st c (pitN cs0 st c x.2.1)with|some f=>((x.1,(f:Int),x.2.2),false)|none=>(x,true)
def rtC (cs0 cs:List (Int×Int×Bool))(st:List Int)(c:Int):Cg where
 ch x:=if x.1=c then rtF cs0 cs st c x else (x,false)
 mr y:=y
 ml _:=[]
 tie _ e:=e.tie
 bare i:=decide (0<i)
def rtE(p:Pce)(c b:Int):Int:=if pceE p≠0 then pceE p else tnX p.cs p.st c b
def rtN (p:Pce)(c b:Int):List Ev:=nwL (rtC p.cs (tnC p.cs c b) p.st c) p.evs
def rtP (p:Pce) (c b:Int):Pce:=if rtE p c b=0 then ⟨tnC p.cs c b,p.st,fnL (ftH (rtN p c b)) (rtN p c b)⟩else noP
def rtL (p:Pce) (c b:Int):List Lck:=if rtE p c b=0 then lsL (rtC p.cs (tnC p.cs c b) p.st c) (ftH (rtN p c b)) p.evs p.evs.length else []
theorem frN_hit {cs:List (Int×Int×Bool)} {st:List Int} {c q:Int} {k:Nat} (hk:(k:Int)≤fretsOf cs c)(hno:∀ g,g<k→pitN cs st c (g:Nat)≠q)(he:pitN cs st c (k:Nat)=q):frN cs st c q=some k:=by
 unfold frN
 rw [List.find?_eq_some_iff_getElem]
 refine⟨by rw [beq_iff_eq];exact he,k,by rw [List.length_range];omega,List.getElem_range ..,fun j hj=>?_⟩
 rw [List.getElem_range]
 have:=hno j hj
 simpa using this
theorem frN_miss {cs:List (Int×Int×Bool)} {st:List Int} {c q:Int} (hno:∀ g:Nat,(g:Int)≤fretsOf cs c→pitN cs st c (g:Nat)≠q)(h0:0≤fretsOf cs c):frN cs st c q=none:=by
 unfold frN
 rw [List.find?_eq_none]
 intro g hg
 have hg:=List.mem_range.1 hg
 have:=hno g zqo
 simpa using this
theorem rtC_mv {cs0 cs:List (Int×Int×Bool)} {st:List Int} {c:Int} {x y:Stp} (h:(rtC cs0 cs st c).mv x=some y):(y.1=x.1∧y.2.2=x.2.2)∧(x.1≠c→y=x)∧(x.1=c→∃ f:Nat,frN cs st c (pitN cs0 st c x.2.1)=some f∧y=(x.1,(f:Int),x.2.2)):=by
 unfold Cg.mv at h
 have e:(rtC cs0 cs st c).ch x=if x.1=c then rtF cs0 cs st c x else (x,false):=rfl
 by_cases hc:x.1=c
 ·rw [if_pos hc]at e
  unfold rtF at e
  cases hf:frN cs st c (pitN cs0 st c x.2.1)with
  | none=>rw [hf]at e;rw [e]at h;cases h
  | some f =>
   rw [hf]at e
   rw [e]at h
   have h:=Option.some.inj h
   have h:(x.1,(f:Int),x.2.2)=y:=h
   subst h
   exact⟨⟨rfl,rfl⟩,fun q=>absurd hc q,fun _=>⟨f,rfl,rfl⟩⟩
 ·rw [if_neg hc]at e
  rw [e]at h
  have h:=Option.some.inj h
  have h:x=y:=h
  subst h
  exact⟨⟨rfl,rfl⟩,fun _=>rfl,fun q=>absurd q hc⟩
theorem rtC_crs {cs0 cs:List (Int×Int×Bool)} {st:List Int} {c:Int} (x y:Stp)(h:(rtC cs0 cs st c).mv x=some y):y.1=x.1∧y.2.2.2.2=x.2.2.2.2:=by
 obtain⟨⟨a,b⟩,_⟩:=rtC_mv h
 exact⟨a,by rw [b]⟩
theorem rtC_ls (cs0 cs:List (Int×Int×Bool))(st:List Int)(c:Int):CgLs (rtC cs0 cs st c):=by
 refine⟨rtC_crs,fun x y h=>?_⟩
 obtain⟨⟨_,b⟩,_⟩:=rtC_mv h
 show []=(if y.2.2.1=x.2.2.1 then []else [2])++(if y.2.2.2.1=x.2.2.2.1 then []else [3])
 rw [b,if_pos rfl,if_pos rfl];rfl
theorem tnC_len (cs:List (Int×Int×Bool))(c b:Int):(tnC cs c b).length=cs.length:=List.length_set ..
theorem tnX_0 {cs:List (Int×Int×Bool)} {st:List Int} {c b:Int} (h:tnX cs st c b=0):insE cs st=0∧(1≤c∧c≤cs.length)∧(-127≤b∧b≤127)∧insE (tnC cs c b) st=0:=by
 unfold tnX at h
 by_cases h1:insE cs st≠0
 ·rw [if_pos h1] at h;exact absurd h h1
 rw [if_neg h1] at h
 by_cases h2:c < 1∨(cs.length:Int) < c
 ·rw [if_pos h2] at h;cases h
 rw [if_neg h2] at h
 by_cases h3:b < -127∨127 < b
 ·rw [if_pos h3] at h;cases h
 rw [if_neg h3] at h
 exact⟨Decidable.not_not.1 h1,by omega,by omega,h⟩
theorem fretsOf_nn {cs:List (Int×Int×Bool)} {st:List Int} (h:insE cs st=0) {c:Int} (hc:1≤c∧c≤cs.length):0≤fretsOf cs c∧fretsOf cs c≤st.length:=by
 obtain⟨_,_,_,_,l5⟩:=insE_len h
 have hk:c.toNat-1<cs.length:=by omega
 have e:fretsOf cs c=cs[c.toNat-1].2.1:=by
  unfold fretsOf
  rw [List.getD_eq_getElem?_getD,List.getElem?_eq_getElem hk];rfl
 rw [e]
 exact (crsE_each l5 _ hk).1
end Go.Proofs.YtaeelcfjkhfpkaaGreat
