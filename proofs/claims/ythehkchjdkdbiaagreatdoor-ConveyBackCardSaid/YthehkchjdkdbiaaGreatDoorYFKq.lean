/- Small functions of chapter 04: a list of lacks names something; where a course stands among the stops. -/
import Derived.Test.YthehkchjdkdbiaaGreatDoorRq5Kq
import Derived.Test.YthehkchjdkdbiaaGreatDoorG9Kq
set_option maxHeartbeats 8000000
set_option maxRecDepth 100000
set_option linter.unusedVariables false
set_option linter.unusedSimpArgs false
namespace Go.Proofs.YthehkchjdkdbiaaGreatDoor
theorem Qz {p:Prop}(h:p:=by rw [e];decide):p:=h
theorem XG {p:Prop}(h:p:=by show 4+1≤5;omega):p:=h
theorem zW {p:Prop}(h:p:=by unfold I64;omega):p:=h
theorem Dc {p:Prop}(h:p:=by show 5 < 6;omega):p:=h
theorem aaz {p:Prop}(h:p:=by repeat (first|exact trivial|refine ⟨⟨?_,?_,?_⟩,?_⟩|rfl|exact congrArg (fun q=>some (AO.row _ _ q)) hrow)):p:=h
section
variable {p:Prop}
theorem akA(h:p:=by
 exact hc.mono fun e w' ⟨he,n,hw⟩=>⟨he,by subst hw;exact EO (Below.refl _ _) _⟩):p:=h
theorem aaF(h:p:=by
 refine zN ?_
 refine W.ret (fin1 rfl rfl (Ap ?_) rfl)
 rfl):p:=h
theorem NH(h:p:=by
 refine fQ ?_
 exact W.ret vS):p:=h
theorem ara(h:p:=by
 exact ⟨k+1,by omega,by omega,(kL (fun q=>q) qc rfl)⟩):p:=h
theorem al7(h:p:=by
 refine fQ ?_
 exact ⟨k+1,⟨by omega,fun i hi h=>by
  by_cases e:i=k
  ·subst e;exact he
  ·exact hno i au h⟩,by omega,(zqt id)⟩):p:=h
theorem QH(h:p:=by
 rw [mJ hlt,fC,fC];rfl):p:=h
end
theorem Nl {p q:Prop}(k:q)(h:aP q→p:=by
 intro hq
 refine uo ?_
 refine aZ.nil ?_
 exact hq.k):p:=h ⟨k⟩
theorem QD {p q:Prop}(k:q)(h:aP q→p:=by
 intro hq
 refine iF ?_
 refine ajK ?_
 exact hq.k):p:=h ⟨k⟩
theorem QA {p q:Prop}(k:q)(h:aP q→p:=by
 intro hq
 refine aZ.vl rfl bD (WV.X4 rfl rfl) ?_
 exact hq.k):p:=h ⟨k⟩
theorem TJ {p q:Prop}(k:q)(h:aP q→p:=by
 intro hq
 refine aZ.st rfl bD rfl ?_
 exact hq.k):p:=h ⟨k⟩
theorem Df {p q:Prop}(k:q)(h:aP q→p:=by
 intro hq
 refine aZ.st rfl bD rfl ?_
 refine aZ.st rfl bD rfl ?_
 exact hq.k):p:=h ⟨k⟩
theorem ajK {p q:Prop}(k:q)(h:aP q→p:=by
 intro hq
 repeat (first|refine DK.vl rfl (WV.X4 rfl rfl) ?_|refine DK.st rfl ?_|refine DK.nil ?_)
 exact hq.k):p:=h ⟨k⟩
theorem uo {p q:Prop}(k:q)(h:aP q→p:=by
 intro hq
 refine aZ.v0 rfl (tX rfl rfl) ?_
 exact hq.k):p:=h ⟨k⟩
section
open Go.RowKit
def sp(t:List UInt8):List UInt8:=32::t
def FX (s:Int)(L:Int→Nat)(x:Stp):List UInt8:=cellS s x.1 x.2.1 x.2.2.1 x.2.2.2.1 x.2.2.2.2 (L x.1)
def stK (s:Int)(L:Int→Nat)(x:Stp):Bool:=dK s x.1 x.2.1 x.2.2.1 x.2.2.2.1 x.2.2.2.2 (L x.1)
def qX(l:List Stp)(c:Int):Option Stp:=l.find? fun x=>x.1 == c
def Uj(s:Int)(L:Int→Nat)(l:List Stp)(c:Int):List UInt8 :=
 match qX l c with
 | some x=>FX s L x
 | none=>[45]
def EK:Int→List Stp→Prop
 | _,[]=>True
 | m,x::r=>m<x.1∧EK x.1 r
theorem afY {p:aS} {i:Int}:∀ {l:List Stp} {last:Int},gK p i last l=0→EK last l
 | [],_,_=>trivial
 | x::r,last,h=>by
  unfold gK at h
  by_cases h1:gQ p i x last≠0
  ·exact aaN
  ·rw [if_neg h1]at h
   refine⟨?_,afY h⟩
   by_cases h2:last<x.1
   ·exact h2
   ·exfalso;apply h1
    unfold gQ
    split
    ·decide
    ·split
     ·decide
     ·rw [if_pos (by omega)];decide
theorem EL:∀ {l:List Stp} {m:Int},EK m l→∀ x∈l,m<x.1
 | y::r,m,h,x,hx=>by
  rcases List.mem_cons.1 hx with rfl|hx
  ·exact h.1
  ·have:=EL h.2 x hx;have:=h.1;omega
theorem afZ {l:List Stp}:∀ {m:Int} (k:Nat)(h:k<l.length),EK m l→∀ x∈l.take k,x.1<l[k].1:=by
 induction l with
 | nil=>intro m k h;simp at h
 | cons y r ih =>
  intro m k h ha x hx
  cases k with
  | zero=>simp at hx
  | succ k =>
   simp only [List.take_succ_cons,Et] at hx
   rcases hx with rfl|hx
   ·exact EL ha.2 _ (by simp)
   ·simpa using ih k rP ha.2 x hx
theorem FW {l:List Stp} {c:Int} (h:∀ x∈l,x.1≠c):qX l c=none:=by
 unfold qX
 rw [yx]
 intro x hx
 simpa using h x hx
theorem afs (l:List Stp)(x:Stp)(c:Int)(h:∀ y∈l,y.1<x.1):qX (l++[x]) c=if c=x.1 then some x else qX l c:=by
 by_cases e:c=x.1
 ·rw [if_pos e]
  have h0:qX l c=none:=FW fun y hy=>by have:=h y hy;omega
  unfold qX at h0 ⊢
  rw [Td,h0]
  simp [e]
 ·rw [if_neg e]
  unfold qX
  rw [Td]
  have:[x].find? (fun y=>y.1 == c)=none:=by simp;omega
  rw [this,Option.or_none]
theorem Xa (s:Int)(L:Int→Nat)(l:List Stp)(x:Stp)(c:Int)(h:∀ y∈l,y.1<x.1):Uj s L (l++[x]) c=if c=x.1 then FX s L x else Uj s L l c:=by
 unfold Uj
 rw [afs l x c h]
 by_cases e:c=x.1
 ·rw [if_pos e,if_pos e]
 ·rw [if_neg e,if_neg e]
def cAt(s:Int)(n j:Nat):Int:=if s=2 then(n:Int)-j else(j:Int)+1
def gJ (s:Int)(L:Int→Nat)(n:Nat)(l:List Stp):List (List UInt8):=(List.range n).map fun j=>Uj s L l (cAt s n j)
theorem Z5(s:Int)(L:Int→Nat)(n:Nat):gJ s L n []=List.replicate n [45]:=by
 unfold gJ
 apply fZ
 ·simp
 ·intro i h1 h2;simp [Uj,qX]
theorem Xb (s:Int)(L:Int→Nat)(n:Nat)(l:List Stp)(x:Stp)(hs:s≠4)(h:∀ y∈l,y.1<x.1)(h1:1≤x.1)(hn:x.1≤n):gJ s L n (l++[x])=(gJ s L n l).set (uH s x.1 n-1).toNat (FX s L x):=by
 apply fZ
 ·simp [gJ]
 ·intro j h2 h3
  have hj:j<n:=by simpa [gJ]using h2
  rw [Eu]
  simp only [gJ,iZ,TB]
  rw [Xa s L l x _ h]
  have e:cAt s n j=x.1↔(uH s x.1 n-1).toNat=j:=by
   unfold cAt uH
   rw [if_neg hs]
   by_cases e2:s=2
   ·rw [if_pos e2,if_pos e2];omega
   ·rw [if_neg e2,if_neg e2];omega
  by_cases e3:cAt s n j=x.1
  ·rw [if_pos e3,if_pos (e.1 e3)]
  ·rw [if_neg e3,if_neg (fun q=>e3 (e.2 q))]
def rX (s:Int)(L:Int→Nat)(n:Nat)(l:List Stp):List (List UInt8) :=
 if s=2 then ((l.filter fun x=>decide ((n:Int)<x.1)).map (FX s L)).reverse else (l.filter fun x=>decide ((n:Int)<x.1)).map (FX s L)
theorem an8 (s:Int)(L:Int→Nat)(n:Nat)(l:List Stp)(x:Stp)(h:x.1≤n):rX s L n (l++[x])=rX s L n l:=by
 unfold rX
 have:[x].filter (fun x=>decide ((n:Int)<x.1))=[]:=by simp;omega
 rw [aax,this,nI]
theorem ah6 (s:Int)(L:Int→Nat)(n:Nat)(l:List Stp)(x:Stp)(h:¬ x.1≤n):rX s L n (l++[x])=if s=2 then FX s L x::rX s L n l else rX s L n l++[FX s L x]:=by
 unfold rX
 have:[x].filter (fun x=>decide ((n:Int)<x.1))=[x]:=by simp;omega
 rw [aax,this]
 by_cases e:s=2
 ·rw [if_pos e,if_pos e,if_pos e];simp
 ·rw [if_neg e,if_neg e,if_neg e];simp
theorem Kz(s:Int)(L:Int→Nat)(n:Nat)(l:List Stp):(rX s L n l).length≤l.length:=by
 unfold rX
 split
 ·simp;exact List.length_filter_le _ _
 ·simp;exact List.length_filter_le _ _
def headW (s:Int)(e:Ev):List (List UInt8):=if e.bar=true then [[124],tW e.val (sH e.dot e.three)]else [tW e.val (sH e.dot e.three)]
def fA(s:Int)(p:aS):Nat:=if s=4 then 0 else min p.cs.length 6
def xw (s:Int) (p:aS) (i:Int) (e:Ev):List (List UInt8) :=
 headW s e++(if e.tie=true then [[126]] else if e.stops.length=0 then [[37]] else
  if s=2 then rX s (fun c=>ah p.evs i c) (fA s p) e.stops++gJ s (fun c=>ah p.evs i c) (fA s p) e.stops
  else gJ s (fun c=>ah p.evs i c) (fA s p) e.stops++rX s (fun c=>ah p.evs i c) (fA s p) e.stops)
def spW (l:List (List UInt8)):List UInt8:=l.flatMap sp
def lU:List (List UInt8)→List UInt8
 | []=>[]
 | x::r=>x++spW r
theorem OZ (l:List (List UInt8)):Lib.join l [32]=lU l:=by
 cases l with
 | nil=>rfl
 | cons x r =>
  rw [Lib.join_cons]
  show x++Lib.joinTail [32] r=x++r.flatMap sp
  unfold Lib.joinTail
  rw [List.flatMap_def];rfl
def colS (s:Int)(p:aS)(i:Int)(e:Ev):List UInt8:=lU (xw s p i e)
def Je (s:Int)(e:Ev):List UInt8:=(if e.bar=true then [124,32]else [])++tW e.val (sH e.dot e.three)
theorem ad4 (s:Int)(e:Ev)(r:List (List UInt8)):lU (headW s e++r)=Je s e++spW r:=by
 unfold headW Je
 by_cases h:e.bar=true
 ·rw [if_pos h,if_pos h];simp [lU,spW,sp]
 ·rw [if_neg h,if_neg h];simp [lU]
theorem adJ {l:List Stp} {c:Int}:∀ {m:Int},EK m l→(l.filter fun x=>decide (x.1≤c+1))=(l.filter fun x=>decide (x.1≤c))++(qX l (c+1)).toList:=by
 induction l with
 | nil=>intro m _;rfl
 | cons x r ih =>
  intro m ha
  by_cases h1:x.1≤c
  ·have e:qX (x::r) (c+1)=qX r (c+1):=by
    unfold qX
    rw [List.find?_cons_of_neg (by simp;omega)]
   rw [Gj (by simp;omega),Gj rO,e,ih ha.2];rfl
  ·have hr:∀ y∈r,¬ y.1≤c+1:=fun y hy=>by have:=EL ha.2 y hy;omega
   have e1:(r.filter fun x=>decide (x.1≤c+1))=[]:=by rw [MI];intro y hy;simpa using hr y hy
   have e2:(r.filter fun x=>decide (x.1≤c))=[]:=by rw [MI];intro y hy;have:=hr y hy;simp;omega
   rw [MH (l:=r) (p:=fun x=>decide (x.1≤c)) rO,e2]
   by_cases h2:x.1=c+1
   ·rw [Gj (by simp;omega),e1]
    unfold qX
    rw [List.find?_cons_of_pos (by simpa using h2)];rfl
   ·rw [MH (by simp;omega),e1]
    have:qX (x::r) (c+1)=none:=FW fun y hy=>by
     rcases List.mem_cons.1 hy with rfl|hy
     ·exact h2
     ·have:=hr y hy;omega
    rw [this];rfl
theorem Eh {l:List Stp} {c:Int} {x:Stp} (h:qX l c=some x):x∈l∧x.1=c:=by
 unfold qX at h
 exact⟨MN h,by simpa using Ia h⟩
theorem Oy(s c f r g h L:Int)(hs:1≤s∧s≤4)(hc:1≤c∧c≤14)(hf:0≤f∧f≤18):(cellS s c f r g h L).length≤12:=by
 unfold cellS
 have h1:=(aii s c f hs hc hf).1
 have h2:=aiF s r
 have h3:=aiB s g
 have h4:=aic s h L
 exact TP
theorem aoW:((List.range' 1 4).all fun s=>(List.range' 1 14).all fun c=>(List.range 19).all fun f=>!(qU (s:Nat) (c:Nat) (f:Nat))|| (match pS (s:Nat) (c:Nat) (f:Nat)with|x::_=>x != 45|[]=>false))=true:=by
 decide +kernel
theorem Yc (s c f r g h L:Int) (hs:1≤s∧s≤4) (hc:1≤c∧c≤14) (hf:0≤f∧f≤18) (ho:qU s c f=true):cellS s c f r g h L≠[45]:=by
 obtain ⟨s,rfl⟩:=gq (show 0≤s by omega)
 obtain ⟨c,rfl⟩:=gq (show 0≤c by omega)
 obtain ⟨f,rfl⟩:=gq hf.1
 have h:=aoW
 rw [jg]at h
 have h1:=h s (List.mem_range'_1.2 au)
 rw [jg]at h1
 have h2:=h1 c (List.mem_range'_1.2 au)
 rw [jg]at h2
 have h3:=h2 f (List.mem_range.2 au)
 rw [qI]at h3
 rcases h3 with h3|h3
 ·rw [iy]at h3;rw [h3]at ho;cases ho
 ·unfold cellS
  cases hp:pS (s:Nat) (c:Nat) (f:Nat)with
  | nil=>rw [hp]at h3;cases h3
  | cons x r =>
   rw [hp]at h3
   have:x≠45:=by simpa using h3
   simp only [zK]
   intro e
   injection e with e1 _
   exact this e1
theorem atU {s:Int} {p:aS} {i:Int} {e:Ev} (h:mG s p i e=[]):∀ x∈e.stops,stK s (fun c=>ah p.evs i c) x=true:=fun x hx=>by
 unfold mG at h
 have h1:=(List.append_eq_nil_iff.1 h).2
 rw [MG] at h1
 have h2:=h1 x hx
 unfold fH at h2
 by_cases e1:qU s x.1 x.2.1=false
 ·rw [if_pos e1] at h2;cases h2
 ·rw [if_neg e1] at h2
  have lk:∀ b i c w,jP b i c w=[]→b=true:=fun b i c w h=>by cases b<;>first|rfl|cases h
  obtain⟨a1,a2⟩:=List.append_eq_nil_iff.1 h2
  obtain⟨a2,a3⟩:=List.append_eq_nil_iff.1 a2
  unfold stK dK
  rw [lk _ _ _ _ a1,lk _ _ _ _ a2,lk _ _ _ _ a3]
  simpa using e1
theorem SL {n:Nat}:∀ {l:List (List UInt8)},(∀ t∈l,t.length≤n)→(spW l).length≤(n+1)*l.length
 | [],_=>by simp [spW]
 | x::r,h=>by
  have h1:=SL (l:=r) fun t ht=>h t (by simp [ht])
  have h2:=h x (by simp)
  unfold spW at h1 ⊢
  rw [Md,aY,iw,Nat.mul_succ]
  have:(sp x).length=x.length+1:=by simp [sp]
  omega
theorem LJ (c:UInt8) (t:List UInt8) (ht:t.length≤1000000):kJ qG Tryz.prog 38 [.sc (.string (bs t)),.sc (.string (bs [c]))] (.ls 1 ((dw c t).map iV)) :=
 kJ.an6 (T:=9) rfl fun w F hB=>by
  obtain ⟨m,hm⟩:=hB.2.2
  have h:=Tryz.strings_Split (bs t) (bs [c]) m w Qs hm (by rw [bY];simp)
  have hd:=Lib.splitB_data (bs [c]) 0 (Lib.countB (bs t) (bs [c])) (bs t)
  have hc:Lib.countB (bs t) (bs [c])=Lib.count t [c]:=by
   show Lib.count (bs t).data.toList (bs [c]).data.toList=_
   rw [iQ,iQ]
  rw [iQ,iQ,hc,SH] at hd
  have hl:=xU c t
  rw [hc] at h
  rw [hl]
  have hv:(Lib.splitB (bs [c]) 0 (Lib.count t [c]) (bs t)).map Value.string=(dw c t).map fun l=>Value.string (bs l):=by
   rw [← hd,oO]
   exact qK fun x _=>by
    show Value.string x=Value.string (bs x.data.toList)
    obtain ⟨l,rfl⟩:=auU x
    rw [iQ]
  rw [hv] at h
  exact h
theorem acz {F:View} {u v x:Value}:RP F (.tu [.sc u,.sc v,.sc x]) (.tuple #[u,v,x]):=.tu _ _ rfl fun i av y a b=>by
 match i with
 | 0=>cases a;cases b;exact .sc _
 | 1=>cases a;cases b;exact .sc _
 | 2=>cases a;cases b;exact .sc _
 | i+3=>simp at a
theorem agm (c:UInt8) (l r:List UInt8) (h:aQ c l) (hl:l.length+r.length≤1000000):kJ qG Tryz.prog 218 [.sc (.string (bs (l++c::r))),.sc (.string (bs [c]))] (.tu [.sc (.string (bs l)),.sc (.string (bs r)),.sc (.bool true)]) :=
 kJ.Zr (v:=.tuple #[.string (bs l),.string (bs r),.bool true]) rfl (fun F=>acz) fun w F hB=>by
  obtain ⟨m,hm⟩:=hB.2.2
  have hc:=Tryz.strings_Cut (bs (l++c::r)) (bs [c]) m w (by rw [bY];simp;omega) hm
  rw [iQ,iQ,afg h] at hc
  exact akA
theorem agn (c:UInt8) (l:List UInt8) (h:aQ c l) (hl:l.length≤1000000):kJ qG Tryz.prog 218 [.sc (.string (bs l)),.sc (.string (bs [c]))] (.tu [.sc (.string (bs l)),.sc (.string (bs [])),.sc (.bool false)]) :=
 kJ.Zr (v:=.tuple #[.string (bs l),.string (bs []),.bool false]) rfl (fun F=>acz) fun w F hB=>by
  obtain ⟨m,hm⟩:=hB.2.2
  have hc:=Tryz.strings_Cut (bs l) (bs [c]) m w Qs hm
  rw [iQ,iQ,afh h] at hc
  exact akA
def eX(p l:List UInt8):Bool:=p.isPrefixOf l
theorem aod (l p:List UInt8):aU Tryz.prog 217 [.sc (.string (bs l)),.sc (.string (bs p))] (.sc (.bool (eX p l))) :=
 aU.DY rfl (fun _=>.sc _) fun w=>(Tryz.stringslite_HasPrefix (bs l) (bs p) w).mono fun e w' ⟨he,hw⟩=>⟨by rw [he,iQ,iQ];rfl,by subst hw;exact Below.refl _ _⟩
theorem Sj (l p:List UInt8):aU Tryz.prog 256 [.sc (.string (bs l)),.sc (.string (bs p))] (.sc (.bool (eX p l))) :=
 aU.DY rfl (fun _=>.sc _) fun w=>(Tryz.strings_HasPrefix (bs l) (bs p) w).mono fun e w' ⟨he,hw⟩=>⟨by rw [he,iQ,iQ];rfl,by subst hw;exact Below.refl _ _⟩
theorem atQ (l p:List UInt8) (h:l.length≤1000000):aU Tryz.prog 149 [.sc (.string (bs l)),.sc (.string (bs p))] (.sc (.bool (p.isSuffixOf l))) :=
 aU.DY rfl (fun _=>.sc _) fun w=>(Tryz.stringslite_HasSuffix (bs l) (bs p) w Qs).mono fun e w' ⟨he,hw⟩=>⟨by rw [he,iQ,iQ];rfl,by subst hw;exact Below.refl _ _⟩
theorem NZ (s:List UInt8)(z:Int):aU Tryz.prog 249 [.sc (.string (bs s)),.sc (.int .u8 z)] (.sc (.int .i64 (Lib.indexByte s z.toNat.toUInt8))) :=
 aU.DY rfl (fun _=>.sc _) fun w=>(Tryz.strings_IndexByte (bs s) z w).mono fun e w'⟨he,hw⟩=>⟨by rw [he,iQ],hw ▸ Below.refl _ _⟩
theorem Yk (l p:List UInt8) (h:l.length≤1000000):aU Tryz.prog 157 [.sc (.string (bs l)),.sc (.string (bs p))] (.tu [.sc (.string (bs (if eX p l=true then l.drop p.length else l))),.sc (.bool (eX p l))]):=by
 have hP:=aod l p
 cases hb:eX p l with
 | false =>
  rw [hb] at hP
  refine jl Tryz.func157 Tryz.ntmps157 fun w0 F0=>?_;dsimp only [St.init,number,Nat.reduceAdd]
  refine XA ?_
  refine WL.vl rfl (bZ Tryz.func217 hP) ?_
  refine XA ?_
  exact qM
 | true =>
  have hle:p.length≤l.length:=(List.isPrefixOf_iff_prefix.1 hb).length_le
  have hc:cut l p.length l.length=l.drop p.length:=by
   unfold cut
   rw [fO,fO]
   first|(rw [jH];done)|(rw [wS (by simp)];done)|(simp;done)
  have hcb:0≤(p.length:Int)∧(p.length:Int)≤(l.length:Int)∧(l.length:Int)≤(l.length:Int):=by omega
  rw [hb] at hP
  refine jl Tryz.func157 Tryz.ntmps157 fun w0 F0=>?_;dsimp only [St.init,number,Nat.reduceAdd]
  refine XA ?_
  refine WL.vl rfl (bZ Tryz.func217 hP) ?_
  refine XA ?_
  refine WL.cut rfl rfl hcb ?_
  rw [hc]
  refine XA ?_
  exact qM
theorem adz (l p:List UInt8) (h:l.length≤1000000):aU Tryz.prog 89 [.sc (.string (bs l)),.sc (.string (bs p))] (.tu [.sc (.string (bs (if eX p l=true then l.drop p.length else l))),.sc (.bool (eX p l))]):=by
 have hP:=Yk l p h
 refine jl Tryz.func89 Tryz.ntmps89 fun w0 F0=>?_;dsimp only [St.init,number,Nat.reduceAdd]
 refine acT ?_
 refine WL.vl rfl (bZ Tryz.func157 hP) ?_
 refine acT ?_
 exact qM
theorem VB {l:List UInt8} (h:l.getLast?=some 43):([43]:List UInt8).isSuffixOf l=true∧1≤l.length∧l.take (l.length-1)=l.dropLast:=by
 have hne:l≠[]:=by rintro rfl;cases h
 refine⟨?_,List.length_pos_iff.2 hne,(List.dropLast_eq_take).symm⟩
 rw [List.isSuffixOf_iff_suffix]
 refine⟨l.dropLast,?_⟩
 have:=List.dropLast_concat_getLast hne
 rw [List.getLast?_eq_some_getLast hne]at h
 rw [Option.some.inj h]at this
 exact this
theorem Y4 {l:List UInt8} (h:l.getLast?≠some 43):([43]:List UInt8).isSuffixOf l=false:=by
 cases hb:([43]:List UInt8).isSuffixOf l with
 | false=>rfl
 | true =>
  obtain⟨u,rfl⟩:=List.isSuffixOf_iff_suffix.1 hb
  exact absurd (by simp) h
theorem Yl (l:List UInt8) (h:l.length≤1000000):aU Tryz.prog 257 [.sc (.string (bs l)),.sc (.string (bs [43]))] (.tu [.sc (.string (bs (jK l).1)),.sc (.bool (jK l).2)]):=by
 have hP:=atQ l [43] h
 have h43:([43]:List UInt8).length=1:=rfl
 by_cases hg:l.getLast?=some 43
 ·obtain ⟨h1,h2,h3⟩:=VB hg
  have e:jK l=(l.dropLast,true):=if_pos hg
  rw [e]
  rw [h1] at hP
  refine jl Tryz.func257 Tryz.ntmps257 fun w0 F0=>?_;dsimp only [St.init,number,Nat.reduceAdd]
  refine Qo ?_
  refine WL.vl rfl (bZ Tryz.func149 hP) ?_
  refine Qo ?_
  have hc:cut l 0 ((l.length:Int) - (([43]:List UInt8).length:Int))=l.dropLast:=by
   rw [← h3]
   unfold cut
   rw [show ((l.length:Int) - (([43]:List UInt8).length:Int)).toNat=l.length - 1 by rw [h43];omega]
   simp
  have hcb:0≤(0:Int)∧(0:Int)≤(l.length:Int) - (([43]:List UInt8).length:Int)∧(l.length:Int) - (([43]:List UInt8).length:Int)≤(l.length:Int):=by rw [h43];omega
  refine Qo ?_
  refine WL.cut rfl rfl hcb ?_
  rw [hc]
  refine Qo ?_
  exact qM
 ·have h1:=Y4 hg
  have e:jK l=(l,false):=if_neg hg
  rw [e]
  rw [h1] at hP
  refine jl Tryz.func257 Tryz.ntmps257 fun w0 F0=>?_;dsimp only [St.init,number,Nat.reduceAdd]
  refine Qo ?_
  refine WL.vl rfl (bZ Tryz.func149 hP) ?_
  refine Qo ?_
  exact qM
theorem adA (l:List UInt8) (h:l.length≤1000000):aU Tryz.prog 220 [.sc (.string (bs l)),.sc (.string (bs [43]))] (.tu [.sc (.string (bs (jK l).1)),.sc (.bool (jK l).2)]):=by
 have hP:=Yl l h
 refine jl Tryz.func220 Tryz.ntmps220 fun w0 F0=>?_;dsimp only [St.init,number,Nat.reduceAdd]
 refine acT ?_
 refine WL.vl rfl (bZ Tryz.func257 hP) ?_
 refine acT ?_
 exact qM
theorem YL (a b:List (List UInt8)) (d:List UInt8) (h:∀ w∈a,w≠d) (hl:a.length+b.length≤1000000):aU Tryz.prog 158 [.ls 1 ((a++d::b).map iV),.sc (.string (bs d))] (.sc (.int .i64 a.length)):=by
 obtain ⟨L,hL⟩:∃ L,a++d::b=L:=⟨_,rfl⟩
 have hlen:L.length=a.length+b.length+1:=by rw [← hL];simp;omega
 have hat:∀ k (hk:k < a.length) h',L[k]'h'≠d:=fun k hk h'=>by
  subst hL
  rw [Tf hk]
  exact h _ (dS hk)
 have hd:∀ h',L[a.length]'h'=d:=fun h'=>by subst hL;simp
 rw [hL]
 refine jl Tryz.func158 Tryz.ntmps158 fun w0 F0=>?_;dsimp only [St.init,number,Nat.reduceAdd]
 refine XB ?_
 refine W.loop (fun k:Nat=>k≤a.length) (fun k=>⟨[(0,.ls 1 (L.map iV)),(1,.sc (.string (bs d))),(7,.sc (.int .i64 L.length)),(8,.sc (.int .i64 k))],[],0⟩) (fun k=>a.length - k) 0 au (zqt id) fun k hk=>?_
 have hkL:k < L.length:=by omega
 by_cases hlt:k < a.length
 ·have hb:(d == L[k])=false:=by simpa using fun e=>hat k hlt hkL e.symm
  refine XB ?_
  rw [hb]
  refine XB ?_
  exact ara
 ·obtain rfl:k=a.length:=by omega
  have hb:(d == L[a.length])=true:=by rw [hd];simp
  refine XB ?_
  rw [hb]
  refine XB ?_
  exact W.ret vS
theorem YM (L:List (List UInt8)) (d:List UInt8) (h:∀ w∈L,w≠d) (hl:L.length≤1000000):aU Tryz.prog 158 [.ls 1 (L.map iV),.sc (.string (bs d))] (.sc (.int .i64 (-1))):=by
 refine jl Tryz.func158 Tryz.ntmps158 fun w0 F0=>?_;dsimp only [St.init,number,Nat.reduceAdd]
 refine fQ ?_
 refine W.loop (fun k:Nat=>k≤L.length) (fun k=>⟨[(0,.ls 1 (L.map iV)),(1,.sc (.string (bs d))),(7,.sc (.int .i64 L.length)),(8,.sc (.int .i64 k))],[],0⟩) (fun k=>L.length - k) 0 au (zqt id) fun k hk=>?_
 by_cases hlt:k < L.length
 ·have hb:(d == L[k])=false:=by simpa using fun e=>h _ (dS hlt) e.symm
  refine fQ ?_
  rw [hb]
  refine fQ ?_
  exact ara
 ·obtain rfl:k=L.length:=by omega
  exact NH
theorem adx (l:List (List UInt8)) (h:l.length≤1000000):jI jE 0 Tryz.prog 161 [.ls 1 (l.map iV)] [] 0 (.sl 0) [(0,.row 9 1 (l.map iV))] 1:=by
 refine jI.intro kV Tryz.func161 rfl Tryz.ntmps161 (bU rfl) rfl fun w0 F0 fp pg hB=>?_
 refine gB ?_
 refine qL ?_
 refine WL.nlq rfl rfl fun b hb=>?_
 cases b with
 | true =>
  have e:=hb rfl
  refine qL ?_
  refine W.tr (Tr.nil (t:=2) 9 1 rfl rfl) ?_
  rw [e]
  refine W.tr (σ':=⟨[(2,.sl 0)],[(0,.row 9 1 [])],1⟩) (zqt id) ?_
  exact jX
 | false =>
  refine qL ?_
  refine W.tr (σ':=⟨[(2,.sl 0)],[(0,.row 9 1 (l.map iV))],1⟩) (kL (fun q=>bif Nat.beq q 0 then 1 else q) qc rfl) ?_
  exact jX
def YR {α:Type} (t:α→Bool)(l:List α):Int:=if l.any t=true then((l.findIdx t:Nat):Int)else -1
theorem JK {α:Type} {t:α→Bool} {l:List α} {k:Nat} (hk:k<l.length) (h1:t l[k]=true) (h2:∀ i (hi:i<k),t (l[i]'(by omega))=false):YR t l=k:=by
 have hh:l.any t=true:=List.any_eq_true.2 ⟨l[k],dS hk,h1⟩
 unfold YR
 rw [if_pos hh,(List.findIdx_eq hk).2 ⟨h1,h2⟩]
theorem YS {α:Type} {t:α→Bool} {l:List α} (h:∀ i(hi:i<l.length),t l[i]=false):YR t l=-1:=by
 have hh:l.any t=false:=by
  rw [Ep]
  intro x hx
  obtain⟨i,hi,rfl⟩:=eu hx
  simp [h i hi]
 unfold YR
 rw [hh];rfl
theorem anK {α:Type} (t:α→Bool)(l:List α):decide (0≤YR t l)=l.any t:=by
 unfold YR
 cases h:l.any t with
 | true=>rw [if_pos rfl];exact dG (by omega)
 | false=>rw [if_neg (by simp)];rfl
theorem anm (x:sJ) (w:Int):aU Tryz.prog 179 [.ag (iR x),.pr [.sc (.int .i64 w)]] (.sc (.bool (x.2.2 == w))):=by
 refine jl Tryz.func179 Tryz.ntmps179 fun w0 F0=>?_;dsimp only [St.init,number,Nat.reduceAdd]
 exact aaF
theorem anD (l:List sJ) (w:Int) (hl:l.length≤100000):aU Tryz.prog 233 [.ls 3 (l.map iR),.fn 179 [.pr [.sc (.int .i64 w)]]] (.sc (.int .i64 (YR (fun x:sJ=>x.2.2 == w) l))):=by
 refine jl Tryz.func233 Tryz.ntmps233 fun w0 F0=>?_;dsimp only [St.init,number,Nat.reduceAdd]
 refine aju ?_
 refine W.loop (fun k:Nat=>k≤l.length∧∀ i (hi:i < k) (h:i < l.length),(l[i].2.2 == w)=false) (fun k=>⟨[(0,.ls 3 (l.map iR)),(1,.fn 179 [.pr [.sc (.int .i64 w)]]),(7,.sc (.int .i64 l.length)),(8,.sc (.int .i64 k))],[],0⟩) (fun k=>l.length - k) 0 ⟨by omega,fun i hi=>by omega⟩ (zqt id) fun k hk=>?_
 obtain ⟨hk,hno⟩:=hk
 by_cases hlt:k < l.length
 ·refine fQ ?_
  refine WL.vl rfl (WV.yU (dL _) rfl (ak Tryz.func179 rfl rfl) rfl rfl rfl rfl rfl (anm l[k] w).g) ?_
  cases he:l[k].2.2 == w with
  | true =>
   rw [JK (t:=fun x:sJ=>x.2.2 == w) hlt he fun i hi=>hno i hi (by omega)]
   exact NH
  | false =>
   exact al7
 ·rw [YS (t:=fun x:sJ=>x.2.2 == w) fun i hi=>hno i (by omega) hi]
  exact NH
theorem agh (l:List sJ) (w:Int) (hl:l.length≤100000):aU Tryz.prog 178 [.ls 3 (l.map iR),.fn 179 [.pr [.sc (.int .i64 w)]]] (.sc (.bool (BU l w))):=by
 have hI:=anD l w hl
 have hh:decide (0≤YR (fun x:sJ=>x.2.2 == w) l)=BU l w:=anK _ l
 obtain ⟨z,hz⟩:∃ z,YR (fun x:sJ=>x.2.2 == w) l=z:=⟨_,rfl⟩
 rw [hz] at hI hh
 refine jl Tryz.func178 Tryz.ntmps178 fun w0 F0=>?_;dsimp only [St.init,number,Nat.reduceAdd]
 refine nK ?_
 refine WL.vl rfl (bZ Tryz.func233 hI) ?_
 refine nK ?_
 refine W.ret (fin1 rfl rfl (Ap ?_) rfl)
 rw [← hh]
theorem acM (l:List sJ) (w:Int) (hl:l.length≤100000):aU Tryz.prog 115 [.ls 3 (l.map iR),.sc (.int .i64 w)] (.sc (.bool (BU l w))):=by
 have hC:=agh l w hl
 refine jl Tryz.func115 Tryz.ntmps115 fun w0 F0=>?_;dsimp only [St.init,number,Nat.reduceAdd]
 refine nK ?_
 refine yH ?_
 refine WL.vl rfl (WV.ahk (dL _) rfl (ak Tryz.func178 rfl rfl) rfl rfl rfl rfl rfl rfl H7 hC.g) ?_
 refine nK ?_
 exact W.ret vS
end
end Go.Proofs.YthehkchjdkdbiaaGreatDoor
