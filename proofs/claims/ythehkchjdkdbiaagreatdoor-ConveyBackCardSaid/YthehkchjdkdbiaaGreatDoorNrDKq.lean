/- The reader of the program: fail, next, check. -/
import Derived.Test.YthehkchjdkdbiaaGreatDoorYFKq
import Derived.Test.YthehkchjdkdbiaaGreatDoorPlEKq
import Derived.Test.YthehkchjdkdbiaaGreatDoorGfKq
set_option maxHeartbeats 4000000
set_option maxRecDepth 100000
set_option linter.unusedVariables false
set_option linter.unusedSimpArgs false
namespace Go.Proofs.YthehkchjdkdbiaaGreatDoor
section
variable {p:Prop}
theorem TV(h:p:=by
 refine zN ?_
 exact W.ret vS):p:=h
theorem alF(h:p:=by
 rw [e,if_neg (by decide)]
 refine Xr ?_
 refine iF ?_
 refine ap3 ?_
 refine Xr ?_
 exact Nu):p:=h
theorem alk(h:p:=by
 refine⟨by decide,rfl,rfl,fun h0=>?_⟩
 subst h0;cases h):p:=h
theorem TQ(h:p:=by
 refine awP ?_
 exact W.ret vS):p:=h
theorem akC(h:p:=by
 rw [xU,Lib.count_one]
 have:=List.count_le_length (a:=(32:UInt8)) (l:=t)
 omega):p:=h
theorem adf(h:p:=by
 by_cases e:j=k
 ·subst e;exact h
 ·exact hall j hj au):p:=h
theorem Nu(h:p:=by
 refine WL.ctp (dL _) [0,1,2] rfl rfl (ak Tryz.func40 rfl rfl) (agx _ _ _ _ _ _ _ _) rfl rfl rfl ⟨⟨rfl,rfl,rfl⟩,trivial⟩ ?_
 rfl):p:=h
end
theorem aqJ {p q:Prop}(k:q)(h:aP q→p:=by
 intro hq
 refine ajr ?_
 refine iF ?_
 refine aqp ?_
 refine DK.idx rfl rfl au hat ?_
 refine aqp ?_
 refine ajr ?_
 exact hq.k):p:=h ⟨k⟩
theorem ajR {p q:Prop}(k:q)(h:aP q→p:=by
 intro hq
 refine uo ?_
 refine aZ.v0 rfl (zZ rfl hcb2) ?_
 exact hq.k):p:=h ⟨k⟩
theorem aqF {p q:Prop}(k:q)(h:aP q→p:=by
 intro hq
 refine Xr ?_
 refine iF ?_
 refine ap3 ?_
 refine Xr ?_
 refine iF ?_
 refine ap4 ?_
 refine DK.idx rfl rfl au hat ?_
 refine ap4 ?_
 refine Xr ?_
 exact hq.k):p:=h ⟨k⟩
theorem Io {p q:Prop}(k:q)(h:aP q→p:=by
 intro hq
 refine uo ?_
 refine uo ?_
 exact hq.k):p:=h ⟨k⟩
theorem aqt {p q:Prop}(k:q)(h:aP q→p:=by
 intro hq
 refine W.Js 4 bD bD bD ?_
 refine WA.dt [false,false,false,true] [] [] 3 bD bD bD trivial trivial ?_
 exact hq.k):p:=h ⟨k⟩
theorem XT {p q:Prop}(k:q)(h:aP q→p:=by
 intro hq
 refine aZ.ixs rfl bD rfl ⟨by omega,by omega⟩ ?_
 exact hq.k):p:=h ⟨k⟩
theorem aqp {p q:Prop}(k:q)(h:aP q→p:=by
 intro hq
 repeat (first|refine DK.bt rfl rfl (by omega) ?_|refine DK.bf rfl rfl (by omega) ?_|refine DK.tt rfl IG ?_|refine DK.ff rfl IG ?_|refine DK.st rfl ?_|refine DK.ar rfl rfl zW ?_|refine DK.nil ?_)
 exact hq.k):p:=h ⟨k⟩
section
open Go.RowKit
def eSg (e:Ev):AV:=.ag [.sc (.int .i64 e.val),.sc (.bool e.dot),.sc (.bool e.three)]
theorem LD {v:Int} {d t:Bool} (h:gZ v d t=true):0≤v∧v≤7∧sH d t≤2∧d=IE (sH d t)∧t=EH (sH d t)∧(v=0→sH d t=0):=by
 have hv:0≤v∧v≤7:=by
  unfold gZ at h
  simp only [qI,aW,qH,gu]at h
  omega
 refine⟨hv.1,hv.2,?_⟩
 cases d<;>cases t
 ·exact⟨by decide,rfl,rfl,fun _=>rfl⟩
 ·exact alk
 ·exact alk
 ·exfalso
  unfold gZ at h
  by_cases h1:1≤v<;>by_cases h2:v≤7<;>simp [h1,h2]at h
theorem Xj (s:Int) (hs:1≤s∧s≤4) (e:Ev) (h:gZ e.val e.dot e.three=true):aU Tryz.prog 110 [.sc (bG s),eSg e] (.tu [.sc (.string (bs (tW e.val (sH e.dot e.three)))),.sc (.bool (Aq s e.val (sH e.dot e.three)))]):=by
 obtain ⟨h1,h2,h3,h4,h5,h6⟩:=LD h
 obtain ⟨i,hi⟩:∃ i,sH e.dot e.three=i:=⟨_,rfl⟩
 rw [hi] at h3 h4 h5 h6 ⊢
 unfold eSg
 rw [h4,h5]
 exact Xi s hs e.val i ⟨h1,h2⟩ h3 h6
theorem Wn (p:aS) (hO:jm p) (i x:Int):aU Tryz.prog 95 [bK p,.sc (.int .i64 i),.sc (.int .i64 x)] (.sc (.int .i64 (ah p.evs i x))) :=
 aU.PG (pre:=[]) (post:=[.sc (.int .i64 i),.sc (.int .i64 x)]) rfl rfl (fun _=>.sc _) fun w M hM=>rY M p i x w hM hO
theorem PV (cs:List (Int×Int×Bool)) (st:List Int) (h:cs.length≤64):aU Tryz.prog 112 [.ag (mX cs st)] (.sc (.int .i64 ((min cs.length 6:Nat):Int))):=by
 refine jl Tryz.func112 Tryz.ntmps112 fun w0 F0=>?_;dsimp only [St.init,number,Nat.reduceAdd]
 refine ap1 ?_
 refine WL.mm rfl rfl (show _=((min cs.length 6:Nat):Int) by split<;>omega) ?_
 refine ap1 ?_
 exact W.ret vS
def Vm(s:Int):FuncId:=if s=1 then 317 else if s=2 then 332 else if s=3 then 340 else 347
def IK(s:Int):FuncId:=if s=1 then 319 else if s=2 then 334 else if s=3 then 342 else 349
theorem abK (s:Int) (hs:1≤s∧s≤4) (c n:Int) (hc:1≤c∧c≤14) (hn:0≤n∧n≤6):aU Tryz.prog (Vm s) [.ag [],.sc (.int .i64 c),.sc (.int .i64 n)] (.sc (.int .i64 (uH s c n))):=by
 rcases bQ hs with rfl|rfl|rfl|rfl
 ·show aU Tryz.prog 317 _ _
  refine jl Tryz.func317 Tryz.ntmps317 fun w0 F0=>?_;dsimp only [St.init,number,Nat.reduceAdd]
  exact TQ
 ·show aU Tryz.prog 332 _ _
  refine jl Tryz.func332 Tryz.ntmps332 fun w0 F0=>?_;dsimp only [St.init,number,Nat.reduceAdd]
  exact TQ
 ·show aU Tryz.prog 340 _ _
  refine jl Tryz.func340 Tryz.ntmps340 fun w0 F0=>?_;dsimp only [St.init,number,Nat.reduceAdd]
  exact TQ
 ·show aU Tryz.prog 347 _ _
  refine jl Tryz.func347 Tryz.ntmps347 fun w0 F0=>?_;dsimp only [St.init,number,Nat.reduceAdd]
  exact TQ
theorem EM (s:Int) (hs:1≤s∧s≤4):aU Tryz.prog (IK s) [.ag []] (.sc (.bool (!decide (s=2)))):=by
 rcases bQ hs with rfl|rfl|rfl|rfl
 ·show aU Tryz.prog 319 _ _
  refine jl Tryz.func319 Tryz.ntmps319 fun w0 F0=>?_;dsimp only [St.init,number,Nat.reduceAdd]
  exact TV
 ·show aU Tryz.prog 334 _ _
  refine jl Tryz.func334 Tryz.ntmps334 fun w0 F0=>?_;dsimp only [St.init,number,Nat.reduceAdd]
  exact TV
 ·show aU Tryz.prog 342 _ _
  refine jl Tryz.func342 Tryz.ntmps342 fun w0 F0=>?_;dsimp only [St.init,number,Nat.reduceAdd]
  exact TV
 ·show aU Tryz.prog 349 _ _
  refine jl Tryz.func349 Tryz.ntmps349 fun w0 F0=>?_;dsimp only [St.init,number,Nat.reduceAdd]
  exact TV
def eStr (t:List UInt8):List AV:=[.sc (.string (bs t))]
theorem anL (l:List (List UInt8)) (h1:l.length≤1000) (h2:(lU l).length≤1000000):aU Tryz.prog 111 [.ls 1 (l.map eStr),.sc (.string (bs [32]))] (.sc (.string (bs (lU l)))):=by
 intro w F vs hF hR
 match vs,hR.1 with
 | [v,v2],_ =>
  obtain rfl:=(hR.2 1 _ v2 rfl rfl).fB
  obtain ⟨A,c,rfl,hrd,hc⟩:=D8 (n:=1) (f:=fun t=>[Value.string (bs t)]) hF au (fun _=>rfl) (fun x j u h=>by
   match j with
   | 0=>cases h;rfl
   | j+1=>simp at h) (hR.2 0 _ v rfl rfl)
  have fin:∀ e w',e=Ending.returned (.string (bs (lU l)))→Below w.heap.size w w'→∃ v F',e=.returned v∧Below w.heap.size w w'∧View.le F F'∧(∀ p u,F' p=some u→w'.cell? p=some u)∧(∀ p u,F' p=some u→F p=some u∨w.heap.size≤p.block)∧RP F' (.sc (.string (bs (lU l)))) v :=
   fun e w' he hb=>⟨_,F,he,hb,fun _ _ h=>h,fun p u x=>by rw [hb.cell (aN (hF p u x))];exact hF p u x,fun _ _ h=>.inl h,.sc _⟩
  by_cases h0:l.length=0
  ·obtain rfl:=oN h0
   exact (strings_Join_none A c (bs [32]) w).mono fun e w' ⟨he,hw⟩=>fin e w' he (hw ▸ Below.refl _ _)
  ·obtain ⟨ad,had,hlt,hcell⟩:=hrd (by simp;omega)
   subst had
   have hsp:ad.spot=none:=by
    have:=hcell 0 _ (aI (by simp;omega)) 0 (.string (bs (l[0]'(by omega)))) (by simp)
    rw [zI,zJ,add_zero'] at this
    unfold World.cell? at this
    cases hs:ad.spot with
    | none=>rfl
    | some q =>
     split at this
     ·rw [hs] at this;simp at this
     ·cases this
   obtain ⟨bk,off,sp⟩:=ad
   simp only at hsp hlt
   subst hsp
   have hm:(l.map bs).map (fun b=>b.data.toList)=l:=by
    rw [oO]
    exact (qK fun t _=>rfl).trans (MQ l)
   have:=strings_Join bk off c (l.map bs) (bs [32]) w (fun j x hx=>?_) hlt (by simp;omega) (by simpa using hc) (by rw [hm,iQ,OZ];omega)
   ·rw [hm,iQ,OZ,aH] at this
    exact this.mono fun e w' ⟨he,hb⟩=>fin e w' he hb
   ·rw [bT] at hx
    cases hq:l[j]? with
    | none=>simp [hq] at hx
    | some t =>
     rw [hq] at hx
     obtain rfl:bs t=x:=by simpa using hx
     have:=hcell j _ (by rw [bT,hq];rfl) 0 (.string (bs t)) rfl
     rw [vT,Nat.mul_one,zJ] at this
     exact this
def eP (n e:Int):Value:=.iface 71 (.agg #[.int .i64 n,.int .i64 e])
def iC (v0 v1:Value)(CS ST:List (List AV))(n:Int)(T:List (List AV))(cl:Bool):AO:=.box 78 [.sc v0,.sc v1,.ls 3 CS,.ls 1 ST,.sl 1,.sl 2,.sc (.int .i64 n),.ls 1 T,.sc (.bool cl)]
theorem agx (v0 v1:Value)(CS ST:List (List AV))(n:Int)(T:List (List AV))(cl:Bool)(e:Int):Ud jE 0 Tryz.prog 40 [.pt 0 0 0,.sc (.int .i64 e)] [(0,iC v0 v1 CS ST n T cl)] 3 (eP n e):=by
 unfold iC
 refine Ud.intro kV Tryz.func40 rfl Tryz.ntmps40 (bU rfl) rfl fun w0 F0 fp pg hB=>?_
 refine gB ?_
 refine ap2 ?_
 refine WL.vl rfl (WV.mki rfl (fun v w=>by kernel_rfl) rfl rfl) ?_
 refine ap2 ?_
 refine WL.pan rfl rfl rfl rfl
def lq (L:List (List UInt8))(cl:Bool)(n:Nat):Bool:=decide (n<L.length) && (cl|| decide (n+1<L.length))
theorem YU (v0 v1:Value) (CS ST:List (List AV)) (L:List (List UInt8)) (cl:Bool) (n:Nat) (hl:L.length≤1000000) (hn:n≤L.length) :
  Ou jE 0 Tryz.prog 42 [.pt 0 0 0] [(0,iC v0 v1 CS ST n (L.map iV) cl)] 3
   (if lq L cl n=true then .ok (.sc (.string (bs (L.getD n [])))) [(0,iC v0 v1 CS ST ((n:Int)+1) (L.map iV) cl)] 3 else .er (eP ((n:Int)+1) 4)):=by
 unfold iC
 refine Ou.intro kV Tryz.func42 rfl Tryz.ntmps42 (bU rfl) rfl fun w0 F0 fp pg hB=>?_
 refine gB ?_
 by_cases h1:L.length≤n
 ·have e:lq L cl n=false:=by unfold lq;rw [cZ (by omega)];rfl
  exact alF
 have hat:(L.map iV)[((n:Int)+1 - 1).toNat]?=some (iV (L.getD n [])):=by
  rw [show ((n:Int)+1 - 1).toNat=n by omega,bT,oP,aI (by omega)];rfl
 obtain ⟨T,hT⟩:∃ z,L.map iV=z:=⟨_,rfl⟩
 have hTl:T.length=L.length:=by rw [← hT];exact aH _
 obtain ⟨x,hx⟩:∃ z,L.getD n []=z:=⟨_,rfl⟩
 rw [hT,hx] at hat
 rw [hT,hx]
 by_cases h2:n+1=L.length
 ·cases cl with
  | false =>
   have e:lq L false n=false:=by unfold lq;rw [dG (by omega),cZ (by omega)];rfl
   exact alF
  | true =>
   have e:lq L true n=true:=by unfold lq;rw [dG (by omega)];rfl
   rw [e,if_pos rfl]
   refine aqF ?_
   exact jX
 ·have e:lq L cl n=true:=by unfold lq;rw [dG (show n < L.length by omega),dG (show n+1 < L.length by omega)];simp
  rw [e,if_pos rfl]
  refine aqF ?_
  exact jX
theorem amK (s:Int) (v0 v1:Value) (cs:List Crs) (ST:List (List AV)) (n:Int) (T:List (List AV)) (cl:Bool) (x:N5) (h1:1≤x.1∧x.1≤100) (h2:x.2.1≤100) (hc:cs.length≤100) (hb:∀ c∈cs,0≤c.2.1∧c.2.1≤1000) :
  Ou jE 0 Tryz.prog 94 [.pt 0 0 0,.ag (xu s x)] [(0,iC v0 v1 (cs.map aF) ST n T cl)] 3
   (if fK cs x=0 then .ok (.tu []) [(0,iC v0 v1 (cs.map aF) ST n T cl)] 3 else .er (eP n (fK cs x))):=by
 obtain ⟨c,f,r,g,h⟩:=x
 dsimp only at h1 h2
 unfold iC xu
 refine Ou.intro kV Tryz.func94 rfl Tryz.ntmps94 (bU rfl) rfl fun w0 F0 fp pg hB=>?_
 refine gB ?_
 obtain ⟨H,hH⟩:∃ z,mQ s h=z:=⟨_,rfl⟩
 rw [hH]
 have hml:(cs.map aF).length=cs.length:=aH _
 by_cases hlt:cs.length < c
 ·have e:fK cs (c,f,r,g,h)=12:=if_pos hlt
  rw [e,if_neg (by decide)]
  refine ajr ?_
  exact Nu
 have hat:(cs.map aF)[((c:Int) - 1).toNat]?=some (aF (cs.getD (c - 1) (0,0,false))):=by
  rw [show ((c:Int) - 1).toNat=c - 1 by omega,bT,oP,aI (by omega)];rfl
 have hbc:=hb (cs.getD (c - 1) (0,0,false)) (by rw [oP,aI (by omega)];exact dS _)
 obtain ⟨⟨p,q,o⟩,hpq⟩:∃ z,cs.getD (c - 1) (0,0,false)=z:=⟨_,rfl⟩
 have e:fK cs (c,f,r,g,h)=if q < (f:Int) then 13 else 0:=by
  unfold fK;dsimp only;rw [if_neg hlt,hpq]
 rw [e]
 rw [hpq] at hat hbc
 dsimp only at hbc
 obtain ⟨R,hR⟩:∃ z,cs.map aF=z:=⟨_,rfl⟩
 rw [hR] at hml hat ⊢
 by_cases hf:q < (f:Int)
 ·rw [if_pos hf,if_neg (by decide)]
  refine aqJ ?_
  exact Nu
 ·rw [if_neg hf,if_pos rfl]
  refine aqJ ?_
  exact xB (σ':=⟨[],[(0,.box 78 [.sc v0,.sc v1,.ls 3 R,.ls 1 ST,.sl 1,.sl 2,.sc (.int .i64 n),.ls 1 T,.sc (.bool cl)])],3⟩) (zqt id) (sQ rfl rfl rfl rfl rfl)
end
end Go.Proofs.YthehkchjdkdbiaaGreatDoor
