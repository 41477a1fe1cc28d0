/- The measures of a piece: the plain part. -/
import Derived.Test.YthohlofpphjofaaGreatDoorJnGq
set_option maxHeartbeats 4000000
set_option maxRecDepth 100000
set_option linter.unusedVariables false
set_option linter.unusedSimpArgs false
namespace Go.Proofs.YthohlofpphjofaaGreatDoor
theorem WU {p:Prop}(h:p:=by rw [jP];omega):p:=h
section
open Go.RowKit
def qo (x:Nt):List AV:=[.sc (.int .i64 x.1),.sc (.int .i64 x.2.1),.sc (.int .i64 x.2.2.1),.sc (.int .i64 x.2.2.2.1),.sc (.int .i64 x.2.2.2.2)]
def kY (r:List Int):List AV:=(List.range 15).map fun c=>.sc (.int .i64 (r.getD c 0))
theorem aan {r:List Int} {c:Nat} (h:c<15):(kY r)[c]?=some (.sc (.int .i64 (r.getD c 0))):=by
 unfold kY
 rw [bC,Ub h];rfl
theorem GY(r:List Int):(kY r).length=15:=by unfold kY;simp
theorem GZ {r:List Int} {c:Nat} {v:Int} (hc:c<r.length):(kY r).set c (.sc (.int .i64 v))=kY (r.set c v):=by
 unfold kY
 apply jT (by simp)
 intro i h1 h2
 have hi:i<15:=by simpa using h2
 rw [EJ]
 simp only [EK,Un,dI,LP]
 by_cases e:c=i
 ·subst e;simp [hc]
 ·simp [e]
theorem afU {l:List Nt} {k:Nat} {n:Nt} (t:Int)(h:l[k]?=some n):(l.map qo).set k (putL 4 [.sc (.int .i64 t)] (qo n))=(yF l k t).map qo:=by
 unfold yF
 rw [h]
 simp only [Az]
 rfl
structure yX(s:NS):Prop where
 len:s.ring.length=15
 rng:∀ c,0≤s.ring.getD c 0∧s.ring.getD c 0≤s.out.length
 big:s.out.length≤10000
theorem zH(l:List Nt)(k:Nat)(t:Int):(yF l k t).length=l.length:=by unfold yF;split<;>simp
theorem Ej {s:NS} (h:yX s)(c:Nat)(t:Int):yX (lu c t s)∧(lu c t s).out.length=s.out.length:=by
 unfold lu
 split
 ·refine⟨⟨by simpa using h.len,fun q=>?_,by rw [zH];exact h.big⟩,zH _ _ _⟩
  have:=h.rng q
  simp only [zH,dI]at this ⊢
  by_cases e:c=q
  ·subst e
   by_cases hq:c<s.ring.length
   ·rw [ny hq];simp
   ·rw [TY Js];simp
  ·rw [lF e];exact this
 ·exact⟨h,rfl⟩
theorem ahL {P:Program} {C:Cx} {σ:St} {fn:Func} {avs:List AV} {res:AV} {M':List (Nat×AO)} {nk':Nat} (h:resL P σ fn.results.toList=some avs)(hp:avs.all (fun av=>!ownB av)=true)(e:resT avs=res)(hM:σ.M=M')(hk:σ.nk=nk'):QFinM P fn C res M' nk' .normal σ :=
 ⟨.inl rfl,(finM h hp e hM hk).2⟩
theorem Wu (c:Nat) (t:Int) (s:NS) (hc:c < 15) (h:yX s) :
  Cto truB 0 Tryz.prog 265 [.sc (.int .i64 c),.sc (.int .i64 t),.pt 0 0 0,.pt 1 0 0]
   [(0,.box 355 (kY s.ring)),(1,.box 267 [.sl 2]),(2,.row 273 5 (s.out.map qo))] 3 (.tu [])
   [(0,.box 355 (kY (lu c t s).ring)),(1,.box 267 [.sl 2]),(2,.row 273 5 ((lu c t s).out.map qo))] 3:=by
 have hl:=GY s.ring
 have hrg:=h.rng c
 have hlen:=h.len
 have hbig:=h.big
 have hat:=aan (r:=s.ring) hc
 have hs0:lu c t s=if 0 < s.ring.getD c 0 then ⟨yF s.out (s.ring.getD c 0 - 1).toNat t,s.ring.set c 0⟩ else s:=rfl
 obtain ⟨r,hr⟩:∃ r,s.ring.getD c 0=r:=⟨_,rfl⟩
 rw [hr] at hat hrg hs0
 refine Cto.intro truS Tryz.func265 rfl Tryz.ntmps265 (aP rfl) rfl fun w0 F0 fp pg hB=>?_
 refine jw ?_
 refine WE ?_
 refine WL.idp rfl rfl ⟨by omega,by omega⟩ (show 0+((c:Nat):Int).toNat*1=c by simp) ?_
 refine WL.ldx rfl rfl hat rfl ?_
 refine WE ?_
 (refine W.cond rfl (fun hif=>?_) (fun hif=>?_)<;>(try simp only [bD,bK,dM,dN,dn,dO] at hif))
 ·rw [if_pos hif] at hs0
  rw [hs0]
  have hk:(r - 1).toNat < s.out.length:=by omega
  have hn:=aB hk
  have hrr:(s.out.map qo)[(r - 1).toNat]?=some (qo s.out[(r - 1).toNat]):=by rw [bC,hn];rfl
  refine aie ?_
  refine WL.sto rfl rfl rfl rfl hrr (by show 4+1≤5;omega) ?_
  refine aie ?_
  refine WL.idp rfl rfl ⟨by omega,by omega⟩ (show 0+((c:Nat):Int).toNat*1=c by simp) ?_
  refine WL.stx rfl rfl rfl rfl (by rw [hl];exact hc) ?_
  rw [GZ (by omega)]
  dsimp only
  refine WL.tr (σ':=⟨[],[(0,.box 355 (kY (s.ring.set c 0))),(1,.box 267 [.sl 2]),(2,.row 273 5 ((yF s.out (r - 1).toNat t).map qo))],3⟩) (mP (fun q=>q) (by repeat (first|exact trivial|refine ⟨⟨?_,?_,?_⟩,?_⟩|rfl|exact congrArg (fun q=>some (AO.row _ _ q)) (afU t hn))) rfl) ?_
  refine WE ?_
  exact ahL rfl rfl rfl rfl rfl
 ·rw [if_neg (by omega)] at hs0
  rw [hs0]
  refine WE ?_
  exact ahL rfl rfl rfl rfl rfl
def upP(n q:Int):Int:=if n<0∨n<q then q else n
def Oh (p:aN)(l:List Stp)(n:Int):Int:=l.foldl (fun n x=>upP n (xk p.cs p.st x.1 x.2.1)) n
def BD (p:aN):List Int:=p.evs.map fun e=>Oh p e.stops (-1)
def wJ (out:List Int)(n:Nt):List Int:=out.set n.1.toNat (upP (out.getD n.1.toNat 0) n.2.2.1)
theorem Oj(l:List Nt):∀ out,(l.foldl wJ out).length=out.length:=by
 induction l with
 | nil=>intro out;rfl
 | cons n r ih=>intro out;rw [uJ,ih];simp [wJ]
theorem Rk (p:aN) (k:Nat):∀ (l:List Stp) (out:List Int) (v:Int),out[k]?=some v→(l.map (Dh p k)).foldl wJ out=out.set k (Oh p l v):=by
 intro l
 induction l with
 | nil =>
  intro out v h
  apply List.ext_getElem?
  intro i
  rw [LP]
  by_cases e:k=i
  ·subst e
   have hlt:=(List.getElem?_eq_some_iff.1 h).1
   rw [aB hlt]at h
   simp [Oh,hlt,Option.some.inj h]
  ·simp [e]
 | cons x r ih =>
  intro out v h
  have hlt:=(List.getElem?_eq_some_iff.1 h).1
  rw [qM,uJ]
  have e1:wJ out (Dh p k x)=out.set k (upP v (xk p.cs p.st x.1 x.2.1)):=by
   unfold wJ Dh BI
   simp [h]
  rw [e1,ih _ (upP v (xk p.cs p.st x.1 x.2.1)) (by simp [hlt])]
  rw [List.set_set];rfl
theorem Ye (p:aN):∀ m,m≤p.evs.length→(bY p m).foldl wJ (List.replicate p.evs.length (-1))=((p.evs.take m).map fun e=>Oh p e.stops (-1))++List.replicate (p.evs.length-m) (-1):=by
 intro m
 induction m with
 | zero=>intro _;simp [bY]
 | succ m ih =>
  intro hm
  have hm':m<p.evs.length:=by omega
  have e1:bY p (m+1)=bY p m++p.evs[m].stops.map (Dh p m):=by
   exact afs
  rw [e1,Ew,ih (by omega),Rk p m p.evs[m].stops _ (-1) ?_]
  ·rw [gq hm',gK,Lr _ _ (by simp;omega)]
   have:m-((p.evs.take m).map fun e=>Oh p e.stops (-1)).length=0:=by simp;omega
   rw [this,show p.evs.length-m=(p.evs.length-(m+1))+1 by omega,Ls]
   simp
  ·rw [qL (by simp;omega)]
   have:m-((p.evs.take m).map fun e=>Oh p e.stops (-1)).length=0:=by simp;omega
   rw [this,Ua,if_pos (by omega)]
theorem agG (p:aN):(bY p p.evs.length).foldl wJ (List.replicate p.evs.length (-1))=BD p:=by
 rw [Ye p _ (Nat.le_refl _)];simp [BD]
def Bj:List Int→List Int
 | x::y::r=>(y-x)::Bj (y::r)
 | _=>[]
theorem zM:∀ l,(Bj l).length=l.length-1
 | []=>rfl
 | [x]=>rfl
 | x::y::r=>by
  have:=zM (y::r)
  simp only [Bj,bW]at this ⊢
  omega
theorem Va:∀ (l:List Int)(i:Nat)(h:i+1<l.length),(Bj l)[i]?=some (l[i+1]-l[i])
 | [],i,h=>by simp at h
 | [x],i,h=>by simp at h
 | x::y::r,0,h=>rfl
 | x::y::r,i+1,h=>by
  have:=Va (y::r) i uT
  simpa [Bj] using this
theorem Xu {l:List Int} {i:Nat} (h:i+1<l.length):(Bj l).take (i+1)=(Bj l).take i++[l[i+1]-l[i]]:=by
 have h1:=Va l i h
 have hlt:=(List.getElem?_eq_some_iff.1 h1).1
 rw [gq hlt]
 rw [aB hlt]at h1
 rw [Option.some.inj h1]
def IQ (p:aN):List Int:=(BD p).filter fun x=>!decide (x<0)
def aob (p:aN)(n:Int):List Int:=(Bj (IQ p)).take n.toNat
def sH (t:Int):List (Int×Int×Int)→List (Int×Int×Int)
 | []=>[]
 | [x]=>[(x.1,x.2.1+1,x.2.2+t)]
 | x::y::r=>x::sH t (y::r)
theorem Cc (t:Int)(x:Int×Int×Int):∀ l,sH t (l++[x])=l++[(x.1,x.2.1+1,x.2.2+t)]
 | []=>rfl
 | [y]=>rfl
 | y::z::r=>by
  have:=Cc t x (z::r)
  simp only [Ja]at this ⊢
  rw [sH,this]
def Om (evs:List Ev)(k:Nat):Bool:=k == 0|| ((evs[k]?).map (·.bar)).getD false
def nR (evs:List Ev):Nat→List (Int×Int×Int)
 | 0=>[]
 | k+1=>sH (zO 0 (evs.take (k+1))) (if Om evs k then nR evs k++[((k:Int),0,0)]else nR evs k)
def Hy(x:Int×Int×Int):List Value:=[.int .i64 x.1,.int .i64 x.2.1,.int .i64 x.2.2]
def iJ (l:List (Int×Int×Int)):List Value:=l.flatMap Hy
theorem jP (l:List (Int×Int×Int)):(iJ l).length=l.length*3:=by
 induction l with
 | nil=>rfl
 | cons x r ih=>simp [iJ,Hy]at ih ⊢;omega
theorem jd (l:List (Int×Int×Int))(x:Int×Int×Int):iJ (l++[x])=iJ l++Hy x:=by simp [iJ]
theorem Oc (l:List (Int×Int×Int)) (x:Int×Int×Int) (u:Int):(iJ (l++[x])).set (l.length*3+1) (.int .i64 u)=iJ (l++[(x.1,u,x.2.2)]):=by
 rw [jd,jd,Lr _ _ WU,jP]
 rw [show l.length*3+1-l.length*3=1 by omega];rfl
theorem Oe (l:List (Int×Int×Int)) (x:Int×Int×Int) (u:Int):(iJ (l++[x])).set (l.length*3+2) (.int .i64 u)=iJ (l++[(x.1,x.2.1,u)]):=by
 rw [jd,jd,Lr _ _ WU,jP]
 rw [show l.length*3+2-l.length*3=2 by omega];rfl
theorem CZ (l:List (Int×Int×Int))(x:Int×Int×Int):(iJ (l++[x]))[l.length*3+1]?=some (.int .i64 x.2.1):=by
 rw [jd,qL WU,jP,show l.length*3+1-l.length*3=1 by omega];rfl
theorem C9 (l:List (Int×Int×Int))(x:Int×Int×Int):(iJ (l++[x]))[l.length*3+2]?=some (.int .i64 x.2.2):=by
 rw [jd,qL WU,jP,show l.length*3+2-l.length*3=2 by omega];rfl
theorem qZ (t:Int):∀ l,(sH t l).length=l.length
 | []=>rfl
 | [y]=>rfl
 | y::z::r=>by
  have:=qZ t (z::r)
  simp only [sH,bW]at this ⊢
  omega
theorem aaZ (evs:List Ev):∀ k,(if Om evs k then nR evs k++[((k:Int),0,0)]else nR evs k)≠[]
 | 0=>by simp [Om]
 | k+1=>by
  split
  ·simp
  ·intro h
   have h1:(nR evs (k+1)).length=0:=by rw [h];rfl
   unfold nR at h1
   rw [qZ]at h1
   exact aaZ evs k (List.length_eq_zero_iff.1 h1)
theorem nS(evs:List Ev):∀ k,(nR evs k).length≤k
 | 0=>Nat.le_refl _
 | k+1=>by
  have:=nS evs k
  unfold nR
  rw [qZ]
  split
  ·simp;omega
  ·omega
theorem GK {t:Int}:∀ {l:List (Int×Int×Int)} {x:Int×Int×Int},x∈sH t l→x∈l∨∃ y∈l,x=(y.1,y.2.1+1,y.2.2+t)
 | [],x,h=>by cases h
 | [y],x,h=>by
  rw [show sH t [y]=[(y.1,y.2.1+1,y.2.2+t)]from rfl,vZ]at h
  exact .inr ⟨y,by simp,h⟩
 | y::z::r,x,h=>by
  rw [show sH t (y::z::r)=y::sH t (z::r)from rfl]at h
  rcases List.mem_cons.1 h with h|h
  ·exact .inl Ba
  ·rcases GK h with h|⟨w,h,e⟩
   ·exact .inl (EG _ h)
   ·exact .inr ⟨w,EG _ h,e⟩
theorem Kr (evs:List Ev):∀ k x,x∈nR evs k→(0≤x.1∧x.1≤k)∧(0≤x.2.1∧x.2.1≤k)∧(0≤x.2.2∧x.2.2≤1000*k):=by
 intro k
 induction k with
 | zero=>intro x hx;cases hx
 | succ k ih =>
  intro x hx
  have hT:=CJ 0 (evs.take (k+1)) ⟨by decide,by decide⟩
  have h1:∀ y,y∈(if Om evs k then nR evs k++[((k:Int),0,0)] else nR evs k)→(0≤y.1∧y.1≤k)∧(0≤y.2.1∧y.2.1≤k)∧(0≤y.2.2∧y.2.2≤1000*k):=fun y hy=>by
   split at hy
   ·rcases List.mem_append.1 hy with hy|hy
    ·exact ih y hy
    ·rw [vZ] at hy;subst hy;simp;omega
   ·exact ih y hy
  unfold nR at hx
  rcases GK hx with hx|⟨y,hy,rfl⟩
  ·have:=h1 x hx;omega
  ·have:=h1 y hy;simp only;omega
end
end Go.Proofs.YthohlofpphjofaaGreatDoor
