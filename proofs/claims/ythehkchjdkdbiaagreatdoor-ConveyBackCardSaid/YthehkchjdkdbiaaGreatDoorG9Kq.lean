/- A walk that knows values as trees: a call that only looks at what the caller may write, and hands out a list of its own. -/
import Derived.Test.YthehkchjdkdbiaaGreatDoorSmKq
import Derived.Test.YthehkchjdkdbiaaGreatDoorGPKq
set_option maxHeartbeats 8000000
set_option maxRecDepth 100000
set_option linter.unusedVariables false
set_option linter.unusedSimpArgs false
namespace Go.Proofs.YthehkchjdkdbiaaGreatDoor
section
variable {p:Prop}
theorem alV(h:p:=by
 rw [aI hk] at this
 exact Ns):p:=h
theorem alN(h:p:=by
 by_cases e:i=hi∧j=hj
 ·rw [if_pos e] at x ⊢
  exact EU YH x
 exact ac7):p:=h
theorem ali(h:p:=by
 rw [oP,aI h];rfl):p:=h
theorem akU(h:p:=by
 rw [mJ h,fC,fC];rfl):p:=h
theorem akT(h:p:=by
 rcases List.mem_cons.1 hy with rfl|k
 ·exact h
 ·exact hn y k):p:=h
theorem Ns(h:p:=by
 exact Option.some.inj this):p:=h
theorem QI(h:p:=by
 rw [nZ]at hx;rw [hx.2]at h5;simp at h5):p:=h
theorem ark(h:p:=by
 unfold execOp
 simp only [ho,e1,e2,eqGuard,Sem.run_bind,Sem.run_pure,Result.andThen_ok,hrun]
 simp only [Bool.not_true,Eo,BA,Sem.run_bind,Sem.run_pure,Result.andThen_ok,hrun]):p:=h
theorem jX(h:p:=by
 exact W.ret (Au rfl rfl rfl rfl rfl)):p:=h
end
section
open Go.RowKit
def aag(w:World)(F:View):Prop:=LU w F∧qG w F
theorem Bl:QJ aag (max asi BR):=⟨fun w F h=>Nat.max_le.2 ⟨LP.1 w F h.1,o7.1 w F h.2⟩,fun w w' F F' hb hF h=>⟨LP.2 w w' F F' (fun i hi=>hb i (lH hi (Nat.le_max_left _ _))) hF h.1,o7.2 w w' F F' (fun i hi=>hb i (lH hi (Nat.le_max_right _ _))) hF h.2⟩⟩
theorem kJ.wB {P:Program} {f:FuncId} {args:List AV} {res:AV} (h:kJ LU P f args res):kJ aag P f args res:=h.mono fun _ _ k=>k.1
theorem kJ.wN {P:Program} {f:FuncId} {args:List AV} {res:AV} (h:kJ qG P f args res):kJ aag P f args res:=h.mono fun _ _ k=>k.2
def IC(s aT L:Int)(l:List UInt8)(c f r g h:Nat):Prop:=(1≤c∧c≤14)∧f≤18∧ig s aT c=true∧stM s c f l L r g h=true
theorem aeZ {s aT L:Int} {l:List UInt8} {c f r g h c' f' r' g' h':Nat} (hsp:aK s aT=0) (hL:0≤L∧L≤15) (a:IC s aT L l c f r g h) (b:IC s aT L l c' f' r' g' h') :
  c=c'∧f=f'∧r=r'∧g=g'∧h=h':=by
 obtain ⟨a1,a2,a3,a4⟩:=a
 obtain ⟨b1,b2,b3,b4⟩:=b
 obtain ⟨a5,a6,a7⟩:=xX a4
 obtain ⟨b5,b6,b7⟩:=xX b4
 have k:=agc s aT c f r g h c' f' r' g' h' L hsp au au au au au au au au au au a3 b3 a6 b6 (a7.trans b7.symm)
 omega
theorem afi (m:Nat→Nat→Bool):∀ (n c a b:Nat),rE m c n=some (a,b)→c≤a∧a<c+n∧b≤18∧m a b=true:=by
 intro n
 induction n with
 | zero=>intro c a b h;cases h
 | succ n ih =>
  intro c a b h
  rw [CU] at h
  cases e:oL (m c) 0 19 with
  | none =>
   rw [e] at h
   obtain⟨x,y,z⟩:=ih (c+1) a b h
   exact⟨by omega,by omega,z⟩
  | some f =>
   rw [e] at h
   simp only [Option.some.injEq,Prod.mk.injEq] at h
   obtain⟨rfl,rfl⟩:=h
   unfold oL at e
   have h1:=Ia e
   have h2:=MN e
   rw [List.mem_range'_1] at h2
   exact⟨by omega,by omega,by omega,h1⟩
theorem Bg {s aT:Int} (l:List UInt8) (h:aK s aT=0) :
  (∃ c f:Nat,placeOf s aT l=((c:Int),(f:Int),0)∧(1≤c∧c≤14)∧f≤18∧ig s aT c=true∧rS s c f=l)∨placeOf s aT l=(0,0,4):=by
 cases e:rE (Og s aT l) 1 14 with
 | none=>exact .inr (D6 h e)
 | some cf =>
  obtain ⟨c,f⟩:=cf
  obtain ⟨x,y,z,m⟩:=afi _ _ _ _ _ e
  unfold Og at m
  simp only [aW] at m
  exact .inl ⟨c,f,xO h e,by omega,z,m.1,by simpa using m.2.2⟩
theorem nH {s aT:Int} (h:aK s aT=0):1≤s∧s≤4:=by
 by_cases k:1≤s∧s≤4
 ·exact k
 ·unfold aK at h;rw [if_pos k]at h;cases h
theorem ail {s aT L:Int} {l:List UInt8} {c f r g h:Nat} (hsp:aK s aT=0) (a:IC s aT L l c f r g h) :
  1≤(rS s c f).length∧(rS s c f).length≤l.length∧placeOf s aT (l.take (rS s c f).length)=((c:Int),(f:Int),0):=by
 obtain ⟨a1,a2,a3,a4⟩:=a
 obtain ⟨a5,a6,a7⟩:=xX a4
 have hs:=nH hsp
 obtain ⟨l1,l2⟩:=qm s c f hs au au
 have hok:qU s c f=true:=by
  cases e:qU s c f with
  | true=>rfl
  | false=>unfold dK at a6;rw [e]at a6;simp at a6
 have hne:rS s c f≠[]:=by intro k;rw [k]at l1;rw [l1]at hok;simp at hok
 have e0:vK s c f=0:=by unfold vK;rw [if_neg (fun k=>k hs),if_neg (by omega),if_neg (by omega),if_neg hne]
 have hl:l=rS s c f++(rR s r++(rG s g++pH s h L)):=by
  rw [← a7];unfold cellS;rw [l2 hok];simp
 have ht:l.take (rS s c f).length=rS s c f:=by rw [hl];simp
 have hlen:(rS s c f).length≤l.length:=by rw [hl];simp
 have hp:=(EJ s c f e0).2
 rw [← SN s aT c hsp a3]at hp
 refine ⟨?_,hlen,by rw [ht];exact hp⟩
 cases hq:rS s c f with
 | nil=>exact absurd hq hne
 | cons x t=>simp
def tH(b:UInt8):Nat:=([67,68,69,70,71,65,66]:List UInt8).idxOf b
def oK:List UInt8→Int×List UInt8
 | b::r=>if b=35 then(1,r)else if b=98 then(-1,r)else(0,b::r)
 | []=>(0,[])
def vH (r:List UInt8):Option Int :=
 if r=[45,49]then some (-1)else
 match r with
 | [b]=>if 48≤b.toNat∧b.toNat≤57 then some ((b.toNat:Int)-48)else none
 | _=>none
def iW (t:List UInt8):(Int×Int×Int)×Int :=
 match t with
 | []=>((0,0,0),4)
 | c::r =>
  if 7≤tH c then ((0,0,0),4)else
  match vH (oK r).2 with
  | none=>((0,0,0),4)
  | some o=>if jG (tH c) (oK r).1 o=true then (((tH c:Nat),(oK r).1,o),0)else ((0,0,0),10)
def KY (t:List UInt8):Option (List UInt8×List UInt8) :=
 match dw 47 t with
 | a::b::r=>some (a,t.drop (a.length+1))
 | _=>none
def jK(b:List UInt8):List UInt8×Bool:=if b.getLast?=some 43 then(b.dropLast,true)else(b,false)
def iJ (t:List UInt8):(Int×Int×Bool)×Int :=
 match KY t with
 | none=>((0,0,false),4)
 | some (a,b) =>
  if (iW a).2=4 then ((0,0,false),4)else
  match dV (jK b).1 with
  | none=>((0,0,false),4)
  | some n=>if (iW a).2≠0 then ((0,0,false),(iW a).2)else ((yO (iW a).1.1 (iW a).1.2.1 (iW a).1.2.2,(n:Int),(jK b).2),0)
theorem ZN(r:List UInt8):(oK r).2.length≤r.length:=by
 unfold oK
 split
 ·split
  ·simp
  ·split<;>simp
 ·simp
theorem PX {a b:List UInt8} (h:aQ 47 a):KY (a++47::b)=some (a,b):=by
 unfold KY
 rw [Hr 47 a b h]
 obtain⟨x,y,hxy⟩:∃ x y,dw 47 b=x::y:=by
  have:=xU 47 b
  match hw:dw 47 b with
  | []=>rw [hw]at this;simp at this
  | x::y=>exact⟨x,y,rfl⟩
 rw [hxy]
 dsimp only
 rw [show a++47::b=(a++[47])++b by simp,show a.length+1=(a++[47]).length by simp,MC]
theorem afa {t:List UInt8} (h:aQ 47 t):KY t=none:=by
 unfold KY
 rw [Lj 47 t h]
theorem WJ:∀ t:List UInt8,(∃ a b,t=a++47::b∧aQ 47 a)∨aQ 47 t
 | []=>.inr fun b hb=>by cases hb
 | x::r=>by
  by_cases h:x=47
  ·exact .inl ⟨[],r,by simp [h],fun b hb=>by cases hb⟩
  ·rcases WJ r with⟨a,b,e,hn⟩|hn
   ·refine .inl ⟨x::a,b,by simp [e],fun y hy=>?_⟩
    exact akT
   ·refine .inr fun y hy=>?_
    exact akT
def lZ:List (List UInt8)→Option (List (List UInt8)×List (List UInt8))
 | []=>none
 | w::r=>if w=[58]then some ([],r)else (lZ r).map fun x=>(w::x.1,x.2)
def mZ:List (List UInt8)→Int
 | []=>0
 | w::r=>if (iJ w).2≠0 then (iJ w).2 else mZ r
def qV:List (List UInt8)→Int
 | []=>0
 | w::r=>if (dV w).isSome then qV r else 4
def l7 (t:List UInt8):(List (Int×Int×Bool)×List Int)×Int :=
 match lZ (dw 32 t)with
 | none=>(([],[]),4)
 | some (a,b)=>if mZ a≠0 then (([],[]),mZ a)else if qV b≠0 then (([],[]),qV b)else ((a.map fun w=>(iJ w).1,b.map fun w=>(((dV w).getD 0:Nat):Int)),0)
theorem aik {p:aS} (h:Uo p=false):jm p:=by
 unfold Uo at h
 simp only [Bool.or_eq_false_iff,jS,Ep]at h
 obtain⟨h1,h2,h3,h4⟩:=h
 refine⟨by omega,by omega,by omega,fun k hk=>?_⟩
 have:=h4 _ (dS hk)
 simp at this
 exact this
theorem arM (p:aS):aU Tryz.prog 17 [bK p] (.sc (.bool (Uo p))) :=
 aU.PG (pre:=[]) (post:=[]) rfl rfl (fun _=>.sc _) fun w M hM=>amC M p w hM
section
variable {P:Program} {C:Cx} {σ:St} {o:Oper} {d:Tmp} {av:AV} {ops:Array Oper} {rest:List Oper} {Q:Exit→St→Prop} {mem:List Bool} {Mc jC:List (Nat×AO)} {e0 fJ k:Nat}
theorem aZ.mv {x:Operand} (hm:mem.getD k false=true) (hg:o.guard=none) (hds:o.dst=some d) (hdN:Nat.blt d C.N=true) (ho:o.op=.assign x) (hx:σ.ev x=some av) (hs:bP Mc σ.M) (hsB:Nat.blt k e0=true→bP jC σ.M)
  (r:aZ P C ops mem Mc jC e0 fJ (k+1) rest (σ.put d av) Q):aZ P C ops mem Mc jC e0 fJ k (o::rest) σ Q:=by
 have he:oV o.dst true av=[(d,av)]:=by rw [hds];rfl
 refine aZ.wr av hm (uj (bJ _)) hs hsB ⟨hg,fun t H=>?_⟩ XK
 rw [he]
 have hmem:x∈o.op.operands.toList:=by rw [ho];simp [Op.operands]
 exact WO.Wh (σ:=⟨t,σ.M,σ.nk⟩) hds hdN (tX ho (show zD P ⟨t,σ.M,σ.nk⟩ (.assign x)=some av from (kE H hmem).trans hx))
end
section
variable {P:Program} {C:Cx} {σ:St}
def asU (P:Program)(σ:St):Op→Option (TypeId×List (List AV)×Nat×Nat)
 | .load T x =>
  match σ.ev x with
  | some (.pt k i j) =>
   match look k σ.M with
   | some (.row _ _ rows)=>some (T,rows,i,j)
   | some (.jM _ _ rows)=>some (T,rows,i,j)
   | _=>none
  | _=>none
 | _=>none
theorem anO {o:Oper} {T:TypeId} {rows:List (List AV)} {i j:Nat} {r:List AV} {av:AV} (h:asU P σ o.op=some (T,rows,i,j))(hi:rows[i]?=some r)(ht:Xg P T (r.drop j)=some av):WV P C o σ av:=by
 unfold asU at h
 split at h
 ·rename_i T' x ho
  split at h
  ·rename_i k i' j' hx
   split at h
   ·rename_i T2 n rows' hk
    cases h
    have hf:(AO.row T2 n rows).from_ i j=some (r.drop j):=by simp [AO.from_,hi]
    exact JL ho hx (by simp only [Vq,hk,hf];exact ht)
   ·rename_i T2 n rows' hk
    cases h
    have hf:(AO.jM T2 n rows).from_ i j=some (r.drop j):=by simp [AO.from_,hi]
    exact JL ho hx (by simp only [Vq,hk,hf];exact ht)
   ·cases h
  ·cases h
 ·cases h
variable {ops:Array Oper} {o:Oper} {rest:List Oper} {d:Tmp} {Q:Exit→St→Prop}
theorem DK.lda {T:TypeId} {rows:List (List AV)} {i j:Nat} {r:List AV} {av:AV} (hd:NQ C.N ops σ o=some d)(h:asU P (σ.only (o.looksAt ops)) o.op=some (T,rows,i,j))(hi:rows[i]?=some r)(ht:Xg P T (r.drop j)=some av)(k:DK P C ops rest (σ.put d av) Q):DK P C ops (o::rest) σ Q:=DK.vl hd (anO h hi ht) k
end
def awJ:Op→Bool
 | .move _=>true
 | .build _ _=>true
 | .buildSlice _ _ _=>true
 | .call c=>match c.callee with
  | .builtin .append=>true
  | _=>false
 | .assign _=>true
 | .alloc _=>true
 | .box _ _=>true
 | .load _ _=>true
 | .store _ _ _=>true
 | .fieldAddr _ _ _=>true
 | .field _ _ _=>true
 | .indexAddr _ _ _=>true
 | .index _ _ _=>true
 | .nilCheck _=>true
 | _=>false
structure azC (ops A:Array Oper)(π ρ:Nat→Nat)(i j:Nat):Prop where
 sz:A.size=ops.size
 lt:∀ p,p<ops.size→π p<ops.size
 inv:∀ p,p<ops.size→ρ (π p)=p
 ltr:∀ q,q<ops.size→ρ q<ops.size
 inr:∀ q,q<ops.size→π (ρ q)=q
 hi:i<ops.size
 hj:j<ops.size
 op:∀ (p:Nat)(o:Oper),ops[p]?=some o→∃ X:Array Edge,A[π p]?=some { o with after:=X }∧(∀ e∈X,Region.binds .any e=true→(∃ e'∈o.after,Region.binds .any e'=true∧e.on=π e'.on)∨(p=j∧e.on=π i)) ∧
  (∀ e'∈o.after,Region.binds .any e'=true→∃ e∈X,Region.binds .any e=true∧e.on=π e'.on)
 tm:∀ (p:Nat)(o:Oper),ops[p]?=some o→awJ o.op=true∧o.guard=none∧∀ e∈o.after,e.on<ops.size
structure aAq (n:Nat)(π:Nat→Nat)(L LA:Array Bool):Prop where
 s1:L.size=n
 s2:LA.size=n
 at_:∀ p,p<n→LA.getD (π p) false=L.getD p false
def aB (s:Int):Cg where
 ch x:=(x,!qU s x.1 x.2.1)
 mr x:=(x.1,x.2.1,if okR s x.2.2.1=true then x.2.2.1 else 0,if sZ s x.2.2.2.1=true then x.2.2.2.1 else 0,x.2.2.2.2)
 ml x:=(if okR s x.2.2.1=true then []else [2])++(if sZ s x.2.2.2.1=true then []else [3])
 tie i e:=if e.tie=true∧aO s 7=false then false else if e.tie=false∧aO s 8=false then true else e.tie
 bare i:=decide (0<i) && aO s 7
def dn(s:Int)(p:aS):List Ev:=if s=4 then Aw p else p.evs
def xP(s:Int)(p:aS):aS:=⟨p.cs,p.st,dn s p⟩
def vM(evs:List Ev):Bool:=evs.any fun e=>e.three
def Iy (C:Cg)(evs:List Ev):Bool:=match evs with
 | []=>false
 | e::_=>decide ((l9 C e.stops).length=0)
def jJ (s:Int)(p:aS):Int:=if ¬ (1≤s∧s≤4) then 30 else if aV p≠0 then aV p else if s=4∧vM p.evs=true then 31 else if s=3∧Iy (aB s) p.evs=true then 31 else 0
def bC (s:Int) (p:aS):List Ev:=lY (aB s) (dn s p)
def dX (s:Int) (p:aS):aS:=if jJ s p=0 then ⟨p.cs,p.st,jo (zH s (bC s p)) (bC s p)⟩else noP
def wL (s:Int) (p:aS):List sJ:=if jJ s p=0 then NK (aB s) (zH s (bC s p)) (dn s p) (dn s p).length else []
theorem Ea(s:Int)(p:aS):(dn s p).length=p.evs.length:=by
 unfold dn;split
 ·exact mY p
 ·rfl
theorem acr {s:Int} {p:aS} (hO:jm p):∀ e∈dn s p,e.stops.length≤20:=by
 have h0:∀ e∈p.evs,e.stops.length≤20:=fun e he=>by
  obtain⟨i,hi,rfl⟩:=eu he
  exact hO.n4 i hi
 unfold dn
 split
 ·intro e he
  obtain⟨f,hf,e1⟩:=PS (bJ _) e he
  rw [e1];exact h0 f hf
 ·exact h0
theorem aor {s:Int} {p:aS} (hO:jm p):jm (xP s p) :=
 ⟨hO.n1,hO.n2,by show (dn s p).length≤420;rw [Ea];exact hO.n3,fun k hk=>acr hO _ (dS _)⟩
theorem pX {s:Int} {p:aS} (h0:aV p=0):aV (xP s p)=0:=by
 unfold xP dn
 split
 ·exact acf h0
 ·exact h0
theorem D9 {s:Int} {x y:Stp} (h:(aB s).mv x=some y):qU s x.1 x.2.1=true∧y=(aB s).mr x:=by
 unfold Cg.mv at h
 by_cases hp:qU s x.1 x.2.1=true
 ·rw [if_neg (by show ¬ (!qU s x.1 x.2.1)=true;rw [hp];simp)]at h
  exact⟨hp,(Option.some.inj h).symm⟩
 ·rw [if_pos (by show (!qU s x.1 x.2.1)=true;simpa using hp)]at h
  cases h
theorem aiI {s:Int} {x:Stp} (h:qU s x.1 x.2.1=true):(aB s).mv x=some ((aB s).mr x):=by
 unfold Cg.mv
 rw [if_neg (by show ¬ (!qU s x.1 x.2.1)=true;rw [h];simp)];rfl
theorem zq {s:Int} (x y:Stp)(h:(aB s).mv x=some y):y.1=x.1∧y.2.2.2.2=x.2.2.2.2:=by
 obtain⟨_,rfl⟩:=D9 h;exact⟨rfl,rfl⟩
theorem aoo(s:Int)(y:Stp):((aB s).ml y).length≤2:=by
 show(_++_:List Int).length≤2
 rw [aY]
 split<;>split<;>simp
theorem KO {s:Int} {p:aS} (h3:s=3):dn s p=p.evs:=by
 unfold dn;rw [if_neg (by omega)]
theorem acp {s:Int} {p:aS} (hs:1≤s∧s≤4) (h0:aV p=0) (hf:¬ (s=3∧Iy (aB s) p.evs=true)):auK (aB s) (xP s p) p.cs:=by
 have hv:=pX (s:=s) h0
 refine ⟨zq,rfl,fun k hk x hx y hy=>?_,fun k hk ht=>?_⟩
 ·obtain ⟨hp,rfl⟩:=D9 hy
  have hE:=ji hv hk
  have hS:=hE.stops x hx
  obtain ⟨j,hj,rfl⟩:=eu hx
  obtain ⟨_,_,b3,b4,_⟩:=lG hv k hk j hj
  refine ⟨hS.ar8,?_,?_⟩
  ·show 0≤(if _ then _ else _:Int)∧(if _ then _ else _:Int)≤3
   split<;>omega
  ·show 0≤(if _ then _ else _:Int)∧(if _ then _ else _:Int)≤4
   split<;>omega
 ·have hE:=ji hv hk
  unfold VQ at ht
  by_cases hl:(xP s p).evs[k].stops.length=0
  ·rw [if_pos hl] at ht
   have hnil:l9 (aB s) (xP s p).evs[k].stops=[]:=by rw [oN hl];rfl
   refine ⟨?_,hnil⟩
   cases hti:(xP s p).evs[k].tie with
   | true=>exact (hE.tie hti).2
   | false =>
    have ht:(if (xP s p).evs[k].tie=true∧aO s 7=false then false else if (xP s p).evs[k].tie=false∧aO s 8=false then true else (xP s p).evs[k].tie)=true:=ht
    rw [hti,if_neg (by simp)] at ht
    by_cases h8:aO s 8=false
    ·rcases wW 0 k with h|h
     ·exact h
     ·exfalso
      obtain rfl:k=0:=by omega
      have h3:s=3:=by
       unfold aO at h8
       by_cases a:s=3
       ·exact a
       ·rw [if_neg a] at h8
        by_cases b:s=4
        ·rw [if_pos b] at h8;cases h8
        ·rw [if_neg b] at h8;cases h8
      refine hf ⟨h3,?_⟩
      have e:(xP s p).evs=p.evs:=KO h3
      have hk':0<p.evs.length:=by rw [← e];exact hk
      cases hev:p.evs with
      | nil=>rw [hev] at hk';cases hk'
      | cons a r =>
       have e2:(xP s p).evs[0]=a:=by
        have:(xP s p).evs[0]?=some a:=by rw [e,hev];rfl
        exact alV
       rw [e2] at hnil
       show decide _=true
       rw [hnil];rfl
    ·rw [if_neg (fun h=>h8 h.2)] at ht
     cases ht
  ·rw [if_neg hl] at ht
   by_cases hn:(l9 (aB s) (xP s p).evs[k].stops).length=0
   ·rw [if_pos hn] at ht
    have ht:(decide (0<k) && aO s 7)=true:=ht
    rw [aW] at ht
    exact ⟨iY ht.1,oN hn⟩
   ·rw [if_neg hn] at ht
    have:=(hE.tie ht).1
    rw [this] at hl
    exact absurd rfl hl
theorem PW {s:Int} {p:aS} (h:jJ s p=0):aV (dX s p)=0:=by
 have e:dX s p=⟨p.cs,p.st,jo (zH s (bC s p)) (bC s p)⟩:=if_pos h
 rw [e]
 unfold jJ at h
 by_cases hs:1≤s∧s≤4
 rotate_left
 ·rw [if_pos hs] at h;cases h
 rw [if_neg (fun x=>x hs)] at h
 by_cases h0:aV p=0
 rotate_left
 ·rw [if_pos h0] at h;exact absurd h h0
 rw [if_neg (fun x=>x h0)] at h
 by_cases h4:s=4∧vM p.evs=true
 ·rw [if_pos h4] at h;cases h
 rw [if_neg h4] at h
 by_cases h3:s=3∧Iy (aB s) p.evs=true
 ·rw [if_pos h3] at h;cases h
 exact apg (p:=xP s p) (pX h0) (dY h0).1 (acp hs h0 h3) fun i y hy=>aug hy
theorem aot {s:Int} {p:aS} (hs:1≤s∧s≤4) (h0:aV p=0) (hf:¬ (s=3∧Iy (aB s) p.evs=true)):aV ⟨p.cs,p.st,jo (pF (bC s p)) (bC s p)⟩=0 :=
 apg (p:=xP s p) (pX h0) (dY h0).1 (acp hs h0 hf) fun i y hy=>agG hy
theorem aiJ {s:Int} {p:aS} (h0:aV p=0):∀ e∈bC s p,e.stops.Pairwise fun x y=>x.1<y.1:=by
 intro e he
 obtain⟨i,hi,rfl⟩:=eu he
 have hi':i<(dn s p).length:=by unfold bC at hi;rw [fM] at hi;exact hi
 have e1:(bC s p)[i]=yQ (aB s) i (dn s p)[i]:=mP hi'
 rw [e1]
 exact Ak zq (ji (pX (s:=s) h0) hi').EK
theorem aiK {s:Int} {p:aS}:∀ e∈bC s p,∀ x∈e.stops,qU s x.1 x.2.1=true:=by
 intro e he x hx
 obtain⟨i,hi,rfl⟩:=eu he
 have hi':i<(dn s p).length:=by unfold bC at hi;rw [fM] at hi;exact hi
 have e1:(bC s p)[i]=yQ (aB s) i (dn s p)[i]:=mP hi'
 rw [e1] at hx
 obtain⟨z,_,hm⟩:=I7 hx
 obtain⟨hp,rfl⟩:=D9 hm
 exact hp
theorem abt {H:Nat→Stp→Int} {evs:List Ev} (h:∀ e∈evs,e.stops.Pairwise fun x y=>x.1<y.1):∀ e∈jo H evs,e.stops.Pairwise fun x y=>x.1<y.1:=by
 intro e he
 obtain⟨i,hi,rfl⟩:=eu he
 have hi':i<evs.length:=by rw [dA]at hi;exact hi
 rw [nT hi']
 exact y8 (h _ (dS hi'))
theorem am4 {s:Int} {H:Nat→Stp→Int} {evs:List Ev} (h:∀ e∈evs,∀ x∈e.stops,qU s x.1 x.2.1=true):∀ e∈jo H evs,∀ x∈e.stops,qU s x.1 x.2.1=true:=by
 intro e he x hx
 obtain⟨i,hi,rfl⟩:=eu he
 have hi':i<evs.length:=by rw [dA] at hi;exact hi
 rw [nT hi'] at hx
 obtain⟨y,hy,rfl⟩:=List.mem_map.1 hx
 exact h _ (dS hi') y hy
theorem O6 {s:Int} {p:aS} {i:Nat} {e:Ev}:(∃ x∈mG s p i e,x.2.2=(5:Int))↔e.three=true∧aO s 5=false:=by
 unfold mG yY
 constructor
 ·rintro ⟨x,hx,h5⟩
  rcases List.mem_append.1 hx with hx|hx
  ·rcases List.mem_append.1 hx with hx|hx
   ·split at hx
    ·exact QI
    ·cases hx
   rcases List.mem_append.1 hx with hx|hx
   ·split at hx
    ·rename_i ht
     rw [nZ]at hx;exact ⟨ht,hx.1⟩
    ·cases hx
   ·split at hx
    ·exact QI
    ·split at hx
     ·exact QI
     ·cases hx
  ·obtain ⟨y,hy,hx⟩:=List.mem_flatMap.1 hx
   unfold fH at hx
   split at hx
   ·rw [MF]at hx;rw [hx]at h5;simp at h5
   ·rcases List.mem_append.1 hx with hx|hx
    ·exact QI
    rcases List.mem_append.1 hx with hx|hx
    ·exact QI
    ·exact QI
 ·rintro ⟨ht,hh⟩
  refine ⟨((i:Int),0,5),?_,rfl⟩
  refine List.mem_append.2 (.inl (List.mem_append.2 (.inr (List.mem_append.2 (.inl ?_)))))
  rw [if_pos ht]
  exact nZ.2 ⟨hh,rfl⟩
def BU(l:List sJ)(w:Int):Bool:=l.any fun x=>x.2.2 == w
theorem U2 (l m:List sJ)(w:Int):BU (l++m) w=(BU l w|| BU m w):=Tn
theorem JG {s:Int} {p:aS} (h5:aO s 5=false):∀ n,n≤p.evs.length→BU (kY s p n) 5=vM (p.evs.take n)
 | 0,_=>rfl
 | n+1,hn=>by
  rw [nX s p (by omega),U2,JG h5 n (by omega),mJ (by omega)]
  unfold vM
  rw [Tn]
  congr 1
  rw [List.any_cons,List.any_nil,Bool.or_false]
  have hm:=O6 (s:=s) (p:=p) (i:=n) (e:=p.evs[n])
  cases ht:p.evs[n].three with
  | true =>
   obtain ⟨x,hx,h⟩:=hm.2 ⟨ht,h5⟩
   unfold BU
   rw [List.any_eq_true]
   exact ⟨x,hx,by rw [h];rfl⟩
  | false =>
   unfold BU
   rw [Ep]
   intro x hx h
   have:=hm.1 ⟨x,hx,by simpa using h⟩
   rw [ht] at this;cases this.1
theorem abC {s:Int} {p:aS} (h5:aO s 5=true):∀ n,n≤p.evs.length→BU (kY s p n) 5=false
 | 0,_=>rfl
 | n+1,hn=>by
  rw [nX s p (by omega),U2,abC h5 n (by omega),Tm]
  unfold BU
  rw [Ep]
  intro x hx h
  have:=(O6 (s:=s) (p:=p) (i:=n) (e:=p.evs[n])).1 ⟨x,hx,by simpa using h⟩
  rw [h5] at this;cases this.2
theorem ad1 {s:Int} {p:aS} (hs:1≤s∧s≤4)(h0:aV p=0):BU (iT s p) 5=decide (s=4∧vM p.evs=true):=by
 rw [(pI hs h0).1]
 by_cases h4:s=4
 ·rw [JG (by rw [h4];rfl) _ (bJ _),jH]
  cases ht:vM p.evs<;>simp [h4]
 ·rw [abC (by unfold aO;rw [if_neg h4];split<;>simp) _ (bJ _)]
  simp [h4]
theorem ajh {evs:List Ev}:∀ n,n≤evs.length→(∀ k (h:k<evs.length),evs[k].val=0→evs[k].three=false)→(vM (Oh evs n)=vM (evs.take n))∧((rF evs n).2.2=true→vM (evs.take n)=true)
 | 0,_,_=>⟨rfl,fun h=>by cases h⟩
 | n+1,hn,hz=>by
  obtain ⟨a,b⟩:=ajh n au hz
  have e:=FU (evs:=evs) (k:=n) au
  rw [KL (by omega),mJ (by omega)]
  have e2:vM (evs.take n++[evs[n]])=(vM (evs.take n)|| evs[n].three):=by unfold vM;rw [Tn];simp
  have e3:vM (Oh evs n++[Om evs[n] (rF evs (n+1))])=(vM (Oh evs n)|| (rF evs (n+1)).2.2):=by unfold vM;rw [Tn];simp [Om]
  rw [e2,e3,a,e]
  by_cases hv:evs[n].val=0
  ·rw [if_pos hv,hz n (by omega) hv]
   constructor
   ·cases h:(rF evs n).2.2 with
    | true=>rw [b h];rfl
    | false=>rfl
   ·intro h;rw [b h];rfl
  ·rw [if_neg hv]
   exact ⟨rfl,fun h=>by rw [show evs[n].three=true from h];simp⟩
theorem aoX {p:aS} (h0:aV p=0):vM (Aw p)=vM p.evs:=by
 have:=(ajh (evs:=p.evs) p.evs.length (bJ _) fun k hk hv=>by
  have hok:=(ji h0 hk).sg
  unfold gZ at hok
  rw [hv] at hok
  have:p.evs[k].dot=false∧p.evs[k].three=false:=by simpa using hok
  exact this.2).1
 rw [jH] at this
 exact this
structure axL (C:Cg):Prop where
 aT:∀ x y,C.mv x=some y→y.1=x.1∧y.2.2.2.2=x.2.2.2.2
 ml:∀ x y,C.mv x=some y→C.ml (C.ch x).1=(if y.2.2.1=x.2.2.1 then []else [2])++(if y.2.2.2.1=x.2.2.2.1 then []else [3])
theorem afX {l:List Stp} (ha:l.Pairwise fun x y=>x.1<y.1) (h1:∀ x∈l,1≤x.1):∀ k (h:k<l.length),(k:Int)+1≤l[k].1
 | 0,h=>by have:=h1 _ (dS h);omega
 | k+1,h=>by
  have:=afX ha h1 k au
  have h2:=List.pairwise_iff_getElem.1 ha k (k+1) (by omega) h (by omega)
  omega
theorem ape {l:List Stp} (ha:l.Pairwise fun x y=>x.1<y.1) (hb:∀ x∈l,1≤x.1∧x.1≤14):l.length≤14:=by
 rcases Tq l.length with h|h
 ·omega
 ·have h1:=afX ha (fun x hx=>(hb x hx).1) (l.length-1) au
  have h2:=(hb _ (dS (show l.length-1<l.length by omega))).2
  omega
def Q7(evs:List Ev) (n:Nat) (K:List Stp):List Ev:=evs.set n { (evs.getD n ⟨false,0,false,false,false,[]⟩)with stops:=K }
theorem Jv {evs:List Ev} {n:Nat} (h:n<evs.length)(K:List Stp):Q7 evs n K=evs.set n { evs[n]with stops:=K }:=by
 unfold Q7
 exact ali
theorem abj(evs:List Ev)(n:Nat)(K:List Stp):(Q7 evs n K).length=evs.length:=by unfold Q7;rw [wV]
theorem abh {evs:List Ev} {n:Nat} (h:n<evs.length) {K:List Stp} (hK:K.map (fun x=>x.1)=evs[n].stops.map fun x=>x.1):(Q7 evs n K).map oZ=evs.map oZ:=by
 rw [Jv h,wX]
 have e:oZ { evs[n]with stops:=K }=oZ evs[n]:=by
  have hl:K.length=evs[n].stops.length:=by have:=congrArg List.length hK;simpa using this
  unfold oZ jU
  show (_,_)=(_,_)
  rw [hK,hl]
 rw [e]
 apply fZ (by rw [wV])
 intro i h1 h2
 rw [Eu]
 split
 ·rename_i hi;subst hi;rw [iZ]
 ·rfl
theorem ags {evs:List Ev} {n:Nat} (h:n<evs.length) {K:List Stp} (hK:K.length≤20)(h20:∀ e∈evs,e.stops.length≤20):∀ e∈Q7 evs n K,e.stops.length≤20:=by
 intro e he
 rw [Jv h]at he
 rcases Ql he with he|rfl
 ·exact h20 e he
 ·exact hK
theorem adF {evs:List Ev} {n:Nat} (h:n<evs.length)(K:List Stp):(evs.map bM).set n ((bM evs[n]).set 5 (.ow 69 5 (K.map aC)))=(Q7 evs n K).map bM:=by
 rw [Jv h,wX];rfl
theorem agv {evs:List Ev} {n:Nat} (h:n<evs.length)(K:List Stp):(evs.map dI).set n ((dI evs[n]).set 5 (.ls 5 (K.map aC)))=(Q7 evs n K).map dI:=by
 rw [Jv h,wX];rfl
theorem agu {evs:List Ev} {n:Nat} (h:n<evs.length)(K:List Stp):((evs.map bM).map fun r=>r.map (AV.fz 1)).set n (((bM evs[n]).map (AV.fz 1)).set 5 (.ls 5 (K.map aC)))=(Q7 evs n K).map dI:=by
 rw [sG,QZ];exact agv h K
theorem Yn {evs:List Ev} {n:Nat} (h:n<evs.length):(evs.map bM)[n]?=some (bM evs[n]):=by rw [bT,aI h];rfl
theorem Em {K:List Stp} {j:Nat} {x:Stp} (h:K[j]?=some x):(K.map aC)[j]?=some (aC x):=by rw [bT,h];rfl
theorem Ej {K:List Stp} {j:Nat} (x:Stp)(h:Int):(K.map aC).set j (jQ 4 [.sc (.int .i64 h)] (aC x))=(K.set j (qF x h)).map aC:=by rw [wX];rfl
theorem aoK {K:List Stp} {j:Nat} {x:Stp} (h:K[j]?=some x)(z:Int):(K.set j (qF x z)).map (fun x=>x.1)=K.map fun x=>x.1:=by
 rw [wX]
 have hj:j<K.length:=(List.getElem?_eq_some_iff.1 h).1
 have e:(qF x z).1=(K.map fun x=>x.1)[j]'(by rw [aH];exact hj):=by
  rw [iZ]
  rw [aI hj]at h
  rw [Option.some.inj h];rfl
 rw [e,List.set_getElem_self]
theorem abp (H:Nat→Stp→Int)(n j:Nat)(l:List Stp):(NI H n j l).map (fun x=>x.1)=l.map fun x=>x.1:=by
 unfold NI
 exact arD
theorem abu {H:Nat→Stp→Int} {evs:List Ev} {n:Nat} (h:n<evs.length):(vP H evs n 0)[n]'(by rw [jw];exact h)=evs[n]:=by
 simp only [vP,jh]
 simp
theorem agt {H:Nat→Stp→Int} {evs:List Ev} {n:Nat} (h:n<evs.length):Q7 (vP H evs n 0) n (NI H n evs[n].stops.length evs[n].stops)=vP H evs (n+1) 0:=by
 rw [Jv (by rw [jw];exact h)]
 apply fZ (by rw [wV,jw,jw])
 intro i h1 h2
 have hi:i<evs.length:=by rw [jw] at h2;exact h2
 rw [Eu]
 simp only [vP,jh]
 by_cases e:n=i
 ·subst e
  simp [JB,NI]
 ·rw [if_neg e]
  by_cases e2:i<n
  ·rw [if_pos e2,if_pos (by omega)]
  ·rw [if_neg e2,if_neg (fun h=>e h.symm),if_neg (by omega)]
   by_cases e3:i=n+1
   ·subst e3;simp
   ·rw [if_neg e3]
theorem agB {H:Nat→Stp→Int} {evs:List Ev} (h20:∀ e∈evs,e.stops.length≤20)(n k:Nat):∀ e∈vP H evs n k,e.stops.length≤20:=by
 intro e he
 obtain⟨i,hi,rfl⟩:=eu he
 have hi':i<evs.length:=by rw [jw]at hi;exact hi
 rw [adM hi']
 exact h20 _ (dS hi')
theorem ar9 {C:Cg} {evs:List Ev} (h:0<evs.length):Iy C evs=decide ((l9 C evs[0].stops).length=0):=by
 cases evs with
 | nil=>cases h
 | cons e r=>rfl
theorem atm (s r:Int):okR s (if okR s r=true then r else 0)=true:=by
 by_cases h:okR s r=true
 ·rw [if_pos h];exact h
 ·rw [if_neg h];rfl
theorem atj (s r:Int):sZ s (if sZ s r=true then r else 0)=true:=by
 by_cases h:sZ s r=true
 ·rw [if_pos h];exact h
 ·rw [if_neg h];rfl
theorem KQ {s:Int} {p:aS} (h:jJ s p=0):(1≤s∧s≤4)∧aV p=0∧¬ (s=4∧vM p.evs=true)∧¬ (s=3∧Iy (aB s) p.evs=true):=by
 unfold jJ at h
 by_cases hs:1≤s∧s≤4
 rotate_left
 ·rw [if_pos hs] at h;cases h
 rw [if_neg (fun x=>x hs)] at h
 by_cases h0:aV p=0
 rotate_left
 ·rw [if_pos h0] at h;exact absurd h h0
 rw [if_neg (fun x=>x h0)] at h
 by_cases h4:s=4∧vM p.evs=true
 ·rw [if_pos h4] at h;cases h
 rw [if_neg h4] at h
 by_cases h3:s=3∧Iy (aB s) p.evs=true
 ·rw [if_pos h3] at h;cases h
 exact⟨hs,h0,h4,h3⟩
theorem tq {s:Int} {p:aS} (h:jJ s p=0):(dX s p).evs=jo (zH s (bC s p)) (bC s p):=by rw [show dX s p=_ from if_pos h]
theorem ZL {s:Int} {p:aS} (h:jJ s p=0) (h4:s=4):∀ e∈dn s p,e.val≠0∧e.three=false:=by
 obtain ⟨hs,h0,ht,_⟩:=KQ h
 intro e he
 rw [show dn s p=Aw p from if_pos h4] at he
 have hth:e.three=false:=by
  cases hb:e.three with
  | false=>rfl
  | true=>exact absurd ⟨h4,by rw [← aoX h0];exact List.any_eq_true.2 ⟨e,he,hb⟩⟩ ht
 refine ⟨?_,hth⟩
 obtain ⟨k,hk,rfl⟩:=eu he
 have hk':k<p.evs.length:=by rw [← mY p];exact hk
 rw [show (Aw p)[k]=Om p.evs[k] (rF p.evs (k+1)) from Am hk' (bJ _)]
 exact (SK h0 k hk').1
theorem aov {s:Int} {p:aS} (h:jJ s p=0) {k:Nat} (hk:k<(dn s p).length):(s=4→VQ (aB s) k (dn s p)[k]=false)∧(s=3→(l9 (aB s) (dn s p)[k].stops).length=0→VQ (aB s) k (dn s p)[k]=true):=by
 obtain ⟨hs,h0,_,h3⟩:=KQ h
 have hE:=ji (pX (s:=s) h0) (k:=k) hk
 have hE:auL (xP s p) k (dn s p)[k]:=hE
 have hq:s=3→dn s p=p.evs:=fun h=>KO h
 generalize hQ:(dn s p)[k]=e at hE
 constructor
 ·intro h4
  subst h4
  unfold VQ
  by_cases hl:e.stops.length=0
  ·rw [if_pos hl]
   show (if e.tie=true∧aO 4 7=false then false else if e.tie=false∧aO 4 8=false then true else e.tie)=false
   cases e.tie<;>rfl
  ·rw [if_neg hl]
   split
   ·show (decide (0<k) && aO 4 7)=false
    rw [show aO 4 7=false from rfl,Bool.and_false]
   ·cases ht:e.tie with
    | false=>rfl
    | true=>rw [(hE.tie ht).1] at hl;exact absurd rfl hl
 ·intro h3' hn
  subst h3'
  have hk0:0<k:=by
   rcases Tq k with hk0|hk0
   ·exfalso
    subst hk0
    refine h3 ⟨rfl,?_⟩
    have hp:0<p.evs.length:=by rw [← hq rfl];exact hk
    rw [ar9 hp]
    have e2:p.evs[0]=e:=by
     rw [← hQ]
     have:p.evs[0]?=(dn 3 p)[0]?:=by rw [hq rfl]
     rw [aI hp,aI hk] at this
     exact Ns
    rw [e2]
    exact dG hn
   ·exact hk0
  unfold VQ
  by_cases hl:e.stops.length=0
  ·rw [if_pos hl]
   show (if e.tie=true∧aO 3 7=false then false else if e.tie=false∧aO 3 8=false then true else e.tie)=true
   cases e.tie<;>rfl
  ·rw [if_neg hl,if_pos hn]
   show (decide (0<k) && aO 3 7)=true
   rw [dG hk0];rfl
theorem atl (s:Int) (N:List Ev) (i:Nat) (y:Stp):qN s (zH s N i y) (ah N i y.1)=true:=by
 unfold zH
 split
 ·assumption
 ·rfl
theorem ae7 {s:Int} {p:aS} (h:jJ s p=0) {k:Nat} (hk:k<(dn s p).length):mG s (dX s p) k (JB (zH s (bC s p)) k (yQ (aB s) k (dn s p)[k]))=[]:=by
 obtain ⟨hs,h0,_,h3⟩:=KQ h
 obtain ⟨t4,t3⟩:=aov h hk
 have hq4:=fun h4=>ZL h h4 _ (dS hk)
 have hL:∀ c:Int,ah (dX s p).evs k c=ah (bC s p) k c:=fun c=>by rw [tq h,yZ]
 unfold mG
 generalize (dn s p)[k]=e at t4 t3 hq4
 rw [F6]
 constructor
 ·unfold yY
  show (if e.val=0 then jP (aO s 6) k 0 6 else [])++((if e.three=true then jP (aO s 5) k 0 5 else [])++(if VQ (aB s) k e=true then jP (aO s 7) k 0 7 else if ((l9 (aB s) e.stops).map fun y=>qF y (zH s (bC s p) k y)).length=0 then jP (aO s 8) k 0 8 else []))=[]
  rw [aH]
  rcases bQ hs with rfl|rfl|rfl|rfl
  ·simp [jP,aO]
  ·simp [jP,aO]
  ·by_cases hn:(l9 (aB 3) e.stops).length=0
   ·rw [t3 rfl hn];simp [jP,aO]
   ·rw [if_neg hn];simp [jP,aO]
  ·obtain ⟨v,t⟩:=hq4 rfl
   rw [t4 rfl,t,if_neg v];simp [jP,aO]
 ·rw [MG]
  intro x hx
  obtain ⟨y,hy,rfl⟩:=List.mem_map.1 hx
  obtain ⟨z,hz,hm⟩:=I7 hy
  obtain ⟨hp,rfl⟩:=D9 hm
  unfold fH
  have hp2:qU s (qF ((aB s).mr z) (zH s (bC s p) k ((aB s).mr z))).1 (qF ((aB s).mr z) (zH s (bC s p) k ((aB s).mr z))).2.1=true:=hp
  rw [if_neg (by rw [hp2];simp)]
  have a1:okR s (qF ((aB s).mr z) (zH s (bC s p) k ((aB s).mr z))).2.2.1=true:=atm s z.2.2.1
  have a2:sZ s (qF ((aB s).mr z) (zH s (bC s p) k ((aB s).mr z))).2.2.2.1=true:=atj s z.2.2.2.1
  have a3:qN s (qF ((aB s).mr z) (zH s (bC s p) k ((aB s).mr z))).2.2.2.2 (ah (dX s p).evs k (qF ((aB s).mr z) (zH s (bC s p) k ((aB s).mr z))).1)=true:=by
   rw [hL];exact atl s (bC s p) k ((aB s).mr z)
  rw [a1,a2,a3];rfl
theorem acs {s:Int} {p:aS} (h:jJ s p=0):qR s (dX s p)=0∧iT s (dX s p)=[]:=by
 obtain⟨hs,h0,_,_⟩:=KQ h
 obtain⟨e1,e2⟩:=pI hs (PW h)
 refine⟨e2,?_⟩
 rw [e1]
 have key:∀ n,n≤(dX s p).evs.length→kY s (dX s p) n=[]:=by
  intro n
  induction n with
  | zero=>intro _;rfl
  | succ n ih =>
   intro hn
   rw [nX s _ (by omega),ih (by omega),ug]
   have hk1:n<(bC s p).length:=by rw [tq h,dA] at hn;omega
   have hk2:n<(dn s p).length:=by unfold bC at hk1;rw [fM] at hk1;exact hk1
   have e3:(dX s p).evs[n]' au=JB (zH s (bC s p)) n (yQ (aB s) n (dn s p)[n]):=by
    have e4:(dX s p).evs[n]?=some (JB (zH s (bC s p)) n (yQ (aB s) n (dn s p)[n])):=by
     rw [tq h,aI (by rw [dA];exact hk1),nT hk1,show (bC s p)[n]=yQ (aB s) n (dn s p)[n] from mP hk2]
    rw [aI (by omega)] at e4
    exact Option.some.inj e4
   rw [e3]
   exact ae7 h hk2
 exact key _ (bJ _)
def AV.adP (k:Nat)(aX:List AV):AV→AV
 | .pt q 0 j=>bif Nat.beq q k then .pr (aX.drop j)else .pt q 0 j
 | av=>av
def AV.UO (k:Nat)(aX:List AV):AV→AV
 | .fn f l=>.fn f (l.map (AV.adP k aX))
 | av=>av.adP k aX
def AV.am6 (k:Nat)(aX:List AV):AV→AV
 | .ag l=>.ag (l.map (AV.UO k aX))
 | av=>av.UO k aX
def AV.frb (k:Nat)(aX:List AV):AV→AV
 | .tu l=>.tu (l.map (AV.am6 k aX))
 | av=>av.am6 k aX
def AO.frb (k:Nat)(aX:List AV):AO→AO
 | .box T cells=>.box T (cells.map (AV.UO k aX))
 | .EF T m rs hi hj x=>.EF T m rs hi hj (x.UO k aX)
 | .oW T m rs hi hj x=>.oW T m rs hi hj (x.UO k aX)
 | ob=>ob
def St.nU (σ:St) (k:Nat) (aX:List AV):St:=⟨aeb (AV.frb k aX) σ.t,aeb (AO.frb k aX) (rem k σ.M),σ.nk⟩
def adi (G:Gh) (k:Nat) (aX:List AV):Prop:=∀ (j:Nat) (p:Addr),p.block=G.b k→p.off=j→p.spot=none→R G (.pr (aX.drop j)) (.pointer (some p))
section
variable {P:Program} {C:Cx} {σ σ':St} {G G':Gh} {a:Act} {w w':World} {o:Oper} {d:Tmp}
section
variable {k nk:Nat} {aX:List AV} {av:AV} {v:Value}
theorem Q9 (h:adi G k aX)(r:R G av v):R G (av.adP k aX) v:=by
 cases av with
 | pt q i j =>
  cases i with
  | zero =>
   simp only [AV.adP]
   cases e:Nat.beq q k with
   | true =>
    obtain rfl:=dW e
    obtain⟨p,rfl,h1,h2,h3⟩:=r.lV
    exact h j p h1 (by rw [h2];simp) h3
   | false=>exact r
  | succ i=>exact r
 | _=>exact r
theorem IX (b:Bd nk av):Bd nk (av.adP k aX):=by
 cases av with
 | pt q i j =>
  cases i with
  | zero =>
   simp only [AV.adP]
   cases e:Nat.beq q k with
   | true=>exact .pr _
   | false=>exact b
  | succ i=>exact b
 | _=>exact b
theorem EU (h:adi G k aX)(r:R G av v):R G (av.UO k aX) v:=by
 cases av with
 | fn f l =>
  obtain⟨cs,rfl,h1,h2⟩:=r.A8
  obtain⟨q1,q2⟩:=Fe h1 h2 fun _ _=>Q9 h
  exact .fn f _ cs q1 q2
 | pt q i j=>exact Q9 (av:=.pt q i j) h r
 | _=>exact r
theorem Ae (b:Bd nk av):Bd nk (av.UO k aX):=by
 cases av with
 | fn f l=>cases b with|fn _ _ hb=>exact .fn f _ (uI hb fun _=>IX)
 | pt q i j=>exact IX (av:=.pt q i j) b
 | _=>exact b
theorem agD (h:adi G k aX)(r:R G av v):R G (av.am6 k aX) v:=by
 cases av with
 | ag l =>
  obtain⟨cs,rfl,h1,h2⟩:=r.AX
  obtain⟨q1,q2⟩:=Fe h1 h2 fun _ _=>EU h
  exact .ag _ cs q1 q2
 | fn f l=>exact EU (av:=.fn f l) h r
 | pt q i j=>exact Q9 (av:=.pt q i j) h r
 | _=>exact r
theorem abx (b:Bd nk av):Bd nk (av.am6 k aX):=by
 cases av with
 | ag l=>cases b with|ag _ hb=>exact .ag _ (uI hb fun _=>Ae)
 | fn f l=>exact Ae (av:=.fn f l) b
 | pt q i j=>exact IX (av:=.pt q i j) b
 | _=>exact b
theorem au4 (h:adi G k aX)(r:R G av v):R G (av.frb k aX) v:=by
 cases av with
 | tu l =>
  obtain⟨cs,rfl,h1,h2⟩:=r.Qi
  obtain⟨q1,q2⟩:=Fe h1 h2 fun _ _=>agD h
  exact .tu _ cs q1 q2
 | ag l=>exact agD (av:=.ag l) h r
 | fn f l=>exact EU (av:=.fn f l) h r
 | pt q i j=>exact Q9 (av:=.pt q i j) h r
 | _=>exact r
theorem ar7 (b:Bd nk av):Bd nk (av.frb k aX):=by
 cases av with
 | tu l=>cases b with|tu _ hb=>exact .tu _ (uI hb fun _=>abx)
 | ag l=>exact abx (av:=.ag l) b
 | fn f l=>exact Ae (av:=.fn f l) b
 | pt q i j=>exact IX (av:=.pt q i j) b
 | _=>exact b
theorem ar6 {φ:Nat→Prop} (h:adi G k aX)(r:CR G w φ av v):CR G w φ (av.UO k aX) v:=by
 rcases r with r|o
 ·exact .inl (EU h r)
 ·by_cases ho:av.own=true
  ·exact ade
  ·exact .inl (EU h (.pu _ _ (OW.p o XR)))
end
theorem Tr.nU (k:Nat) {T:TypeId} {aX:List AV} (hk:look k σ.M=some (.box T aX)) (hp0:(aX.all fun av=>(av.pu2 && !av.own) && av.yN)=true):Tr C σ (σ.nU k aX):=fun G a w ok=>by
 obtain ⟨hkn,_,hob⟩:=ok.ob k _ hk
 classical
 let F':View:=fun p=>if G.fp k p.block then w.cell? p else G.F p
 have hF:G.F.le F':=fun p u h=>by
  exact akB
 have hFn:∀ p u,F' p=some u→G.F p=some u∨(G.fp k p.block∧w.cell? p=some u):=fun p u h=>by
  exact arv
 have hle:G.le { G with F:=F' } σ.nk:=⟨hF,fun _ _=>rfl,fun _ _=>rfl,fun _ _=>rfl⟩
 have YH:adi { G with F:=F' } k aX:=by
  intro j p h1 h2 h3
  obtain ⟨g1,cs,Φ,g2,g3,_,_,g6⟩:=hob
  have hpe:∀ i,p.add i=⟨G.b k,j+i,none⟩:=fun i=>by
   obtain ⟨pb,po,ps⟩:=p
   dsimp only at h1 h2 h3
   subst h1 h2 h3
   simp [Addr.add]
  have hcell:∀ i av,(aX.drop j)[i]?=some av→∃ u,cs[j+i]?=some u∧w.cell? (p.add i)=some u∧u.oneCell'=true∧RP G.F av u:=fun i av hi=>by
   rw [yA] at hi
   have hlt:j+i<aX.length:=(List.getElem?_eq_some_iff.1 hi).1
   have hcs:cs[j+i]?=some (cs[j+i]'(by omega)):=uh _
   have hpu:=List.all_eq_true.1 hp0 av (cO hi)
   rw [aW,aW] at hpu
   have hr:=(g6 (j+i) av _ hi hcs).r (by simpa using hpu.1.2)
   exact ⟨_,hcs,by rw [hpe,g2.cell,hcs],Jb hr hpu.2,(oC hpu.1.1 0).rp hr⟩
  classical
  refine .pu _ _ (.pr _ p (fun i=>cs.getD (j+i) undef) (fun i av hi=>?_) fun i av hi=>?_)
  ·obtain ⟨u,q1,q2,q3,q4⟩:=hcell i av hi
   rw [show cs.getD (j+i) undef=u by rw [dM,q1];rfl]
   refine ⟨?_,q3⟩
   show (if G.fp k (p.add i).block then w.cell? (p.add i) else G.F (p.add i))=some u
   rw [if_pos (by rw [hpe];exact g1)]
   exact q2
  ·obtain ⟨u,q1,q2,q3,q4⟩:=hcell i av hi
   rw [show cs.getD (j+i) undef=u by rw [dM,q1];rfl]
   exact q4.mono hF
 have hl:∀ i ob,look i (σ.nU k aX).M=some ob→∃ Kv,i≠k∧look i σ.M=some Kv∧ob=Kv.frb k aX:=fun i ob h=>by
  rw [show look i (σ.nU k aX).M=_ from wz _ i _,nY] at h
  exact arp
 refine ⟨{ G with F:=F' },ok.sz,ok.df,fun i av h=>?_,ok.bel,fun p u h=>?_,fun p u h=>hF p u (ok.f0 p u h),fun p u h=>?_,fun i ob h=>?_,fun i o x h1 h2=>?_,?_,?_⟩
 ·rw [show look i (σ.nU k aX).t=_ from wz _ i _] at h
  cases hq:look i σ.t with
  | none=>simp [hq] at h
  | some av0 =>
   simp [hq] at h
   obtain ⟨h1,h2,h3⟩:=ok.tm i av0 hq
   rw [← h]
   exact ⟨h1,ar7 h2,au4 YH (h3.mono hle h2)⟩
 ·exact aaD
 ·exact aky
 ·obtain ⟨Kv,e,h0,rfl⟩:=hl i ob h
  obtain ⟨g1,g2,g3⟩:=ok.ob i Kv h0
  have g4:=g3.keep (w':=w) (G':={ G with F:=F' }) hle g1 g2 rfl (fun _ _=>rfl)
  refine ⟨g1,?_,?_⟩
  ·cases Kv with
   | box T cells=>exact uI g2 fun _=>Ae
   | EF T m rs hi hj y=>exact Ae g2
   | oW T m rs hi hj y=>exact Ae g2
   | _=>exact g2
  ·cases Kv with
   | box T cells =>
    obtain ⟨b1,cs,Φ,b2,b3,b4,b5,b6⟩:=g4
    refine ⟨b1,cs,Φ,b2,by simpa using b3,b4,b5,fun j av u x y=>?_⟩
    rw [bT] at x
    cases hq:cells[j]? with
    | none=>simp [hq] at x
    | some b=>simp [hq] at x;rw [← x];exact ar6 YH (b6 j b u hq y)
   | EF T m rs hi hj y =>
    obtain ⟨c1,c2,c3⟩:=g4
    refine ⟨c1,c2,c3.keep (fun _ _=>rfl) fun i r j av ψ u _ _ _ x=>?_⟩
    unfold XH at x ⊢
    exact alN
   | oW T m rs hi hj y =>
    obtain ⟨c1,c2,c3⟩:=g4
    refine ⟨c1,c2,c3.keep (fun _ _=>rfl) fun i r j av ψ u _ _ _ x=>?_⟩
    unfold XQ at x ⊢
    exact alN
   | _=>exact g4
 ·exact ale
 ·intro i o i' o' x h1 h2 h3 h4
  exact akb
 exact arh
end
def cpS (st:List Int)(f:Int):Int:=st.getD (f.toNat-1) 0
def Ue(st:List Int)(f:Int)(x:Int×Int×Bool):Int×Int×Bool:=if x.2.1=0 then x else(x.1+cpS st f,x.2.1-f,x.2.2)
def OB (cs:List (Int×Int×Bool))(f:Int):Bool:=cs.any fun x=>decide (x.2.1≠0∧x.2.1<f)
def QT (cs:List (Int×Int×Bool))(st:List Int)(f:Int):Int:=if fU cs st≠0 then fU cs st else if f<0∨(st.length:Int)<f then 13 else if f=0 then 0 else if OB cs f=true then 13 else 0
def Jo (cs:List (Int×Int×Bool))(st:List Int)(f:Int):List (Int×Int×Bool):=if QT cs st f=0 then (if f=0 then cs else cs.map (Ue st f))else []
def Jp (cs:List (Int×Int×Bool))(st:List Int)(f:Int):List Int:=if QT cs st f=0 then (if f=0 then st else (st.drop f.toNat).map fun x=>x-cpS st f)else []
def Dp (cs:List (Int×Int×Bool))(f:Int)(x:Stp):Int:=if 0<dJ cs x.1 then x.2.1-f else x.2.1
def BN (cs:List (Int×Int×Bool))(f:Int):Cg where
 ch x:=((x.1,Dp cs f x,x.2.2),decide (Dp cs f x<0))
 mr y:=y
 ml _:=[]
 tie _ e:=e.tie
 bare i:=decide (0<i)
def X9(p:aS)(f:Int):Int:=if aV p≠0 then aV p else QT p.cs p.st f
def qP (p:aS)(f:Int):List Ev:=lY (BN p.cs f) p.evs
def Ya (p:aS) (f:Int):aS:=if X9 p f=0 then ⟨Jo p.cs p.st f,Jp p.cs p.st f,jo (pF (qP p f)) (qP p f)⟩else noP
def amF (p:aS) (f:Int):List sJ:=if X9 p f=0 then NK (BN p.cs f) (pF (qP p f)) p.evs p.evs.length else []
theorem amE {cs:List (Int×Int×Bool)} {f:Int} {x y:Stp} (h:(BN cs f).mv x=some y):0≤Dp cs f x∧y=(x.1,Dp cs f x,x.2.2):=by
 unfold Cg.mv at h
 by_cases hp:Dp cs f x<0
 ·rw [if_pos (by show decide (Dp cs f x<0)=true;exact dG hp)]at h;cases h
 ·rw [if_neg (by show ¬ decide (Dp cs f x<0)=true;simpa using hp)]at h
  exact⟨by omega,(Option.some.inj h).symm⟩
theorem af8 {cs:List (Int×Int×Bool)} {f:Int} (x y:Stp)(h:(BN cs f).mv x=some y):y.1=x.1∧y.2.2.2.2=x.2.2.2.2:=by
 obtain⟨_,rfl⟩:=amE h;exact⟨rfl,rfl⟩
theorem arU {cs:List (Int×Int×Bool)} {st:List Int} (h:fU cs st=0) {f:Int} (h1:1≤f)(h2:f≤st.length):(f-1).toNat<st.length∧st[(f-1).toNat]?=some (cpS st f)∧1≤cpS st f∧cpS st f≤127:=by
 have hk:(f-1).toNat<st.length:=by omega
 obtain⟨_,_,_,l4,_⟩:=mF h
 have e:cpS st f=st[(f-1).toNat]:=by
  unfold cpS
  rw [oP,show f.toNat-1=(f-1).toNat by omega,aI hk];rfl
 refine⟨hk,by rw [e,aI hk],?_⟩
 rw [e]
 exact lF au l4 _ hk
structure aAs (C:Cg):Prop where
 ls:axL C
 ml:∀ y,(C.ml y).length≤2
 mr:∀ y,C.mr y=y
 tie:∀ i e,C.tie i e=e.tie
 bare:∀ i,C.bare i=decide (0<i)
theorem Sz {s:Int} {p:aS} (h:jJ s p=0) {k:Nat} (hk:k<(dX s p).evs.length):∃ hk2:k<(dn s p).length,(dX s p).evs[k]=JB (zH s (bC s p)) k (yQ (aB s) k (dn s p)[k]):=by
 have hk1:k<(bC s p).length:=by rw [tq h,dA] at hk;exact hk
 have hk2:k<(dn s p).length:=by unfold bC at hk1;rw [fM] at hk1;exact hk1
 refine⟨hk2,?_⟩
 have e4:(dX s p).evs[k]?=some (JB (zH s (bC s p)) k (yQ (aB s) k (dn s p)[k])):=by
  rw [tq h,aI (by rw [dA];exact hk1),nT hk1,show (bC s p)[k]=yQ (aB s) k (dn s p)[k] from mP hk2]
 rw [aI hk] at e4
 exact Option.some.inj e4
theorem atu {p:aS} (h:∀ e∈p.evs,e.val≠0):Aw p=p.evs:=by
 apply fZ (mY p)
 intro k h1 h2
 rw [show (Aw p)[k]=Om p.evs[k] (rF p.evs (k+1))from Am h2 (bJ _),FU h2,if_neg (h _ (dS h2))]
 rfl
theorem apO {s:Int} {x:Stp} (h1:okR s x.2.2.1=true)(h2:sZ s x.2.2.2.1=true):(aB s).mr x=x:=by
 show(x.1,x.2.1,if okR s x.2.2.1=true then x.2.2.1 else 0,if sZ s x.2.2.2.1=true then x.2.2.2.1 else 0,x.2.2.2.2)=x
 rw [if_pos h1,if_pos h2]
theorem RX {C:Cg}:∀ {l:List Stp},(∀ x∈l,C.mv x=some x)→l9 C l=l
 | [],_=>rfl
 | x::r,h=>by
  have ih:=RX (C:=C) (l:=r) fun y hy=>h y BK
  unfold l9 at ih ⊢
  rw [List.filterMap_cons,h x (by simp),ih]
def Iw (x:Stp×Bool):List AV:=[.sc (.int .i64 x.1.1),.sc (.int .i64 x.1.2.1),.sc (.int .i64 x.1.2.2.1),.sc (.int .i64 x.1.2.2.2.1),.sc (.int .i64 x.1.2.2.2.2),.sc (.bool x.2)]
def eRs (y:Stp)(c h:Int)(ml:List Int):List AV:=[.sc (.int .i64 y.1),.sc (.int .i64 y.2.1),.sc (.int .i64 y.2.2.1),.sc (.int .i64 y.2.2.2.1),.sc (.int .i64 y.2.2.2.2),.sc (.int .i64 c),.sc (.int .i64 h),.ls 1 (ml.map eInt)]
abbrev Nte:=Stp×Int×Int×List Int
def Uf(r:Nte):List AV:=eRs r.1 r.2.1 r.2.2.1 r.2.2.2
def eBl (b:Bool):List AV:=[.sc (.bool b)]
def oc1 (C:Cg)(x:Stp):Nte:=if (C.ch x).2=true then ((C.ch x).1,x.1,x.2.2.2.2,[])else (C.mr (C.ch x).1,x.1,x.2.2.2.2,C.ml (C.ch x).1)
def yS (C:Cg)(l:List Stp):List Nte:=l.map (oc1 C)
def yR(C:Cg)(l:List Stp):List Bool:=l.map fun x=>(C.ch x).2
def NR (lost:Int)(ns:List Nte)(gs:List Bool):List AV:=[.sc (.int .i64 lost),.ls 8 (ns.map Uf),.ls 1 (gs.map eBl)]
def UF (e:Ev)(k:Nat):List AV:=[.sc (.bool e.bar),.sc (.int .i64 e.val),.sc (.bool e.dot),.sc (.bool e.three),.sc (.bool e.tie),.sl k]
theorem Ja(C:Cg)(l:List Stp):(yS C l).length=l.length:=aH _
theorem I9(C:Cg)(l:List Stp):(yR C l).length=l.length:=aH _
theorem ab7 (C:Cg) {l:List Stp} {k:Nat} (h:k<l.length):(l9 C (l.take k)).map aC++(if (C.ch l[k]).2=true then []else [aC (C.mr (C.ch l[k]).1)])=(l9 C (l.take (k+1))).map aC:=by
 rw [ahM h,fC]
 congr 1
 unfold Cg.mv
 cases (C.ch l[k]).2<;>rfl
theorem V9 (C:Cg) {l:List Stp} {k:Nat} (h:k<l.length):(yS C (l.take k)).map Uf++[Uf (if (C.ch l[k]).2=true then ((C.ch l[k]).1,l[k].1,l[k].2.2.2.2,[])else (C.mr (C.ch l[k]).1,l[k].1,l[k].2.2.2.2,C.ml (C.ch l[k]).1))]=(yS C (l.take (k+1))).map Uf:=by
 unfold yS
 exact akU
theorem V8 (C:Cg) {l:List Stp} {k:Nat} (h:k<l.length):(yR C (l.take k)).map eBl++[eBl (C.ch l[k]).2]=(yR C (l.take (k+1))).map eBl:=by
 unfold yR
 exact akU
theorem Ls {P:Program} (w:World)(d:Nat)(t:TypeId) {a b c} (f:Fn)(fs cs:Array Value)(h:P.underlying t=some (.func a b c)):(Op.equalIn (d+1) t (.func f fs cs) .nilFunc).run P w=.ok false w:=by
 simp [Op.equalIn,run_underlying h]
theorem Lu {P:Program} (w:World)(d:Nat)(t:TypeId) {a b c} (h:P.underlying t=some (.func a b c)):(Op.equalIn (d+1) t .nilFunc .nilFunc).run P w=.ok true w:=by
 simp [Op.equalIn,run_underlying h]
theorem ZT {P:Program} (w:World)(t:TypeId) {a b c} (f:Fn)(fs cs:Array Value)(h:P.underlying t=some (.func a b c)):(binOp .neq t (.func f fs cs) .nilFunc).run P w=.ok (.bool true) w:=by
 simp only [binOp]
 simp [Op.equal,Op.maxDepth,Ls w 9999 t f fs cs h]
theorem ZU {P:Program} (w:World)(t:TypeId) {a b c} (h:P.underlying t=some (.func a b c)):(binOp .neq t .nilFunc .nilFunc).run P w=.ok (.bool false) w:=by
 simp only [binOp]
 simp [Op.equal,Op.maxDepth,Lu w 9999 t h]
section
variable {P:Program} {C:Cx} {σ:St} {o:Oper}
def au1 (P:Program)(σ:St):Op→Option Bool
 | .binOp .neq T x y _ =>
  match P.underlying T,σ.ev x,σ.ev y with
  | some (.func _ _ _),some (.fn _ _),some (.sc .nilFunc)=>some true
  | some (.func _ _ _),some (.sc .nilFunc),some (.sc .nilFunc)=>some false
  | _,_,_=>none
 | _=>none
theorem Ad {b:Bool} (h:au1 P σ o.op=some b):WV P C o σ (.sc (.bool b)):=by
 unfold au1 at h
 split at h
 ·rename_i T x y Ty ho
  split at h
  ·rename_i a1 a2 a3 f caps hT hx hy
   cases h
   refine WV.val (fun G a w ok=>.sc _) fun G a w ok=>?_
   obtain⟨cs,e1,_,_⟩:=(ok.nO hx).2.A8
   have e2:=ok.evs hy
   have hrun:=ZT (P:=P) w T (.func f) #[] cs hT
   refine⟨.bool true,?_,.pu _ _ (.sc _)⟩
   exact ark
  ·rename_i a1 a2 a3 hT hx hy
   cases h
   refine WV.val (fun G a w ok=>.sc _) fun G a w ok=>?_
   have e1:=ok.evs hx
   have e2:=ok.evs hy
   have hrun:=ZU (P:=P) w T hT
   refine⟨.bool false,?_,.pu _ _ (.sc _)⟩
   exact ark
  ·cases h
 ·cases h
end
section
variable {B:World→View→Prop} {gl:Nat} {P:Program} {C:Cx} {σ:St} {o:Oper} {d:Tmp}
theorem Q8 {G:Gh} {x:Nat}:¬ vX G [] x:=by
 unfold vX
 rintro⟨k,ob,h,_⟩
 cases h
theorem WO.av4 (hB:Holds B gl C) {f:FuncId} {y:Operand} {fv:AV} {xs:Array Operand} {ts:Array TypeId} {mg caps args args':List AV} {T n q:Nat} {rows:List (List AV)} (ho:o.op=.call { callee:=.value y,args:=xs,argTypes:=ts }) (hc:∀ vs w,(callFunc f vs).run P w=.ok (.enter f vs) w)
  (hy:σ.ev y=some fv) (hf:Yv fv=some (f,caps)) (hx:σ.evs xs.toList=some mg) (NV:mg++caps=args) (hl:Dn C σ args args') (hst:∀ w F F',View.le F F'→B w F→B w F') (h:jI B gl P f args' [] 0 (.sl 0) [(0,.row T n rows)] 1)
  (hr:∀ r∈rows,∀ av∈r,∃ z,av=.sc z) (hds:o.dst=some d) (hd:Nat.blt d C.N=true) (hq:σ.nk=q):WO P C o σ ((σ.new (.row T n rows)).put d (.sl q)):=by
 intro G a w ok N Q' hN
 obtain ⟨cs,ey,h1,h2⟩:=Dx hf (ok.nO hy).2
 obtain ⟨e1,e2⟩:=ok.agw hx h1 h2 NV
 obtain ⟨q1,q2⟩:=hl.at_
 have hF:G.F.le fun q=>w.cell? q:=fun p u x=>ok.fw p u x
 refine IL ho hc ey (h w ⟨fun q=>w.cell? q,fun _=>0,fun _=>0,fun _=>undef,fun _ _=>False⟩ _ (hst w _ _ hF (hB.1 w G.F ok.bel ok.f0)) (fun x hx=>(Q8 hx).elim)
  ⟨fun _ _ x=>x,fun k o hk=>(by cases hk),fun k o x hk=>(by cases hk),fun k o k2 o2 x hk=>(by cases hk),fun k o x p u hk=>(by cases hk)⟩ (by rw [e1,q1]) fun i av u p qq=>?_) fun e w1 ⟨v,G',he,hk,h3,h4,hO,hmy,anv,hle,hbd,hR⟩=>?_
 ·obtain ⟨b,hb,hL⟩:=q2 i av p
  exact .pu _ _ (hL G a w ok u (e2 i b u hb qq))
 ·obtain ⟨_,_,g1,g2,g3⟩:=hO.ob 0 _ rfl
  obtain ⟨r1,vs,Φ,r2,r3,r4,r5,r6,r7,r8,r9⟩:=g3
  obtain ⟨ev,eo⟩:=hR.nG
  have hnew:∀ x,G'.fp 0 x→w.heap.size≤x:=fun x hx=>(hmy 0 _ x rfl hx).elim id fun z=>(Q8 z).elim
  have ok':=ok.newObj (w':=w1) (S:=fun _=>False) (b:=G'.b 0) (n:=n) (h:=G'.h 0) (φ:=G'.fp 0) (ob:=.row T n rows)
   ⟨hk.os,hk.tape,hk.output,hk.size,fun k hk' _=>hk.block k hk' Q8⟩ (fun _ h=>h.elim) (fun _ _ _ _ _ h=>h) (fun _ _ _ h=>h)
   ⟨x9,(fun g hg=>by rw [iL] at hg;rw [xZ];exact g2 g hg),by
    rw [iL,vN]
    refine ⟨r1,vs,Φ,r2,r3,r4,r5,r6,r7,r8,fun i r r' j av u a b c d=>?_⟩
    obtain ⟨z,rfl⟩:=hr r (cO a) av (cO c)
    have:=r9 i r r' j _ u a b c d
    rw [show u=z from RP.fB this]
    exact .sc _⟩ trivial (fun x hx=>⟨.inl (jV ok.bel.size (hnew x hx)),hO.my 0 _ x rfl hx,fun k o h1 h2=>by
     have:=(ok.my k o x h1 h2).2
     have:=hnew x hx
     omega,fun p u h1 h2=>by
     have:=aN (ok.fw p u h1)
     have:=hnew x hx
     omega⟩)
  refine ⟨v,he,?_⟩
  rw [hds]
  subst hq
  rw [ev] at eo ⊢
  exact hN _ _ _ (ok'.set (d:=some d) (av:=.sl σ.nk) (v:=G'.h 0) (uS eo) (.sl _ (wQ _)) fun x hx=>by cases hx;exact dP hd)
end
end
end Go.Proofs.YthehkchjdkdbiaaGreatDoor
