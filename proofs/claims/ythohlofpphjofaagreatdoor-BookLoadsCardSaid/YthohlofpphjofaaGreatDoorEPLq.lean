/- Pieces as trees and pieces in memory. -/
import Derived.Test.YthohlofpphjofaaGreatDoorJnLq
import Derived.Test.YthohlofpphjofaaGreatDoorEMLq
set_option linter.unusedVariables false
set_option linter.unusedSimpArgs false
namespace Go.Proofs.YthohlofpphjofaaGreatDoor
theorem alg {p:Prop}(h:p:=by
 rw [oW]at h;have h1:=h s (List.mem_range'_1.2 au);rw [oW]at h1;have h2:=h1 c (List.mem_range'_1.2 au);grind):p:=h
theorem asW {p:Prop}(h:p:=by
 subst this;exact (h w).mono λe w'⟨he,hb⟩=>⟨v,F,he,hb,λ_ _ h=>h,λp u x=>by rw [hb.cell (aQ (hF p u x))];exact hF p u x,λ_ _ h=>.inl h,hv F⟩):p:=h
theorem YV {p:Prop}(h:p:=by rw [← aeh _ _ _ (by omega)];simp_all[Bh]):p:=h
section
open Go.RowKit
abbrev Stp:=Int×Int×Int×Int×Int
def Nk(x:Stp):List Value:=[.int .i64 x.1,.int .i64 x.2.1,.int .i64 x.2.2.1,.int .i64 x.2.2.2.1,.int .i64 x.2.2.2.2]
structure Ev where
 bar:Bool
 val:Int
 dot:Bool
 three:Bool
 tie:Bool
 stops:List Stp
def Bh(e:Ev)(m:Option Addr×Nat):List Value:=[.bool e.bar,.int .i64 e.val,.bool e.dot,.bool e.three,.bool e.tie,.slice m.1 e.stops.length m.2]
structure bV where
 cs:List (Int×Int×Bool)st:List Int
 evs:List Ev
structure PM where
 A1:Option Addr
 A2:Option Addr
 A3:Option Addr
 c1:Nat
 c2:Nat
 c3:Nat
def wH (w:World)(B:Nat)(A:Option Addr)(l:List Stp):Prop:=Rd w B 5 A (l.map Nk)
def vO (w:World)(B:Nat)(A:Option Addr)(evs:List Ev):Prop :=∃ ms:List (Option Addr×Nat),ms.length=evs.length/\Rd w B 6 A (List.zipWith Bh evs ms)/\∀ (k:Nat)(e:Ev)(m:Option Addr×Nat),evs[k]?=some e->ms[k]?=some m->wH w B m.1 e.stops
def ag9(w:World)(B:Nat)(M:PM)(p:bV):Prop:=Pn w B M.A1 M.A2 p.cs p.st/\vO w B M.A3 p.evs/\p.evs.length<=M.c3
def jD(M:PM)(p:bV):Value:=.agg #[.slice M.A1 p.cs.length M.c1,.slice M.A2 p.st.length M.c2,.slice M.A3 p.evs.length M.c3]
section
variable {w w':World} {B B':Nat} {A:Option Addr} {l:List Stp} {evs:List Ev} {M:PM} {p:bV}
theorem wH.keep(h:wH w B A l)(hk:∀ p:Addr,p.block<B->w'.cell? p=w.cell? p):wH w' B A l:=Rd.keep h hk
theorem wH.more(h:wH w B A l)(hB:B<=B'):wH w B' A l:=Rd.more h hB
theorem vO.keep(h:vO w B A evs)(hk:∀ p:Addr,p.block<B->w'.cell? p=w.cell? p):vO w' B A evs:=by
 obtain⟨ms,h1,h2,h3⟩:=h;exact⟨ms,h1,h2.keep hk,λk e m he hm=>(h3 k e m he hm).keep hk⟩
theorem vO.more(h:vO w B A evs)(hB:B<=B'):vO w B' A evs:=by
 obtain⟨ms,h1,h2,h3⟩:=h;exact⟨ms,h1,h2.more hB,λk e m he hm=>(h3 k e m he hm).more hB⟩
theorem vO.below(h:vO w B A evs)(hb:Below B w w'):vO w' B A evs:=h.keep λ_ hp=>hb.cell hp
theorem vO.ev {k:Nat} (h:vO w B A evs) (hk:k<evs.length):∃ (ad:Addr) (S:Option Addr) (c:Nat),A=some ad/\ad.block<B/\w.cell? (ad.add (k*6))=some (.bool evs[k].bar) /\w.cell? ⟨(ad.add (k*6)).block,(ad.add (k*6)).off+1,none⟩=some (.int .i64 evs[k].val)/\w.cell? ⟨(ad.add (k*6)).block,(ad.add (k*6)).off+2,none⟩=some (.bool evs[k].dot) /\w.cell? ⟨(ad.add (k*6)).block,(ad.add (k*6)).off+3,none⟩=some (.bool evs[k].three)/\w.cell? ⟨(ad.add (k*6)).block,(ad.add (k*6)).off+4,none⟩=some (.bool evs[k].tie) /\w.cell? ⟨(ad.add (k*6)).block,(ad.add (k*6)).off+5,none⟩=some (.slice S evs[k].stops.length c)/\wH w B S evs[k].stops:=by
 obtain ⟨ms,h1,h2,h3⟩:=h;obtain ⟨ad,e,hb,hc⟩:=Rd.at_ (k:=k) h2 (by simp;omega);have hm:k<ms.length:=by omega
 have hz:(List.zipWith Bh evs ms)[k]'(by simp;omega)=Bh evs[k] ms[k]:=List.getElem_zipWith;rw [hz] at hc;refine ⟨ad,ms[k].1,ms[k].2,e,hb,?_,?_,?_,?_,?_,?_,h3 k _ _ (aO hk) (aO hm)⟩;.have:=hc 0 (.bool evs[k].bar) (by simp [Bh]);simpa using this
 .exact YV
 .exact YV
 .exact YV
 .exact YV
 .exact YV
end
def awc (p:bV):Bool:=decide (64<p.cs.length)|| (decide (64<p.st.length)|| (decide (420<p.evs.length)|| p.evs.any λe=>decide (20<e.stops.length)))
theorem as7 {α:Type} {f:α->Bool} {l:List α} {k:Nat} (h:k<l.length):(l.drop k).any f=(f l[k]|| (l.drop (k+1)).any f):=by grind[pX]
def lC(e:Ev):Bool:=e.stops.length == 0 && !e.tie
def hasB(c:Int)(l:List Stp):Bool:=l.any λx=>x.1 == c
def tN(c:Int):Nat->List Ev->Nat
 | 0,_=>0| _+1,[]=>0| k+1,e::r=>if(lC e|| hasB c e.stops)=true then 0 else tN c k r+1
def ak (evs:List Ev)(i c:Int):Nat:=if i<0\/(evs.length:Int)<=i then 0 else tN c 15 (evs.drop (i.toNat+1))
theorem ajU(c:Int)(k:Nat):tN c k []=0:=by cases k<;>rfl
theorem apX(c:Int):∀ (k:Nat)(l:List Ev),tN c k l<=k:=by
 intro k;induction k with
 | zero=>intro l;simp [tN]| succ k ih =>
  intro l;cases l<;>grind[tN]
theorem IB(evs:List Ev)(i c:Int):ak evs i c<=15:=by grind[ak,apX]
theorem agf {c:Int} {l:List Ev} {k j:Nat} (hj:j<l.length)(h:(lC l[j]|| hasB c l[j].stops)=true):tN c k (l.drop j)=0:=by
 rw [pX hj];cases k<;>simp_all[tN]
theorem agd {c:Int} {l:List Ev} {k j:Nat} (hj:j<l.length) (h:(lC l[j]|| hasB c l[j].stops)=false):tN c (k+1) (l.drop j)=tN c k (l.drop (j+1))+1:=by grind[pX,tN]
def bI (x:Stp):List AV:=[.sc (.int .i64 x.1),.sc (.int .i64 x.2.1),.sc (.int .i64 x.2.2.1),.sc (.int .i64 x.2.2.2.1),.sc (.int .i64 x.2.2.2.2)]
def ahw (l:List Stp):AV:=.ls 5 (l.map bI)
def iO (e:Ev):List AV:=[.sc (.bool e.bar),.sc (.int .i64 e.val),.sc (.bool e.dot),.sc (.bool e.three),.sc (.bool e.tie),ahw e.stops]
def bg (x:Int×Int×Bool):List AV:=[.sc (.int .i64 x.1),.sc (.int .i64 x.2.1),.sc (.bool x.2.2)]
def eInt (x:Int):List AV:=[.sc (.int .i64 x)]
def jc (cs:List (Int×Int×Bool))(st:List Int):List AV:=[.ls 3 (cs.map bg),.ls 1 (st.map eInt)]
def iG (p:bV):AV:=.ag [.ls 3 (p.cs.map bg),.ls 1 (p.st.map eInt),.ls 6 (p.evs.map iO)]
theorem zO {α β:Type} {f:α->β} {l:List α} {k:Nat} (h:k<l.length):(l.map f)[((k:Nat):Int).toNat]?=some (f l[k]):=by simp_all
theorem Tj {α β:Type} {f:α->β} {l:List α} {z:Int} (h0:0<=z)(h:z<l.length):(l.map f)[z.toNat]?=some (f (l[z.toNat]'(by omega))):=by simp_all
theorem zqm {α:Type} {l:List α} {i:Nat} {x:Option α} (h:l[i]? = x:=by first|exact zO (by omega)|exact Tj (by omega) (by omega)):l[i]? = x:=h
theorem dW {l:List AV} (h:l.all AV.pu2=true):∀ (i:Nat) av,l[i]?=some av->Bd 0 av:=λi av x=>qB (List.all_eq_true.1 h av (cZ x)) 0
theorem dV {P:Program} {f:FuncId} {fn:Func} {c:Code} {args:List AV} {res:AV} (hf:P.funcs[f]? = some fn) {N:Nat} (hN:fn.ntmps = N) (h:∀ w0 F0,W P ⟨w0,F0,N,λ_ => False,0,G0,[]⟩ c (St.init args) (Vj P fn ⟨w0,F0,N,λ_ => False,0,G0,[]⟩ res)) (hb:fn.body = some c:=by rfl) (hn:args.length <= N:=by exact bG rfl) (hp:args.all AV.pu2 = true:=by rfl):bC P f args res:=bC.intro hf hb hN hn (dW hp) h
theorem fin1 {P:Program} {fn:Func} {C:Cx} {σ:St} {t:Tmp} {av res:AV} (h:fn.results=#[.tmp t]) (ht:look t σ.t=some av) (he:av=res) (hp:res.pu2=true):Vj P fn C res .ret σ :=⟨.inr rfl,Fin.one h (he ▸ ht) (qB hp 0)⟩
theorem kR {P:Program} {fn:Func} {C:Cx} {σ:St} {t:Tmp} {av res:AV} (h:fn.results = #[.tmp t]:=by rfl) (ht:look t σ.t = some av:=by rfl) (he:av = res:=by rfl) (hp:res.pu2 = true:=by rfl):Vj P fn C res .ret σ:=fin1 h ht he hp
theorem fin2 {P:Program} {fn:Func} {C:Cx} {σ:St} {t u:Tmp} {a1 a2 r1 r2:AV} (h:fn.results=#[.tmp t,.tmp u]) (h1:look t σ.t=some a1) (h2:look u σ.t=some a2) (e1:a1=r1) (e2:a2=r2) (p1:r1.pu2=true) (p2:r2.pu2=true):Vj P fn C (.tu [r1,r2]) .ret σ :=⟨.inr rfl,Fin.two h (e1 ▸ h1) (e2 ▸ h2) (qB p1 0) (qB p2 0)⟩
theorem tX {a b:Bool} (h:a=b):AV.sc (.bool a)=.sc (.bool b):=by rw [h]
theorem Ak {k:IntKind} {a b:Int} (h:a=b):AV.sc (.int k a)=.sc (.int k b):=by rw [h]
end
section
def pS(s c f:Int):List UInt8:=if s=1 then frS c f else if s=2 then itS c f else if s=3 then spS c f else geS c f
def Qu(s c f:Int):Bool:=if s=1 then aeJ c f else if s=2 then aoY c f else if s=3 then ap9 c f else aeM c f
def akj(s c f:Nat):Bool:=(Qu s c f == !(rS s c f).isEmpty) && (!Qu s c f|| pS s c f == rS s c f)
theorem avh:((List.range' 1 4).all λs=>(List.range' 1 14).all λc=>(List.range 19).all λf=>akj s c f)=true:=by decide +kernel
theorem qO (s c f:Int)(hs:1<=s/\s<=4)(hc:1<=c/\c<=14)(hf:0<=f/\f<=18) :Qu s c f=!(rS s c f).isEmpty/\(Qu s c f=true->pS s c f=rS s c f):=by
 obtain⟨s,rfl⟩:=kQ (show 0<=s by omega);obtain⟨c,rfl⟩:=kQ (show 0<=c by omega);obtain⟨f,rfl⟩:=kQ hf.1;have h:=avh;rw [oW]at h;have h1:=h s (List.mem_range'_1.2 au);rw [oW]at h1;have h2:=h1 c (List.mem_range'_1.2 au);rw [oW]at h2;have h3:=h2 f (List.mem_range.2 au);grind[akj]
def nP(s c f:Int):Int :=if ¬ (1<=s/\s<=4)then 30 else if c<1\/14<c then 12 else if f<0\/18<f then 13 else if rS s c f=[]then 31 else 0
theorem aa9(s c f:Int)(hs:1<=s/\s<=4)(h:(c<1\/14<c)\/(f<0\/18<f)):nP s c f=if c<1\/14<c then 12 else 13:=by grind[nP]
def fO (s aI c:Int):Bool:=if 0<aI then c == aI else (s == 4|| decide (6<c))
def BF(s aI:Int)(l:List UInt8)(c f:Nat):Bool:=fO s aI c && (!(rS s c f).isEmpty && rS s c f == l)
def mZ(m:Nat->Bool)(f n:Nat):Option Nat:=(List.range' f n).find? m
def oh (m:Nat->Nat->Bool)(c n:Nat):Option (Nat×Nat):=(List.range' c n).findSome? λc=>(mZ (m c) 0 19).map λf=>(c,f)
theorem agk (m:Nat->Bool)(f n:Nat)(h:m f=true):mZ m f (n+1)=some f:=by grind[mZ,FP]
theorem ajV (m:Nat->Bool)(f n:Nat)(h:m f=false):mZ m f (n+1)=mZ m (f+1) n:=by grind[mZ,FP]
theorem aa1(m:Nat->Bool)(f n:Nat)(h:∀ k,f<=k->k<f+n->m k=false):mZ m f n=none:=by simp_all[mZ]
theorem DW (m:Nat->Nat->Bool)(c n:Nat):oh m c (n+1)=match mZ (m c) 0 19 with|some f=>some (c,f)|none=>oh m (c+1) n:=by grind[oh,FP]
theorem agj (m:Nat->Nat->Bool)(c n f:Nat)(h:mZ (m c) 0 19=some f):oh m c (n+1)=some (c,f):=by rw [DW,h]
theorem X0 (m:Nat->Nat->Bool)(c n:Nat)(h:mZ (m c) 0 19=none):oh m c (n+1)=oh m (c+1) n:=by rw [DW,h]
def aJ(s aI:Int):Int:=if ¬ (1<=s/\s<=4)then 30 else if(aI<0\/6<aI)\/(s=4/\aI≠0)then 12 else 0
def placeOf (s aI:Int)(l:List UInt8):Int×Int×Int :=if aJ s aI≠0 then (0,0,aJ s aI) else match oh (BF s aI l) 1 14 with|some (c,f)=>((c:Int),(f:Int),0)|none=>(0,0,4)
theorem tC {s aI:Int} {l:List UInt8} {c f:Nat} (h:aJ s aI=0)(hs:oh (BF s aI l) 1 14=some (c,f)):placeOf s aI l=((c:Int),(f:Int),0):=by simp_all[placeOf]
theorem yM {s aI:Int} {l:List UInt8} (h:aJ s aI=0)(hs:oh (BF s aI l) 1 14=none):placeOf s aI l=(0,0,4):=by simp_all[placeOf]
theorem IZ {s aI:Int} {l:List UInt8} (h:aJ s aI≠0):placeOf s aI l=(0,0,aJ s aI):=by simp_all[placeOf]
theorem apA {s aI:Int} {l:List UInt8} {c f:Nat} (hs:1<=s/\s<=4)(hc:1<=c/\c<=14)(hf:f<=18)(h:BF s aI l c f=true) :Qu s c f=true/\(pS s c f == l)=true:=by grind[qO,BF]
theorem auK {s aI:Int} {l:List UInt8} {c f:Nat} (hs:1<=s/\s<=4)(hc:1<=c/\c<=14)(hf:f<=18)(hst:fO s aI c=true)(h:BF s aI l c f=false) :Qu s c f=false\/(Qu s c f=true/\(pS s c f == l)=false):=by grind[qO,BF]
def rR(s n:Int):List UInt8:=if n=1/\s≠3 then [46]else if n=2/\s=1 then [58]else if n=3/\s=1 then [39]else []
def rG(s n:Int):List UInt8 :=if s=1/\1<=n/\n<=4 then cut [44,94,35,40] (n-1) n else if s=2/\n=1 then [116] else if(s=2\/s=4)/\n=3 then [35] else []
def rH(s n L:Int):List UInt8:=if s=1 then 95::jy n.toNat else if(s=2\/s=4)/\n=L then [42]else []
def pH(s n L:Int):List UInt8:=if n=0 then []else rH s n L
def okR(s n:Int):Bool:=n == 0|| !(rR s n).isEmpty
def zZ(s n:Int):Bool:=n == 0|| !(rG s n).isEmpty
def xM(s n L:Int):Bool:=n == 0|| !(rH s n L).isEmpty
def cellS(s c f r g h L:Int):List UInt8:=pS s c f++rR s r++rG s g++pH s h L
def iJ(s c f r g h L:Int):Bool:=Qu s c f && okR s r && zZ s g && xM s h L
theorem aaJ(s n:Int):(rR s n).length<=1:=by grind[rR]
theorem aaG(s n:Int):(rG s n).length<=4:=by
 unfold rG;split;.exact nJ _ _ _
 grind
theorem zA(n:Nat):(jy n).length<=2:=by grind[jy]
theorem auZ(s n L:Int):(rH s n L).length<=3:=by grind[rH,zA]
theorem aat(s n L:Int):(pH s n L).length<=3:=by grind[pH,auZ]
theorem agC:((List.range' 1 4).all λs=>(List.range' 1 14).all λc=>(List.range 19).all λf=>decide ((pS (s:Nat) (c:Nat) (f:Nat)).length<=4/\(rS (s:Nat) (c:Nat) (f:Nat)).length<=4))=true:=by decide +kernel
theorem aav (s c f:Int)(hs:1<=s/\s<=4)(hc:1<=c/\c<=14)(hf:0<=f/\f<=18):(pS s c f).length<=4/\(rS s c f).length<=4:=by
 obtain⟨s,rfl⟩:=kQ (show 0<=s by omega);obtain⟨c,rfl⟩:=kQ (show 0<=c by omega);obtain⟨f,rfl⟩:=kQ hf.1;have h:=agC;exact alg
def lV(s c f r g h L:Int):Int :=if nP s c f≠0/\nP s c f≠31 then nP s c f else if(r<0\/3<r)\/(g<0\/4<g)then 23 else if((L<0\/15<L)\/(h<0\/L<h))\/(0<h/\f=0)then 24 else if iJ s c f r g h L=false then 31 else 0
def jU(s c f r g h L:Int):List UInt8:=if lV s c f r g h L=0 then cellS s c f r g h L else []
theorem Ap(s c f:Int)(hs:1<=s/\s<=4)(hc:1<=c/\c<=14)(hf:0<=f/\f<=18):nP s c f=0\/nP s c f=31:=by grind[nP]
theorem BZ(s c f r g h L:Int)(hs:1<=s/\s<=4)(hc:1<=c/\c<=14)(hf:0<=f/\f<=18)(hm:¬ ((r<0\/3<r)\/(g<0\/4<g)))(hh:((L<0\/15<L)\/(h<0\/L<h))\/(0<h/\f=0)) :jU s c f r g h L=[]/\lV s c f r g h L=24:=by grind[Ap,lV,jU]
open Go in
theorem Y9 (s c f r g h L:Int)(hs:1≤s∧s≤4)(hc:1≤c∧c≤14)(hf:0≤f∧f≤18)(hm:¬ ((r<0∨3<r)∨(g<0∨4<g)))(hh:¬ (((L<0∨15<L)∨(h<0∨L<h))∨(0<h∧f=0))) :
  (Value.tuple #[.string (bs (jU s c f r g h L)),.int .i64 (lV s c f r g h L)])=if iJ s c f r g h L=true then .tuple #[.string (bs (cellS s c f r g h L)),.int .i64 0]else .tuple #[.string (bs []),.int .i64 31]:=by
 have e:=Ap s c f hs hc hf
 cases hok:iJ s c f r g h L with
 | true =>
  have e3:lV s c f r g h L=0:=by unfold lV;rw [if_neg (by omega),if_neg hm,if_neg hh,hok,if_neg (by decide)]
  have e4:jU s c f r g h L=cellS s c f r g h L:=by unfold jU;rw [if_pos e3]
  rw [e3,e4];rfl
 | false =>
  have e3:lV s c f r g h L=31:=by unfold lV;rw [if_neg (by omega),if_neg hm,if_neg hh,hok,if_pos rfl]
  have e4:jU s c f r g h L=[]:=by unfold jU;rw [e3,if_neg (by decide)]
  rw [e3,e4];rfl
end
section
open Go.RowKit
theorem Ae {α:Type} {F:View} {w:World} {n:Nat} {l:List α} {e:α->List AV} {f:α->List Value} {v:Value} (hF:∀ p u,F p=some u->w.cell? p=some u) (h0:0<n) (hf:∀ x,(f x).length=n) (hef:∀ x (j:Nat) u,(f x)[j]?=some u->(e x)[j]?=some (.sc u))(r:RP F (.ls n (l.map e)) v):∃ A c,v=.slice A l.length c/\Rd w w.heap.size n A (l.map f)/\l.length<=c:=by
 obtain ⟨A,cap,ad,u,rfl,h1,h2,h3,h4,h5⟩:=r.Ce;have hcell:∀ (k:Nat) x,l[k]?=some x->∀ (j:Nat) y,(f x)[j]?=some y->w.cell? (ad.add (k*n+j))=some y:=λk x hk j y hy=>by
  have a1:(l.map e)[k]?=some (e x):=by simp_all
  have:=h3 k _ j _ a1 (hef x j y hy);rw [hF _ _ this.1,(h4 k _ j _ a1 (hef x j y hy)).fM]
 refine ⟨A,cap,by rw [bK],λhp=>⟨ad,h2 (by simpa using hp),?_,λk r hr j y hy=>?_⟩,by simpa using h5⟩
 .have hp:0<l.length:=by simpa using hp
  have hx:0<(f (l[0]'hp)).length:=by rw [hf];exact h0
  have:=aQ (hcell 0 (l[0]'hp) (aO hp) 0 _ (aO hx));simp_all[lU]
 grind
theorem aa8 {F:View} {w:World} {l:List Stp} {v:Value} (hF:∀ p u,F p=some u->w.cell? p=some u) (r:RP F (ahw l) v):∃ A c,v=.slice A l.length c/\wH w w.heap.size A l/\l.length<=c :=Ae (n:=5) (f:=Nk) hF au (λ_=>rfl) (λx j u h=>by match j with
  | 0=>cases h;rfl| 1=>cases h;rfl| 2=>cases h;rfl| 3=>cases h;rfl| 4=>cases h;rfl| j+5=>simp [Nk] at h) r
theorem aeB {F:View} {w:World} {l:List Ev} {v:Value} (hF:∀ p u,F p=some u->w.cell? p=some u) (r:RP F (.ls 6 (l.map iO)) v):∃ A c,v=.slice A l.length c/\vO w w.heap.size A l/\l.length<=c:=by
 obtain ⟨A,cap,ad,u,rfl,h1,h2,h3,h4,h5⟩:=r.Ce;obtain ⟨ms,hml,hmq⟩:=WH (λk (m:Option Addr×Nat)=>∀ x,l[k]?=some x->u k 5=.slice m.1 x.stops.length m.2/\wH w w.heap.size m.1 x.stops) l.length λk hk=>by
  have a1:(l.map iO)[k]?=some (iO l[k]):=by simp [hk]
  obtain ⟨A',c',e,hs,_⟩:=aa8 hF (h4 k _ 5 _ a1 rfl);simp_all
 have hcell:∀ (k:Nat) x m,l[k]?=some x->ms[k]?=some m->∀ (j:Nat) y,(Bh x m)[j]?=some y->w.cell? (ad.add (k*6+j))=some y:=λk x m hk hm j y hy=>by
  have a1:(l.map iO)[k]?=some (iO x):=by rw [dw,hk];rfl
  have hj:j < 6:=(List.getElem?_eq_some_iff.1 hy).1;have get:∀ av,(iO x)[j]?=some av->w.cell? (ad.add (k*6+j))=some (u k j):=λav hav=>hF _ _ (h3 k _ j _ a1 hav).1;match j,hj with
  | 0,_=>cases hy;rw [get _ rfl,(h4 k _ 0 _ a1 rfl).fM]| 1,_=>cases hy;rw [get _ rfl,(h4 k _ 1 _ a1 rfl).fM]| 2,_=>cases hy;rw [get _ rfl,(h4 k _ 2 _ a1 rfl).fM]| 3,_=>cases hy;rw [get _ rfl,(h4 k _ 3 _ a1 rfl).fM]| 4,_=>cases hy;rw [get _ rfl,(h4 k _ 4 _ a1 rfl).fM]| 5,_=>cases hy;rw [get _ rfl,(hmq k m hm x hk).1]
 refine ⟨A,cap,by rw [bK],⟨ms,hml,λhp=>⟨ad,h2 ?_,?_,λk r hr j y hy=>?_⟩,λk e m he hm=>(hmq k m hm e he).2⟩,by simpa using h5⟩;.simp [hml] at hp ⊢;omega
 .have hp:0 < l.length:=by simp [hml] at hp;omega
  have:=aQ (hcell 0 (l[0]'hp) (ms[0]'(by omega)) (aO hp) (aO (by omega)) 0 _ rfl);rwa [lU] at this
 grind
theorem PW {F:View} {w:World} {cs:List (Int×Int×Bool)} {st:List Int} {v1 v2:Value} (hF:∀ p u,F p=some u->w.cell? p=some u) (r1:RP F (.ls 3 (cs.map bg)) v1) (r2:RP F (.ls 1 (st.map eInt)) v2) :∃ A1 c1 A2 c2,v1=.slice A1 cs.length c1/\v2=.slice A2 st.length c2/\Pn w w.heap.size A1 A2 cs st:=by
 obtain ⟨A1,c1,e1,h1,_⟩:=Ae (n:=3) (f:=mO) hF au (λ_=>rfl) (λx j u h=>by match j with
  | 0=>cases h;rfl| 1=>cases h;rfl| 2=>cases h;rfl| j+3=>simp [mO] at h) r1;obtain ⟨A2,c2,e2,h2,_⟩:=Ae (n:=1) (f:=nG) hF au (λ_=>rfl) (λx j u h=>by match j with
  | 0=>cases h;rfl| j+1=>simp [nG] at h) r2;exact ⟨A1,c1,A2,c2,e1,e2,h1,h2⟩
theorem Xz {F:View} {w:World} {p:bV} {v:Value} (hF:∀ p u,F p=some u->w.cell? p=some u) (r:RP F (iG p) v):∃ M,v=jD M p/\ag9 w w.heap.size M p:=by
 obtain ⟨cs,rfl,h1,h2⟩:∃ cs:Array Value,v=.agg cs/\cs.size=3/\∀ (i:Nat) av u,[AV.ls 3 (p.cs.map bg),.ls 1 (p.st.map eInt),.ls 6 (p.evs.map iO)][i]?=some av->cs[i]?=some u->RP F av u:=by cases r<;>grind
 have g:∀ i (h:i<3),cs[i]?=some (cs[i]'(by omega)):=λi h=>vC (by omega);obtain ⟨A1,c1,A2,c2,e1,e2,hI⟩:=PW hF (h2 0 _ _ rfl (g 0 au)) (h2 1 _ _ rfl (g 1 au));obtain ⟨A3,c3,e3,hE,hc⟩:=aeB hF (h2 2 _ _ rfl (g 2 au));refine ⟨⟨A1,A2,A3,c1,c2,c3⟩,?_,hI,hE,hc⟩;unfold jD;congr 1;grind
theorem bC.nX {P:Program} {f:FuncId} {args:List AV} {xs:List Value} {res:AV} {v:Value} (hs:JW args=some xs)(hv:∀ F,RP F res v)(h:∀ w,Calls P f xs.toArray w (iZ v w)):bC P f args res:=by
 intro w F vs hF hR;have:vs=xs:=DX (G:=⟨F,λ_=>0,λ_=>0,λ_=>undef,λ_ _=>False⟩) hs hR.1 λi av u a b=>.pu _ _ (hR.2 i av u a b);exact asW
end
end Go.Proofs.YthohlofpphjofaaGreatDoor
