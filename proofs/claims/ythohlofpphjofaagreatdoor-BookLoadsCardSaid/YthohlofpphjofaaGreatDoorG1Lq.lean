/- A row of nil slices is a row of slices of their own that have no rows. -/
import Derived.Test.YthohlofpphjofaaGreatDoorFZLq
import Derived.Test.YthohlofpphjofaaGreatDoorCkCLq
set_option maxHeartbeats 8000000
set_option maxRecDepth 100000
set_option linter.unusedVariables false
set_option linter.unusedSimpArgs false
namespace Go.Proofs.YthohlofpphjofaaGreatDoor
theorem FX {p:Prop}(h:p:=by simpa using hk):p:=h
section
variable {p:Prop}
theorem anw(h:p:=by
 have hbL:(n == L)=false:=by simpa using hL
 exact ab2):p:=h
theorem ana(h:p:=by
 subst h0;go_enter Tryz.func329,Tryz.ntmps329;go_wp2;exact vJ):p:=h
theorem ab2(h:p:=by
 rw [e2];clear e0 e1 e2 hL;go_enter Tryz.func329,Tryz.ntmps329;go_wp2;exact vJ):p:=h
theorem aml(h:p:=by match i,(show i<2 by omega) with
 | 0,_=>exact e1| 1,_=>exact e2):p:=h
theorem abT(h:p:=by
 have:=KD hk;rw [← this];congr 1;omega):p:=h
theorem alu(h:p:=by
 rw [aO (by rw [lq];omega)];simp only [kM,Jh];rw [if_neg (by omega)]):p:=h
theorem UK(h:p:=by
 refine kJ ?_;exact ⟨k+1,by omega,by omega,(zqt id)⟩):p:=h
end
theorem YO {p q:Prop}(k:q)(h:iF q->p:=by
 intro hq;repeat (first|refine DK.ff rfl Ia ?_|refine DK.st rfl ?_|refine DK.idx rfl rfl (by omega) zqm ?_|refine DK.nil ?_)
 exact hq.k):p:=h ⟨k⟩
section
open Go.RowKit
def newF(F:View)(w w':World):View:=λp=>if p.block<w.heap.size then F p else w'.cell? p
theorem Bq {F:View} {w w':World} (hF:∀ p u,F p=some u->w.cell? p=some u):View.le F (newF F w w'):=λp u h=>by simp_all[newF,aQ]
theorem Bo {F:View} {w w':World} (hF:∀ p u,F p=some u->w.cell? p=some u)(hb:Below w.heap.size w w'):∀ p u,newF F w w' p=some u->w'.cell? p=some u:=λp u h=>by
 unfold newF at h;by_cases e:p.block<w.heap.size;.rw [if_pos e]at h;rw [hb.cell e];exact hF p u h
 simp_all
theorem xI {F:View} {w w':World}:∀ p u,newF F w w' p=some u->F p=some u\/w.heap.size<=p.block:=λp u h=>by grind[newF]
theorem Fp {α:Type} {F:View} {w w':World} {n:Nat} {l:List α} {e:α->List AV} {f:α->List Value} {A:Option Addr} {c B:Nat} (hr:Rd w' B n A (l.map f)) (hA:∀ ad,A=some ad->w.heap.size<=ad.block) (hc:l.length<=c)(hf:∀ x,(e x).length=n) (hef:∀ x (j:Nat) av,(e x)[j]?=some av->∃ u,av=.sc u/\(f x)[j]?=some u/\u.oneCell'=true):RP (newF F w w') (.ls n (l.map e)) (.slice A l.length c):=by
 have hcell:∀ ad,A=some ad->∀ (k:Nat) x,l[k]?=some x->∀ (j:Nat) u,(f x)[j]?=some u->newF F w w' (ad.add (k*n+j))=some u:=λad had k x hk j u hu=>by
  have hl:0<(l.map f).length:=by grind
  obtain ⟨ad',e',_,h2⟩:=hr hl;simp_all[newF,if_neg,lU]
 have key:∀ (i:Nat) r (j:Nat) av,(l.map e)[i]?=some r->r[j]?=some av->∃ x u,l[i]?=some x/\av=.sc u/\(f x)[j]?=some u/\u.oneCell'=true:=λi r j av hr' hav=>by grind
 have hlen:l.length=(l.map e).length:=by simp
 rw [hlen];refine .ls n (l.map e) A c (A.getD ⟨0,0,none⟩) (λi j=>((l[i]?).bind λx=>(f x)[j]?).getD undef) (by simpa using hc) (λr hr'=>?_) (λhp=>?_) (λi r j av hr' hav=>?_) (λi r j av hr' hav=>?_);.grind
 .obtain ⟨ad,e',_⟩:=hr (by simpa using hp);rw [e'];rfl
 .obtain ⟨x,u,h1,h2,h3,h4⟩:=key i r j av hr' hav;obtain ⟨ad,e',_⟩:=hr (by have:=(List.getElem?_eq_some_iff.1 h1).1;simp;omega);simp only [h1,Yy,h3,QZ];rw [e'];exact ⟨hcell ad e' i x h1 j u h3,h4⟩
 .obtain ⟨x,u,h1,h2,h3,h4⟩:=key i r j av hr' hav;simp only [h1,Yy,h3,QZ,h2];exact .sc u
theorem acC(x:Int)(j:Nat)(av:AV)(h:(eInt x)[j]?=some av):∃ u,av=.sc u/\(nG x)[j]?=some u/\u.oneCell'=true:=by match j with
 | 0=>cases h;exact⟨_,rfl,rfl,rfl⟩| j+1=>simp [eInt]at h
def pq(ok:Bool)(i c what:Int):List YX:=if ok then []else [(i,c,what)]
def wL(s n:Int):Bool:=if s=3 then n != 8 else if s=4 then n == 8 else true
def jF (s i:Int)(L:Int->Nat)(x:Stp):List YX :=if Qu s x.1 x.2.1=false then [(i,x.1,1)] else pq (okR s x.2.2.1) i x.1 2++(pq (zZ s x.2.2.2.1) i x.1 3++pq (xM s x.2.2.2.2 (L x.1)) i x.1 4)
def aij (s i:Int)(e:Ev):List YX :=(if e.val=0 then pq (wL s 6) i 0 6 else [])++((if e.three=true then pq (wL s 5) i 0 5 else [])++(if e.tie=true then pq (wL s 7) i 0 7 else if e.stops.length=0 then pq (wL s 8) i 0 8 else []))
def qV (s:Int)(p:bV)(i:Int)(e:Ev):List YX:=aij s i e++e.stops.flatMap (jF s i λc=>ak p.evs i c)
theorem oI(ok:Bool)(i c what:Int):(pq ok i c what).length<=1:=by unfold pq;split<;>simp
theorem SV (s i:Int)(L:Int->Nat)(x:Stp):(jF s i L x).length<=3:=by
 unfold jF;split;.simp
 .have a:=oI (okR s x.2.2.1) i x.1 2;have b:=oI (zZ s x.2.2.2.1) i x.1 3;have c:=oI (xM s x.2.2.2.2 (L x.1)) i x.1 4;simp only [dS];omega
theorem Kz (s i:Int)(L:Int->Nat):∀ l:List Stp,(l.flatMap (jF s i L)).length<=3*l.length:=by
 intro l;induction l with
 | nil=>simp| cons x r ih=>have:=SV s i L x;simp only [NG,dS,pW];omega
theorem aeG (s i:Int)(L:Int->Nat)(l:List Stp)(k:Nat)(h:k<l.length):(l.take (k+1)).flatMap (jF s i L)=(l.take k).flatMap (jF s i L)++jF s i L l[k]:=by rw [kF h,List.flatMap_append];simp
structure aBm (w:World) (P E:Array Value) (i:Int) (l:List YX) (wx:World):Prop where
 bel:Below w.heap.size w wx
 bp:yV wx w.heap.size 30 P
 bi:yV wx (w.heap.size+1) 3 #[.int .i64 i]be:yV wx (w.heap.size+3) 90 E
 say:av5 wx (w.heap.size+3) (w.heap.size+2) l
def JH(e:Ev):Prop :=∀ k(h:k<e.stops.length),(1<=e.stops[k].1/\e.stops[k].1<=14)/\(0<=e.stops[k].2.1/\e.stops[k].2.1<=18)/\(0<=e.stops[k].2.2.1/\e.stops[k].2.2.1<=3)/\(0<=e.stops[k].2.2.2.1/\e.stops[k].2.2.2.1<=4)/\(0<=e.stops[k].2.2.2.2/\e.stops[k].2.2.2.2<=15)
def lk1 (s i v:Int):List YX:=if v=0 then pq (wL s 6) i 0 6 else []
def lk2 (s i:Int)(t:Bool):List YX:=if t=true then pq (wL s 5) i 0 5 else []
def lk3 (s i:Int)(t:Bool)(n:Nat):List YX:=if t=true then pq (wL s 7) i 0 7 else if n=0 then pq (wL s 8) i 0 8 else []
theorem acX(s i v:Int):(lk1 s i v).length<=1:=by unfold lk1;split;exact oI _ _ _ _;simp
theorem acY(s i:Int)(t:Bool):(lk2 s i t).length<=1:=by unfold lk2;split;exact oI _ _ _ _;simp
theorem ac0(s i:Int)(t:Bool)(n:Nat):(lk3 s i t n).length<=1:=by
 unfold lk3;split;.exact oI _ _ _ _
 .split;exact oI _ _ _ _;simp
theorem KR (s:Int)(p:bV)(i:Int)(e:Ev):qV s p i e=(lk1 s i e.val++(lk2 s i e.three++lk3 s i e.tie e.stops.length))++e.stops.flatMap (jF s i λc=>ak p.evs i c):=rfl
def Bg (x:YX):List AV:=[.sc (.int .i64 x.1),.sc (.int .i64 x.2.1),.sc (.int .i64 x.2.2)]
theorem aoj (x y:Int) (b:Bool) (w:World):(Op.equalIn 10000 117 (.agg #[.int .i64 x,.int .i64 y,.bool b]) (.agg #[.int .i64 x,.int .i64 y,.bool b])).run Tryz.prog w=.ok true w:=by
 rw [run_equalIn_agg w 9999 _ _ _ aK aK];refine Eq.trans (congrArg (λfs=>Sem.run _ (Op.eqFields 9999 _ _ fs) w) (rfl:(Tryz.prog.fieldsOf 117).toList=[_,_,_])) ?_;simp [go_sem]
theorem ahy (x:Int) (a b:Bool) (w:World):(Op.equalIn 10000 87 (.agg #[.int .i64 x,.bool a,.bool b]) (.agg #[.int .i64 x,.bool a,.bool b])).run Tryz.prog w=.ok true w:=by
 rw [run_equalIn_agg w 9999 _ _ _ aK aK];refine Eq.trans (congrArg (λfs=>Sem.run _ (Op.eqFields 9999 _ _ fs) w) (rfl:(Tryz.prog.fieldsOf 87).toList=[_,_,_])) ?_;simp [go_sem]
theorem aok (x y z u v:Int) (w:World):(Op.equalIn 10000 69 (.agg #[.int .i64 x,.int .i64 y,.int .i64 z,.int .i64 u,.int .i64 v]) (.agg #[.int .i64 x,.int .i64 y,.int .i64 z,.int .i64 u,.int .i64 v])).run Tryz.prog w=.ok true w:=by
 rw [run_equalIn_agg w 9999 _ _ _ aK aK];refine Eq.trans (congrArg (λfs=>Sem.run _ (Op.eqFields 9999 _ _ fs) w) (rfl:(Tryz.prog.fieldsOf 69).toList=[_,_,_,_,_])) ?_;simp [go_sem]
theorem aa0 (cs:List (Int×Int×Bool)) (st:List Int) (h1:cs.length<=64) (h2:st.length<=64):bC Tryz.prog 48 [.ag (jc cs st),.ag (jc cs st)] (.sc (.bool true)):=by
 refine dV Tryz.func48 Tryz.ntmps48 λw0 F0=>?_;dsimp only [St.init,number,Nat.reduceAdd];refine kJ ?_;refine WL.aP rfl rfl rfl rfl (λhp=>absurd hp (by simp)) (λhp=>?_);refine kJ ?_;(refine W.cond rfl (λhif=>?_) (λhif=>?_)<;>(try simp only [dH,dO,eu,eF,dP,eG] at hif));.exact absurd hif (by simp)
 refine kJ ?_;refine W.loop (λk:Nat=>k<=cs.length) (λk=>⟨[(2,.pt 0 0 0),(3,.pt 1 0 0),(5,.sc (.int .i64 k))],[(0,.box 27 (jc cs st)),(1,.box 27 (jc cs st))],2⟩) (λk=>cs.length - k) 0 au (zqt id) λk hk=>?_;refine kJ ?_;(refine W.cond rfl (λhif=>?_) (λhif=>?_)<;>(try simp only [dH,dO,eu,eF,dP,eG] at hif))
 .have hk2:k < cs.length:=by omega
  refine kJ ?_;refine iY ?_;refine YO ?_;refine DK.vl rfl (WV.ane (b:=true) rfl rfl rfl rfl rfl aK (λw=>aoj _ _ _ w)) ?_;refine YO ?_;exact UK
 refine kJ ?_;refine W.loop (λk:Nat=>k<=st.length) (λk=>⟨[(2,.pt 0 0 0),(3,.pt 1 0 0),(6,.sc (.int .i64 k))],[(0,.box 27 (jc cs st)),(1,.box 27 (jc cs st))],2⟩) (λk=>st.length - k) 0 au (zqt id) λk hk=>?_;refine kJ ?_;(refine W.cond rfl (λhif=>?_) (λhif=>?_)<;>(try simp only [dH,dO,eu,eF,dP,eG] at hif))
 .have hk2:k < st.length:=by omega
  refine kJ ?_;refine iY ?_;refine YO ?_;exact UK
 refine kJ ?_;exact W.ret kR
theorem agh (e:Ev) (h:e.stops.length<=64):bC Tryz.prog 49 [.ag (iO e),.ag (iO e)] (.sc (.bool true)):=by
 refine dV Tryz.func49 Tryz.ntmps49 λw0 F0=>?_;dsimp only [St.init,number,Nat.reduceAdd];refine kJ ?_;refine WL.aP rfl rfl rfl rfl (λhp=>absurd hp (by simp)) (λhp=>?_);refine kJ ?_;refine WL.vl rfl (WV.ane (b:=true) rfl rfl rfl rfl rfl aK (λw=>ahy _ _ _ w)) ?_;refine kJ ?_;refine WL.aP rfl rfl rfl rfl (λhp=>absurd hp (by simp)) (λhp=>?_);refine kJ ?_;(refine W.cond rfl (λhif=>?_) (λhif=>?_)<;>(try simp only [dH,dO,eu,eF,dP,eG] at hif));.exact absurd hif (by simp)
 refine kJ ?_;refine W.loop (λk:Nat=>k<=e.stops.length) (λk=>⟨[(2,.pt 0 0 0),(3,.pt 1 0 0),(5,.sc (.int .i64 k))],[(0,.box 90 (iO e)),(1,.box 90 (iO e))],2⟩) (λk=>e.stops.length - k) 0 au (zqt id) λk hk=>?_;refine kJ ?_;(refine W.cond rfl (λhif=>?_) (λhif=>?_)<;>(try simp only [dH,dO,eu,eF,dP,eG] at hif))
 .have hk2:k < e.stops.length:=by omega
  refine kJ ?_;refine iY ?_;repeat (first|refine DK.st rfl ?_|refine DK.idx rfl rfl au zqm ?_|refine DK.nil ?_)
  refine DK.vl rfl (WV.ane (b:=true) rfl rfl rfl rfl rfl aK (λw=>aok _ _ _ _ _ w)) ?_;repeat (first|refine DK.st rfl ?_|refine DK.idx rfl rfl au zqm ?_|refine DK.nil ?_)
  exact UK
 refine kJ ?_;exact W.ret kR
theorem apZ (p:bV) (hO:jh p):bC Tryz.prog 13 [iG p,iG p] (.sc (.bool true)):=by
 refine dV Tryz.func13 Tryz.ntmps13 λw0 F0=>?_;dsimp only [St.init,number,Nat.reduceAdd];have hn3:=hO.n3;refine kJ ?_;refine WL.opv rfl rfl rfl (WV.call rfl (aj Tryz.func48 rfl rfl) rfl rfl (aa0 p.cs p.st hO.n1 hO.n2)) ?_;refine kJ ?_;refine kJ ?_;(refine W.cond rfl (λhif=>?_) (λhif=>?_)<;>(try simp only [dH,dO,eu,eF,dP,eG] at hif));.exact absurd hif (by simp)
 refine kJ ?_;refine W.loop (λk:Nat=>k<=p.evs.length) (λk=>⟨[(2,.pt 0 0 0),(3,.pt 1 0 0),(5,.sc (.int .i64 k))],[(0,.box 30 [.ls 3 (p.cs.map bg),.ls 1 (p.st.map eInt),.ls 6 (p.evs.map iO)]),(1,.box 30 [.ls 3 (p.cs.map bg),.ls 1 (p.st.map eInt),.ls 6 (p.evs.map iO)])],2⟩) (λk=>p.evs.length - k) 0 au (zqt id) λk hk=>?_;refine kJ ?_;(refine W.cond rfl (λhif=>?_) (λhif=>?_)<;>(try simp only [dH,dO,eu,eF,dP,eG] at hif))
 .have hk2:k < p.evs.length:=by omega
  have h20:=hO.n4 k hk2;refine kJ ?_;refine iY ?_;refine YO ?_;refine DK.vl rfl (WV.call rfl (aj Tryz.func49 rfl rfl) rfl rfl (agh _ au)) ?_;refine YO ?_;exact UK
 refine kJ ?_;exact W.ret kR
theorem JJ {st:List Int}:∀ {cs:List (Int×Int×Bool)},Eh st cs=0->∀ k (h:k<cs.length),0<=cs[k].2.1/\cs[k].2.1<=st.length:=by
 intro cs;induction cs<;>grind[Eh]
theorem Yb {p:bV} {i last:Int} {s:Stp} (hI:jW p.cs p.st=0)(h:lI p i s last=0) :(1<=s.1/\s.1<=14)/\(0<=s.2.1/\s.2.1<=18)/\(0<=s.2.2.1/\s.2.2.1<=3)/\(0<=s.2.2.2.1/\s.2.2.2.1<=4)/\(0<=s.2.2.2.2/\s.2.2.2.2<=15):=by
 obtain⟨l1,l2,l3,_,l5⟩:=uG hI;unfold lI at h;by_cases h1:s.1<1\/(p.cs.length:Int)<s.1;.omega
 .rw [if_neg h1]at h;by_cases h2:s.2.1<0\/jV p.cs s.1<s.2.1;.omega
  .rw [if_neg h2]at h;by_cases h3:s.1<=last;.omega
   .rw [if_neg h3]at h;by_cases h4:(s.2.2.1<0\/3<s.2.2.1)\/(s.2.2.2.1<0\/4<s.2.2.2.1);.omega
    .rw [if_neg h4]at h;by_cases h5:(s.2.2.2.2<0\/(ak p.evs i s.1:Int)<s.2.2.2.2)\/(0<s.2.2.2.2/\s.2.1=0);.omega
     .have hL:=IB p.evs i s.1;have hk:s.1.toNat-1<p.cs.length:=by omega
      have hf:jV p.cs s.1=p.cs[s.1.toNat-1].2.1:=by exact abT
      have:=JJ l5 _ hk;omega
theorem agA {p:bV} {i:Int} (hI:jW p.cs p.st=0):∀ {l:List Stp} {last:Int},kN p i last l=0->∀ k (h:k<l.length),∃ la,lI p i l[k] la=0:=by
 intro l;induction l with
 | nil=>simp| cons x r ih =>
  intro last h k hk;unfold kN at h;by_cases h1:lI p i x last≠0;.omega
  .rw [if_neg h1] at h;cases k with
   | zero=>grind| succ k=>simpa using ih h k FX
theorem aoo {p:bV}:∀ {l:List Ev} {n:Nat},Kv p n l=0->∀ k (h:k<l.length),Vg p ((n+k:Nat):Int) l[k]=0:=by
 intro l;induction l with
 | nil=>simp| cons x r ih =>
  intro n h k hk;unfold Kv at h;by_cases h1:Vg p n x≠0;.omega
  .rw [if_neg h1] at h;cases k with
   | zero=>simpa using h1| succ k =>
    have:=ih h k FX;grind
theorem uo {p:bV} (h:bM p=0):jW p.cs p.st=0/\p.evs.length<=400/\∀ k(hk:k<p.evs.length),Vg p k p.evs[k]=0:=by
 unfold bM at h;by_cases h1:jW p.cs p.st≠0;.omega
 .rw [if_neg h1]at h;by_cases h2:400<p.evs.length;.omega
  .rw [if_neg h2]at h;refine⟨by simpa using h1,by omega,λk hk=>?_⟩;have:=aoo h k hk;exact lS
theorem zF {p:bV} {i:Int} {e:Ev} (h:Vg p i e=0):qG e.val e.dot e.three=true/\¬ (i=0/\e.val=0)/\¬ (e.tie=true/\(0<e.stops.length\/i=0))/\kN p i 0 e.stops=0:=by grind[Vg]
theorem yS {p:bV} (h:bM p=0)(k:Nat)(hk:k<p.evs.length):JH p.evs[k]:=by
 obtain⟨h1,h2,h3⟩:=uo h;intro j hj;obtain⟨la,hla⟩:=agA h1 (zF (h3 k hk)).2.2.2 j hj;exact Yb h1 hla
def xE(s:Int)(p:bV):Nat->List YX
 | 0=>[]| k+1=>xE s p k++(match p.evs[k]? with|some e=>qV s p k e|none=>[])
theorem KX (s:Int)(p:bV) {k:Nat} (h:k<p.evs.length):xE s p (k+1)=xE s p k++qV s p k p.evs[k]:=by simp_all[xE]
theorem Gw(s:Int)(p:bV)(i:Int)(e:Ev)(h:e.stops.length<=20):(qV s p i e).length<=63:=by grind[KR,acX,acY,ac0,Kz]
theorem P5 (s:Int) {p:bV} (hO:jh p):∀ k,k<=p.evs.length->(xE s p k).length<=27000:=by
 have hn:=hO.n3;have:∀ k,k<=p.evs.length->(xE s p k).length<=63*k:=by
  intro k;induction k with
  | zero=>intro _;simp [xE]| succ k ih =>
   intro hk;rw [KX s p (by omega),dS];have:=ih au;have:=Gw s p k p.evs[k] (hO.n4 k au);omega
 grind
end
section
open Go.RowKit
attribute [local go_sem]zQ dI jf je gq
attribute [local simp]tV jZ iK lG
theorem aAj (w:World):Calls Tryz.prog 50 #[.int .u8 2] w λe w'=>e=.returned (.tuple #[(.iface 174 (.agg #[])),.bool true])/\w=w':=by exact YU
theorem aAk (w:World):Calls Tryz.prog 50 #[.int .u8 3] w λe w'=>e=.returned (.tuple #[(.iface 176 (.agg #[])),.bool true])/\w=w':=by exact YU
theorem aAl (w:World):Calls Tryz.prog 50 #[.int .u8 4] w λe w'=>e=.returned (.tuple #[(.iface 178 (.agg #[])),.bool true])/\w=w':=by exact YU
theorem ajl (n:Int)(w:World)(h:0<=n/\n<=3) :Calls Tryz.prog 320 #[.agg #[],.int .i64 n] w (iZ (.tuple #[.string (bs (rR 1 n)),.bool (okR 1 n)]) w):=by
 have h4:n=0\/n=1\/n=2\/n=3:=by omega
 clear h;rcases h4 with rfl|rfl|rfl|rfl;all_goals
  go_enter Tryz.func320,Tryz.ntmps320;go_wp2;go_ret2;exact iZ.mk' rfl CU
theorem ajc (n:Int)(w:World)(h:0<=n/\n<=4) :Calls Tryz.prog 314 #[.agg #[],.int .i64 n] w (iZ (.tuple #[.string (bs (rG 1 n)),.bool (zZ 1 n)]) w):=by
 have h4:n=0\/n=1\/n=2\/n=3\/n=4:=by omega
 clear h;rcases h4 with rfl|rfl|rfl|rfl|rfl;all_goals
  go_enter Tryz.func314,Tryz.ntmps314;go_wp2;go_ret2;exact iZ.mk' rfl CU
theorem apv (n L:Int)(w:World)(h:0<=n/\n<=15) :Calls Tryz.prog 316 #[.agg #[],.int .i64 n,.int .i64 L] w (iZ (.tuple #[.string (bs (pH 1 n L)),.bool (xM 1 n L)]) w):=by
 obtain⟨hn0,hn1⟩:=h;by_cases h0:n=0
 .subst h0;go_enter Tryz.func316,Tryz.ntmps316;go_wp2;exact vJ
 .have hb:(n == 0)=false:=by simp;exact h0
  have e0:pH 1 n L=rH 1 n L:=if_neg h0;have e1:xM 1 n L=!(rH 1 n L).isEmpty:=by unfold xM;rw [hb];rfl
  rw [e0,e1];have e2:rH 1 n L=95::jy n.toNat:=if_pos rfl;have hl:([95]:List UInt8).length+(jy n.toNat).length<=9223372036854775807:=by have:=zA n.toNat;simp;omega
  have hl':1+(jy n.toNat).length<=9223372036854775807:=by have:=zA n.toNat;omega
  rw [e2];clear e0 e1 e2;go_enter Tryz.func316,Tryz.ntmps316;go_wp2_with (go_at_call 108;refine (Et _ _ hn0 (by omega)).mono ?_;rintro e w'⟨rfl,hw⟩;rw [hw];clear hw);exact vJ
theorem ajm (n:Int)(w:World)(h:0<=n/\n<=3) :Calls Tryz.prog 335 #[.agg #[],.int .i64 n] w (iZ (.tuple #[.string (bs (rR 2 n)),.bool (okR 2 n)]) w):=by
 have h4:n=0\/n=1\/n=2\/n=3:=by omega
 clear h;rcases h4 with rfl|rfl|rfl|rfl;all_goals
  go_enter Tryz.func335,Tryz.ntmps335;go_wp2;go_ret2;exact iZ.mk' rfl CU
theorem ajd (n:Int)(w:World)(h:0<=n/\n<=4) :Calls Tryz.prog 330 #[.agg #[],.int .i64 n] w (iZ (.tuple #[.string (bs (rG 2 n)),.bool (zZ 2 n)]) w):=by
 have h4:n=0\/n=1\/n=2\/n=3\/n=4:=by omega
 clear h;rcases h4 with rfl|rfl|rfl|rfl|rfl;all_goals
  go_enter Tryz.func330,Tryz.ntmps330;go_wp2;go_ret2;exact iZ.mk' rfl CU
theorem apw (n L:Int) (w:World) (h:0<=n/\n<=15) :Calls Tryz.prog 329 #[.agg #[],.int .i64 n,.int .i64 L] w (iZ (.tuple #[.string (bs (pH 2 n L)),.bool (xM 2 n L)]) w):=by
 obtain ⟨hn0,hn1⟩:=h;by_cases h0:n=0;.exact ana
 .have hb:(n == 0)=false:=by simp;exact h0
  have e0:pH 2 n L=rH 2 n L:=if_neg h0;have e1:xM 2 n L=!(rH 2 n L).isEmpty:=by unfold xM;rw [hb];rfl
  rw [e0,e1];by_cases hL:n=L
  .have e2:rH 2 n L=[42]:=by unfold rH;rw [if_neg (by decide),if_pos ⟨by decide,hL⟩]
   have hbL:(n == L)=true:=by simpa using hL
   exact ab2
  .have e2:rH 2 n L=[]:=by unfold rH;rw [if_neg (by decide),if_neg (λh=>hL h.2)]
   exact anw
theorem ajo (n:Int)(w:World)(h:0<=n/\n<=3) :Calls Tryz.prog 350 #[.agg #[],.int .i64 n] w (iZ (.tuple #[.string (bs (rR 4 n)),.bool (okR 4 n)]) w):=by
 have h4:n=0\/n=1\/n=2\/n=3:=by omega
 clear h;rcases h4 with rfl|rfl|rfl|rfl;all_goals
  go_enter Tryz.func350,Tryz.ntmps350;go_wp2;go_ret2;exact iZ.mk' rfl CU
theorem ajf (n:Int)(w:World)(h:0<=n/\n<=4) :Calls Tryz.prog 345 #[.agg #[],.int .i64 n] w (iZ (.tuple #[.string (bs (rG 4 n)),.bool (zZ 4 n)]) w):=by
 have h4:n=0\/n=1\/n=2\/n=3\/n=4:=by omega
 clear h;rcases h4 with rfl|rfl|rfl|rfl|rfl;all_goals
  go_enter Tryz.func345,Tryz.ntmps345;go_wp2;go_ret2;exact iZ.mk' rfl CU
theorem apy (n L:Int) (w:World) (h:0<=n/\n<=15) :Calls Tryz.prog 329 #[.agg #[],.int .i64 n,.int .i64 L] w (iZ (.tuple #[.string (bs (pH 4 n L)),.bool (xM 4 n L)]) w):=by
 obtain ⟨hn0,hn1⟩:=h;by_cases h0:n=0;.exact ana
 .have hb:(n == 0)=false:=by simp;exact h0
  have e0:pH 4 n L=rH 4 n L:=if_neg h0;have e1:xM 4 n L=!(rH 4 n L).isEmpty:=by unfold xM;rw [hb];rfl
  rw [e0,e1];by_cases hL:n=L
  .have e2:rH 4 n L=[42]:=by unfold rH;rw [if_neg (by decide),if_pos ⟨by decide,hL⟩]
   have hbL:(n == L)=true:=by simpa using hL
   exact ab2
  .have e2:rH 4 n L=[]:=by unfold rH;rw [if_neg (by decide),if_neg (λh=>hL h.2)]
   exact anw
end
section
open Go.RowKit
attribute [local go_sem]zQ dI jf je gq
def Nh(s c:Int):Int:=if s=4\/6<c then 0 else c
def xu (s c f:Nat):Bool:=(rS s c f).isEmpty|| (aJ s (Nh s c) == 0 && oh (BF s (Nh s c) (rS s c f)) 1 14 == some (c,f))
theorem aei:((List.range' 1 14).all λc=>(List.range 19).all λf=>xu 1 c f)=true:=by decide +kernel
theorem aej:((List.range' 1 14).all λc=>(List.range 19).all λf=>xu 2 c f)=true:=by decide +kernel
theorem aek:((List.range' 1 14).all λc=>(List.range 19).all λf=>xu 3 c f)=true:=by decide +kernel
theorem ael:((List.range' 1 14).all λc=>(List.range 19).all λf=>xu 4 c f)=true:=by decide +kernel
theorem F8 (s c f:Int) (h:nP s c f=0):rS s c f≠[]/\placeOf s (Nh s c) (rS s c f)=(c,f,0):=by
 have hs:1<=s/\s<=4:=by grind[nP]
 have hb:¬ ((c<1\/14<c)\/(f<0\/18<f)):=by grind[aa9]
 have hne:rS s c f≠[]:=by simp_all[nP,if_neg]
 refine ⟨hne,?_⟩;obtain ⟨c,rfl⟩:=kQ (show 0<=c by omega);obtain ⟨f,rfl⟩:=kQ (show 0<=f by omega);have hall:((List.range' 1 14).all λc=>(List.range 19).all λf=>xu s.toNat c f)=true:=by
  have h4:s=1\/s=2\/s=3\/s=4:=by omega
  rcases h4 with rfl|rfl|rfl|rfl;all_goals simp[aei,aej,aek,ael]
 obtain ⟨s,rfl⟩:=kQ (show 0<=s by omega);rw [gy,oW]at hall;have h2:=hall c (List.mem_range'_1.2 au);rw [oW]at h2;have h3:=h2 f (List.mem_range.2 au);grind[xu,tC]
end
section
open Go.RowKit
def kM {α:Type} (l:List α)(k:Nat):List α:=l.mapIdx λi x=>if i<k\/l.length<=i+k then(l.reverse[i]?).getD x else x
section
variable {α:Type} {l:List α} {k:Nat}
theorem lq:(kM l k).length=l.length:=NH
theorem aiR (l:List α):kM l 0=l:=by
 apply oV lq;intro i h1 h2;simp only [kM,Jh];rw [if_neg (by omega)]
theorem Z8 (h:l.length<=2*k+1):kM l k=l.reverse:=by
 apply oV (by rw [lq,Uz]);intro i h1 h2;have hi:i<l.length:=by rw [lq]at h1;exact h1
 simp only [kM,Jh];by_cases e:i<k\/l.length<=i+k;.rw [if_pos e,aO (by rw [Uz];exact hi)];rfl
 .rw [if_neg e,List.getElem_reverse];congr 1;omega
theorem afr (h:2*k+1<l.length):(kM l k)[k]?=some (l[k]'(by omega)):=by exact alu
theorem afq (h:2*k+1<l.length):(kM l k)[l.length-1-k]?=some (l[l.length-1-k]'(by omega)):=by exact alu
theorem aiS (h:2*k+1<l.length):((kM l k).set k (l[l.length-1-k]'(by omega))).set (l.length-1-k) (l[k]'(by omega))=kM l (k+1):=by
 apply oV (by rw [Rh,Rh,lq,lq]);intro i h1 h2;have hi:i<l.length:=by rw [lq]at h2;exact h2
 rw [Yw,Yw];simp only [kM,Jh];have hr:∀ x,(l.reverse[i]?).getD x=l[l.length-1-i]' au:=λx=>by rw [aO (by rw [Uz];exact hi),List.getElem_reverse];rfl
 rw [hr];by_cases e1:l.length-1-k=i
 .rw [if_pos e1,if_pos (by omega)];congr 1;omega
 .rw [if_neg e1];by_cases e2:k=i
  .rw [if_pos e2,if_pos (by omega)];congr 1;omega
  .rw [if_neg e2];by_cases e3:i<k\/l.length<=i+k;.rw [if_pos e3,if_pos (by omega)]
   .rw [if_neg e3,if_neg (by omega)]
end
def fH (e:Ev):List AV:=[.sc (.bool e.bar),.sc (.int .i64 e.val),.sc (.bool e.dot),.sc (.bool e.three),.sc (.bool e.tie),.ow 69 5 (e.stops.map bI)]
theorem fz0(av:AV):av.fz 0=av:=by cases av<;>rfl
theorem ahK (l:List (List AV)):(l.map λr=>r.map (AV.fz 0))=l:=by
 refine (Jg λr _=>?_).trans (List.map_id _);exact (Jg λx _=>fz0 x).trans (List.map_id _)
theorem acB (e:Ev):(fH e).map (AV.fz 1)=iO e:=by
 show [_,_,_,_,_,AV.ls 5 ((e.stops.map bI).map λr=>r.map (AV.fz 0))]=_;rw [ahK];rfl
theorem Gl (l:List Ev):((l.map fH).map λr=>r.map (AV.fz 1))=l.map iO:=by
 rw [Jf];exact Jg λe _=>acB e
theorem Ku(l:List Stp):∀ q∈l.map bI,∀ av∈q,av.own=false:=λq hq av hav=>by
 obtain⟨s,_,rfl⟩:=List.mem_map.1 hq;simp only [bI,NP,FK,or_false]at hav;rcases hav with rfl|rfl|rfl|rfl|rfl<;>rfl
theorem ai5 {d:Nat} {av:AV} (h:av.own=false):av.X3 d=true:=by cases d<;>cases av<;>first|rfl|cases h
theorem ug (l:List Ev):∀ r∈l.map fH,∀ av∈r,av.X3 1=true:=λr hr av hav=>by
 obtain⟨e,_,rfl⟩:=List.mem_map.1 hr;simp only [fH,NP,FK,or_false]at hav;rcases hav with rfl|rfl|rfl|rfl|rfl|rfl;.rfl
 .rfl
 .rfl
 .rfl
 .rfl
 .show ((e.stops.map bI).all λr=>r.all (AV.X3 0))=true;rw [oW];intro q hq;rw [oW];exact λx hx=>ai5 (Ku _ q hq x hx)
section
variable {P:Program} {C:Cx} {σ σ' BX:St} {o:Oper} {d:Tmp} {av:AV} {ops:Array Oper} {rest:List Oper} {Q:Exit→St→Prop} {mem:List Bool} {Mc jK:List (Nat×AO)} {e0 dB k:Nat}
theorem Tr.sub {t:List (Nat×AV)} {M M':List (Nat×AO)} {nk:Nat} (hs:bD M' M):Tr C ⟨t,M,nk⟩ ⟨t,M',nk⟩:=λG a w ok=>by
 have g:=xH hs;exact ⟨G,⟨ok.sz,ok.df,ok.tm,ok.bel,ok.fw,ok.f0,ok.f1,λk o x=>ok.ob k o (g k o x),λk o x h1 h2=>ok.my k o x (g k o h1) h2,λk o k' o' x h1 h2=>ok.dj k o k' o' x (g k o h1) (g k' o' h2),λk o x p u h1=>ok.dF k o x p u (g k o h1)⟩⟩
theorem WO.tr(h:WO P C o σ σ')(t:Tr C σ' BX):WO P C o σ BX:=λG a w ok N Q' hN=>h G a w ok N Q' λG' a' w' ok'=>by
 obtain⟨G2,ok2⟩:=t G' a' w' ok';exact hN G2 a' w' ok2
theorem aV.bdC {T e n q T' n' j0:Nat} {z:Value} {parts:Array (Nat×Operand)} {x0:Operand} {av0:AV} {akb fQ:List (List AV)} {M':List (Nat×AO)} (hm:mem.getD k false=true) (hg:o.guard=none) (ho:o.op=.buildSlice T 1 parts) (hT:P.underlying T=some (.slice e)) (hn:fZ P e=some n) (hz:(P.info? e).bind (·.zero)=some z)(hp:parts.toList=number 0 [x0]) (hb:Nat.ble (1*n) 16777216=true) (hds:o.dst=some d) (hd:Nat.blt d C.N=true) (hx:σ.ev x0=some av0) (hcB:av0.l7=true) (hcl:av0.cells.length=n) (hc1:av0.cells.all AV.xO=true) (hcj:av0.cells[j0]?=some (.sl q)) (hc0:L8 j0 0 av0.cells=true)(hq:look q σ.M=some (.row T' n' akb)) (hqn:Nat.beq σ.nk q=false) (he:[av0.cells.set j0 (.ow T' n' akb)]=fQ) (hM:bD M' (((σ.new (.rV e n [av0.cells] 0 j0 (.sl q))).drop q).upd σ.nk (.jO e n fQ)).M) (hs:bD Mc M') (hsB:Nat.blt k e0=true->bD jK M')(r:aV P C ops mem Mc jK e0 dB (k+1) rest ⟨(d,.sl σ.nk)::σ.t,M',σ.nk+1⟩ Q):aV P C ops mem Mc jK e0 dB k (o::rest) σ Q:=by
 have hen:o9 o.dst true (.sl σ.nk)=[(d,.sl σ.nk)]:=by rw [hds];rfl
 refine aV.wr (.sl σ.nk) hm (pY (xZ _)) hs hsB ⟨hg,λt H=>?_⟩ (by rw [hen];exact r);rw [hen];have hmem:x0∈o.op.operands.toList:=by simp_all[number,Op.operands]
 have h1:=WO.buildO (P:=P) (C:=C) (σ:=⟨t,σ.M,σ.nk⟩) ho hT hn hz hp hb hds hd ((kC H hmem).trans hx) hcB hcl hc1 hcj (λs x hs hx=>G9 hc0 s x au hx) rfl;refine WO.tr h1 ?_;have hlq:look q ((σ.nk,AO.rV e n [av0.cells] 0 j0 (.sl q))::σ.M)=some (.row T' n' akb):=by grind[ah,Nat.beq_refl]
 have h2:=Tr.close_ (C:=C) (σ:=(((⟨t,σ.M,σ.nk⟩:St).new (.rV e n [av0.cells] 0 j0 (.sl q))).put d (.sl σ.nk))) (m:=q) (i:=0) (j:=j0) (rows:=[av0.cells]) (r:=av0.cells) (fQ:=fQ) σ.nk aB hlq hqn rfl (List.getElem?_eq_some_iff.1 hcj).1 (by rw [← he];rfl);exact Tr.trans h2 (Tr.sub hM)
theorem aV.apM {T e n RY q1 q2 e2:Nat} {z:Value} {i:TypeInfo} {x y:Operand} {rows fQ rows':List (List AV)} {M':List (Nat×AO)} (hm:mem.getD k false=true) (hg:o.guard=none) (ho:o.op=.call { callee:=.builtin .append,args:=#[x,y],argTypes:=#[T,T] }) (hT:P.underlying T=some (.slice e))(hi:P.info? e=some i) (hz:i.zero=some z) (hn:i.size=n) (hby:i.bytes=RY) (hzs:z.cells.size=n) (h0:Nat.blt 0 n=true) (hds:o.dst=some d) (hd:Nat.blt d C.N=true)(hx:σ.ev x=some (.sl q1)) (hk:look q1 σ.M=some (.jO e n rows)) (hy:σ.ev y=some (.sl q2)) (hq:look q2 σ.M=some (.jO e2 n fQ)) (hkq:Nat.beq q1 q2=false) (hb1:rows.length+fQ.length<=1000000000) (hb2:Nat.ble RY 100000=true) (hrr:rows++fQ=rows')(hM:bD M' (((σ.drop q1).drop q2).new (.jO e n rows')).M) (hs:bD Mc M') (hsB:Nat.blt k e0=true->bD jK M')(r:aV P C ops mem Mc jK e0 dB (k+1) rest ⟨(d,.sl σ.nk)::σ.t,M',σ.nk+1⟩ Q):aV P C ops mem Mc jK e0 dB k (o::rest) σ Q:=by
 have hen:o9 o.dst true (.sl σ.nk)=[(d,.sl σ.nk)]:=by rw [hds];rfl
 refine aV.wr (.sl σ.nk) hm (pY (xZ _)) hs hsB ⟨hg,λt H=>?_⟩ (by rw [hen];exact r);rw [hen];have hmem:∀ q∈[x,y],q∈o.op.operands.toList:=λq hq=>by simp_all[Op.operands,Call.operands]
 have h1:=WO.acj (P:=P) (C:=C) (σ:=⟨t,σ.M,σ.nk⟩) ho hT hi hz hn hby hzs h0 hds hd ((kC H (hmem x (by simp))).trans hx) hk ((kC H (hmem y (by simp))).trans hy) hq hkq rfl hb1 hb2 hrr;exact WO.tr h1 (Tr.sub hM)
end
theorem ai9 {p:bV} (h:awc p=false):jh p:=by
 unfold awc at h;simp only [Bool.or_eq_false_iff,dO,List.any_eq_false]at h;obtain⟨h1,h2,h3,h4⟩:=h;refine⟨by omega,by omega,by omega,λk hk=>?_⟩;have:=h4 _ (gB hk);simp at this;exact this
section
variable {P:Program} {C:Cx} {σ:St}
def auk (P:Program)(σ:St):Op->Option (TypeId×List (List AV)×Nat×Nat)
 | .load T x =>match σ.ev x with
  | some (.pt k i j) =>match look k σ.M with
   | some (.row _ _ rows)=>some (T,rows,i,j)| some (.jO _ _ rows)=>some (T,rows,i,j)| _=>none
  | _=>none
 | _=>none
theorem ao5 {o:Oper} {T:TypeId} {rows:List (List AV)} {i j:Nat} {r:List AV} {av:AV} (h:auk P σ o.op=some (T,rows,i,j))(hi:rows[i]?=some r)(ht:Yd P T (r.drop j)=some av):WV P C o σ av:=by
 unfold auk at h;split at h
 .rename_i T' x ho;split at h
  .rename_i k i' j' hx;split at h
   .rename_i T2 n rows' hk;cases h;have hf:(AO.row T2 n rows).from_ i j=some (r.drop j):=by simp [AO.from_,hi]
    exact KY ho hx (by simp only [WJ,hk,hf];exact ht)
   .rename_i T2 n rows' hk;cases h;have hf:(AO.jO T2 n rows).from_ i j=some (r.drop j):=by simp [AO.from_,hi]
    exact KY ho hx (by simp only [WJ,hk,hf];exact ht)
   .cases h
  .cases h
 .cases h
variable {ops:Array Oper} {o:Oper} {rest:List Oper} {d:Tmp} {Q:Exit→St→Prop}
theorem WL.lda {T:TypeId} {rows:List (List AV)} {i j:Nat} {r:List AV} {av:AV} (hd:ji C.N o=some d)(h:auk P σ o.op=some (T,rows,i,j))(hi:rows[i]?=some r)(ht:Yd P T (r.drop j)=some av)(k:WL P C ops rest (σ.put d av) Q):WL P C ops (o::rest) σ Q:=WL.vl hd (ao5 h hi ht) k
end
end
end Go.Proofs.YthohlofpphjofaaGreatDoor
