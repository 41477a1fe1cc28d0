/- A walk that knows values as trees: a function that defers one function literal, which recovers. -/
import Derived.Test.YthohlofpphjofaaGreatDoorEd0Lq
set_option maxHeartbeats 8000000
set_option maxRecDepth 100000
set_option linter.unusedVariables false
set_option linter.unusedSimpArgs false
namespace Go.Proofs.YthohlofpphjofaaGreatDoor
theorem abL {p:Prop}(h:p:=by rcases aiY hs with rfl|rfl|rfl|rfl<;>first|rfl|exact absurd rfl h4):p:=h
section
open Go.RowKit
theorem ade:∀ (ls:List (List UInt8))(tl:List UInt8),y5 (ls++[tl])=aC 32 ls tl
 | [],tl=>by show tl++[]=tl;rw [xX]| l::ls,tl=>by
  rw [iL,← ade ls tl];cases ls with
  | nil=>rfl| cons x r=>rfl
theorem Xn (t:List UInt8):y5 (aZ 32 t)=t:=by simp[aZ,ade,lF]
theorem apq {s:Int} {sg:List UInt8} {v i:Nat} (h:jP (D6 s sg) 0 8=some (v,i)):v<=7/\i<3/\(v≠0\/i=0)/\Ec s v i=true/\tW v i=sg:=by grind[Na,xQ,D6]
theorem axD {v i:Nat} (hv:v<=7) (hi:i<3) (h:v≠0\/i=0):qG v (DY i) (BI i)=true/\Y3 (DY i) (BI i)=i:=by
 have h3:i=0\/i=1\/i=2:=by omega
 rcases h3 with rfl|rfl|rfl
 .refine ⟨?_,rfl⟩;grind[qG,DY,BI]
 .refine ⟨?_,rfl⟩;grind[qG,BI]
 .refine ⟨?_,rfl⟩;grind[qG,DY]
section
variable {s:Int} {p:bV} {i:Int} {e:Ev}
theorem an8:yA s p i e=headW s e++(if e.tie=true then [[126]] else if e.stops.length=0 then [[37]] else EU s (λc=>ak p.evs i c) (nO s p) e.stops):=rfl
structure NwX (s:Int) (L:Int->Nat) (x:NC):Prop where
 sg:qG x.v (DY x.i) (BI x.i)=true
 sI:Y3 (DY x.i) (BI x.i)=x.i
 tie:x.tie=true->x.l=[]asc:eX x.l
 st:∀ y∈x.l,NwS s L (jv s L y)
theorem Z5 {s:Int} {a b:List (List UInt8)} (h:fJ s a=fJ s b):a=b:=by grind[fJ,List.reverse_inj]
theorem apo {t:List UInt8} {x:NC} (hs:1<=s/\s<=4) (hf:dQ s (aA s p.cs) t=some x) (hh:∀ y∈x.l,NwH s (λc=>ak p.evs i c) y) :colS s p i (dJ x λy=>xK s (ak p.evs i y.1) y.2.2.2.2)=t/\qV s p i (dJ x λy=>xK s (ak p.evs i y.1) y.2.2.2.2)=[]/\NwX s (λc=>ak p.evs i c) x:=by
 obtain ⟨n6,n4⟩:aA s p.cs<=6/\(s=4->aA s p.cs=0):=by grind[aA]
 have Cc:=Xn t;unfold dQ at hf;obtain ⟨ws,hws⟩:∃ z,aZ 32 t=z:=⟨_,rfl⟩;rw [hws] at hf Cc;obtain ⟨bar,W,hbar,hW,hf⟩:∃ bar W,ws=(if bar=true then [[124]] else [])++W/\True/\iW s (aA s p.cs) bar W=some x:=by grind
 obtain ⟨sg,w1,r1,rfl⟩:∃ sg w1 r1,W=sg::w1::r1:=by match W,hf with
  | [],hf=>cases hf| [_],hf=>cases hf| sg::w1::r1,_=>simp
 have hf2:(jP (D6 s sg) 0 8).bind (λx=>jC s (aA s p.cs) bar x.1 x.2 (w1::r1))=some x:=hf;obtain ⟨⟨v,k⟩,hsc,hb⟩:=Option.bind_eq_some_iff.1 hf2;dsimp only at hb;obtain ⟨s1,s2,s3,s4,s5⟩:=apq hsc;obtain ⟨g1,g2⟩:=axD s1 s2 s3;have hB:x.bar=bar/\x.v=v/\x.i=k/\(x.tie=true->x.l=[]/\s≠4)/\(x.tie=false->x.l=[]->s≠3)/\eX x.l/\(∀ y∈x.l,NwS s (λc=>ak p.evs i c) (jv s (λc=>ak p.evs i c) y)) /\(if x.tie=true then [[126]] else if x.l=[] then [[37]] else EU s (λc=>ak p.evs i c) (aA s p.cs) (x.l.map (jv s λc=>ak p.evs i c)))=w1::r1:=by
  unfold jC at hb;split at hb
  .rename_i q;cases hb;exact ⟨rfl,rfl,rfl,λ_=>⟨rfl,q.2⟩,λh=>(by cases h),List.Pairwise.nil,λy hy=>(FK hy).elim,by simp_all⟩
  .split at hb
   .rename_i q;cases hb;exact ⟨rfl,rfl,rfl,λh=>(by cases h),λ_ _=>q.2,List.Pairwise.nil,λy hy=>(FK hy).elim,by rw [if_neg (λh=>by cases h),if_pos rfl];exact q.1.symm⟩
   .obtain ⟨l,hl,e⟩:=Option.map_eq_some_iff.1 hb;subst e;obtain ⟨c1,c2,c3,c4⟩:=aiV (L:=λc=>ak p.evs i c) hs n6 n4 (show nM s (aA s p.cs) (fJ s (w1::r1))=some l from hl) hh (λc=>IB p.evs i c);refine ⟨rfl,rfl,rfl,λh=>(by cases h),λ_ h=>absurd h c4,c3,λy hy=>c2 _ (List.mem_map.2 ⟨y,hy,rfl⟩),?_⟩;show (if false=true then [[126]] else if l=[] then [[37]] else _)=_;rw [if_neg (by decide),if_neg c4];rw [← auC] at c1;exact Z5 c1
 obtain ⟨e1,e2,e3,e4,e5,e6,e7,e8⟩:=hB;have hstops:(dJ x λy=>xK s (ak p.evs i y.1) y.2.2.2.2).stops=x.l.map (jv s λc=>ak p.evs i c):=rfl;refine ⟨?_,?_,⟨by rw [e2,e3];exact g1,by rw [e3];exact g2,λh=>(e4 h).1,e6,e7⟩⟩
 .unfold colS;rw [an8,hstops];have hh2:headW s (dJ x λy=>xK s (ak p.evs i y.1) y.2.2.2.2)=(if bar=true then [[124]] else [])++[sg]:=by
   unfold headW;show (if x.bar=true then [[124],tW x.v (Y3 (DY x.i) (BI x.i))] else [tW x.v (Y3 (DY x.i) (BI x.i))])=_;rw [e1,e2,e3,g2,s5];cases bar<;>rfl
  have hb2:(if (dJ x λy=>xK s (ak p.evs i y.1) y.2.2.2.2).tie=true then [[126]] else if (x.l.map (jv s λc=>ak p.evs i c)).length=0 then [[37]] else EU s (λc=>ak p.evs i c) (nO s p) (x.l.map (jv s λc=>ak p.evs i c)):List (List UInt8))=w1::r1:=by
   rw [← e8];show (if x.tie=true then _ else _)=_;by_cases q:x.l=[];.rw [q];rfl
   .rw [if_neg (show ¬ (x.l.map (jv s λc=>ak p.evs i c)).length=0 by rw [bK];exact λh=>q (sN h)),if_neg q];rfl
  rw [hh2,hb2,← Cc,hbar,vg];rfl
 .rw [KR];have a1:lk1 s i (dJ x λy=>xK s (ak p.evs i y.1) y.2.2.2.2).val=[]:=by
   show lk1 s i (x.v:Int)=[];unfold lk1;by_cases q:(x.v:Int)=0
   .rw [if_pos q];have h4:s≠4:=by
     intro h;rw [h] at s4;unfold Ec at s4;rw [if_pos (by omega)] at s4;simp at s4
    exact abL
   .rw [if_neg q]
  have a2:lk2 s i (dJ x λy=>xK s (ak p.evs i y.1) y.2.2.2.2).three=[]:=by
   show lk2 s i (BI x.i)=[];unfold lk2;by_cases q:BI x.i=true
   .rw [if_pos q];have hk:k=2:=by rw [e3] at q;unfold BI at q;simpa using q
    have h4:s≠4:=by
     intro h;rw [h,hk] at s4;unfold Ec at s4;rw [if_neg (by omega)] at s4;simp at s4
    exact abL
   .rw [if_neg q]
  have a3:lk3 s i (dJ x λy=>xK s (ak p.evs i y.1) y.2.2.2.2).tie (dJ x λy=>xK s (ak p.evs i y.1) y.2.2.2.2).stops.length=[]:=by
   rw [hstops,bK];show lk3 s i x.tie x.l.length=[];unfold lk3;by_cases q:x.tie=true
   .rw [if_pos q];have h4:=(e4 q).2;exact abL
   .rw [if_neg q];by_cases q2:x.l.length=0
    .rw [if_pos q2];have h3:=e5 wF (sN q2);rcases aiY hs with rfl|rfl|rfl|rfl<;>first|rfl|exact absurd rfl h3
    .rw [if_neg q2]
  rw [a1,a2,a3,hstops];show (x.l.map (jv s λc=>ak p.evs i c)).flatMap (jF s i λc=>ak p.evs i c)=[];rw [List.flatMap_eq_nil_iff];intro y hy;obtain ⟨z,hz,rfl⟩:=List.mem_map.1 hy;have hk:=(e7 z hz).k;unfold stK iJ at hk;simp only [gG] at hk;unfold jF;rw [hk.1.1.1,hk.1.1.2,hk.1.2,hk.2];rfl
end
section
variable {C:Cx} {σ:St}
theorem Tr.acJ (k d:Nat) {T n:Nat} {rows rows':List (List AV)} (hk:look k σ.M=some (.jO T n rows)) (hs:∀ r∈rows,∀ av∈r,av.X3 d=true) (hr:(rows.map λr=>r.map (AV.fz d))=rows'):Tr C σ (σ.upd k (.row T n rows')):=λG a w ok=>by
 obtain ⟨hkn,_,hb1,hb2,hb3⟩:=ok.ob k _ hk;obtain ⟨h1,vs,Φ,h2,h3,h4,h5,h6,h7,h8,h9⟩:=hb3;classical
 let F':View:=λp=>if ∃ i j,Φ i j p.block then w.cell? p else G.F p;have hF:G.F.le F':=λp u h=>by
  show (if _ then _ else _)=_;rw [if_neg (λe=>by obtain ⟨i,j,e⟩:=e;exact ok.dF k _ p.block p u hk (h6 i j _ e).1 h rfl)];exact h
 have hFn:∀ p u,F' p=some u->G.F p=some u\/((∃ i j,Φ i j p.block)/\w.cell? p=some u):=λp u h=>by
  have h:(if ∃ i j,Φ i j p.block then w.cell? p else G.F p)=some u:=h;by_cases e:∃ i j,Φ i j p.block;.rw [if_pos e] at h;exact .inr ⟨e,h⟩
  .rw [if_neg e] at h;exact .inl h
 let G':Gh:={ (G.fpk k λx=>(G.h k).ownBlock=some x) with F:=F' };have hle:G.le G' σ.nk:=⟨hF,λ_ _=>rfl,λ_ _=>rfl,λ_ _=>rfl⟩;have hfs:G'.fp k=λx=>(G.h k).ownBlock=some x:=qR;have hfo:∀ q,q≠k->G'.fp q=G.fp q:=λq h=>lW h;have hl:∀ i o,look i (σ.upd k (.row T n rows')).M=some o->(i=k/\o=.row T n rows')\/(i≠k/\look i σ.M=some o):=λi o hx=>by
  by_cases e:i=k
  .subst e;rw [show look i (σ.upd i (.row T n rows')).M=some (.row T n rows') from aB] at hx;cases hx;exact .inl ⟨rfl,rfl⟩
  .rw [show look i (σ.upd k (.row T n rows')).M=look i σ.M from ah e] at hx;exact .inr ⟨e,hx⟩
 have hφ:∀ i o x,look i (σ.upd k (.row T n rows')).M=some o->G'.fp i x->∃ o0,look i σ.M=some o0/\G.fp i x:=λi o x h e=>by
  rcases hl i o h with⟨rfl,rfl⟩|⟨e1,y⟩;.rw [hfs] at e;exact ⟨_,hk,h5 x e⟩
  .rw [hfo i e1] at e;exact ⟨_,y,e⟩
 refine ⟨G',ok.sz,ok.df,λi av h=>⟨(ok.tm i av h).1,(ok.tm i av h).2.1,(ok.tm i av h).2.2.mono hle (ok.tm i av h).2.1⟩,ok.bel,λp u h=>?_,λp u h=>hF p u (ok.f0 p u h),λp u h=>?_,λi o h=>?_,λi o x a1 a2=>?_,λi o i' o' x a1 a2 a3 a4=>?_,λi o x p u a1 a2 a3=>?_⟩;.exact amq
 .rcases hFn p u h with h|⟨⟨i,j,h⟩,_⟩;.exact ok.f1 p u h
  .exact .inr (ok.my k _ _ hk (h6 i j _ h).1).1
 .rcases hl i o h with⟨rfl,rfl⟩|⟨e,y⟩
  .refine ⟨hkn,trivial,hb1,hb2,?_⟩;rw [hfs,← hr];refine ⟨λr hrm=>?_,vs,λ_ _ _=>False,h2,by rw [bK];exact h3,h4,λg hg=>hg,λ_ _ _ h=>h.elim,λ_ _ _ _ _ h=>h.elim,λq r r' b1 b2=>?_,λq r r' j av u b1 b2 b3 b4=>?_⟩
   .obtain ⟨r0,h0,rfl⟩:=List.mem_map.1 hrm;rw [bK];exact h1 r0 h0
   .rw [dw] at b1;cases h0:rows[q]? with
    | none=>simp [h0] at b1| some r0 =>
     simp only [h0,oG,Option.some.injEq] at b1;subst b1;rw [bK];exact h8 q r0 r' h0 b2
   .rw [dw] at b1;cases h0:rows[q]? with
    | none=>simp [h0] at b1| some r0 =>
     simp only [h0,oG,Option.some.injEq] at b1;subst b1;rw [dw] at b3;cases hj0:r0[j]? with
     | none=>simp [hj0] at b3| some av0 =>
      simp only [hj0,oG,Option.some.injEq] at b3;subst b3;have x:OW G.F w av0 u (Φ q j):=h9 q r0 r' j av0 u h0 b2 hj0 b4;exact OW.fix hF d x (λp hp=>if_pos ⟨q,j,hp⟩) (hs r0 (cZ h0) av0 (cZ hj0))
  .obtain ⟨a1,a2,a3⟩:=ok.ob i o y;exact ⟨a1,a2,a3.keep hle a1 a2 (hfo i e) λ_ _=>rfl⟩
 .obtain ⟨o0,b1,b2⟩:=hφ i o x a1 a2;exact ok.my i o0 x b1 b2
 .obtain ⟨o0,b1,b2⟩:=hφ i o x a1 a3;obtain ⟨o1,c1,c2⟩:=hφ i' o' x a2 a4;exact ok.dj i o0 i' o1 x b1 c1 b2 c2
 .obtain ⟨o0,b1,b2⟩:=hφ i o x a1 a2;rcases hFn p u a3 with h|⟨⟨q,j,h⟩,_⟩;.exact ok.dF i o0 x p u b1 b2 h
  .intro e;rw [e] at h;have hik:=ok.dj i o0 k _ x b1 hk b2 (h6 q j _ h).1;subst hik;rw [hfs] at a2;exact (h6 q j _ h).2 a2
end
theorem abg (e:En) (t:List UInt8):bC Tryz.prog 127 [.ag (yZ e),.pr [.sc (.string (bs t))]] (.sc (.bool (e.t == t))):=by
 refine dV Tryz.func127 Tryz.ntmps127 λw0 F0=>?_;dsimp only [St.init,number,Nat.reduceAdd];exact Dc
theorem aoS (b:List En) (t:List UInt8) (hb:b.length<=100000):bC Tryz.prog 126 [.ls 5 (b.map yZ),.fn 127 [.pr [.sc (.string (bs t))]]] (.sc (.int .i64 (agK b t))):=by
 refine dV Tryz.func126 Tryz.ntmps126 λw0 F0=>?_;dsimp only [St.init,number,Nat.reduceAdd];refine aya ?_;refine W.loop (λk:Nat=>k<=b.length/\∀ i (hi:i < k) (h:i < b.length),b[i].t≠t) (λk=>⟨[(0,.ls 5 (b.map yZ)),(1,.fn 127 [.pr [.sc (.string (bs t))]]),(7,.sc (.int .i64 b.length)),(8,.sc (.int .i64 k))],[],0⟩) (λk=>b.length - k) 0 ⟨by omega,λi hi=>by omega⟩ (zqt id) λk hk=>?_;obtain ⟨hk,hno⟩:=hk;by_cases hlt:k < b.length
 .refine fP ?_;refine WL.vl rfl (WV.Ii (dD _) rfl (aj Tryz.func127 rfl rfl) rfl rfl rfl rfl rfl (abg b[k] t).g) ?_;by_cases he:b[k].t=t
  .have e:(b[k].t == t)=true:=by rw [he];simp
   have hn:=adL hlt (λi hi=>hno i hi au) he;have hI:agK b t=k:=by unfold agK;rw [hn,if_pos hlt]
   rw [e,hI];refine fP ?_;exact W.ret kR
  .have e:(b[k].t == t)=false:=by simpa using he
   rw [e];refine fP ?_;exact ali
 .have hI:agK b t=-1:=by
   refine if_neg λh=>?_;have:=Hz h;exact hno _ (by omega) h (by simpa using this)
  rw [hI];refine fP ?_;exact W.ret kR
theorem agJ (b:List En) (t:List UInt8) (hb:b.length<=100000):bC Tryz.prog 72 [.ls 5 (b.map yZ),.sc (.string (bs t))] (.sc (.int .i64 (agK b t))):=by
 refine dV Tryz.func72 Tryz.ntmps72 λw0 F0=>?_;dsimp only [St.init,number,Nat.reduceAdd];refine H7 ?_;refine WL.vl rfl (WV.mkf rfl rfl) ?_;refine H7 ?_;refine WL.vl rfl (WV.air (dD _) rfl (aj Tryz.func126 rfl rfl) rfl rfl rfl rfl rfl rfl Aw (aoS b t hb).g) ?_;refine H7 ?_;exact W.ret kR
section
variable {B:World→View→Prop} {gl:Nat} {P:Program} {C:Cx} {σ:St} {G:Gh} {a:Act} {w:World}
theorem Ok.atj (ok:Ok C σ G a w):∀ {xs:List Operand} {l:List AV},σ.evs xs=some l->∀ (i:Nat)x,l[i]?=some x->Bd σ.nk x:=λ{xs}=>by induction xs with
 | nil=>intro l h i x hx;cases h;simp at hx| cons y r ih =>
  intro l h i x hx;unfold St.evs at h;cases h1:σ.ev y with
  | none=>simp [h1]at h| some av =>cases h2:σ.evs r with
   | none=>simp [h1,h2]at h| some l' =>
    simp [h1,h2]at h;subst h;cases i with
    | zero=>cases hx;exact (ok.l9 h1).1| succ i=>exact ih h2 i x (by simpa using hx)
theorem WV.mkb {f:FuncId} {o:Oper} {xs:Array Operand} {caps:List AV} (ho:o.op=.makeFunc (.func f) xs #[]) (hx:σ.evs xs.toList=some caps):WV P C o σ (.fn (f+1000000) caps) :=WV.val (λG a w ok=>.fn _ _ (ok.atj hx)) λG a w ok=>by
  obtain ⟨e1,e2⟩:=ok.evl hx;refine ⟨fnV (f+1000000) (xs.map a.eval),by unfold execOp;rw [ato];simp [ho,Instr.makeFunc],.fn _ _ _ (by simpa using e1) λi av u p q=>e2 i av u p (by rw [← q];simp)⟩
theorem ahj {f:FuncId} {o:Oper} {y:Operand} {ts:Array TypeId} {cs:Array Value} {R':Ending->World->Prop} {N:Act->World->Prop} {Q':Exit->Act->World->Prop} (ho:o.op=.call { callee:=.value y,args:=#[],argTypes:=ts })(hc:∀ vs w,(callFunc f vs).run P w=.ok (.enter f vs) w)(ey:a.eval y=.func (.func f) cs #[])(h:Calls P f cs.toList.toArray w R')(hN:∀ e w1,R' e w1->∃ v,e=.returned v/\N (a.put o.dst v) w1):o.wp P a w N Q':=by
 refine Jr ?_;have e3:(cs++(#[]:Array Operand).map a.eval++#[]:Array Value)=cs.toList.toArray:=by apply AQ;simp
 simp only [ho,resolve,ey,Deferred.ofValue,invoke,Sem.run_bind,Sem.run_pure,Result.andThen_ok,hc,Oper.upon,e3];refine h.mono λe w1 hr=>?_;obtain⟨v,rfl,hn⟩:=hN e w1 hr;exact hn
def awf (σ:St):Op->Option (FuncId×List AV)
 | .call { callee:=.value y,args:=⟨[]⟩,argTypes:=_ } =>match σ.ev y with
  | some (.fn g caps)=>bif Nat.blt g 1000000 then none else some (g-1000000,caps)| _=>none
 | _=>none
variable {ops:Array Oper} {o:Oper} {rest:List Oper} {Q:Exit→St→Prop} {d:Tmp}
theorem WL.ctb (hB:Holds B gl C) {f:FuncId} {args args':List AV} {res res':AV} {M M' M2:List (Nat×AO)} {nk bP n2:Nat} {t:List (Nat×AV)} {M0:List (Nat×AO)} {n0:Nat} (ks:List Nat) (hg:o.guard=none) (he:awf ⟨t,M0,n0⟩ o.op=some (f,args')) (hc:∀ vs w,(callFunc f vs).run P w=.ok (.enter f vs) w)(h:jr B gl P f args M nk res M' bP) (hks:ksB ks nk n0=true) (ha:args.map (AV.ren (rhoC ks nk n0))=args') (hp:args.all (AV.inn nk)=true) (hM:Vl ⟨t,M0,n0⟩ (rhoC ks nk n0) nk M)(hq:(Nat.ble nk bP && M'.all (λx=>x.2.inn bP) && M'.all (λx=>Nat.blt x.1 bP) && res.inn bP && Il C.N o.dst)=true) (hr:res.ren (rhoC ks nk n0)=res') (hM2:DR (rhoC ks nk n0) M'++Fb ks M0=M2) (hn2:n0+(bP - nk)=n2)(k:WL P C ops rest ((⟨t,M2,n2⟩:St).set o.dst res') Q):WL P C ops (o::rest) ⟨t,M0,n0⟩ Q:=by
 subst hM2 hn2;simp only [gG] at hq;refine WL.op hg ?_ k;unfold awf at he;split at he
 .rename_i y ts ho;split at he
  .rename_i g caps hy;cases hb:Nat.blt g 1000000 with
   | true=>rw [hb] at he;cases he| false =>
    rw [hb] at he;have he:some (g - 1000000,caps)=some (f,args'):=he;obtain ⟨e1,e2⟩:=Prod.mk.inj (Option.some.inj he);subst e1 e2;intro G a w ok N Q' hN;obtain ⟨cs,ey,h1,h2⟩:=(ok.l9 hy).2.Cb;have ey2:a.eval y=.func (.func (g - 1000000)) cs #[]:=by rw [ey];unfold fnV;rw [hb];rfl
    refine ahj ho hc ey2 (ok.awn hB ks (vs:=cs.toList) (by rw [Ut];exact h1) (λi av u p q=>h2 i av u p wF) h hks ha hp hM hq.1.1.1.1 hq.1.1.1.2 hq.1.1.2 hq.1.2 hr) λe w1 ⟨v,yu,he,ok',hr',hb⟩=>⟨v,he,hN _ _ _ (ok'.set hr' hb (zB hq.2))⟩
  .cases he
 .cases he
end
def Vh (P:Program)(f:FuncId)(args:List AV)(M:List (Nat×AO))(nk:Nat)(u u':FrameMode)(M':List (Nat×AO)):Prop :=∀ (w:World)(G:Gh)(vs:List Value),Y6 G w M nk->vs.length=args.length->(∀ (i:Nat) av u,args[i]?=some av->vs[i]?=some u->R G av u) ->CallsD P f vs.toArray u w λe u2 w'=>u2=u'/\∃ v G',e=.returned v/\Kept (yE G M) w w'/\View.le G.F G'.F/\(∀ p u,G'.F p=some u->G.F p=some u\/w.heap.size<=p.block\/yE G M p.block)/\Y6 G' w' M' nk /\(∀ k o x,look k M'=some o->G'.fp k x->w.heap.size<=x\/yE G M x)/\(∀ k,k<nk->G'.b k=G.b k/\G'.n k=G.n k/\G'.h k=G.h k)
theorem Vh.intro {P:Program} {f:FuncId} {fn:Func} {id:Nat} {o:Oper} {d:Tmp} {c:Code} {args:List AV} {M:List (Nat×AO)} {nk:Nat} {res:AV} {M':List (Nat×AO)} {u u':FrameMode} {rv:Value} (hf:P.funcs[f]?=some fn) (hb:fn.body=some (.seq (.region id #[o] false) c)) {N:Nat} (hN:fn.ntmps=N) (hn:args.length<=N)(hp:args.all (AV.inn nk)=true) (hg:o.guard=none) (hd:o.dst=some d) (hdN:Nat.blt d N=true) (ho:∀ (a:Act) w,(execOp a.eval o).run P w=.ok .recover w)(hrec:∀ (c₀:Frame) (cs:List Frame),c₀.mode=u->recoverD (c₀::cs)=some (rv,{ c₀ with mode:=u' }::cs)\/(recoverD (c₀::cs)=none/\rv=.nilIface/\u'=u))(h:∀ w0 F0 fp pg,W P ⟨w0,F0,N,fp,nk,pg,[]⟩ c ⟨(d,.sc rv)::number 0 args,M,nk⟩ (nR P fn ⟨w0,F0,N,fp,nk,pg,[]⟩ res M' nk)):Vh P f args M nk u u' M':=by
 intro w G vs hO hl hR;subst hN;refine callsD_of_wpS hf hb λc₀ cs hu=>?_;refine wpS_seq (wpS_region ?_);have ok0:Ok ⟨w,G.F,fn.ntmps,yE G M,nk,G,[]⟩ ⟨number 0 args,M,nk⟩ G { tmps:=vs.toArray++Array.replicate (fn.ntmps - vs.toArray.size) undef,defers:=[] } w :=⟨by simp;omega,⟨rfl,Nat.le_refl _,λk _=>⟨rfl,rfl,rfl⟩⟩,λi av hx=>by
   obtain ⟨_,h2⟩:=kX args 0 i av hx;simp only [CP] at h2;have hi:i < args.length:=(List.getElem?_eq_some_iff.1 h2).1;have hv:i < vs.length:=by omega
   refine ⟨by show i < fn.ntmps;omega,Gv (List.all_eq_true.1 hp av (cZ h2)),hR i av _ h2 ?_⟩;simp [dU,FN,hv],Kept.refl _ _,hO.fw,λ_ _ h=>h,λ_ _ h=>.inl h,hO.ob,(λk o x h1 h2=>⟨.inr ⟨k,o,h1,h2⟩,hO.my k o x h1 h2⟩),hO.dj,hO.dF⟩;have ok1:=ok0.set (d:=some d) (av:=.sc rv) (v:=rv) (.pu _ _ (.sc _)) (.sc _) (λx hx=>by cases hx;exact dn hdN);have h1:=h w G.F (yE G M) G G _ w ok1;have hw:∀ y,Region.wanted o y=true:=λy=>by unfold Region.wanted;rw [hg]
 have hfin:∀ u2,u2=u'->Code.wpS P c (bodyPostS P fn c₀ cs λe u2 w'=>u2=u'/\∃ v G',e=.returned v/\Kept (yE G M) w w'/\View.le G.F G'.F/\(∀ p u,G'.F p=some u->G.F p=some u\/w.heap.size<=p.block\/yE G M p.block)/\Y6 G' w' M' nk /\(∀ k o x,look k M'=some o->G'.fp k x->w.heap.size<=x\/yE G M x)/\(∀ k,k < nk->G'.b k=G.b k/\G'.n k=G.n k/\G'.h k=G.h k)) (({ tmps:=vs.toArray++Array.replicate (fn.ntmps - vs.toArray.size) undef,defers:=[] }:Act).put o.dst rv) ({ c₀ with mode:=u2 }::cs) w:=λu2 e2=>by
  subst e2;rw [hd];refine wpS_of_wp (wp_mono h1 λe a w' ⟨σ,G1,⟨he,hfin⟩,ok⟩=>?_);obtain ⟨v,G',hr,ok',hbd,hres⟩:=hfin G1 a w' ok;rcases he with rfl|rfl;all_goals exact ⟨ok'.df.1,_,rfl,v,hr,rfl,v,G',rfl,ok'.bel,ok'.f0,ok'.f1,⟨ok'.fw,ok'.ob,λk o x h1 h2=>(ok'.my k o x h1 h2).2,ok'.dj,ok'.dF⟩,λk o x h1 h2=>(ok'.my k o x h1 h2).1,ok'.df.2.2⟩
 show wpOpsS P #[o] _ [0] _ _ _;unfold wpOpsS;simp only [abv,List.getElem?_cons_zero,hw,if_true,ho];rcases hrec c₀ cs hu with e|⟨e,rfl,e2⟩
 .rw [e];exact hfin _ rfl
 .rw [e];exact hfin c₀.mode (hu.trans e2.symm)
def afa:Exit->Option FrameMode
 | .normal|.ret=>some .returning| .panic ch=>some (.panicking ch)| _=>none
section
variable {P:Program} {C:Cx} {σ:St} {G:Gh} {a:Act} {w:World}
theorem avo (ok:Ok C σ G a w) (hds:C.ds=[]) {id:Nat} {o1 o2:Oper} {Q:Exit->Act->World->Prop} {f:FuncId} {xs:Array Operand} {caps:List AV} {d1:Tmp} (hg1:o1.guard=none) (ho1:o1.op=.makeFunc (.func f) #[] xs) (hd1:o1.dst=some d1) (hN:Nat.blt d1 C.N=true) (hx:σ.evs xs.toList=some caps)(hg2:o2.guard=none) (ho2:o2.op=.defer { callee:=.value (.tmp d1),args:=#[],argTypes:=#[] }) (hd2:o2.dst=none)(h:∀ G' a' w' cs,Ok ⟨C.w0,C.F0,C.N,C.fp,σ.nk,G',[⟨.fn (.func f) cs,#[]⟩]⟩ (σ.put d1 (.fn f caps)) G' a' w'->cs.size=caps.length->(∀ (i:Nat) av u,caps[i]?=some av->cs[i]?=some u->R G' av u)->Q .normal a' w') (hfl:Nat.blt f 1000000=true) :(Code.region id #[o1,o2] false).wp P Q a w:=by
 refine wp_region_lit (l:=[o1,o2]) ?_;refine wpList_plain hg1 λK hK=>?_;refine WO.adh hd1 hN (WV.mkf ho1 hx hfl) G a w ok K _ λG' a' w' ok'=>hK _ _ ?_;refine wpList_plain hg2 λK' hK'=>?_;have hs:(σ.put d1 (.fn f caps)).ev (.tmp d1)=some (.fn f caps):=aB;obtain ⟨cs,e,h1,h2⟩:=(ok'.l9 hs).2.Cb;rw [Zj hfl] at e;refine Jr ?_;have e3:(#[]++(#[]:Array Operand).map a'.eval:Array Value)=#[]:=by simp
 simp only [ho2,resolve,e,Deferred.ofValue,Sem.run_bind,Sem.run_pure,Result.andThen_ok,Oper.upon,e3];refine hK' _ _ (wpList_nil ?_);refine h G' _ w' cs ?_ h1 h2;rw [hd2];exact ⟨ok'.sz,⟨by show _::a'.defers=_;rw [ok'.df.1,hds],Nat.le_refl _,λk _=>⟨rfl,rfl,rfl⟩⟩,ok'.tm,ok'.bel,ok'.fw,ok'.f0,ok'.f1,ok'.ob,ok'.my,ok'.dj,ok'.dF⟩
theorem Ok.as6 {T:List (Nat×AV)} {Mi Mf:List (Nat×AO)} {nk:Nat} {w':World} {G':Gh} (ok:Ok C ⟨T,Mi,nk⟩ G a w) (h1:Kept (yE G Mi) w w') (h2:View.le G.F G'.F) (h3:∀ p u,G'.F p=some u->G.F p=some u\/w.heap.size<=p.block\/yE G Mi p.block) (h4:Y6 G' w' Mf nk)(h5:∀ k o x,look k Mf=some o->G'.fp k x->w.heap.size<=x\/yE G Mi x) (h6:∀ k,k<nk->G'.b k=G.b k/\G'.n k=G.n k/\G'.h k=G.h k):Ok C ⟨T,Mf,nk⟩ G' a w':=by
 have hmay:∀ x,w.heap.size<=x\/yE G Mi x->C.may x:=λx hx=>hx.elim (λh=>.inl (gX ok.bel.size h)) λ⟨k,o,g1,g2⟩=>(ok.my k o x g1 g2).1;have hle:G.le G' nk:=⟨h2,λk hk=>(h6 k hk).1,λk hk=>(h6 k hk).2.1,λk hk=>(h6 k hk).2.2⟩;refine ⟨ok.sz,⟨ok.df.1,ok.df.2.1,λk hk=>?_⟩,λi av h=>?_,ok.bel.on h1 λx hx=>hmay x (.inr hx),h4.fw,λp u x=>h2 p u (ok.f0 p u x),λp u x=>?_,h4.ob,λk o x g1 g2=>⟨hmay x (h5 k o x g1 g2),h4.my k o x g1 g2⟩,h4.dj,h4.dF⟩
 .obtain ⟨g1,g2,g3⟩:=ok.df.2.2 k hk;obtain ⟨e1,e2,e3⟩:=h6 k (oD hk ok.df.2.1);exact ⟨e1.trans g1,e2.trans g2,e3.trans g3⟩
 .obtain ⟨g1,g2,g3⟩:=ok.tm i av h;exact ⟨g1,g2,g3.mono hle g2⟩
 .rcases h3 p u x with g|g;.exact ok.f1 p u g
  .exact .inr (hmay _ g)
end
def az8(n:Nat):AV->Bool
 | .pt k _ _=>Nat.blt k n| _=>false
theorem jB.aue {B:World->View->Prop} {g:Nat} (hS:RN B g) {P:Program} {f fD:FuncId} {fn:Func} {c0 c1 c2:Code} {id:Nat} {o1 o2:Oper} {args caps:List AV} {res:AV} {xs:Array Operand} {d1:Tmp} {σ0 σ1:St} {T:List (Nat×AV)} {Mi Mf:List (Nat×AO)} {u u':FrameMode} {nk:Nat} (hf:P.funcs[f]?=some fn) (hb:fn.body=some (c0.seq (c1.seq ((Code.region id #[o1,o2] false).seq c2)))) {N:Nat} (hN:fn.ntmps=N) (hn:args.length<=N) (hp:∀ (i:Nat) av,args[i]?=some av->Bd 0 av)(hg1:o1.guard=none) (ho1:o1.op=.makeFunc (.func fD) #[] xs) (hd1:o1.dst=some d1) (hdN:Nat.blt d1 N=true) (hx:σ1.evs xs.toList=some caps) (hg2:o2.guard=none) (ho2:o2.op=.defer { callee:=.value (.tmp d1),args:=#[],argTypes:=#[] }) (hd2:o2.dst=none) (hnk:σ1.nk=nk) (hcap:caps.all (az8 nk)=true)(hcf:∀ vs w,(callFunc fD vs).run P w=.ok (.enter fD vs) w)(h0:∀ w0 F0,Holds B g ⟨w0,F0,N,λ_=>False,0,G0,[]⟩->W P ⟨w0,F0,N,λ_=>False,0,G0,[]⟩ c0 (St.init args) (λe s=>e=.normal/\Tr ⟨w0,F0,N,λ_=>False,0,G0,[]⟩ s σ0))(h1:∀ w0 F0,Holds B g ⟨w0,F0,N,λ_=>False,0,G0,[]⟩->W P ⟨w0,F0,N,λ_=>False,0,G0,[]⟩ c1 σ0 (λe s=>e=.normal/\Tr ⟨w0,F0,N,λ_=>False,0,G0,[]⟩ s σ1))(h2:∀ w0 F0 pg ds,Holds B g ⟨w0,F0,N,λ_=>False,nk,pg,ds⟩->W P ⟨w0,F0,N,λ_=>False,nk,pg,ds⟩ c2 (σ1.put d1 (.fn fD caps)) (λe s=>afa e=some u/\Tr ⟨w0,F0,N,λ_=>False,nk,pg,ds⟩ s ⟨T,Mi,nk⟩))(hD:Vh P fD caps Mi nk u u' Mf) (hs:settle u'=.returning) (hR:∀ C,Fin P fn C ⟨T,Mf,nk⟩ res) (hfl:Nat.blt fD 1000000=true:=by rfl):jB B P f args res:=by
 intro w F vs hB hF hRL;subst hN hnk;refine calls_of_wp_defers hf hb ?_;have hsz:vs.toArray.size=args.length:=by simpa using hRL.1
 have hH:∀ np pg ds,Holds B g ⟨w,F,fn.ntmps,λ_=>False,np,pg,ds⟩:=λnp pg ds=>⟨λw2 F2 k1 k2=>hS.2 w w2 F F2 (λi hi=>k1.block i (oD hi (hS.1 w F hB)) λh=>h) k2 hB,λx hx=>hx.elim (λh=>gX (hS.1 w F hB) h) λh=>h.elim⟩;have ok0:Ok ⟨w,F,fn.ntmps,λ_=>False,0,G0,[]⟩ (St.init args) ⟨F,λ_=>0,λ_=>0,λ_=>undef,λ_ _=>False⟩ { tmps:=vs.toArray++Array.replicate (fn.ntmps - vs.toArray.size) undef,defers:=[] } w :=⟨by simp;have:=hRL.1;omega,⟨rfl,Nat.le_refl _,λk hk=>absurd hk (Yz k)⟩,λi av hx=>by
   obtain ⟨_,h2⟩:=kX args 0 i av hx;simp only [CP] at h2;have hi:i < args.length:=(List.getElem?_eq_some_iff.1 h2).1;have hv:i < vs.length:=by rw [hRL.1];exact hi
   refine ⟨by show i < fn.ntmps;omega,hp i av h2,.pu _ _ (hRL.2 i av _ h2 ?_)⟩;simp [dU,FN,hv],Kept.refl _ _,hF,λ_ _ h=>h,λ_ _ h=>.inl h,(λk o h=>by cases h),(λk o x h=>by cases h),(λk o k' o' x h=>by cases h),(λk o x p u h=>by cases h)⟩;refine wp_seq (wp_mono (h0 w F (hH _ _ _) _ _ _ ok0) λe a1 w1 ⟨s1,G1',⟨he,hs1⟩,aAm⟩=>?_);subst he;obtain ⟨G1,ok1⟩:=hs1 _ _ _ aAm;refine wp_seq (wp_mono (h1 w F (hH _ _ _) _ _ _ ok1) λe a2 w2 ⟨s2,G2',⟨he,hs2⟩,aAn⟩=>?_);subst he;obtain ⟨G2,ok2⟩:=hs2 _ _ _ aAn;refine wp_seq (avo ok2 rfl hg1 ho1 hd1 hdN hx hg2 ho2 hd2 (λG3 a3 w3 cs ok3 hcs hcR=>?_) hfl);refine wp_mono (h2 w F G3 _ (hH _ _ _) G3 a3 w3 ok3) λe a4 w4 ⟨s4,G4,⟨he,htr⟩,ok4⟩=>?_;obtain ⟨G5,ok5⟩:=htr G4 a4 w4 ok4;have hun:u≠.run:=by intro e2;subst e2;cases e<;>cases he
 have hl:Leaves P fn a4.tmps (λe w'=>∃ v F',e=.returned v/\Below w.heap.size w w'/\View.le F F'/\(∀ p u,F' p=some u->w'.cell? p=some u)/\(∀ p u,F' p=some u->F p=some u\/w.heap.size<=p.block)/\RP F' res v) a4.defers u w4:=by
  rw [ok5.df.1];refine leaves_cons (f:=fD) (args:=cs) hun ?_ ?_;.simp [invoke,hcf]
  have hO:Y6 G5 w4 Mi σ1.nk:=⟨ok5.fw,ok5.ob,λk o x g1 g2=>(ok5.my k o x g1 g2).2,ok5.dj,ok5.dF⟩;have hRc:∀ (i:Nat) av u,caps[i]?=some av->cs.toList[i]?=some u->R G5 av u:=λi av u g1 g2=>by
   have r:=hcR i av u g1 (by simpa using g2);have hpt:=List.all_eq_true.1 hcap av (cZ g1);cases av with
   | pt k i j =>
    have hk:k < σ1.nk:=dn hpt;obtain ⟨p,rfl,e1,e2,e3⟩:=r.lu;obtain ⟨q1,q2,_⟩:=ok5.df.2.2 k hk;exact .pt k i j p (e1.trans q1.symm) (e2.trans (by rw [q2])) e3| _=>cases hpt
  have hc:=hD w4 G5 cs.toList hO (by simpa using hcs) hRc;rw [Array.toArray_toList] at hc;refine hc.mono λe2 u2 w5 ⟨hu2,v,G6,he2,k1,k2,k3,k4,k5,k6⟩=>?_;subst hu2 he2;show Leaves P fn a4.tmps _ [] (settle u2) w5;rw [hs];have ok6:=ok5.as6 k1 k2 k3 k4 k5 k6;obtain ⟨v,F',hr,hle,hfw,hnew,hres⟩:=hR _ G6 a4 w5 ok6;exact ⟨v,hr,v,F',rfl,ok6.bel.Yh (λ_ h=>h),λp u x=>hle p u (ok6.f0 p u x),hfw,λp u x=>(hnew p u x).elim (λy=>(ok6.f1 p u y).elim .inl λz=>.inr (z.elim (λh=>h) λh=>h.elim)) λz=>.inr (z.elim (λh=>h) λh=>h.elim),hres⟩
 cases e with
 | normal=>cases he;exact hl| ret=>cases he;exact hl| panic ch=>cases he;exact hl| _=>cases he
end
end Go.Proofs.YthohlofpphjofaaGreatDoor
