/- What Check answers of a piece: the plain part. -/
import Derived.Test.YthehkchjdkdbiaaGreatDoorFBKq
import Derived.Test.YthehkchjdkdbiaaGreatDoorSymKq
import Derived.Test.YthehkchjdkdbiaaGreatDoorRefKq
import Derived.Test.YthehkchjdkdbiaaGreatDoorPLgKq
set_option maxHeartbeats 1600000
set_option maxRecDepth 100000
set_option linter.unusedVariables false
set_option linter.unusedSimpArgs false
namespace Go.Proofs.YthehkchjdkdbiaaGreatDoor
theorem Qw {p:Prop}(h:p:=by simpa using b):p:=h
theorem XF {p:Prop}(h:p:=by unfold maxLen;omega):p:=h
theorem rU {p:Prop}(h:p:=by simp [hx]):p:=h
theorem Il {p:Prop}(h:p:=by rw [← hl];exact hx):p:=h
section
variable {p:Prop}
theorem al2(h:p:=by
 have hbL:(n == L)=false:=by simpa using hL
 exact aaQ):p:=h
theorem alS(h:p:=by
 subst h0
 go_enter Tryz.func329,Tryz.ntmps329
 go_wp2
 exact uY):p:=h
theorem Gt(h:p:=by
 rw [if_pos h2]at h;cases h):p:=h
theorem aaQ(h:p:=by
 rw [e2]
 clear e0 e1 e2 hL
 go_enter Tryz.func329,Tryz.ntmps329
 go_wp2
 exact uY):p:=h
theorem TP(h:p:=by
 simp only [aY];omega):p:=h
theorem akp(h:p:=by
 split at x
 ·split at x
  ·cases x;exact .sl _ (wQ _)
  ·cases x
 ·exact g2 i av x):p:=h
theorem amf(h:p:=by
 go_enter Tryz.func86,Tryz.ntmps86
 go_wp2
 go_ret
 exact⟨rfl,rfl⟩):p:=h
theorem ame(h:p:=by
 rw [if_neg (by omega),if_neg (by omega)]):p:=h
theorem XU(h:p:=by
 go_enter Tryz.func50,Tryz.ntmps50
 go_wp2
 go_ret2
 exact⟨rfl,rfl⟩):p:=h
end
section
open Go.RowKit
theorem UN:∀ (v:List Value)(off:Nat)(cells:Array Value),off+v.length≤cells.size→(v.zipIdx.foldl (fun cs (c,j)=>cs.setIfInBounds (off+j) c) cells).toList=jQ off v cells.toList:=by
 have key:∀ (v:List Value)(off s:Nat)(cells:Array Value),off+s+v.length≤cells.size→(v.zipIdx s|>.foldl (fun cs (x:Value×Nat)=>cs.setIfInBounds (off+x.2) x.1) cells).toList=jQ (off+s) v cells.toList:=by
  intro v
  induction v with
  | nil =>
   intro off s cells h
   rw [oD _ _ _ rP]
   simp
  | cons x r ih =>
   intro off s cells h
   rw [List.zipIdx_cons,MJ,ih off (s+1) _ (by simp at h ⊢;omega)]
   have hlen:off+s+(r.length+1)≤cells.size:=by simpa [H8] using h
   have hl:off+s<cells.toList.length:=by simp;omega
   apply List.ext_getElem?
   intro i
   rw [lS (by simp;omega),lS (by simp;omega),Array.toList_setIfInBounds,iw]
   by_cases h2:i=off+s
   ·subst h2
    rw [if_neg (by omega),if_pos (by omega),rM hl,H9];rfl
   ·rw [uf (fun e=>h2 e.symm)]
    by_cases h3:off+s+1≤i∧i<off+s+(r.length+1)
    ·rw [if_pos (by omega),if_pos (by omega),show i-(off+s)=(i-(off+(s+1)))+1 by omega,List.getElem?_cons_succ]
    ·exact ame
 intro v off cells h
 have:=key v off 0 cells rP
 exact ng
theorem ae2 {α:Type} (l m rest:List α)(off:Nat)(h:off=l.length)(done:List α)(hl:m.length≤rest.length):jQ off m (l++rest)=l++m++rest.drop m.length:=by
 subst h
 rw [oD _ _ _ (by simp;omega),S9,List.drop_append]
 simp
theorem OI {size:Nat}:∀ (vs:List Value) (q:Nat) (done rest:List Value),done.length=q*size→rest.length=vs.length*size→(∀ v∈vs,v.cells.size=size) →
  Instr.fill (fun i=>some (i*size,size)) (done++rest).toArray (number q vs)=some (done++(vs.map fun v=>v.cells.toList).flatten).toArray
 | [],q,done,rest,hd,hr,_=>by
  have:rest=[]:=oN (by simpa using hr)
  subst this
  simp [number,Instr.fill]
 | v::vs,q,done,rest,hd,hr,hv=>by
  have h1:v.cells.size=size:=hv v (by simp)
  have hle:size≤rest.length:=by rw [hr,iw,Bv];omega
  have hb:(v.cells.size≠size|| q*size+v.cells.size > (done++rest).toArray.size)=false:=by
   rw [h1];simp [hd];omega
  have hf:=UN v.cells.toList (q*size) (done++rest).toArray (by simp [h1,hd];omega)
  have e:(v.cells.zipIdx.foldl (fun cs (c,j)=>cs.setIfInBounds (q*size+j) c) (done++rest).toArray)=((done++v.cells.toList)++rest.drop size).toArray:=by
   apply Bz
   rw [← Array.foldl_toList,Array.toList_zipIdx,hf]
   have:=ae2 done v.cells.toList rest (q*size) hd.symm done (by simpa [h1] using hle)
   simp only [List.toList_toArray] at this ⊢
   rw [this]
   simp [h1]
  have ih:=OI vs (q+1) (done++v.cells.toList) (rest.drop size) (by simp [hd,h1,Bv]) (by simp [hr,Bv]) fun x hx=>hv x rU
  show (match some (q*size,size) with|none=>none|some (off,sz)=>if v.cells.size≠sz|| off+v.cells.size > (done++rest).toArray.size then none else Instr.fill _ _ (number (q+1) vs))=_
  simp only
  rw [hb]
  simp only [Eo,BA]
  rw [e,ih]
  simp
section
variable {P:Program} {C:Cx} {σ σ':St} {G G':Gh} {a:Act} {w w':World} {o:Oper} {d:Tmp}
theorem Lr {T e n m:Nat} {z:Value} {vs:List Value} {parts:Array (Nat×Value)} (hT:P.underlying T=some (.slice e)) (hn:iE P e=some n) (hz:(P.info? e).bind (·.zero)=some z) (hp:parts.toList=number 0 vs) (hm:vs.length=m) (hv:∀ v∈vs,v.cells.size=n) (hb:m*n≤16777216) (w:World) :
  (Instr.buildSlice T m parts).run P w=.ok (.slice (some ⟨w.heap.size,0,none⟩) m m) (w.alloc (.cells (vs.map fun v=>v.cells.toList).flatten.toArray e)):=by
 cases hi:P.info? e with
 | none=>simp [hi] at hz
 | some i =>
  simp [hi] at hz
  have apu:∀ zero:Array Value,Instr.fill (fun i=>some (i*n,n)) ((Array.range (m*n)).map (zero[· % zero.size]!)) parts.toList=some (vs.map fun v=>v.cells.toList).flatten.toArray:=fun zero=>by
   have:=OI (size:=n) vs 0 [] ((Array.range (m*n)).map (zero[· % zero.size]!)).toList (by simp) (by simp [hm]) hv
   rw [hp]
   have e0:((Array.range (m*n)).map (zero[· % zero.size]!))=([]++((Array.range (m*n)).map (zero[· % zero.size]!)).toList).toArray:=by rw [ug,aan]
   rw [e0];exact this
  have h2:¬ (m*n > 2 ^ 24):=by simp;omega
  unfold Instr.buildSlice
  by_cases h0:m*n=0
  ·simp only [Sem.run_bind,run_underlying hT,Result.andThen_ok,kH hn,if_neg h2,if_pos h0,Sem.run_pure,apu,newRow,run_newObj]
   rfl
  ·simp only [Sem.run_bind,run_underlying hT,Result.andThen_ok,kH hn,if_neg h2,if_neg h0,Sem.run_pure,zeroValue,typeInfo,run_program,hi,hz,apu,newRow,run_newObj]
   rfl
def P6(n:Nat)(l:List AV):Bool:=l.all fun av=>av.mD && Nat.beq av.cells.length n && av.cells.all AV.yN && av.cells.all AV.Ui
theorem Cm {α β:Type} (f:α→β):∀ (n:Nat)(l:List α),(number n l).map (fun x=>(x.1,f x.2))=number n (l.map f)
 | _,[]=>rfl
 | n,x::r=>by simp [number,Cm f (n+1) r]
def VP {α:Type}:Nat→List (Nat×α)→Bool
 | _,[]=>true
 | n,x::r=>Nat.beq x.1 n && VP (n+1) r
theorem abX {α:Type}:∀ (n:Nat)(l:List (Nat×α)),VP n l=true→l=number n (l.map (·.2))
 | _,[],_=>rfl
 | n,x::r,h=>by
  simp only [VP,aW] at h
  rw [wR,number,← abX (n+1) r h.2,← dW h.1]
theorem WO.arO {T e n m q:Nat} {z:Value} {parts:Array (Nat×Operand)} {xs:List Operand} {bI:List AV} {rows:List (List AV)} (ho:o.op=.buildSlice T m parts) (hT:P.underlying T=some (.slice e)) (hn:iE P e=some n) (hz:(P.info? e).bind (·.zero)=some z)
  (hp:parts.toList=number 0 xs) (hm:xs.length=m) (hb:Nat.ble (m*n) 16777216=true) (hb1:Nat.ble m 16777216=true) (hds:o.dst=some d) (hd:Nat.blt d C.N=true) (hx:σ.evs xs=some bI) (hck:P6 n bI=true) (hr:bI.map AV.cells=rows) (hq:σ.nk=q) :
  WO P C o σ ((σ.new (.row e n rows)).put d (.sl q)):=by
 intro G a w ok N Q' hN
 obtain ⟨e1,e2⟩:=ok.evl hx
 have anp:∀ av∈bI,av.mD=true∧av.cells.length=n∧av.cells.all AV.yN=true∧av.cells.all AV.Ui=true:=fun av hav=>by
  have:=List.all_eq_true.1 hck av hav
  simp only [aW] at this
  exact ⟨this.1.1.1,dW this.1.1.2,this.1.2,this.2⟩
 have hv:∀ v∈xs.map a.eval,v.cells.size=n:=fun v hv=>by
  obtain ⟨i,hi,rfl⟩:=eu hv
  have hi2:i<bI.length:=by omega
  obtain ⟨c1,c2,_⟩:=anp _ (dS hi2)
  rw [(sN (e2 i _ _ (aI hi2) (aI hi)) c1).1,c2]
 have hlm:(xs.map a.eval).length=m:=by simpa using hm
 have hrun:=Lr (P:=P) (T:=T) (e:=e) (n:=n) (m:=m) (vs:=xs.map a.eval) (parts:=parts.map fun (i,x)=>(i,a.eval x)) hT hn hz (by
  have:=Cm a.eval 0 xs
  rw [← this,← hp];simp) hlm hv (bU hb) w
 have hvs:((xs.map a.eval).map fun v=>v.cells.toList).length=rows.length:=by rw [← hr];simp only [aH] at e1 ⊢;exact e1
 have hown:=PI w e n m ((xs.map a.eval).map fun v=>v.cells.toList).flatten.toArray (by unfold maxLen;have:=bU hb1;omega) (by
  rw [Qj,uG (size:=n) (fun r hr=>by obtain ⟨v,hv',rfl⟩:=List.mem_map.1 hr;simpa using hv v hv')]
  simp [hm])
 have ag6:∀ r∈(xs.map a.eval).map fun v=>v.cells.toList,∀ u∈r,u.oneCell'=true :=
  (fun r hr' u hu=>by
   obtain ⟨v,hv',rfl⟩:=List.mem_map.1 hr'
   obtain ⟨i,hi,rfl⟩:=eu hv'
   have hi2:i<bI.length:=by omega
   obtain ⟨c1,c2,c3,_⟩:=anp _ (dS hi2)
   obtain ⟨d1,d2⟩:=sN (e2 i _ _ (aI hi2) (aI hi)) c1
   obtain ⟨j,hj,rfl⟩:=eu hu
   have hj2:j<(bI[i]).cells.length:=by rw [← d1];simpa using hj
   exact Jb (d2 j _ _ (aI hj2) (by simp at hj;simp [hj])) (List.all_eq_true.1 c3 _ (dS hj2)))
 have hrel:∀ (i:Nat) r r',rows[i]?=some r→((xs.map a.eval).map fun v=>v.cells.toList)[i]?=some r'→RL G.F r r' :=
  (fun i r r' h1 h2=>by
   rw [← hr,bT] at h1
   rw [bT] at h2
   cases q1:bI[i]? with
   | none=>simp [q1] at h1
   | some av =>
    cases q2:(xs.map a.eval)[i]? with
    | none=>simp [q2] at h2
    | some v =>
     simp [q1] at h1
     simp only [q2,oM,Option.some.injEq] at h2
     subst h1 h2
     obtain ⟨c1,c2,_,c4⟩:=anp av (cO q1)
     obtain ⟨d1,d2⟩:=sN (e2 i av v q1 q2) c1
     exact ⟨by simpa using d1,fun j x u hx hu=>(zo (List.all_eq_true.1 c4 x (cO hx)) 0).rp (d2 j x u hx Nh)⟩)
 have hsl:(.slice (some ⟨w.heap.size,0,none⟩) m m:Value).ownBlock=some w.heap.size:=rfl
 have ok':=ok.newObj (w':=w.alloc (.cells ((xs.map a.eval).map fun v=>v.cells.toList).flatten.toArray e)) (S:=fun _=>False) (b:=w.heap.size) (n:=n) (h:=.slice (some ⟨w.heap.size,0,none⟩) m m) (φ:=fun x=>x=w.heap.size) (ob:=.row e n rows)
  (Kept.below ((Below.refl _ _).alloc (bJ _) _)) (fun _ h=>h.elim) (fun _ _ _ _ _ h=>h) (fun _ _ _ h=>h)
  ⟨x9,(fun g hg=>by rw [iL,hsl] at hg;rw [xZ];exact (Option.some.inj hg).symm),by
   rw [iL,vN]
   refine ⟨fun r hr'=>by rw [← hr] at hr';obtain ⟨av,hav,rfl⟩:=List.mem_map.1 hr';exact (anp av hav).2.1,(xs.map a.eval).map fun v=>v.cells.toList,fun _ _ _=>False,?_,hvs,?_,fun g hg=>by rw [hsl] at hg;exact (Option.some.inj hg).symm,
    fun _ _ _ h=>h.elim,fun _ _ _ _ _ h=>h.elim,fun i r r' h1 h2=>(hrel i r r' h1 h2).1,fun i r r' j av u h1 h2 h3 h4=>(hrel i r r' h1 h2).2 j av u h3 h4⟩
   ·have:((xs.map a.eval).map fun v=>v.cells.toList).length=m:=by simpa using hlm
    rw [this]
    exact CJ (by simpa using hown) (gU _)
   ·exact ag6⟩ trivial (fun x hx=>by
   obtain rfl:x=w.heap.size:=hx
   refine ⟨.inl ok.bel.size,by simp,fun k o h1 h2=>?_,fun p u h1 h2=>?_⟩
   ·have:=(ok.my k o _ h1 h2).2;omega
   ·have:=aN (ok.fw p u h1);omega)
 refine lJ ?_
 simp only [ho,Sem.run_bind,hrun,Result.andThen_ok,Sem.run_pure,Oper.upon]
 rw [hds]
 subst hq
 exact hN _ _ _ (ok'.set (d:=some d) (av:=.sl σ.nk) (v:=.slice (some ⟨w.heap.size,0,none⟩) m m) (uS rfl) (.sl _ (wQ _)) fun x hx=>by cases hx;exact dP hd)
theorem WO.build {T e n m q:Nat} {z:Value} {parts:Array (Nat×Operand)} {bI:List AV} {rows:List (List AV)} (ho:o.op=.buildSlice T m parts) (hT:P.underlying T=some (.slice e)) (hn:iE P e=some n) (hz:(P.info? e).bind (·.zero)=some z)
  (hp:VP 0 parts.toList=true) (hm:parts.toList.length=m) (hb:Nat.ble (m*n) 16777216=true) (hb1:Nat.ble m 16777216=true) (hds:o.dst=some d) (hd:Nat.blt d C.N=true) (hx:σ.evs (parts.toList.map (·.2))=some bI) (hck:P6 n bI=true) (hr:bI.map AV.cells=rows) (hq:σ.nk=q) :
  WO P C o σ ((σ.new (.row e n rows)).put d (.sl q)) :=
 WO.arO ho hT hn hz (abX 0 _ hp) (by simpa using hm) hb hb1 hds hd hx hck hr hq
end
def Jc (P:Program)(T:TypeId):Option (List (Nat×Nat)) :=
 match P.underlying T with
 | some (.struct fields)=>fields.toList.mapM fun f=>(P.info? f.type).map fun i=>(f.offset,i.size)
 | _=>none
def Gw (places:List (Nat×Nat)):List AV→List (Nat×AV)→Option (List AV)
 | cells,[]=>some cells
 | cells,(i,av)::r =>
  match places[i]? with
  | some (off,sz)=>bif av.mD && Nat.beq av.cells.length sz && Nat.ble (off+sz) cells.length then Gw places (jQ off av.cells cells) r else none
  | none=>none
def pairUp:List (Nat×Operand)→List AV→List (Nat×AV)
 | (i,_)::r,av::s=>(i,av)::pairUp r s
 | _,_=>[]
section
variable {P:Program} {C:Cx} {σ σ':St} {G G':Gh} {a:Act} {w w':World} {o:Oper} {d:Tmp} {ops:Array Oper} {Q:Exit→St→Prop}
theorem UJ {places:List (Nat×Nat)}:∀ (parts:List (Nat×AV)) (vals:List (Nat×Value)) (cells:List AV) (cs:Array Value) (l:List AV),Gw places cells parts=some l→vals.length=parts.length →
  (∀ (q:Nat) x y,parts[q]?=some x→vals[q]?=some y→y.1=x.1∧R G x.2 y.2)→cs.size=cells.length→(∀ (i:Nat) x u,cells[i]?=some x→cs[i]?=some u→R G x u) →
  ∃ cs',Instr.fill (places.toArray[·]?) cs vals=some cs'∧cs'.size=l.length∧∀ (i:Nat) x u,l[i]?=some x→cs'[i]?=some u→R G x u
 | [],vals,cells,cs,l,h,hl,_,hs,hc=>by
  cases h
  have:vals=[]:=oN hl
  subst this
  exact ⟨cs,rfl,hs,hc⟩
 | (i,av)::r,[],cells,cs,l,h,hl,_,hs,hc=>by cases hl
 | (i,av)::r,(j,v)::vr,cells,cs,l,h,hl,hp,hs,hc=>by
  obtain ⟨e1,e2⟩:=hp 0 _ _ rfl rfl
  simp only at e1 e2
  subst e1
  unfold Gw at h
  cases hpl:places[j]? with
  | none=>simp [hpl] at h
  | some x =>
   obtain ⟨off,sz⟩:=x
   simp only [hpl] at h
   cases hb:av.mD && Nat.beq av.cells.length sz && Nat.ble (off+sz) cells.length with
   | false=>rw [hb] at h;cases h
   | true =>
    rw [hb] at h
    simp only [cond_true] at h
    simp only [aW] at hb
    obtain ⟨⟨b1,b2⟩,b3⟩:=hb
    have b2:=dW b2
    have b3:=bU b3
    obtain ⟨c1,c2⟩:=sN e2 b1
    have hfit:off+v.cells.toList.length≤cs.size:=by rw [hs];simp [c1,b2];omega
    have apv:off+av.cells.length≤cells.length:=by omega
    obtain ⟨cs',f1,f2,f3⟩:=UJ r vr (jQ off av.cells cells) (jQ off v.cells.toList cs.toList).toArray l h (by simpa using hl) (fun q x y a b=>hp (q+1) x y (by simpa using a) Qw)
     (by rw [Qj,oG (by simpa using hfit),oG apv];simpa using hs)
     (fun q x u a b=>aiA (R G) apv (by rw [aao];exact c1) (by rw [aao];exact hs) (fun q x y a b=>c2 q x y a Qw) (fun q x y a b=>hc q x y a Qw) q x u a Qw)
    refine ⟨cs',?_,f2,f3⟩
    have hf:=UN v.cells.toList off cs hfit
    have e:(v.cells.zipIdx.foldl (fun cs (c,j)=>cs.setIfInBounds (off+j) c) cs)=(jQ off v.cells.toList cs.toList).toArray:=by
     apply Bz
     rw [← Array.foldl_toList,Array.toList_zipIdx,hf]
    have hpl':places.toArray[j]?=some (off,sz):=by simpa using hpl
    show (match places.toArray[j]? with|none=>none|some (off,sz)=>if v.cells.size≠sz|| off+v.cells.size > cs.size then none else Instr.fill _ _ vr)=_
    rw [hpl']
    simp only
    have hbad:(v.cells.size≠sz|| off+v.cells.size > cs.size)=false:=by
     rw [c1,b2];simp;rw [hs];omega
    rw [hbad]
    simp only [Eo,BA]
    rw [e];exact f1
theorem WV.build {T:TypeId} {parts:Array (Nat×Operand)} {z:Value} {places:List (Nat×Nat)} {bI l:List AV} (ho:o.op=.build T parts) (hz:(P.info? T).bind (·.zero)=some z) (hpl:Jc P T=some places)
  (hx:σ.evs (parts.toList.map (·.2))=some bI) (hf:Gw places (z.cells.toList.map .sc) (pairUp parts.toList bI)=some l):WV P C o σ (.ag l):=by
 have main:∀ G a w,Ok C σ G a w→∃ cs,(Instr.build T (parts.map fun (i,x)=>(i,a.eval x))).run P w=.ok (.agg cs) w∧cs.size=l.length∧∀ (i:Nat) x u,l[i]?=some x→cs[i]?=some u→R G x u:=by
  intro G a w ok
  obtain ⟨e1,e2⟩:=ok.evl hx
  have hlen:bI.length=parts.toList.length:=by simpa using e1.symm
  have hpu:∀ (ps:List (Nat×Operand)) (ys:List AV),ys.length=ps.length→(pairUp ps ys).length=ps.length∧∀ (q:Nat) x,(pairUp ps ys)[q]?=some x→∃ p av,ps[q]?=some p∧ys[q]?=some av∧x=(p.1,av):=by
   intro ps
   induction ps with
   | nil=>intro ys h;exact ⟨by cases ys<;>rfl,fun q x hx=>by cases ys<;>simp [pairUp] at hx⟩
   | cons p r ih =>
    intro ys h
    cases ys with
    | nil=>simp at h
    | cons av s =>
     obtain ⟨h1,h2⟩:=ih s rP
     refine ⟨by simp [pairUp,h1],fun q x hx=>?_⟩
     cases q with
     | zero=>cases hx;exact ⟨p,av,rfl,rfl,rfl⟩
     | succ q=>exact h2 q x (by simpa [pairUp] using hx)
  obtain ⟨p1,p2⟩:=hpu parts.toList bI hlen
  obtain ⟨cs',f1,f2,f3⟩:=UJ (G:=G) (pairUp parts.toList bI) (parts.toList.map fun (i,x)=>(i,a.eval x)) _ z.cells l hf (by simp [p1]) (fun q x y hxq hy=>by
   obtain ⟨p,av,q1,q2,rfl⟩:=p2 q x hxq
   rw [bT,q1] at hy
   simp at hy
   subst hy
   exact ⟨rfl,e2 q av _ q2 (by rw [oO,bT,q1];rfl)⟩) (by simp) (fun i x u hxi hu=>by
   rw [bT,show z.cells.toList[i]?=z.cells[i]? by simp,hu] at hxi
   cases hxi
   exact .pu _ _ (.sc _))
  refine ⟨cs',?_,f2,f3⟩
  apply run_build
  unfold Program.built
  cases hi:P.info? T with
  | none=>simp [hi] at hz
  | some it =>
   simp [hi] at hz
   unfold Jc at hpl
   cases hu:P.underlying T with
   | none=>simp [hu] at hpl
   | some u =>
    cases u with
    | struct fields =>
     simp only [hu] at hpl
     simp only [hz,hpl]
     simpa using f1
    | _=>simp [hu] at hpl
 refine WV.val (fun G a w ok=>?_) fun G a w ok=>?_
 ·obtain ⟨_,b2⟩:True∧∀ av∈bI,Bd σ.nk av:=⟨trivial,by
   have:∀ (xs:List Operand) (ys:List AV),σ.evs xs=some ys→∀ av∈ys,Bd σ.nk av:=by
    intro xs
    induction xs with
    | nil=>intro ys h av hav;cases h;cases hav
    | cons x r ih =>
     intro ys h av hav
     unfold St.evs at h
     cases h1:σ.ev x with
     | none=>simp [h1] at h
     | some y =>
      cases h2:σ.evs r with
      | none=>simp [h1,h2] at h
      | some l' =>
       simp [h1,h2] at h
       subst h
       rcases List.mem_cons.1 hav with rfl|hav
       ·exact (ok.nO h1).1
       ·exact ih l' h2 av hav
   exact this _ _ hx⟩
  have hfb:∀ (parts:List (Nat×AV)) (cells l:List AV),Gw places cells parts=some l→(∀ x∈parts,Bd σ.nk x.2)→(∀ (i:Nat) x,cells[i]?=some x→Bd σ.nk x)→∀ (i:Nat) x,l[i]?=some x→Bd σ.nk x:=by
   intro parts
   induction parts with
   | nil=>intro cells l h _ hc;cases h;exact hc
   | cons p r ih =>
    intro cells l h hp hc
    obtain ⟨i,av⟩:=p
    unfold Gw at h
    cases hpl:places[i]? with
    | none=>simp [hpl] at h
    | some x =>
     obtain ⟨off,sz⟩:=x
     simp only [hpl] at h
     cases hb:av.mD && Nat.beq av.cells.length sz && Nat.ble (off+sz) cells.length with
     | false=>rw [hb] at h;cases h
     | true =>
      rw [hb] at h
      simp only [aW] at hb
      have b2:=dW hb.1.2
      have b3:=bU hb.2
      refine ih _ _ h (fun x hx=>hp x rU) fun q x hx=>?_
      rw [lS (by omega)] at hx
      split at hx
      ·exact Dt (hp (i,av) (by simp)) _ x hx
      ·exact hc q x hx
  refine .ag _ (hfb _ _ _ hf (fun x hx=>?_) fun i x hx=>?_)
  ·have:∀ (ps:List (Nat×Operand)) (ys:List AV),x∈pairUp ps ys→x.2∈ys:=by
    intro ps
    induction ps with
    | nil=>intro ys h;cases ys<;>simp [pairUp] at h
    | cons p r ih =>
     intro ys h
     cases ys with
     | nil=>simp [pairUp] at h
     | cons av s =>
      rcases List.mem_cons.1 (by simpa [pairUp] using h) with rfl|h
      ·simp
      ·exact aap _ (ih s h)
   exact b2 _ (this _ _ hx)
  ·rw [bT] at hx
   cases hq:z.cells.toList[i]? with
   | none=>simp [hq] at hx
   | some u=>simp [hq] at hx;rw [← hx];exact .sc _
 ·obtain ⟨cs,h1,h2,h3⟩:=main G a w ok
  exact ⟨.agg cs,by unfold execOp;simp only [ho,Sem.run_bind,h1,Result.andThen_ok,Sem.run_pure],.ag l cs h2 h3⟩
end
def gdn(v:Value)(b:Bool):Bool :=
 match vb v with
 | some c=>!(c == b)
 | none=>true
section
variable {P:Program} {C:Cx} {σ σ':St} {G G':Gh} {a:Act} {w w':World} {o oj:Oper} {d d0:Tmp} {ops:Array Oper} {rest:List Oper} {Q:Exit→St→Prop} {j:Nat} {b c:Bool}
theorem WL.ah5 {v:Value} (hg:o.guard=some (j,b))(hj:ops[j]?=some oj)(hd0:oj.dst=some d0)(hv:look d0 σ.t=some (.sc v))(hb:gdn v b=true)(hds:o.dst=some d)(hd:Nat.blt d C.N=true)(k:WL P C ops rest (σ.put d (.sc undef)) Q):WL P C ops (o::rest) σ Q :=
 WL.opn hg hj hd0 hv (by
  unfold gdn at hb
  cases h:vb v with
  | none=>simp
  | some c=>rw [h] at hb;cases c<;>cases b<;>first|(intro h2;cases h2;done)|cases hb) hds hd k
theorem WL.apS (hg:o.guard=some (j,b)) (hj:ops[j]?=some oj) (hd0:oj.dst=some d0) (hv:look d0 σ.t=some (.sc (.bool c))) (h1:c=true→WL P C ops (o::rest) (σ.put d0 (.sc (.bool true))) Q) (h2:c=false→WL P C ops (o::rest) (σ.put d0 (.sc (.bool false))) Q):WL P C ops (o::rest) σ Q :=
 WL.part hv h1 h2
theorem W.Du {x:Operand} {p q:Code} (hc:σ.ev x=some (.sc (.bool true))) (h:W P C p σ Q):W P C (.cond x p q) σ Q:=W.cond hc (fun _=>h) (fun h=>by cases h)
theorem W.qY {x:Operand} {p q:Code} (hc:σ.ev x=some (.sc (.bool false))) (h:W P C q σ Q):W P C (.cond x p q) σ Q:=W.cond hc (fun h=>by cases h) (fun _=>h)
theorem kE {t:List (Nat×AV)} {M:List (Nat×AO)} {nk:Nat} (H:∀ q∈o.looksAt ops,look q t=look q σ.t) {x:Operand} (hx:x∈o.op.operands.toList):(⟨t,M,nk⟩:St).ev x=σ.ev x:=by
 cases x with
 | tmp q=>exact H q (aaq _ (List.mem_filterMap.2 ⟨.tmp q,hx,rfl⟩))
 | const v=>rfl
 | func f=>rfl
 | global g=>rfl
theorem ai4 {t:List (Nat×AV)} {nk:Nat} (n:Nat)(av:AV):(⟨t,σ.M,nk⟩:St).src n av=σ.src n av:=by cases av<;>rfl
theorem Ac {t:List (Nat×AV)} {M:List (Nat×AO)} {nk:Nat} (H:∀ q∈o.looksAt ops,look q t=look q σ.t):∀ {xs:List Operand},(∀ x∈xs,x∈o.op.operands.toList)→(⟨t,M,nk⟩:St).evs xs=σ.evs xs
 | [],_=>rfl
 | x::r,h=>by
  unfold St.evs
  rw [kE H (h x (by simp)),Ac H fun y hy=>h y BK]
theorem DoesM.append {T e n X7 k m:Nat} {z:Value} {i:TypeInfo} {x y:Operand} {rows fV rows':List (List AV)} {av2:AV} {M':List (Nat×AO)} {dh:Nat} (hg:o.guard=none) (ho:o.op=.call { callee:=.builtin .append,args:=#[x,y],argTypes:=#[T,T] }) (hT:P.underlying T=some (.slice e))
  (hi:P.info? e=some i) (hz:i.zero=some z) (hn:i.size=n) (hby:i.bytes=X7) (hzs:z.cells.size=n) (h0:Nat.blt 0 n=true) (hds:o.dst=some d) (hd:Nat.blt d C.N=true)
  (hx:σ.ev x=some (.sl k)) (hk:look k σ.M=some (.row e n rows)) (hy:σ.ev y=some av2) (hs:σ.src n av2=some fV) (hm:σ.nk=m) (hb1:rows.length+fV.length≤1000000000) (hb2:Nat.ble X7 100000=true) (hrr:rows++fV=rows') (hM:(m,.row e n rows')::rem k σ.M=M') (hnk:m+1=dh) :
  DoesM P C ops o σ d (.sl m) M' dh:=by
 subst hM hnk
 refine ⟨hg,fun t H=>?_⟩
 have hmem:∀ q∈[x,y],q∈o.op.operands.toList:=fun q hq=>by rw [ho];simp [Op.operands,Call.operands] at hq ⊢;exact hq
 have:=WO.append (P:=P) (C:=C) (σ:=⟨t,σ.M,σ.nk⟩) ho hT hi hz hn hby hzs h0 hds hd ((kE H (hmem x (by simp))).trans hx) hk ((kE H (hmem y (by simp))).trans hy) ((ai4 n av2).trans hs) hm hb1 hb2 hrr
 subst hm
 exact this
theorem DoesM.build {T e n m q:Nat} {z:Value} {parts:Array (Nat×Operand)} {bI:List AV} {rows:List (List AV)} {M':List (Nat×AO)} {dh:Nat} (hg:o.guard=none) (ho:o.op=.buildSlice T m parts) (hT:P.underlying T=some (.slice e)) (hn:iE P e=some n) (hz:(P.info? e).bind (·.zero)=some z)
  (hp:VP 0 parts.toList=true) (hm:parts.toList.length=m) (hb:Nat.ble (m*n) 16777216=true) (hb1:Nat.ble m 16777216=true) (hds:o.dst=some d) (hd:Nat.blt d C.N=true) (hx:σ.evs (parts.toList.map (·.2))=some bI) (hck:P6 n bI=true) (hr:bI.map AV.cells=rows) (hq:σ.nk=q) (hM:(q,.row e n rows)::σ.M=M') (hnk:q+1=dh) :
  DoesM P C ops o σ d (.sl q) M' dh:=by
 subst hM hnk
 refine ⟨hg,fun t H=>?_⟩
 have hmem:∀ x∈parts.toList.map (·.2),x∈o.op.operands.toList:=fun x hx'=>by
  rw [ho]
  simp only [Op.operands]
  exact hx'
 have:=WO.build (P:=P) (C:=C) (σ:=⟨t,σ.M,σ.nk⟩) ho hT hn hz hp hm hb hb1 hds hd ((Ac H hmem).trans hx) hck hr hq
 subst hq
 exact this
end
theorem Tr.og {C:Cx} {σ:St} {k j m:Nat} {T':TypeId} {cells cells':List AV} (T:TypeId) (n:Nat) (hk:look k σ.M=some (.box T' cells)) (hj:cells[j]?=some (.sc (.slice none 0 0))) (hm:σ.nk=m) (hc:cells.set j (.sl m)=cells') :
  Tr C σ ((σ.new (.row T n [])).upd k (.box T' cells')):=fun G a w ok=>by
 obtain ⟨G',ok',hsl⟩:=ok.nilRow T n
 subst hm hc
 have hkn:k≠σ.nk:=Nat.ne_of_lt (ok.ob k _ hk).1
 have hk':look k (σ.new (.row T n [])).M=some (.box T' cells):=by
  rw [show look k (σ.new (.row T n [])).M=look k σ.M from aj hkn];exact hk
 obtain ⟨g1,g2,g3,cs,Φ,g4,g5,g6,g7,g8⟩:=ok'.ob k _ hk'
 refine ⟨G',ok'.ae8 hk' ⟨g1,fun i av x=>?_,g3,cs,Φ,g4,by simpa using g5,g6,g7,fun i av u x y=>?_⟩⟩
 ·rw [List.getElem?_set]at x
  exact akp
 ·by_cases e:j=i
  ·subst e
   have hlt:j<cells.length:=(List.getElem?_eq_some_iff.1 hj).1
   rw [rM hlt]at x
   cases x
   have:=((g8 j _ u hj y).r rfl).fB
   rw [this];exact .inl hsl
  ·rw [uf e]at x
   exact g8 i av u x y
theorem ak {P:Program} {f:FuncId} {fn:Func} (h:P.funcs[f]?=some fn)(hn:(fn.name == "runtime.NumGoroutine")=false)(hb:fn.body.isNone=false):∀ vs w,(callFunc f vs).run P w=.ok (.enter f vs) w:=fun vs w=>by
 unfold callFunc
 simp only [Sem.run_bind,run_program,Result.andThen_ok,h,hn,hb,Eo,BA]
 rfl
theorem bZ {P:Program} {C:Cx} {o:Oper} {σ:St} {f:FuncId} {fn:Func} {xs:Array Operand} {ts:Array TypeId} {args:List AV} {res:AV} (hf:P.funcs[f]? = some fn) (h:aU P f args res) (ho:o.op = .call { callee:=.value (.func f),args:=xs,argTypes:=ts }:=by rfl) (hx:σ.evs xs.toList = some args:=by rfl) (hp:args.all AV.pu2 = true:=by rfl) (hn:(fn.name == "runtime.NumGoroutine") = false:=by rfl) (hb:fn.body.isNone = false:=by rfl):WV P C o σ res:=WV.call ho (ak hf hn hb) hx hp h
theorem Jz {P:Program} {fn:Func} {C:Cx} {σ:St} {t:Tmp} {T T':TypeId} {k n:Nat} {cells:List AV} {res:AV} (h:fn.results=#[.cell t T])(hT:yI P T=some true)(hn:iE P T=some n)(ht:look t σ.t=some (.pt k 0 0))(hk:look k σ.M=some (.box T' cells))(hl:cells.length=n)(hr:.ag cells=res)(hp:cells.all AV.Ui=true) :
  Um P fn C res .ret σ:=by
 refine⟨.inr rfl,fun G a w ok=>?_⟩
 subst hr
 obtain⟨p,ep,p1,p2,p3⟩:=(ok.tm t _ ht).2.2.lV
 obtain⟨_,_,g3,cs,Φ,g4,g5,_,_,g6⟩:=ok.ob k _ hk
 obtain rfl:=addr_eq p1 p2 p3
 rw [zI,lW] at ep
 refine⟨.agg cs,G.F,?_,fun _ _ h=>h,ok.fw,fun _ _ h=>.inl h,.ag _ _ g5 fun i av u x y=>(zo (List.all_eq_true.1 hp av (cO x)) 0).rp ((g6 i av u x y).r (acn (List.all_eq_true.1 hp av (cO x))))⟩
 unfold yI at hT
 cases hu:P.underlying T with
 | none=>simp [hu] at hT
 | some d =>
  refine results_cell_row h a.tmps w (G.b k) T' cs (0,0) d ep g4 hu ?_ ?_
  ·rw [hu] at hT;cases d<;>simp_all
  ·have:iE P T=some cs.size:=by rw [hn,g5,hl]
   exact this
theorem DI {Q Q':Exit→Act→World→Prop} (h:∀ e a w,Q e a w→Q' e a w)(k:LetsOut Q):LetsOut Q':=let⟨a,w,q⟩:=k;⟨a,w,h _ a w q⟩
theorem ajk {P:Program} {o:Oper} {a:Act} {w:World} {K K':Act→World→Prop} {Q Q':Exit→Act→World→Prop} (hk:∀ a w,K a w→K' a w)(hq:∀ e a w,Q e a w→Q' e a w)(h:o.wp P a w K Q):o.wp P a w K' Q':=by
 unfold Oper.wp at *
 generalize(execOp a.eval o).run P w=r at *
 cases r with
 | ok n w' =>
  cases n<;>simp only [Oper.upon]at h ⊢
  case value v=>exact hk _ _ h
  case skip=>exact hk _ _ h
  case defer d=>exact hk _ _ h
  case enter f args =>
   refine h.mono fun e w'' x=>?_
   cases e with
   | returned v=>exact hk _ _ x
   | panicked c=>exact hq _ _ _ x
   | outgrown=>exact DI hq x
  case row r args=>exact h.mono fun v w'' x=>hk _ _ x
 | halt x w' =>
  cases x<;>simp only [Oper.upon]at h ⊢
  exact hq _ _ _ h
theorem su {P:Program} {ops:Array Oper} {Q Q':Exit→Act→World→Prop}:∀ {l:List Oper} {a:Act} {w:World},wpList P ops Q l a w→(∀ e a w,Q e a w→Q' e a w)→wpList P ops Q' l a w
 | [],a,w,h,hq=>hq _ _ _ h
 | o::rest,a,w,h,hq=>by
  unfold wpList at *
  split at h
  ·rename_i hw
   rw [if_pos hw]
   rcases h with h|⟨h1,h2⟩
   ·exact .inl (ajk (fun a w x=>su x hq) hq h)
   ·exact .inr ⟨h1,DI hq h2⟩
  ·rename_i hw
   rw [if_neg hw]
   exact su h hq
theorem W.meet {P:Program} {C:Cx} {σ:St} {Q Q2:Exit→St→Prop} {x y:Code} (σm:St)(h:W P C x σ (kD (fun s=>Tr C s σm) Q))(k:W P C y σm Q2):W P C x σ (kD (fun s=>W P C y s Q2) Q) :=
 W.mono h fun e s q=>by
  cases e with
  | normal=>exact W.tr q k
  | _=>exact q
theorem WL.apL {P:Program} {C:Cx} {σ:St} {ops:Array Oper} {l:List Oper} {Q Q1 Q2:Exit→St→Prop} {x y:Code} (σm:St)(h:WL P C ops l σ (kD (fun s=>W P C x s (kD (fun s=>Tr C s σm) Q)) Q1))(k:W P C y σm Q2) :
  WL P C ops l σ (kD (fun s=>W P C x s (kD (fun s=>W P C y s Q2) Q)) Q1):=fun G a w ok =>
 su (h G a w ok) fun e a w⟨s,g,q,o⟩=>⟨s,g,by
  cases e with
  | normal=>exact W.meet σm q k
  | _=>exact q,o⟩
def DK(P:Program)(C:Cx)(ops:Array Oper)(l:List Oper)(σ:St)(Q:Exit→St→Prop):Prop:=∃ σ',DL P C ops l σ σ'∧Q .normal σ'
section
variable {P:Program} {C:Cx} {σ:St} {ops:Array Oper} {l rest:List Oper} {o:Oper} {d:Tmp} {av:AV} {Q:Exit→St→Prop}
theorem W.OE {id:Nat} (hm:P.follows .mixedOrders=true)(hB:Region.lexB .any l.toArray=true)(h:DK P C l.toArray l σ Q):W P C (.region id l.toArray true) σ Q :=
 let⟨_,a,b⟩:=h;W.draw hm hB a b
theorem DK.nil(k:Q .normal σ):DK P C ops [] σ Q:=⟨σ,.nil σ,k⟩
theorem DK.op (hd:o.dst=some d)(hN:Nat.blt d C.N=true)(h:Does P C ops o σ av)(k:DK P C ops rest (σ.put d av) Q):DK P C ops (o::rest) σ Q :=
 let⟨s,a,b⟩:=k;⟨s,.op o rest d av σ s hd hN h a,b⟩
theorem DK.val (hd:o.dst=some d) (hN:Nat.blt d C.N=true) (hg:qQ ops o (σ.only (o.looksAt ops))=some true) (h:WV P C o (σ.only (o.looksAt ops)) av) (k:DK P C ops rest (σ.put d av) Q):DK P C ops (o::rest) σ Q:=DK.op hd hN (.inl ⟨hg,h⟩) k
theorem DK.no (hd:o.dst=some d) (hN:Nat.blt d C.N=true) (hg:qQ ops o (σ.only (o.looksAt ops))=some false) (k:DK P C ops rest (σ.put d (.sc undef)) Q):DK P C ops (o::rest) σ Q:=DK.op hd hN (.inr ⟨hg,rfl⟩) k
variable {mem:List Bool} {Mc:List (Nat×AO)} {fJ k:Nat}
end
def aC (x:Stp):List AV:=[.sc (.int .i64 x.1),.sc (.int .i64 x.2.1),.sc (.int .i64 x.2.2.1),.sc (.int .i64 x.2.2.2.1),.sc (.int .i64 x.2.2.2.2)]
def abf (l:List Stp):AV:=.ls 5 (l.map aC)
def dI (e:Ev):List AV:=[.sc (.bool e.bar),.sc (.int .i64 e.val),.sc (.bool e.dot),.sc (.bool e.three),.sc (.bool e.tie),abf e.stops]
def aF (x:Int×Int×Bool):List AV:=[.sc (.int .i64 x.1),.sc (.int .i64 x.2.1),.sc (.bool x.2.2)]
def eInt (x:Int):List AV:=[.sc (.int .i64 x)]
def mX (cs:List (Int×Int×Bool))(st:List Int):List AV:=[.ls 3 (cs.map aF),.ls 1 (st.map eInt)]
def bK (p:aS):AV:=.ag [.ls 3 (p.cs.map aF),.ls 1 (p.st.map eInt),.ls 6 (p.evs.map dI)]
theorem y7 {α β:Type} {f:α→β} {l:List α} {k:Nat} (h:k<l.length):(l.map f)[((k:Nat):Int).toNat]?=some (f l[k]):=by rw [fO];simp [h]
theorem Rz {α β:Type} {f:α→β} {l:List α} {z:Int} (h0:0≤z)(h:z<l.length):(l.map f)[z.toNat]?=some (f (l[z.toNat]'(by omega))):=by
 have:z.toNat<l.length:=by omega
 simp [this]
theorem zqm {α:Type} {l:List α} {i:Nat} {x:Option α} (h:l[i]? = x:=by first|exact y7 (by omega)|exact Rz (by omega) (by omega)):l[i]? = x:=h
theorem Bo {α β:Type} {f:α→β} {l:List α} {k:Nat} (h:k<l.length):(l.take k).map f++[f l[k]]=(l.take (k+1)).map f:=by
 rw [mJ h,fC];rfl
theorem gG {l:List AV} (h:l.all AV.pu2=true):∀ (i:Nat) av,l[i]?=some av→Bd 0 av:=fun i av x=>oC (List.all_eq_true.1 h av (cO x)) 0
theorem jl {P:Program} {f:FuncId} {fn:Func} {c:Code} {args:List AV} {res:AV} (hf:P.funcs[f]? = some fn) {N:Nat} (hN:fn.ntmps = N) (h:∀ w0 F0,W P ⟨w0,F0,N,fun _ => False,0,G0,[]⟩ c (St.init args) (Um P fn ⟨w0,F0,N,fun _ => False,0,G0,[]⟩ res)) (hb:fn.body = some c:=by rfl) (hn:args.length ≤ N:=by exact bU rfl) (hp:args.all AV.pu2 = true:=by rfl):aU P f args res:=aU.intro hf hb hN hn (gG hp) h
theorem fin1 {P:Program} {fn:Func} {C:Cx} {σ:St} {t:Tmp} {av res:AV} (h:fn.results=#[.tmp t]) (ht:look t σ.t=some av) (he:av=res) (hp:res.pu2=true):Um P fn C res .ret σ :=
 ⟨.inr rfl,Fin.one h (he ▸ ht) (oC hp 0)⟩
theorem vS {P:Program} {fn:Func} {C:Cx} {σ:St} {t:Tmp} {av res:AV} (h:fn.results = #[.tmp t]:=by rfl) (ht:look t σ.t = some av:=by rfl) (he:av = res:=by rfl) (hp:res.pu2 = true:=by rfl):Um P fn C res .ret σ:=fin1 h ht he hp
theorem fin2 {P:Program} {fn:Func} {C:Cx} {σ:St} {t u:Tmp} {a1 a2 r1 r2:AV} (h:fn.results=#[.tmp t,.tmp u]) (h1:look t σ.t=some a1) (h2:look u σ.t=some a2) (e1:a1=r1) (e2:a2=r2) (p1:r1.pu2=true) (p2:r2.pu2=true):Um P fn C (.tu [r1,r2]) .ret σ :=
 ⟨.inr rfl,Fin.two h (e1 ▸ h1) (e2 ▸ h2) (oC p1 0) (oC p2 0)⟩
theorem Ap {a b:Bool} (h:a=b):AV.sc (.bool a)=.sc (.bool b):=by rw [h]
end
section
def pS(s c f:Int):List UInt8:=if s=1 then frS c f else if s=2 then itS c f else if s=3 then spS c f else geS c f
def qU(s c f:Int):Bool:=if s=1 then adN c f else if s=2 then anH c f else if s=3 then aoR c f else adR c f
def ai9(s c f:Nat):Bool:=(qU s c f == !(rS s c f).isEmpty) && (!qU s c f|| pS s c f == rS s c f)
theorem atW:((List.range' 1 4).all fun s=>(List.range' 1 14).all fun c=>(List.range 19).all fun f=>ai9 s c f)=true:=by
 decide +kernel
theorem qm (s c f:Int)(hs:1≤s∧s≤4)(hc:1≤c∧c≤14)(hf:0≤f∧f≤18) :
  qU s c f=!(rS s c f).isEmpty∧(qU s c f=true→pS s c f=rS s c f):=by
 obtain⟨s,rfl⟩:=gq (show 0≤s by omega)
 obtain⟨c,rfl⟩:=gq (show 0≤c by omega)
 obtain⟨f,rfl⟩:=gq hf.1
 have h:=atW
 rw [jg]at h
 have h1:=h s (List.mem_range'_1.2 au)
 rw [jg]at h1
 have h2:=h1 c (List.mem_range'_1.2 au)
 rw [jg]at h2
 have h3:=h2 f (List.mem_range.2 au)
 unfold ai9 at h3
 simp only [aW,qH,qI,iy]at h3
 refine⟨h3.1,fun hk=>?_⟩
 rcases h3.2 with h4|h4
 ·rw [hk]at h4;cases h4
 ·exact h4
def vK(s c f:Int):Int :=
 if ¬ (1≤s∧s≤4)then 30 else if c<1∨14<c then 12 else if f<0∨18<f then 13 else if rS s c f=[]then 31 else 0
theorem aad (s c f:Int)(hs:1≤s∧s≤4)(h:(c<1∨14<c)∨(f<0∨18<f)):vK s c f=if c<1∨14<c then 12 else 13:=by
 unfold vK
 rw [if_neg (fun k=>k hs)]
 by_cases hc:c<1∨14<c
 ·rw [if_pos hc,if_pos hc]
 ·rw [if_neg hc,if_neg hc,if_pos (by omega)]
def ig (s aT c:Int):Bool:=if 0<aT then c == aT else (s == 4|| decide (6<c))
def Og(s aT:Int)(l:List UInt8)(c f:Nat):Bool:=ig s aT c && (!(rS s c f).isEmpty && rS s c f == l)
def oL(m:Nat→Bool)(f n:Nat):Option Nat:=(List.range' f n).find? m
def rE (m:Nat→Nat→Bool)(c n:Nat):Option (Nat×Nat):=(List.range' c n).findSome? fun c=>(oL (m c) 0 19).map fun f=>(c,f)
theorem afk (m:Nat→Bool)(f n:Nat)(h:m f=true):oL m f (n+1)=some f:=by simp [oL,MK,h]
theorem aiY (m:Nat→Bool)(f n:Nat)(h:m f=false):oL m f (n+1)=oL m (f+1) n:=by simp [oL,MK,h]
theorem ZX(m:Nat→Bool)(f n:Nat)(h:∀ k,f≤k→k<f+n→m k=false):oL m f n=none:=by
 unfold oL
 rw [yx]
 intro k hk
 rw [List.mem_range'_1]at hk
 rw [h k hk.1 hk.2];decide
theorem CU (m:Nat→Nat→Bool)(c n:Nat):rE m c (n+1)=match oL (m c) 0 19 with|some f=>some (c,f)|none=>rE m (c+1) n:=by
 simp only [rE,MK,Tc]
 cases oL (m c) 0 19<;>rfl
theorem afj (m:Nat→Nat→Bool)(c n f:Nat)(h:oL (m c) 0 19=some f):rE m c (n+1)=some (c,f):=by rw [CU,h]
theorem aiX (m:Nat→Nat→Bool)(c n:Nat)(h:oL (m c) 0 19=none):rE m c (n+1)=rE m (c+1) n:=by rw [CU,h]
def aK(s aT:Int):Int:=if ¬ (1≤s∧s≤4)then 30 else if(aT<0∨6<aT)∨(s=4∧aT≠0)then 12 else 0
def placeOf (s aT:Int)(l:List UInt8):Int×Int×Int :=
 if aK s aT≠0 then (0,0,aK s aT) else match rE (Og s aT l) 1 14 with|some (c,f)=>((c:Int),(f:Int),0)|none=>(0,0,4)
theorem xO {s aT:Int} {l:List UInt8} {c f:Nat} (h:aK s aT=0)(hs:rE (Og s aT l) 1 14=some (c,f)):placeOf s aT l=((c:Int),(f:Int),0):=by
 unfold placeOf;rw [if_neg (by rw [h];decide),hs]
theorem D6 {s aT:Int} {l:List UInt8} (h:aK s aT=0)(hs:rE (Og s aT l) 1 14=none):placeOf s aT l=(0,0,4):=by
 unfold placeOf;rw [if_neg (by rw [h];decide),hs]
theorem WB {s aT:Int} {l:List UInt8} (h:aK s aT≠0):placeOf s aT l=(0,0,aK s aT):=by
 unfold placeOf;rw [if_pos h]
theorem aoj {s aT:Int} {l:List UInt8} {c f:Nat} (hs:1≤s∧s≤4) (hc:1≤c∧c≤14) (hf:f≤18) (h:Og s aT l c f=true) :
  qU s c f=true∧(pS s c f == l)=true:=by
 obtain ⟨l1,l2⟩:=qm s c f hs au au
 simp only [Og,aW]at h
 have ho:qU s c f=true:=by rw [l1];exact h.2.1
 exact ⟨ho,by rw [l2 ho];exact h.2.2⟩
theorem atv {s aT:Int} {l:List UInt8} {c f:Nat} (hs:1≤s∧s≤4) (hc:1≤c∧c≤14) (hf:f≤18) (hst:ig s aT c=true) (h:Og s aT l c f=false) :
  qU s c f=false∨(qU s c f=true∧(pS s c f == l)=false):=by
 obtain ⟨l1,l2⟩:=qm s c f hs au au
 cases ho:qU s c f with
 | false=>exact .inl rfl
 | true =>
  refine .inr ⟨rfl,?_⟩
  rw [l2 ho]
  rw [ho]at l1
  simp only [Og,hst,← l1,L8]at h
  exact h
def rR(s n:Int):List UInt8:=if n=1∧s≠3 then [46]else if n=2∧s=1 then [58]else if n=3∧s=1 then [39]else []
def rG(s n:Int):List UInt8 :=
 if s=1∧1≤n∧n≤4 then cut [44,94,35,40] (n-1) n else if s=2∧n=1 then [116] else if(s=2∨s=4)∧n=3 then [35] else []
def rH(s n L:Int):List UInt8:=if s=1 then 95::mW n.toNat else if(s=2∨s=4)∧n=L then [42]else []
def pH(s n L:Int):List UInt8:=if n=0 then []else rH s n L
def okR(s n:Int):Bool:=n == 0|| !(rR s n).isEmpty
def sZ(s n:Int):Bool:=n == 0|| !(rG s n).isEmpty
def qN(s n L:Int):Bool:=n == 0|| !(rH s n L).isEmpty
def cellS(s c f r g h L:Int):List UInt8:=pS s c f++rR s r++rG s g++pH s h L
def dK(s c f r g h L:Int):Bool:=qU s c f && okR s r && sZ s g && qN s h L
theorem aiF(s n:Int):(rR s n).length≤1:=by
 unfold rR;split
 ·decide
 ·split
  ·decide
  ·split<;>decide
theorem aiB(s n:Int):(rG s n).length≤4:=by
 unfold rG;split
 ·exact xA _ _ _
 ·split
  ·decide
  ·split<;>decide
theorem Jr(n:Nat):(mW n).length≤2:=by unfold mW;split<;>simp
theorem atH(s n L:Int):(rH s n L).length≤3:=by
 unfold rH;split
 ·have:=Jr n.toNat;simp;omega
 ·split<;>decide
theorem aic(s n L:Int):(pH s n L).length≤3:=by
 unfold pH;split
 ·decide
 ·exact atH s n L
theorem afx:((List.range' 1 4).all fun s=>(List.range' 1 14).all fun c=>(List.range 19).all fun f=>decide ((pS (s:Nat) (c:Nat) (f:Nat)).length≤4∧(rS (s:Nat) (c:Nat) (f:Nat)).length≤4))=true:=by
 decide +kernel
theorem aii (s c f:Int)(hs:1≤s∧s≤4)(hc:1≤c∧c≤14)(hf:0≤f∧f≤18):(pS s c f).length≤4∧(rS s c f).length≤4:=by
 obtain⟨s,rfl⟩:=gq (show 0≤s by omega)
 obtain⟨c,rfl⟩:=gq (show 0≤c by omega)
 obtain⟨f,rfl⟩:=gq hf.1
 have h:=afx
 rw [jg]at h
 have h1:=h s (List.mem_range'_1.2 au)
 rw [jg]at h1
 have h2:=h1 c (List.mem_range'_1.2 au)
 rw [jg]at h2
 exact iY (h2 f (List.mem_range.2 au))
end
section
open Go.RowKit
theorem UL(z:Value):∀ k:Nat,(List.replicate k [z]).flatten=List.replicate k z
 | 0=>rfl
 | k+1=>by rw [List.replicate_succ,List.replicate_succ,BD,UL z k];rfl
section
variable {P:Program} {C:Cx} {σ:St} {o:Oper} {d:Tmp}
theorem WO.av8 {T e q k:Nat} {z:Value} {i:TypeInfo} {x y:Operand} (ho:o.op=.makeSlice T x y) (hT:P.underlying T=some (.slice e)) (hi:P.info? e=some i) (hz:i.zero=some z) (hn:i.size=1) (hby:Nat.ble i.bytes 1000=true)
  (hc:∀ k,(madeCells z.cells (k*1)).toList=List.replicate k z) (hz1:z.oneCell'=true) (hds:o.dst=some d) (hd:Nat.blt d C.N=true) (hx:σ.ev x=some (.sc (.int .i64 (k:Nat)))) (hy:σ.ev y=some (.sc (.int .i64 (k:Nat)))) (hk:k≤1000000) (hq:σ.nk=q) :
  WO P C o σ ((σ.new (.row e 1 (List.replicate k [.sc z]))).put d (.sl q)):=by
 intro G a w ok N Q' hN
 have hb:=bU hby
 have hbk:i.bytes*k≤281474976710656:=jV (Nat.mul_le_mul hb hk) (by decide)
 obtain ⟨w',hrun,hown,hgr⟩:=run_makeSlice_full (P:=P) w C.w0.heap.size T e i z 1 hT hi hz hn .i64 .i64 k au hbk XF ok.bel.size
 have hl:(List.replicate k [z]).length=k:=by simp
 have hsl:(.slice (some ⟨w.heap.size,0,none⟩) k k:Value).ownBlock=some w.heap.size:=rfl
 have hlt:w.heap.size<w'.heap.size:=by
  rcases hown.2 with⟨e,_⟩|⟨g,cap,cur,e,_,hh,_⟩
  ·cases e
  ·obtain rfl:w.heap.size=g:=by injection e with e _ _;injection e with e;injection e
   exact (Array.getElem?_eq_some_iff.1 hh).1
 have ok':=ok.newObj (w':=w') (S:=fun _=>False) (b:=w.heap.size) (n:=1) (h:=.slice (some ⟨w.heap.size,0,none⟩) k k) (φ:=fun x=>x=w.heap.size) (ob:=.row e 1 (List.replicate k [.sc z]))
  ⟨hgr.os,hgr.tape,hgr.output,hgr.size,fun x h1 _=>hgr.block x h1 (by simp)⟩ (fun _ h=>h.elim) (fun _ _ _ _ _ h=>h) (fun _ _ _ h=>h)
  ⟨x9,(fun g hg=>by rw [iL,hsl] at hg;rw [xZ];exact (Option.some.inj hg).symm),by
   rw [iL,vN]
   refine ⟨fun r hr=>by rw [Qk hr];rfl,List.replicate k [z],fun _ _ _=>False,by rw [hl,UL,← hc k];exact CJ hown (gU _),by simp,?_,fun g hg=>by rw [hsl] at hg;exact (Option.some.inj hg).symm,
    fun _ _ _ h=>h.elim,fun _ _ _ _ _ h=>h.elim,fun j r r' h1 h2=>?_,fun j r r' q av u h1 h2 h3 h4=>?_⟩
   ·intro r hr u hu
    rw [Qk hr] at hu
    obtain rfl:u=z:=by simpa using hu
    exact hz1
   ·rw [Qk (cO h1),Qk (cO h2)];rfl
   ·rw [Qk (cO h1)] at h3
    rw [Qk (cO h2)] at h4
    match q with
    | 0=>cases h3;cases h4;exact .sc _
    | q+1=>simp at h3⟩ trivial (fun x hx=>by
   obtain rfl:x=w.heap.size:=hx
   refine ⟨.inl ok.bel.size,hlt,fun k o h1 h2=>?_,fun p u h1 h2=>?_⟩
   ·have:=(ok.my k o _ h1 h2).2;omega
   ·have:=aN (ok.fw p u h1);omega)
 refine lJ ?_
 simp only [ho,ok.evs hx,ok.evs hy,Sem.run_bind,hrun,Result.andThen_ok,Sem.run_pure,Oper.upon]
 rw [hds]
 subst hq
 exact hN _ _ _ (ok'.set (d:=some d) (av:=.sl σ.nk) (v:=.slice (some ⟨w.heap.size,0,none⟩) k k) (uS rfl) (.sl _ (wQ _)) fun x hx=>by cases hx;exact dP hd)
end
def FH {α:Type} (k:Nat):List (Nat×α)→Option (List (Nat×α))
 | []=>some []
 | x::r =>
  match FH k r with
  | some r'=>bif Nat.beq k x.1 then some r' else some (x::r')
  | none=>none
theorem oI {α:Type} {k:Nat}:∀ {l l':List (Nat×α)},FH k l=some l'→l'=rem k l
 | [],l',h=>by cases h;rfl
 | x::r,l',h=>by
  unfold FH at h
  split at h
  ·rename_i r' h2
   have:=oI h2
   subst this
   unfold rem
   cases hb:Nat.beq k x.1 with
   | true=>rw [hb]at h;cases h;rfl
   | false=>rw [hb]at h;cases h;rfl
  ·cases h
def aa6(P:Program)(T:TypeId):Bool :=
 match P.underlying T with
 | some .bool=>true
 | _=>false
theorem Us {P:Program} {T:TypeId} (h:aa6 P T=true):P.underlying T=some .bool:=by
 unfold aa6 at h
 split at h
 ·assumption
 ·cases h
def auW (op:BinOp)(m n:Int):Option Value :=
 match op with
 | .lss=>some (.bool (decide (m<n)))
 | .leq=>some (.bool (decide (m≤n)))
 | .gtr=>some (.bool (decide (n<m)))
 | .geq=>some (.bool (decide (n≤m)))
 | .eql=>some (.bool (decide (m=n)))
 | .neq=>some (.bool (!decide (m=n)))
 | _=>none
def auV (op:BinOp)(b c:Bool):Option Value :=
 match op with
 | .eql=>some (.bool (b == c))
 | .neq=>some (.bool (!(b == c)))
 | _=>none
def auX (op:BinOp)(s t:List UInt8):Option Value :=
 match op with
 | .eql=>some (.bool (s == t))
 | .neq=>some (.bool (!(s == t)))
 | _=>none
def arT(P:Program) (op:BinOp) (T:TypeId):Value→Value→Option Value
 | .string ⟨⟨s⟩⟩,.string ⟨⟨t⟩⟩=>auX op s t
 | .int j m,.int k n =>
  match decEq j k with
  | isTrue _=>auW op m n
  | isFalse _=>none
 | .bool b,.bool c=>bif aa6 P T then auV op b c else none
 | _,_=>none
def air:AV→AV→AV→Option AV
 | .sc (.bool b),.sc u,.sc v=>some (.sc (bif b then u else v))
 | .sc (.bool true),x,_=>some x
 | .sc (.bool false),_,y=>some y
 | _,_,_=>none
def acI:Nat→List AV→Option (List AV)
 | 0,_=>some []
 | n+1,x::r =>
  match acI n r with
  | some l=>some (x::l)
  | none=>none
 | _+1,[]=>none
theorem LW:∀ {n:Nat} {l l':List AV},acI n l=some l'→l.take n=l'∧l'.length=n
 | 0,l,l',h=>by cases h;simp
 | n+1,[],l',h=>by cases h
 | n+1,x::r,l',h=>by
  unfold acI at h
  split at h
  ·rename_i l2 h2
   cases h
   obtain⟨a,b⟩:=LW h2
   simp [a,b]
  ·cases h
def Xh (P:Program)(T:TypeId)(l:List AV):Option AV :=
 match yI P T with
 | some false =>
  match l with
  | av::_=>some av
  | []=>none
 | some true =>
  match iE P T with
  | some n =>
   match acI n l with
   | some l'=>some (.ag l')
   | none=>none
  | none=>none
 | none=>none
def ownB:AV→Bool
 | .ow _ _ _=>true
 | .ag l=>l.any AV.own
 | _=>false
def Xg(P:Program)(T:TypeId)(l:List AV):Option AV :=
 match Xh P T l with
 | some av =>
  match ownB av with
  | false=>some av
  | true=>none
 | none=>none
theorem aje {P:Program} {T:TypeId} {l:List AV} {av:AV} (h:Xg P T l=some av):Xh P T l=some av∧ownB av=false:=by
 unfold Xg at h
 split at h
 ·rename_i h1
  split at h
  ·rename_i h2;cases h;exact⟨h1,h2⟩
  ·cases h
 ·cases h
theorem ah7 {av:AV} (h:ownB av=false):av.own=false:=by cases av<;>first|rfl|cases h
theorem Wj {l:List AV} (h:ownB (.ag l)=false):(l.all fun av=>!av.own)=true:=by
 rw [jg]
 intro x hx
 have h:l.any AV.own=false:=h
 rw [Ep]at h
 simpa using h x hx
def Vq(P:Program)(σ:St)(T:TypeId):AV→Option AV
 | .pt k i j =>
  match look k σ.M with
  | some ob =>
   match ob.from_ i j with
   | some l=>Xg P T l
   | none=>none
  | none=>none
 | .pr cells=>Xh P T cells
 | _=>none
def aeE {α:Type}:List α→Nat→Option α
 | [],_=>none
 | x::_,0=>some x
 | _::r,n+1=>aeE r n
theorem abW {α:Type}:∀ (l:List α)(n:Nat),aeE l n=l[n]?
 | [],n=>by simp [aeE]
 | x::r,0=>by simp [aeE]
 | x::r,n+1=>by simp [aeE,abW r n]
def OG {α:Type}:Nat→List α→List α
 | 0,l=>l
 | _+1,[]=>[]
 | n+1,_::r=>OG n r
theorem UC {α:Type}:∀ (n:Nat)(l:List α),OG n l=l.drop n
 | 0,l=>by simp [OG]
 | n+1,[]=>by simp [OG]
 | n+1,x::r=>by simp [OG,UC n r]
def am1 (P:Program)(T i:Nat):Option Nat :=
 match P.underlying T with
 | some (.struct fs) =>
  match aeE fs.toList i with
  | some f=>bif Nat.beq (P.cellsOf f.type) 0 then none else some f.offset
  | none=>none
 | _=>none
theorem abm {P:Program} {T i off:Nat} (h:am1 P T i=some off):adL P T i=some off:=by
 unfold am1 at h
 unfold adL
 split at h
 ·rename_i fs hu
  rw [abW] at h
  rw [show fs.toList[i]?=fs[i]? by simp] at h
  split at h
  ·rename_i f hf
   try rw [hu]
   try simp only [hf]
   cases hb:Nat.beq (P.cellsOf f.type) 0 with
   | true=>rw [hb] at h;cases h
   | false =>
    rw [hb] at h
    rw [if_neg (fun e=>by rw [e] at hb;cases hb)]
    exact h
  ·cases h
 ·cases h
def ar5 (P:Program)(T i:Nat):AV→Option AV
 | .pt k r j =>
  match am1 P T i with
  | some off=>some (.pt k r (j+off))
  | none=>none
 | .pr cells =>
  match am1 P T i with
  | some off=>some (.pr (OG off cells))
  | none=>none
 | _=>none
def zD (P:Program) (σ:St):Op→Option AV
 | .move x=>σ.ev x
 | .assign x=>σ.ev x
 | .pick c x y =>
  match σ.ev c,σ.ev x,σ.ev y with
  | some ac,some ax,some ay=>air ac ax ay
  | _,_,_=>none
 | .binOp op T x y _ =>
  match σ.ev x,σ.ev y with
  | some (.sc u),some (.sc v) =>
   match arT P op T u v with
   | some r=>some (.sc r)
   | none=>none
  | _,_=>none
 | .unOp .not _ x =>
  match σ.ev x with
  | some (.sc (.bool b))=>some (.sc (.bool (!b)))
  | _=>none
 | .extract x i =>
  match σ.ev x with
  | some (.tu l)=>l[i]?
  | _=>none
 | .fieldAddr T x i =>
  match σ.ev x with
  | some av=>ar5 P T i av
  | none=>none
 | .load T x =>
  match σ.ev x with
  | some av=>Vq P σ T av
  | none=>none
 | .build T parts =>
  match (P.info? T).bind (·.zero),Jc P T,σ.evs (parts.toList.map (·.2))with
  | some z,some places,some bI =>
   match Gw places (z.cells.toList.map .sc) (pairUp parts.toList bI)with
   | some l=>some (.ag l)
   | none=>none
  | _,_,_=>none
 | _=>none
section
variable {P:Program} {C:Cx} {σ σ':St} {o:Oper} {d:Tmp} {av:AV}
theorem amN {op:BinOp} {T Ty:TypeId} {x y:Operand} {u v r:Value} (ho:o.op=.binOp op T x y Ty) (hx:σ.ev x=some (.sc u)) (hy:σ.ev y=some (.sc v)) (h:arT P op T u v=some r):WV P C o σ (.sc r):=by
 unfold arT at h
 split at h
 ·rename_i s t
  unfold auX at h
  split at h<;>first|cases h|skip
  ·exact WV.azl (s:=s) (t:=t) ho hx hy
  ·exact WV.sne (s:=s) (t:=t) ho hx hy
 ·split at h
  ·rename_i e _
   subst e
   unfold auW at h
   split at h<;>first|cases h|skip
   ·exact WV.lss ho hx hy
   ·exact WV.leq ho hx hy
   ·exact WV.gtr ho hx hy
   ·exact WV.geq ho hx hy
   ·exact WV.eql ho hx hy
   ·exact WV.neq ho hx hy
  ·cases h
 ·rename_i b c
  cases hb:aa6 P T with
  | false=>rw [hb] at h;cases h
  | true =>
   rw [hb] at h
   simp only [cond_true] at h
   unfold auV at h
   split at h<;>first|cases h|skip
   ·exact WV.beq ho (Us hb) hx hy
   ·exact WV.bne ho (Us hb) hx hy
 ·cases h
theorem ais {c x y:Operand} {ac ax ay:AV} (ho:o.op=.pick c x y) (hc:σ.ev c=some ac) (hx:σ.ev x=some ax) (hy:σ.ev y=some ay) (h:air ac ax ay=some av):WV P C o σ av:=by
 unfold air at h
 split at h
 ·rename_i b u v
  cases h
  have:=WV.awr (P:=P) (C:=C) ho hc hx hy
  cases b<;>exact this
 ·cases h;exact WV.awt ho hc hx
 ·cases h;exact WV.awq ho hc hy
 ·cases h
theorem JL {T:TypeId} {x:Operand} {a:AV} (ho:o.op=.load T x)(hx:σ.ev x=some a)(h:Vq P σ T a=some av):WV P C o σ av:=by
 unfold Vq at h
 split at h
 ·rename_i k i j
  split at h
  ·rename_i ob hk
   split at h
   ·rename_i l hf
    obtain⟨h,hob⟩:=aje h
    unfold Xh at h
    split at h
    ·rename_i hT
     split at h
     ·rename_i a r
      cases h
      exact WV.apI ho hT hx hk hf rfl (ah7 hob)
     ·cases h
    ·rename_i hT
     split at h
     ·rename_i n hn
      split at h
      ·rename_i l' hl
       cases h
       obtain⟨e1,e2⟩:=LW hl
       exact WV.av5 ho hT hn hx hk hf e1 e2 (Wj hob)
      ·cases h
     ·cases h
    ·cases h
   ·cases h
  ·cases h
 ·rename_i cells
  unfold Xh at h
  split at h
  ·rename_i hT
   split at h
   ·rename_i a r
    cases h
    exact WV.asV ho hT hx rfl
   ·cases h
  ·rename_i hT
   split at h
   ·rename_i n hn
    split at h
    ·rename_i l' hl
     cases h
     obtain⟨e1,e2⟩:=LW hl
     exact WV.asW ho hT hn hx e1 e2
    ·cases h
   ·cases h
  ·cases h
 ·cases h
theorem am2 {T:TypeId} {i:Nat} {x:Operand} {a:AV} (ho:o.op=.fieldAddr T x i)(hx:σ.ev x=some a)(h:ar5 P T i a=some av):WV P C o σ av:=by
 unfold ar5 at h
 split at h
 ·split at h
  ·rename_i off hf;cases h;exact WV.ar2 ho (abm hf) hx
  ·cases h
 ·split at h
  ·rename_i off hf;cases h;rw [UC];exact WV.ar4 ho (abm hf) hx
  ·cases h
 ·cases h
theorem tX {op:Op} (ho:o.op=op)(h:zD P σ op=some av):WV P C o σ av:=by
 unfold zD at h
 split at h
 ·exact WV.move ho h
 ·exact WV.assign ho h
 ·split at h
  ·rename_i h1 h2 h3;exact ais ho h1 h2 h3 h
  ·cases h
 ·split at h
  ·rename_i h1 h2
   split at h
   ·rename_i r hr;cases h;exact amN ho h1 h2 hr
   ·cases h
  ·cases h
 ·split at h
  ·rename_i b h1;cases h;exact WV.not ho h1
  ·cases h
 ·split at h
  ·rename_i l h1;exact WV.extract ho h1 h
  ·cases h
 ·split at h
  ·rename_i a h1;exact am2 ho h1 h
  ·cases h
 ·split at h
  ·rename_i a h1;exact JL ho h1 h
  ·cases h
 ·split at h
  ·rename_i h1 h2 h3
   split at h
   ·rename_i l hl;cases h;exact WV.build ho h1 h2 h3 hl
   ·cases h
  ·cases h
 ·cases h
end
def ai7 (P:Program)(M:List (Nat×AO))(T:TypeId):AV→AV→Option (Nat×AO)
 | .pt k i j,av =>
  match iE P T,look k M with
  | some m,some ob =>
   bif av.mD && Nat.beq av.cells.length m && av.cells.all AV.yN then
    match ob.put i j av.cells with
    | some ob'=>some (k,ob')
    | none=>none
   else none
  | _,_=>none
 | _,_=>none
def QM (P:Program)(σ:St)(T:TypeId)(m:Nat)(parts:List (Nat×Operand)):Option AO :=
 match P.underlying T with
 | some (.slice e) =>
  match iE P e,(P.info? e).bind (·.zero),σ.evs (parts.map (·.2)) with
  | some n,some _,some bI =>
   bif VP 0 parts && Nat.beq parts.length m && Nat.ble (m*n) 16777216 && Nat.ble m 16777216 && P6 n bI then some (.row e n (bI.map AV.cells)) else none
  | _,_,_=>none
 | _=>none
theorem CX {P:Program} {C:Cx} {σ:St} {o:Oper} {t:List (Nat×AV)} {M:List (Nat×AO)} {nk k:Nat} {ob:AO} (h:WO P C o σ ⟨t,(k,ob)::M,nk⟩):WO P C o σ ⟨t,(k,ob)::rem k M,nk⟩:=fun G a w ok N Q' hN =>
 h G a w ok N Q' fun G' a' w' ok'=>hN G' a' w' (by
  have hl:∀ i,look i ((k,ob)::rem k M)=look i ((k,ob)::M):=fun i=>by
   by_cases e:i=k
   ·subst e;rw [aA,aA]
   ·rw [aj e,aj e,nY,if_neg e]
  exact ⟨ok'.sz,ok'.df,ok'.tm,ok'.bel,ok'.fw,ok'.f0,ok'.f1,fun i x hx=>ok'.ob i x Il,fun i x y hx=>ok'.my i x y Il,fun i x i' x' y hx hx'=>ok'.dj i x i' x' y Il (by rw [← hl];exact hx'),fun i x y p u hx=>ok'.dF i x y p u Il⟩)
def opE (P:Program) (N:Nat) (t:List (Nat×AV)) (M:List (Nat×AO)) (nk:Nat) (o:Oper):Option (List (Nat×AV)×List (Nat×AO)×Nat) :=
 match o.guard with
 | some _=>none
 | none =>
  match o.dst with
  | none =>
   match o.op with
   | .store T x y =>
    match (⟨t,M,nk⟩:St).ev x,(⟨t,M,nk⟩:St).ev y with
    | some ax,some ay =>
     match ai7 P M T ax ay with
     | some (k,ob) =>
      match FH k M with
      | some M'=>some (t,(k,ob)::M',nk)
      | none=>none
     | none=>none
    | _,_=>none
   | _=>none
  | some d =>
   bif Nat.blt d N then
    match o.op with
    | .box T x =>
     match (⟨t,M,nk⟩:St).ev x with
     | some av=>bif av.mD then some ((d,.pt nk 0 0)::t,(nk,.box T av.cells)::M,nk+1) else none
     | none=>none
    | .alloc T =>
     match (P.info? T).bind (·.zero) with
     | some z=>some ((d,.pt nk 0 0)::t,(nk,.box T (z.cells.toList.map .sc))::M,nk+1)
     | none=>none
    | .buildSlice T m parts =>
     match QM P ⟨t,M,nk⟩ T m parts.toList with
     | some ob=>some ((d,.sl nk)::t,(nk,ob)::M,nk+1)
     | none=>none
    | op =>
     match zD P ⟨t,M,nk⟩ op with
     | some av=>some ((d,av)::t,M,nk)
     | none=>none
   else none
theorem Zt {P:Program} {C:Cx} {t t':List (Nat×AV)} {M M':List (Nat×AO)} {nk dh:Nat} {o:Oper} (h:opE P C.N t M nk o=some (t',M',dh)):o.guard=none∧WO P C o ⟨t,M,nk⟩ ⟨t',M',dh⟩:=by
 unfold opE at h
 split at h
 ·cases h
 ·rename_i hg
  refine ⟨hg,?_⟩
  split at h
  ·rename_i hds
   split at h
   ·rename_i T x y ho
    split at h
    ·rename_i ax ay hx hy
     split at h
     ·rename_i k ob hst
      split at h
      case h_2=>cases h
      rename_i M1 hM1
      cases h
      rw [oI hM1]
      unfold ai7 at hst
      split at hst
      ·rename_i k i j
       split at hst
       ·rename_i m Kv hm hk
        cases hb:ay.mD && Nat.beq ay.cells.length m && ay.cells.all AV.yN with
        | false=>rw [hb] at hst;cases hst
        | true =>
         rw [hb] at hst
         simp only [cond_true] at hst
         simp only [aW] at hb
         split at hst
         ·rename_i ob' hp
          cases hst
          exact CX (WO.store (σ:=⟨t,M,nk⟩) ho hds hm hx hk hy hb.1.1 rfl (dW hb.1.2) hb.2 hp)
         ·cases hst
       ·cases hst
      ·cases hst
     ·cases h
    ·cases h
   ·cases h
  ·rename_i d hds
   cases hd:Nat.blt d C.N with
   | false=>rw [hd] at h;cases h
   | true =>
    rw [hd] at h
    simp only [cond_true] at h
    split at h
    ·rename_i T x ho
     split at h
     ·rename_i av hx
      cases hB:av.mD with
      | false=>rw [hB] at h;cases h
      | true =>
       rw [hB] at h
       cases h
       exact WO.box (σ:=⟨t,M,nk⟩) ho hds hd hx hB rfl rfl
     ·cases h
    ·rename_i T ho
     split at h
     ·rename_i z hz
      cases h
      exact WO.alloc (σ:=⟨t,M,nk⟩) ho hz hds hd rfl rfl
     ·cases h
    ·rename_i T m parts ho
     split at h
     ·rename_i ob hob
      cases h
      unfold QM at hob
      split at hob
      ·rename_i e hT
       split at hob
       ·rename_i n z bI hn hz hx
        cases hb:VP 0 parts.toList && Nat.beq parts.toList.length m && Nat.ble (m*n) 16777216 && Nat.ble m 16777216 && P6 n bI with
        | false=>rw [hb] at hob;cases hob
        | true =>
         rw [hb] at hob
         simp only [aW] at hb
         cases hob
         exact WO.build (σ:=⟨t,M,nk⟩) ho hT hn hz hb.1.1.1.1 (dW hb.1.1.1.2) hb.1.1.2 hb.1.2 hds hd hx hb.2 rfl rfl
       ·cases hob
      ·cases hob
     ·cases h
    ·split at h
     ·rename_i av hv
      cases h
      exact WO.Wh (σ:=⟨t,M,nk⟩) hds hd (tX rfl hv)
     ·cases h
def goL (P:Program) (C:Cx) (ops:Array Oper) (Q:Exit→St→Prop):List Oper→List (Nat×AV)→List (Nat×AO)→Nat→Prop
 | [],t,M,nk=>Q .normal ⟨t,M,nk⟩
 | o::r,t,M,nk =>
  match opE P C.N t M nk o with
  | some (t',M',dh)=>goL P C ops Q r t' M' dh
  | none=>WL P C ops (o::r) ⟨t,M,nk⟩ Q
theorem Yz {P:Program} {C:Cx} {ops:Array Oper} {Q:Exit→St→Prop}:∀ {l:List Oper} {t:List (Nat×AV)} {M:List (Nat×AO)} {nk:Nat},goL P C ops Q l t M nk→WL P C ops l ⟨t,M,nk⟩ Q
 | [],t,M,nk,h=>WL.nil h
 | o::r,t,M,nk,h=>by
  unfold goL at h
  split at h
  ·rename_i t' M' dh hs
   obtain ⟨h1,h2⟩:=Zt hs
   exact WL.op h1 h2 (Yz h)
  ·exact h
def goC (P:Program)(C:Cx):Code→St→(Exit→St→Prop)→Prop
 | .skip,σ,Q=>Q .normal σ
 | .exit id,σ,Q=>Q (.exit id) σ
 | .seq x y,σ,Q=>goC P C x σ (kD (fun s=>W P C y s Q) Q)
 | .block id c,σ,Q=>goC P C c σ (nP id Q)
 | .region id ops false,⟨t,M,nk⟩,Q=>goL P C ops Q ops.toList t M nk
 | c,σ,Q=>W P C c σ Q
theorem Yx {P:Program} {C:Cx}:∀ {c:Code} {σ:St} {Q:Exit→St→Prop},goC P C c σ Q→W P C c σ Q
 | .skip,σ,Q,h=>W.skip h
 | .exit id,σ,Q,h=>W.exit h
 | .ret,σ,Q,h=>h
 | .seq x y,σ,Q,h=>W.seq (Yx (c:=x) h)
 | .block id c,σ,Q,h=>W.block (Yx (c:=c) h)
 | .region id ops false,⟨t,M,nk⟩,Q,h=>fun G a w ok=>wp_region_list (Yz (P:=P) (C:=C) (show goL P C ops Q ops.toList t M nk from h) G a w ok)
 | .region id ops true,σ,Q,h=>h
 | .cond c x y,σ,Q,h=>h
 | .loop c,σ,Q,h=>h
 | .rangeFunc f p a b,σ,Q,h=>h
 | .scope b,σ,Q,h=>h
 | .label l,σ,Q,h=>h
 | .goto l,σ,Q,h=>h
 | .refuse w,σ,Q,h=>h
def goB:Code→Bool
 | .skip=>true
 | .exit _=>true
 | .seq _ _=>true
 | .block _ _=>true
 | .region _ _ false=>true
 | _=>false
theorem W.go {P:Program} {C:Cx} {c:Code} {σ:St} {Q:Exit→St→Prop} (hc:goB c=true)(h:goC P C c σ Q):W P C c σ Q:=Yx h
def goD (P:Program) (C:Cx):Code→St→(Exit→St→Prop)→Prop
 | .skip,σ,Q=>Q .normal σ
 | .exit id,σ,Q=>Q (.exit id) σ
 | .seq x y,σ,Q=>goD P C x σ (kD (fun s=>W P C y s Q) Q)
 | .block id c,σ,Q=>goD P C c σ (nP id Q)
 | .region id ops false,⟨t,M,nk⟩,Q=>WL P C ops ops.toList ⟨t,M,nk⟩ Q
 | c,σ,Q=>W P C c σ Q
theorem Yy {P:Program} {C:Cx}:∀ {c:Code} {σ:St} {Q:Exit→St→Prop},goD P C c σ Q→W P C c σ Q
 | .skip,σ,Q,h=>W.skip h
 | .exit id,σ,Q,h=>W.exit h
 | .ret,σ,Q,h=>h
 | .seq x y,σ,Q,h=>W.seq (Yy (c:=x) h)
 | .block id c,σ,Q,h=>W.block (Yy (c:=c) h)
 | .region id ops false,⟨t,M,nk⟩,Q,h=>fun G a w ok=>wp_region_list ((show WL P C ops ops.toList ⟨t,M,nk⟩ Q from h) G a w ok)
 | .region id ops true,σ,Q,h=>h
 | .cond c x y,σ,Q,h=>h
 | .loop c,σ,Q,h=>h
 | .rangeFunc f p a b,σ,Q,h=>h
 | .scope b,σ,Q,h=>h
 | .label l,σ,Q,h=>h
 | .goto l,σ,Q,h=>h
 | .refuse w,σ,Q,h=>h
theorem W.gob {P:Program} {C:Cx} {c:Code} {σ:St} {Q:Exit→St→Prop} (hc:goB c=true)(h:goD P C c σ Q):W P C c σ Q:=Yy h
theorem WL.EY {P:Program} {C:Cx} {ops:Array Oper} {o oj:Oper} {rest:List Oper} {σ:St} {Q:Exit→St→Prop} {j:Nat} {b:Bool} {d:Tmp} (hg:o.guard=some (j,b))(hj:ops[j]?=some oj)(hd:oj.dst=some d)(hv:look d σ.t=some (.sc (.bool b)))
  (k:WL P C ops ({ o with guard:=none }::rest) σ Q):WL P C ops (o::rest) σ Q:=fun G a w ok=>by
 have h:=k G a w ok
 have hy:=CZ (ops:=ops) ok hj hd hv
 unfold wpList at h ⊢
 rw [if_pos (by simp [Region.wanted])] at h
 rw [if_pos (by simp [Region.wanted,hg,hy,vb])]
 exact h
def apW (op:BinOp)(m n:Int):Option (Prop×Int) :=
 match op with
 | .add=>some (I64 (m+n),m+n)
 | .sub=>some (I64 (m-n),m-n)
 | .mul=>some (I64 (m*n),m*n)
 | _=>none
def WU (σ:St):Op→Option (Prop×Int)
 | .binOp op _ x y _ =>
  match σ.ev x,σ.ev y with
  | some (.sc (.int .i64 m)),some (.sc (.int .i64 n))=>apW op m n
  | _,_=>none
 | _=>none
def amI (σ:St):Op→Option (List UInt8×List UInt8)
 | .binOp .add _ x y _ =>
  match σ.ev x,σ.ev y with
  | some (.sc (.string ⟨⟨s⟩⟩)),some (.sc (.string ⟨⟨t⟩⟩))=>some (s,t)
  | _,_=>none
 | _=>none
def av3 (P:Program) (σ:St) (T:TypeId):AV→Option Nat
 | .sc (.string ⟨⟨s⟩⟩) =>
  match P.underlying T with
  | some .string=>some s.length
  | _=>none
 | .ls _ rows =>
  match P.underlying T with
  | some (.slice _)=>some rows.length
  | _=>none
 | .sl k =>
  match P.underlying T,look k σ.M with
  | some (.slice _),some ob =>
   match ob.P5 with
   | some rows=>some rows.length
   | none=>none
  | _,_=>none
 | .sc (.slice _ m _) =>
  match P.underlying T with
  | some (.slice _)=>some m
  | _=>none
 | _=>none
def lenV(P:Program)(σ:St):Op→Option Nat
 | .call { callee:=.builtin .len,args:=⟨[x]⟩,argTypes:=⟨[T]⟩ } =>
  match σ.ev x with
  | some av=>av3 P σ T av
  | none=>none
 | _=>none
def ag9 (P:Program)(σ:St):Op→Option (List (List AV)×Int)
 | .indexAddr T x y =>
  match P.underlying T,σ.ev x,σ.ev y with
  | some (.slice e),some (.ls n rows),some (.sc (.int _ z)) =>
   match iE P e with
   | some m=>bif Nat.beq m n then some (rows,z)else none
   | none=>none
  | _,_,_=>none
 | _=>none
def ahe (P:Program)(σ:St):Op→Option (Nat×List (List AV)×Int)
 | .indexAddr T x y =>
  match P.underlying T,σ.ev x,σ.ev y with
  | some (.slice e),some (.sl k),some (.sc (.int _ z)) =>
   match iE P e,look k σ.M with
   | some m,some ob =>
    match ob.P5,ob.n? with
    | some rows,some n=>bif Nat.beq m n then some (k,rows,z)else none
    | _,_=>none
   | _,_=>none
  | _,_,_=>none
 | _=>none
structure amv where
 T:TypeId
 n:Nat
 k:Nat
 a:List (List AV)
 b:List (List AV)
def afW (P:Program) (σ:St):Op→Option amv
 | .call { callee:=.builtin .append,args:=⟨[x,y]⟩,argTypes:=⟨[T,T']⟩ } =>
  match P.underlying T,σ.ev x,σ.ev y with
  | some (.slice e),some (.sl k),some av2 =>
   match P.info? e,look k σ.M with
   | some i,some (.row e' n rows) =>
    match i.zero,σ.src n av2 with
    | some z,some fV=>bif Nat.beq T T' && Nat.beq e e' && Nat.beq i.size n && Nat.beq z.cells.size n && Nat.blt 0 n && Nat.ble i.bytes 100000 then some ⟨e,n,k,rows,fV⟩else none
    | _,_=>none
   | _,_=>none
  | _,_,_=>none
 | _=>none
def lK(N:Nat)(o:Oper):Option Tmp :=
 match o.guard,o.dst with
 | none,some d=>bif Nat.blt d N then some d else none
 | _,_=>none
section
variable {P:Program} {C:Cx} {ops:Array Oper} {o:Oper} {rest:List Oper} {σ:St} {Q:Exit→St→Prop} {d:Tmp}
theorem kN(h:lK C.N o=some d):o.guard=none∧o.dst=some d∧Nat.blt d C.N=true:=by
 unfold lK at h
 split at h
 ·rename_i x h1 h2
  cases hb:Nat.blt x C.N with
  | false=>rw [hb]at h;cases h
  | true=>rw [hb]at h;cases h;exact⟨h1,h2,hb⟩
 ·cases h
theorem WL.vl {av:AV} (hd:lK C.N o=some d)(h:WV P C o σ av)(k:WL P C ops rest (σ.put d av) Q):WL P C ops (o::rest) σ Q :=
 WL.opv (kN hd).1 (kN hd).2.1 (kN hd).2.2 h k
theorem aa7 {s t:List UInt8} (h:amI σ o.op=some (s,t)) (hl:s.length+t.length<9223372036854775808):WV P C o σ (.sc (.string (bs (s++t)))):=by
 unfold amI at h
 split at h
 ·rename_i T x y Ty ho
  split at h
  ·rename_i s t h1 h2
   cases h
   exact WV.cat (s:=s) (t:=t) ho h1 h2 hl
  ·cases h
 ·cases h
theorem WL.cat {s t:List UInt8} (hd:lK C.N o=some d)(h:amI σ o.op=some (s,t))(hl:s.length+t.length<9223372036854775808)(k:WL P C ops rest (σ.put d (.sc (.string (bs (s++t))))) Q):WL P C ops (o::rest) σ Q:=WL.vl hd (aa7 h hl) k
theorem Ah {m:Nat} (h:lenV P σ o.op=some m):WV P C o σ (.sc (.int .i64 m)):=by
 unfold lenV at h
 split at h
 ·rename_i x T ho
  split at h
  ·rename_i av hx
   unfold av3 at h
   split at h
   ·split at h
    ·rename_i s _ hT;cases h;exact WV.ay3 (s:=s) ho hT hx
    ·cases h
   ·split at h
    ·rename_i hT;cases h;exact WV.ay4 ho hT hx rfl
    ·cases h
   ·split at h
    ·rename_i ob hT hk
     split at h
     ·rename_i rows hr;cases h;exact WV.ay6 ho hT hx hk hr rfl
     ·cases h
    ·cases h
   ·split at h
    ·rename_i hT;cases h;exact WV.ay5 ho hT hx
    ·cases h
   ·cases h
  ·cases h
 ·cases h
theorem WL.len {m m':Nat} (hd:lK C.N o=some d)(h:lenV P σ o.op=some m)(hm:m=m')(k:WL P C ops rest (σ.put d (.sc (.int .i64 m'))) Q):WL P C ops (o::rest) σ Q:=by
 subst hm
 exact WL.vl hd (Ah h) k
theorem zql {m n:Nat} (h:m = n:=by first|exact aH _|exact List.length_replicate|rfl):m = n:=h
theorem Dz {rows:List (List AV)} {z:Int} {r:List AV} (h:ag9 P σ o.op=some (rows,z))(h0:0≤z)(hr:rows[z.toNat]?=some r):WV P C o σ (.pr r):=by
 unfold ag9 at h
 split at h
 ·rename_i T x y ho
  split at h
  ·rename_i e n rows' q z' hT hx hy
   split at h
   ·rename_i m hn
    cases hb:Nat.beq m n with
    | false=>rw [hb]at h;cases h
    | true =>
     rw [hb]at h
     cases h
     obtain rfl:=dW hb
     exact WV.asQ ho hT hn hx hy h0 hr
   ·cases h
  ·cases h
 ·cases h
theorem WL.idx {rows:List (List AV)} {z:Int} {r:List AV} (hd:lK C.N o=some d)(h:ag9 P σ o.op=some (rows,z))(h0:0≤z)(hr:rows[z.toNat]?=some r)(k:WL P C ops rest (σ.put d (.pr r)) Q):WL P C ops (o::rest) σ Q :=
 WL.vl hd (Dz h h0 hr) k
theorem Ro {q:Nat} {rows:List (List AV)} {z:Int} (h:ahe P σ o.op=some (q,rows,z))(h0:0≤z)(h1:z<rows.length):WV P C o σ (.pt q z.toNat 0):=by
 unfold ahe at h
 split at h
 ·rename_i T x y ho
  split at h
  ·rename_i e k q' z' hT hx hy
   split at h
   ·rename_i m ob hn hk
    split at h
    ·rename_i rows' n hr hn2
     cases hb:Nat.beq m n with
     | false=>rw [hb]at h;cases h
     | true =>
      rw [hb]at h
      cases h
      obtain rfl:=dW hb
      exact WV.asR ho hT hn hx hy hk hr hn2 h0 h1
    ·cases h
   ·cases h
  ·cases h
 ·cases h
theorem WL.ixs {q:Nat} {rows:List (List AV)} {z:Int} (hd:lK C.N o=some d)(h:ahe P σ o.op=some (q,rows,z))(h0:0≤z∧z<rows.length)(k:WL P C ops rest (σ.put d (.pt q z.toNat 0)) Q):WL P C ops (o::rest) σ Q :=
 WL.vl hd (Ro h h0.1 h0.2) k
theorem amB {x:amv} (hd:lK C.N o=some d)(h:afW P σ o.op=some x)(hl:x.a.length+x.b.length≤1000000000):WO P C o σ (((σ.drop x.k).new (.row x.T x.n (x.a++x.b))).put d (.sl σ.nk)):=by
 obtain⟨_,hds,hdb⟩:=kN hd
 unfold afW at h
 split at h
 ·rename_i x y T T' ho
  split at h
  ·rename_i e k av2 hT hx hy
   split at h
   ·rename_i i e' n rows hi hk
    split at h
    ·rename_i z fV hz hs
     cases hb:Nat.beq T T' && Nat.beq e e' && Nat.beq i.size n && Nat.beq z.cells.size n && Nat.blt 0 n && Nat.ble i.bytes 100000 with
     | false=>rw [hb] at h;cases h
     | true =>
      rw [hb] at h
      simp only [aW] at hb
      cases h
      obtain⟨⟨⟨⟨⟨b1,b2⟩,b3⟩,b4⟩,b5⟩,b6⟩:=hb
      obtain rfl:=dW b1
      obtain rfl:=dW b2
      exact WO.append ho hT hi hz (dW b3) rfl (dW b4) b5 hds hdb hx hk hy hs rfl hl b6 rfl
    ·cases h
   ·cases h
  ·cases h
 ·cases h
theorem WL.app {x:amv} {t:List (Nat×AV)} {M M':List (Nat×AO)} {nk:Nat} (hd:lK C.N o=some d) (h:afW P ⟨t,M,nk⟩ o.op=some x) (hM:FH x.k M=some M') (hl:x.a.length+x.b.length≤1000000000) (k:WL P C ops rest ⟨(d,.sl nk)::t,(nk,.row x.T x.n (x.a++x.b))::M',nk+1⟩ Q):WL P C ops (o::rest) ⟨t,M,nk⟩ Q:=by
 rw [oI hM] at k
 exact WL.op (kN hd).1 (amB hd h hl) k
theorem WL.ev {t:List (Nat×AV)} {M:List (Nat×AO)} {nk:Nat} (h:(opE P C.N t M nk o).isSome=true) (k:goL P C ops Q (o::rest) t M nk):WL P C ops (o::rest) ⟨t,M,nk⟩ Q:=Yz k
def stepD (P:Program)(N:Nat)(ops:Array Oper)(σ:St)(o:Oper):Option (Tmp×AV) :=
 match o.dst with
 | some d =>
  bif Nat.blt d N then
   match qQ ops o (σ.only (o.looksAt ops)) with
   | some true =>
    match zD P (σ.only (o.looksAt ops)) o.op with
    | some av=>some (d,av)
    | none=>none
   | some false=>some (d,.sc undef)
   | none=>none
  else none
 | none=>none
theorem DK.st {av:AV} (h:stepD P C.N ops σ o=some (d,av))(k:DK P C ops rest (σ.put d av) Q):DK P C ops (o::rest) σ Q:=by
 unfold stepD at h
 split at h
 ·rename_i x hds
  cases hb:Nat.blt x C.N with
  | false=>rw [hb] at h;cases h
  | true =>
   rw [hb] at h
   simp only [cond_true] at h
   split at h
   ·rename_i hg
    split at h
    ·rename_i XZ hv
     cases h
     exact DK.val hds hb hg (tX rfl hv) k
    ·cases h
   ·rename_i hg
    cases h
    exact DK.no hds hb hg k
   ·cases h
 ·cases h
theorem DK.tt {b:Bool} (h:stepD P C.N ops σ o=some (d,.sc (.bool b)))(hb:b=true)(k:DK P C ops rest (σ.put d (.sc (.bool true))) Q):DK P C ops (o::rest) σ Q:=by
 subst hb;exact DK.st h k
theorem DK.ff {b:Bool} (h:stepD P C.N ops σ o=some (d,.sc (.bool b)))(hb:b=false)(k:DK P C ops rest (σ.put d (.sc (.bool false))) Q):DK P C ops (o::rest) σ Q:=by
 subst hb;exact DK.st h k
def NQ (N:Nat)(ops:Array Oper)(σ:St)(o:Oper):Option Tmp :=
 match o.dst,qQ ops o (σ.only (o.looksAt ops))with
 | some d,some true=>bif Nat.blt d N then some d else none
 | _,_=>none
theorem DK.vl {av:AV} (hd:NQ C.N ops σ o=some d)(h:WV P C o (σ.only (o.looksAt ops)) av)(k:DK P C ops rest (σ.put d av) Q):DK P C ops (o::rest) σ Q:=by
 unfold NQ at hd
 split at hd
 ·rename_i x h1 h2
  cases hb:Nat.blt x C.N with
  | false=>rw [hb] at hd;cases hd
  | true=>rw [hb] at hd;cases hd;exact DK.val h1 hb h2 h k
 ·cases hd
theorem DK.len {m m':Nat} (hd:NQ C.N ops σ o=some d)(h:lenV P (σ.only (o.looksAt ops)) o.op=some m)(hm:m=m')(k:DK P C ops rest (σ.put d (.sc (.int .i64 m'))) Q):DK P C ops (o::rest) σ Q:=by
 subst hm;exact DK.vl hd (Ah h) k
theorem DK.cat {s t:List UInt8} (hd:NQ C.N ops σ o=some d)(h:amI (σ.only (o.looksAt ops)) o.op=some (s,t))(hl:s.length+t.length<9223372036854775808)(k:DK P C ops rest (σ.put d (.sc (.string (bs (s++t))))) Q):DK P C ops (o::rest) σ Q:=DK.vl hd (aa7 h hl) k
theorem DK.idx {rows:List (List AV)} {z:Int} {r:List AV} (hd:NQ C.N ops σ o=some d)(h:ag9 P (σ.only (o.looksAt ops)) o.op=some (rows,z))(h0:0≤z)(hr:rows[z.toNat]?=some r)(k:DK P C ops rest (σ.put d (.pr r)) Q):DK P C ops (o::rest) σ Q :=
 DK.vl hd (Dz h h0 hr) k
theorem DK.ixs {q:Nat} {rows:List (List AV)} {z:Int} (hd:NQ C.N ops σ o=some d)(h:ahe P (σ.only (o.looksAt ops)) o.op=some (q,rows,z))(h0:0≤z∧z<rows.length)(k:DK P C ops rest (σ.put d (.pt q z.toNat 0)) Q):DK P C ops (o::rest) σ Q :=
 DK.vl hd (Ro h h0.1 h0.2) k
theorem zB {φ:Prop} {z:Int} (h:WU σ o.op=some (φ,z))(hφ:φ):WV P C o σ (.sc (.int .i64 z)):=by
 unfold WU at h
 split at h
 ·rename_i op T x y Ty ho
  split at h
  ·rename_i m n h1 h2
   unfold apW at h
   split at h<;>first|cases h|skip
   ·exact WV.add ho h1 h2 hφ
   ·exact WV.sub ho h1 h2 hφ
   ·exact WV.mul ho h1 h2 hφ
  ·cases h
 ·cases h
theorem WL.ar {φ:Prop} {z:Int} (hd:lK C.N o=some d)(h:WU σ o.op=some (φ,z))(hφ:φ)(k:WL P C ops rest (σ.put d (.sc (.int .i64 z))) Q):WL P C ops (o::rest) σ Q:=WL.vl hd (zB h hφ) k
theorem DK.ar {φ:Prop} {z:Int} (hd:NQ C.N ops σ o=some d)(h:WU (σ.only (o.looksAt ops)) o.op=some (φ,z))(hφ:φ)(k:DK P C ops rest (σ.put d (.sc (.int .i64 z))) Q):DK P C ops (o::rest) σ Q:=DK.vl hd (zB h hφ) k
end
end
section
open Go.RowKit
attribute [local go_sem]wC bY gW gV dU
attribute [local simp]mV iK eF je
theorem ath (n:Int)(w:World)(h:n<1∨4<n):Calls Tryz.prog 50 #[.int .u8 n] w fun e w'=>e=.returned (.tuple #[.nilIface,.bool false])∧w=w':=by
 have h1:(n == 1)=false:=by simp;omega
 have h2:(n == 2)=false:=by simp;omega
 have h3:(n == 3)=false:=by simp;omega
 have h4:(n == 4)=false:=by simp;omega
 exact XU
theorem aty (c f:Int)(w:World)(hc:1≤c∧c≤14)(hf:0≤f∧f≤18) :
  Calls Tryz.prog 321 #[.agg #[],.agg #[.int .i64 c,.int .i64 f]] w (eG (.tuple #[.string (bs (pS 1 c f)),.bool (qU 1 c f)]) w):=adO c f w hc hf
theorem atz (c f:Int)(w:World)(hc:1≤c∧c≤14)(hf:0≤f∧f≤18) :
  Calls Tryz.prog 336 #[.agg #[],.agg #[.int .i64 c,.int .i64 f]] w (eG (.tuple #[.string (bs (pS 2 c f)),.bool (qU 2 c f)]) w):=ad8 c f w hc hf
theorem atA (c f:Int)(w:World)(hc:1≤c∧c≤14)(hf:0≤f∧f≤18) :
  Calls Tryz.prog 344 #[.agg #[],.agg #[.int .i64 c,.int .i64 f]] w (eG (.tuple #[.string (bs (pS 3 c f)),.bool (qU 3 c f)]) w):=afr c f w hf
theorem atB (c f:Int)(w:World)(hc:1≤c∧c≤14)(hf:0≤f∧f≤18) :
  Calls Tryz.prog 351 #[.agg #[],.agg #[.int .i64 c,.int .i64 f]] w (eG (.tuple #[.string (bs (pS 4 c f)),.bool (qU 4 c f)]) w):=adS c f w hc hf
theorem Z7 (s c aT:Int)(w:World) :
  Calls Tryz.prog 86 #[.int .u8 s,.int .i64 c,.int .i64 aT] w fun e w'=>e=.returned (.bool (ig s aT c))∧w'=w:=by
 by_cases h:0<aT
 ·have e1:ig s aT c=(c == aT):=if_pos h
  rw [e1]
  exact amf
 ·have e1:ig s aT c=(s == 4|| decide (6<c)):=if_neg h
  rw [e1]
  by_cases h4:s=4
  ·subst h4
   exact amf
  ·have hb:(s == 4)=false:=by simp;exact h4
   exact amf
end
section
def Xk:List UInt8:=[66,83,77,67,81,88,68]
def tW (v:Int)(i:Nat):List UInt8:=if v=0 then [45] else if i=0 then cut Xk (v-1) v else if i=1 then cut Xk (v-1) v++[46] else cut Xk (v-1) v++[51]
def Aq (s v:Int)(i:Nat):Bool:=if v=0 then decide (s≠4)else (decide (i≠2)|| decide (s≠4))
def rW(s v:Int)(i:Nat):List UInt8:=if Aq s v i=true then tW v i else []
def IE(i:Nat):Bool:=i == 1
def EH(i:Nat):Bool:=i == 2
def gZ (v:Int)(d t:Bool):Bool:=(v == 0 && !d && !t)|| (decide (1≤v) && decide (v≤7) && !(d && t))
def sH(d t:Bool):Nat:=if d then 1 else if t then 2 else 0
def Dl(v:Int)(d t:Bool):Int :=
 if v<1∨7<v∨(d && t)=true then 0 else if d then 384/2 ^ (v-1).toNat/2*3 else if t then 384/2 ^ (v-1).toNat/3*2 else 384/2 ^ (v-1).toNat
theorem awL:((List.range' 1 7).all fun v=>[(false,false),(true,false),(false,true)].all fun p=>decide (0<Dl (v:Nat) p.1 p.2))=true:=by decide +kernel
theorem SV (v:Int) (d t:Bool) (hv:1≤v∧v≤7) (h:(d && t)=false):0<Dl v d t:=by
 obtain ⟨v,rfl⟩:=gq (show 0≤v by omega)
 have h1:=awL
 rw [jg]at h1
 have h2:=h1 v (List.mem_range'_1.2 au)
 rw [jg]at h2
 cases d<;>cases t
 ·exact iY (h2 (false,false) (by simp))
 ·exact iY (h2 (false,true) (by simp))
 ·exact iY (h2 (true,false) (by simp))
 ·cases h
def Ar (s v:Int)(d t:Bool):Int:=if ¬ (1≤s∧s≤4)then 30 else if gZ v d t=false then 20 else if Aq s v (sH d t)=false then 31 else 0
def Jg (s v:Int)(d t:Bool):List UInt8:=if Ar s v d t=0 then tW v (sH d t)else []
theorem apY (v:Int)(i:Nat)(hv:0≤v∧v≤7):tW v i≠[]:=by
 unfold tW
 by_cases h0:v=0
 ·rw [if_pos h0];decide
 ·rw [if_neg h0]
  have hc:cut Xk (v-1) v≠[]:=by
   have h7:v=1∨v=2∨v=3∨v=4∨v=5∨v=6∨v=7:=by omega
   rcases h7 with rfl|rfl|rfl|rfl|rfl|rfl|rfl<;>decide
  split
  ·exact hc
  ·split<;>simp
def EI(s:Int)(l:List UInt8)(v i:Nat):Bool:=(v != 0|| i == 0) && (Aq s v i && tW v i == l)
def lD (m:Nat→Nat→Bool)(v n:Nat):Option (Nat×Nat):=(List.range' v n).findSome? fun v=>((List.range 3).find? (m v)).map fun i=>(v,i)
theorem afl (m:Nat→Nat→Bool)(v n i:Nat)(h:(List.range 3).find? (m v)=some i):lD m v (n+1)=some (v,i):=by
 simp only [lD,MK,Tc,h,oM]
theorem aiZ (m:Nat→Nat→Bool)(v n:Nat)(h:(List.range 3).find? (m v)=none):lD m v (n+1)=lD m (v+1) n:=by
 simp only [lD,MK,Tc,h,L9]
theorem abl(m:Nat→Bool):(List.range 3).find? m=if m 0=true then some 0 else if m 1=true then some 1 else if m 2=true then some 2 else none:=by
 have:List.range 3=[0,1,2]:=rfl
 rw [this,List.find?_cons,List.find?_cons,List.find?_cons]
 cases m 0<;>cases m 1<;>cases m 2<;>rfl
def oH:List (Nat×Nat):=[(1,1),(1,0),(2,1),(1,2),(2,0),(3,1),(2,2),(3,0),(4,1),(3,2),(4,0),(5,1),(4,2),(5,0),(6,1),(5,2),(6,0),(7,1),(6,2),(7,0),(7,2),(0,0)]
def SA(s:Int)(l:List UInt8)(p:Nat×Nat):Bool:=!l.isEmpty && rW s p.1 p.2 == l
def wJ:List (Nat×Nat):=(List.range 8).flatMap fun v=>(List.range 3).map fun i=>(v,i)
theorem UK {α:Type} (L L':List α)(p p':α→Bool)(h1:∀ x∈L,p x=true→x∈L'∧p' x=true)(h2:∀ x∈L',p' x=true→x∈L∧p x=true)
  (hu:∀ x∈L',∀ y∈L',p' x=true→p' y=true→x=y):L.find? p=L'.find? p':=by
 cases hL:L.find? p with
 | none =>
  rw [yx] at hL
  symm
  rw [yx]
  intro x hx hp
  exact hL x (h2 x hx hp).1 (h2 x hx hp).2
 | some x =>
  have hm:=MN hL
  have hp:=Ia hL
  obtain⟨a,b⟩:=h1 x hm hp
  cases hL':L'.find? p' with
  | none =>
   rw [yx] at hL'
   exact absurd b (hL' x a)
  | some y =>
   rw [hu x a y (MN hL') b (Ia hL')]
theorem Hu:(oH.all fun x=>oH.all fun y=>!(tW x.1 x.2 == tW y.1 y.2)|| x == y)=true:=by decide +kernel
theorem afn:(oH.all fun x=>wJ.contains x && (x.1 != 0|| x.2 == 0))=true:=by decide +kernel
theorem afo:(wJ.all fun x=>!(x.1 != 0|| x.2 == 0)|| oH.contains x)=true:=by decide +kernel
theorem aoO:(oH.all fun x=>decide (x.1≤7))=true:=by decide +kernel
theorem LC (m:Nat→Nat→Bool):lD m 0 8=wJ.find? fun p=>m p.1 p.2:=by
 unfold lD wJ
 have:∀ l:List Nat,(l.findSome? fun v=>((List.range 3).find? (m v)).map fun i=>(v,i))=(l.flatMap fun v=>(List.range 3).map fun i=>(v,i)).find? fun p=>m p.1 p.2:=by
  intro l
  induction l with
  | nil=>rfl
  | cons v r ih =>
   rw [Tc,Md,Td,ih,List.find?_map]
   have e:((fun p:Nat×Nat=>m p.1 p.2) ∘ fun i=>(v,i))=m v:=rfl
   rw [e]
   cases (List.range 3).find? (m v)<;>rfl
 rw [← Me]
 exact this _
theorem aeX (s:Int) (l:List UInt8):lD (EI s l) 0 8=oH.find? (SA s l):=by
 rw [LC]
 have hw:=Hu
 have hsub:=afn
 have hsup:=afo
 have hv:=aoO
 rw [jg] at hw hsub hsup hv
 refine UK _ _ _ _ ?_ ?_ ?_
 ·intro x hx hp
  simp only [EI,aW] at hp
  have hx':=hsup x hx
  rw [hp.1] at hx'
  have hin:x∈oH:=by simpa using hx'
  refine ⟨hin,?_⟩
  have hl:tW x.1 x.2=l:=by simpa using hp.2.2
  have hne:=apY x.1 x.2 ⟨by omega,by have:=iY (hv x hin);omega⟩
  rw [hl] at hne
  have he:l.isEmpty=false:=by simpa using hne
  unfold SA rW
  rw [if_pos hp.2.1,he]
  simpa using hp.2.2
 ·intro x hx hp
  simp only [SA,aW] at hp
  have hx':=hsub x hx
  simp only [aW] at hx'
  refine ⟨by simpa using hx'.1,?_⟩
  have he:rW s x.1 x.2=l:=by simpa using hp.2
  have hne:l≠[]:=by have:=hp.1;intro h0;rw [h0] at this;simp at this
  have hok:Aq s x.1 x.2=true:=by
   cases h:Aq s x.1 x.2 with
   | true=>rfl
   | false=>unfold rW at he;rw [h] at he;exact absurd he.symm hne
  have ht:tW x.1 x.2=l:=by unfold rW at he;rw [if_pos hok] at he;exact he
  unfold EI
  rw [hx'.2,hok,ht]
  simp
 ·intro x hx y hy hpx hpy
  have f:∀ z,SA s l z=true→tW z.1 z.2=l:=by
   intro z hz
   simp only [SA,aW] at hz
   have he:rW s z.1 z.2=l:=by simpa using hz.2
   have hne:l≠[]:=by have:=hz.1;intro h0;rw [h0] at this;simp at this
   unfold rW at he
   split at he
   ·exact he
   ·exact absurd he.symm hne
  have h1:=hw x hx
  rw [jg] at h1
  have h2:=h1 y hy
  rw [f x hpx,f y hpy] at h2
  simpa using h2
theorem Zx (s v:Int) (d t:Bool) (h:Ar s v d t=0):lD (EI s (Jg s v d t)) 0 8=some (v.toNat,sH d t)∧((v.toNat:Nat):Int)=v∧IE (sH d t)=d∧EH (sH d t)=t:=by
 have hok:gZ v d t=true:=by
  cases hk:gZ v d t with
  | true=>rfl
  | false=>unfold Ar at h;rw [hk] at h;split at h<;>simp at h
 have hv7:0≤v∧v≤7:=by
  unfold gZ at hok
  simp only [qI,aW,qH,gu] at hok
  omega
 obtain ⟨n,rfl⟩:=gq hv7.1
 have hto:Aq s n (sH d t)=true:=by
  cases hk:Aq s n (sH d t) with
  | true=>rfl
  | false=>unfold Ar at h;rw [hok,hk] at h;split at h<;>simp at h
 have hr:(n,sH d t)∈oH∧IE (sH d t)=d∧EH (sH d t)=t:=by
  have h8:n=0∨n=1∨n=2∨n=3∨n=4∨n=5∨n=6∨n=7:=by omega
  revert hok
  cases d<;>cases t<;>rcases h8 with rfl|rfl|rfl|rfl|rfl|rfl|rfl|rfl<;>decide
 refine ⟨?_,rfl,hr.2.1,hr.2.2⟩
 have ht:Jg s n d t=tW n (sH d t):=by unfold Jg;rw [if_pos h]
 rw [ht,aeX,fO]
 have hne:=apY n (sH d t) au
 have he:(tW n (sH d t)).isEmpty=false:=by simpa using hne
 have hp:SA s (tW n (sH d t)) (n,sH d t)=true:=by unfold SA rW;rw [if_pos hto,he];simp
 have hw:=Hu
 rw [jg] at hw
 cases hf:oH.find? (SA s (tW n (sH d t))) with
 | none=>rw [yx] at hf;exact absurd hp (hf _ hr.1)
 | some y =>
  have hy:=Ia hf
  simp only [SA,aW] at hy
  have hye:rW s y.1 y.2=tW n (sH d t):=by simpa using hy.2
  have hyt:tW y.1 y.2=tW n (sH d t):=by
   unfold rW at hye
   split at hye
   ·exact hye
   ·exact absurd hye.symm hne
  have h1:=hw y (MN hf)
  rw [jg] at h1
  have h2:=h1 _ hr.1
  rw [hyt] at h2
  simp at h2
  rw [h2]
end
section
open Go.RowKit
abbrev sJ:=Int×Int×Int
def ahf(x:sJ):List Value:=[.int .i64 x.1,.int .i64 x.2.1,.int .i64 x.2.2]
def auQ (w:World)(B0 b:Nat)(l:List sJ):Prop :=
 ∃ Q d,nN w b 45 #[.slice Q l.length d]∧w.ownsRow B0 122 3 (.slice Q l.length d) l.length (l.map ahf).flatten
def uH(s c n:Int):Int:=if s=4 then 0 else if s=2 then n+1-c else c
theorem mF {cs:List (Int×Int×Bool)} {st:List Int} (h:fU cs st=0):1≤cs.length∧cs.length≤14∧st.length≤18∧iq 0 st=false∧yJ st cs=0:=by
 unfold fU at h
 by_cases h1:14<cs.length∨18<st.length
 ·rw [if_pos h1]at h;cases h
 ·rw [if_neg h1]at h
  by_cases h2:cs.length=0
  ·exact Gt
  ·rw [if_neg h2]at h
   by_cases h3:iq 0 st=true
   ·rw [if_pos h3]at h;cases h
   ·rw [if_neg h3]at h
    exact⟨by omega,by omega,by omega,by simpa using h3,h⟩
def dJ (cs:List (Int×Int×Bool)) (c:Int):Int:=(cs.getD (c.toNat-1) (0,0,false)).2.1
def gQ(p:aS)(i:Int)(s:Stp)(last:Int):Int :=
 if s.1<1∨(p.cs.length:Int)<s.1 then 12
 else if s.2.1<0∨dJ p.cs s.1<s.2.1 then 13
 else if s.1≤last then 22
 else if(s.2.2.1<0∨3<s.2.2.1)∨(s.2.2.2.1<0∨4<s.2.2.2.1)then 23
 else if(s.2.2.2.2<0∨(ah p.evs i s.1:Int)<s.2.2.2.2)∨(0<s.2.2.2.2∧s.2.1=0)then 24
 else 0
def gK(p:aS)(i:Int):Int→List Stp→Int
 | _,[]=>0
 | last,s::r=>if gQ p i s last≠0 then gQ p i s last else gK p i s.1 r
def AY(p:aS)(i:Int)(e:Ev):Int :=
 if gZ e.val e.dot e.three=false∨(i=0∧e.val=0)then 20
 else if e.tie=true∧(0<e.stops.length∨i=0)then 21
 else gK p i 0 e.stops
def yL (p:aS):Nat→List Ev→Int
 | _,[]=>0
 | i,e::r=>if AY p i e≠0 then AY p i e else yL p (i+1) r
def aV(p:aS):Int:=if fU p.cs p.st≠0 then fU p.cs p.st else if 400<p.evs.length then 2 else yL p 0 p.evs
theorem Qc {p:aS} {i last:Int} {l:List Stp} {k:Nat} (h:k<l.length):gK p i last (l.drop k)=if gQ p i l[k] last≠0 then gQ p i l[k] last else gK p i l[k].1 (l.drop (k+1)):=by
 exact Nq
theorem abk {p:aS} {l:List Ev} {k:Nat} (h:k<l.length):yL p k (l.drop k)=if AY p k l[k]≠0 then AY p k l[k]else yL p (k+1) (l.drop (k+1)):=by
 exact Nq
section
variable {p:aS} {i last:Int} {s:Stp}
theorem FY(h:s.1<1∨(p.cs.length:Int)<s.1):gQ p i s last=12:=if_pos h
theorem CW(h:¬ (s.1<1∨(p.cs.length:Int)<s.1))(h1:s.2.1<0∨dJ p.cs s.1<s.2.1):gQ p i s last=13:=by unfold gQ;rw [if_neg h,if_pos h1]
theorem Hy(h:¬ (s.1<1∨(p.cs.length:Int)<s.1))(h1:¬ (s.2.1<0∨dJ p.cs s.1<s.2.1))(h2:s.1≤last):gQ p i s last=22:=by unfold gQ;rw [if_neg h,if_neg h1,if_pos h2]
theorem tY(h:¬ (s.1<1∨(p.cs.length:Int)<s.1))(h1:¬ (s.2.1<0∨dJ p.cs s.1<s.2.1))(h2:¬ s.1≤last)(h3:(s.2.2.1<0∨3<s.2.2.1)∨(s.2.2.2.1<0∨4<s.2.2.2.1)):gQ p i s last=23:=by unfold gQ;rw [if_neg h,if_neg h1,if_neg h2,if_pos h3]
theorem xY(h:¬ (s.1<1∨(p.cs.length:Int)<s.1))(h1:¬ (s.2.1<0∨dJ p.cs s.1<s.2.1))(h2:¬ s.1≤last)(h3:¬ ((s.2.2.1<0∨3<s.2.2.1)∨(s.2.2.2.1<0∨4<s.2.2.2.1)))
  (h4:(s.2.2.2.2<0∨(ah p.evs i s.1:Int)<s.2.2.2.2)∨(0<s.2.2.2.2∧s.2.1=0)):gQ p i s last=24:=by unfold gQ;rw [if_neg h,if_neg h1,if_neg h2,if_neg h3,if_pos h4]
theorem zF(h:¬ (s.1<1∨(p.cs.length:Int)<s.1))(h1:¬ (s.2.1<0∨dJ p.cs s.1<s.2.1))(h2:¬ s.1≤last)(h3:¬ ((s.2.2.1<0∨3<s.2.2.1)∨(s.2.2.2.1<0∨4<s.2.2.2.1)))
  (h4:¬ ((s.2.2.2.2<0∨(ah p.evs i s.1:Int)<s.2.2.2.2)∨(0<s.2.2.2.2∧s.2.1=0))):gQ p i s last=0:=by unfold gQ;rw [if_neg h,if_neg h1,if_neg h2,if_neg h3,if_neg h4]
end
theorem BQ {cs:List (Int×Int×Bool)} {q:Nat} (h:q<cs.length):dJ cs ((q:Int)+1)=cs[q].2.1:=by
 unfold dJ
 have:((q:Int)+1).toNat-1=q:=by omega
 rw [this,oP,aI h];rfl
end
end Go.Proofs.YthehkchjdkdbiaaGreatDoor
