/- A walk that knows values as trees: slices that are built and made. -/
import Derived.Test.YtaeelcfjkhfpkaaGreatPlPq
set_option linter.unusedVariables false
set_option linter.unusedSimpArgs false
namespace Go.Proofs.YtaeelcfjkhfpkaaGreat
section
open Go.RowKit
def AV.frz0 (k n:Nat)(rows:List (List AV)):AV→AV
 | .sl q=>bif Nat.beq q k then .ls n rows else .sl q
 | av=>av
def AV.frz1 (k n:Nat)(rows:List (List AV)):AV→AV
 | .fn f l=>.fn f (l.map (AV.frz0 k n rows))
 | av=>av.frz0 k n rows
def AV.frz2 (k n:Nat)(rows:List (List AV)):AV→AV
 | .ag l=>.ag (l.map (AV.frz1 k n rows))
 | av=>av.frz1 k n rows
def AV.frz (k n:Nat)(rows:List (List AV)):AV→AV
 | .tu l=>.tu (l.map (AV.frz2 k n rows))
 | av=>av.frz2 k n rows
def AO.frz (k n:Nat)(rows:List (List AV)):AO→AO
 | .box T cells=>.box T (cells.map (AV.frz1 k n rows))
 | .rof T m rs hi hj x=>.rof T m rs hi hj (x.frz1 k n rows)
 | .rwo T m rs hi hj x=>.rwo T m rs hi hj (x.frz1 k n rows)
 | ob=>ob
def mapS {α β:Type} (f:α→β):List (Nat×α)→List (Nat×β)
 | []=>[]
 | x::r=>(x.1,f x.2)::mapS f r
theorem look_mapS {α β:Type} (f:α→β)(i:Nat):∀ (l:List (Nat×α)),look i (mapS f l)=(look i l).map f
 | []=>rfl
 | x::r=>by
  by_cases e:i=x.1
  ·subst e
   rw [show look x.1 (x::r)=some x.2 from look_set_same]
   exact look_set_same
  ·rw [show look i (x::r)=look i r from look_set_other e,← look_mapS f i r]
   exact look_set_other e
def St.freeze (σ:St) (k n:Nat) (rows:List (List AV)):St:=⟨mapS (AV.frz k n rows) σ.t,mapS (AO.frz k n rows) (rem k σ.M),σ.nk⟩
def AV.fz:Nat→AV→AV
 | d+1,.ow _ n rows=>.ls n (rows.map fun r=>r.map (AV.fz d))
 | _,av=>av
def AV.shal:Nat→AV→Bool
 | 0,.ow _ _ _=>false
 | d+1,.ow _ _ rows=>rows.all fun r=>r.all (AV.shal d)
 | _,_=>true
section
variable {P:Program} {C:Cx} {σ σ':St} {G G':Gh} {a:Act} {w w':World} {o:Oper} {d:Tmp}
theorem list_R {Q:AV→AV} {l:List AV} {cs:Array Value} (h1:cs.size=l.length)(h2:∀ (i:Nat) av u,l[i]?=some av→cs[i]?=some u→R G av u)(hq:∀ av u,R G av u→R G (Q av) u) :
  cs.size=(l.map Q).length∧∀ (i:Nat) av u,(l.map Q)[i]?=some av→cs[i]?=some u→R G av u:=by
 refine⟨by simpa using h1,fun i av u x y=>?_⟩
 rw [List.getElem?_map] at x
 cases hx:l[i]? with
 | none=>simp [hx] at x
 | some b=>simp [hx] at x;rw [← x];exact hq _ _ (h2 i b u hx y)
theorem list_bd {Q:AV→AV} {nk:Nat} {l:List AV} (h:∀ (i:Nat)x,l[i]?=some x→Bd nk x)(hq:∀ av,Bd nk av→Bd nk (Q av)):∀ (i:Nat)x,(l.map Q)[i]?=some x→Bd nk x:=fun i x hx=>by
 rw [List.getElem?_map]at hx
 cases hq':l[i]? with
 | none=>simp [hq']at hx
 | some y=>simp [hq']at hx;rw [← hx];exact hq _ (h i y hq')
section
variable {k n nk:Nat} {rows:List (List AV)} {av:AV} {v:Value}
theorem frz0_R (h:R G (.ls n rows) (G.h k)) (r:R G av v):R G (av.frz0 k n rows) v:=by
 cases av with
 | sl q =>
  simp only [AV.frz0]
  cases e:Nat.beq q k with
  | true=>obtain rfl:=Nat.eq_of_beq_eq_true e;rw [r.sl_of.1];exact h
  | false=>exact r
 | _=>exact r
theorem frz0_bd (b:Bd nk av):Bd nk (av.frz0 k n rows):=by
 cases av with
 | sl q =>
  simp only [AV.frz0]
  cases e:Nat.beq q k with
  | true=>exact .ls _ _
  | false=>exact b
 | _=>exact b
theorem frz1_R (h:R G (.ls n rows) (G.h k)) (r:R G av v):R G (av.frz1 k n rows) v:=by
 cases av with
 | fn f l =>
  obtain ⟨cs,rfl,h1,h2⟩:=r.fn_of
  obtain ⟨q1,q2⟩:=list_R h1 h2 fun _ _=>frz0_R h
  exact .fn f _ cs q1 q2
 | sl q=>exact frz0_R (av:=.sl q) h r
 | _=>exact r
theorem frz1_bd (b:Bd nk av):Bd nk (av.frz1 k n rows):=by
 cases av with
 | fn f l=>cases b with|fn _ _ hb=>exact .fn f _ (list_bd hb fun _=>frz0_bd)
 | sl q=>exact frz0_bd (av:=.sl q) b
 | _=>exact b
theorem frz2_R (h:R G (.ls n rows) (G.h k)) (r:R G av v):R G (av.frz2 k n rows) v:=by
 cases av with
 | ag l =>
  obtain ⟨cs,rfl,h1,h2⟩:=r.ag_of
  obtain ⟨q1,q2⟩:=list_R h1 h2 fun _ _=>frz1_R h
  exact .ag _ cs q1 q2
 | fn f l=>exact frz1_R (av:=.fn f l) h r
 | sl q=>exact frz0_R (av:=.sl q) h r
 | _=>exact r
theorem frz2_bd (b:Bd nk av):Bd nk (av.frz2 k n rows):=by
 cases av with
 | ag l=>cases b with|ag _ hb=>exact .ag _ (list_bd hb fun _=>frz1_bd)
 | fn f l=>exact frz1_bd (av:=.fn f l) b
 | sl q=>exact frz0_bd (av:=.sl q) b
 | _=>exact b
theorem frz_R (h:R G (.ls n rows) (G.h k)) (r:R G av v):R G (av.frz k n rows) v:=by
 cases av with
 | tu l =>
  obtain ⟨cs,rfl,h1,h2⟩:=r.tu_of
  obtain ⟨q1,q2⟩:=list_R h1 h2 fun _ _=>frz2_R h
  exact .tu _ cs q1 q2
 | ag l=>exact frz2_R (av:=.ag l) h r
 | fn f l=>exact frz1_R (av:=.fn f l) h r
 | sl q=>exact frz0_R (av:=.sl q) h r
 | _=>exact r
theorem frz_bd (b:Bd nk av):Bd nk (av.frz k n rows):=by
 cases av with
 | tu l=>cases b with|tu _ hb=>exact .tu _ (list_bd hb fun _=>frz2_bd)
 | ag l=>exact frz2_bd (av:=.ag l) b
 | fn f l=>exact frz1_bd (av:=.fn f l) b
 | sl q=>exact frz0_bd (av:=.sl q) b
 | _=>exact b
theorem frz1_C {φ:Nat→Prop} (h:R G (.ls n rows) (G.h k)) (r:CR G w φ av v):CR G w φ (av.frz1 k n rows) v:=by
 rcases r with r|o
 ·exact .inl (frz1_R h r)
 ·by_cases ho:av.own=true
  ·cases av with
   | ow T n rows=>exact .inr o
   | _=>cases ho
  ·exact .inl (frz1_R h (.pu _ _ (OW.p o (by simpa using ho))))
end
theorem RowIs.fix {T n:Nat} {rows:List (List AV)} {v:Value} {φ:Nat→Prop} {X:Nat→Nat→(Nat→Prop)→AV→Value→Prop} {F':View} (f:AV→AV) (h:RowIs w T n rows v φ X) (hF:∀ p,φ p.block→F' p=w.cell? p)
    (hX:∀ (i:Nat) r (j:Nat) av u ψ,rows[i]?=some r→r[j]?=some av→(∀ x,ψ x→φ x)→X i j ψ av u→RP F' (f av) u):RP F' (.ls n (rows.map fun r=>r.map f)) v:=by
  have hfp:=h.2
  obtain ⟨vs0,_,_,_,_,hgf,_⟩:=hfp
  obtain ⟨A,c,vs,Φ,hA,h5,hrd,hvl,h7,h8,hΦ,_,h6⟩:=h.rd
  have hrl:=h.1
  have h4:=h.2
  obtain ⟨vs1,Φ1,h4,h51,_⟩:=h4
  have hcap:rows.length≤c:=by
    rcases h4.2 with⟨e,e2⟩|⟨g,cap,cur,e,_,_,hnc,_⟩
    · omega
    · rw [e] at hA;injection hA with _ _ hA;omega
  have hgA:∀ ad,A=some ad→φ ad.block:=fun ad e=>by
    rcases h4.2 with⟨e1,e2⟩|⟨g,cap,cur,e1,_⟩
    · rw [e1,e] at hA;cases hA
    · rw [e1,e] at hA;injection hA with hA _ _;cases hA
      exact hgf g (by rw [e1];rfl)
  have hv:v=.slice A (rows.map fun r=>r.map f).length c:=by rw [hA,List.length_map,h5]
  rw [hv]
  by_cases hp:0<rows.length
  · obtain ⟨ad,had,_⟩:=hrd zqo
    refine .ls n _ A c ad (fun i j=>((vs.getD i []).getD j undef)) (by simpa using hcap) (fun r hr=>?_) (fun _=>had) (fun i r j av hr hav=>?_) (fun i r j av hr hav=>?_)
    · obtain ⟨r',hr',rfl⟩:=List.mem_map.1 hr
      rw [List.length_map];exact hrl _ hr'
    all_goals
      rw [List.getElem?_map] at hr
      cases hr0:rows[i]? with
      | none=>simp [hr0] at hr
      | some r0 =>
        simp only [hr0,Option.map_some,Option.some.injEq] at hr
        subst hr
        rw [List.getElem?_map] at hav
        cases hav0:r0[j]? with
        | none=>simp [hav0] at hav
        | some av0 =>
          simp only [hav0,Option.map_some,Option.some.injEq] at hav
          subst hav
          have hi:i<rows.length:=(List.getElem?_eq_some_iff.1 hr0).1
          have hv:vs[i]?=some vs[i]:=List.getElem?_eq_getElem (by omega)
          have e1:=h8 i r0 _ hr0 hv
          have hj:j<vs[i].length:=by rw [e1];exact (List.getElem?_eq_some_iff.1 hav0).1
          have hu:(vs.getD i []).getD j undef=vs[i][j]:=by simp [List.getD,hv,hj]
          simp only [hu]
          first
            | (refine ⟨?_,h7 _ (List.getElem_mem _) _ (List.getElem_mem _)⟩
               obtain ⟨ad',had',_,hc⟩:=Rd.at_ (k:=i) hrd zqo
               obtain rfl:ad'=ad:=by rw [had] at had';exact (Option.some.inj had').symm
               rw [hF _ (by rw [block_of_add];exact hgA _ had)]
               exact hc j _ (List.getElem?_eq_getElem hj))
            |exact hX i r0 j av0 _ _ hr0 hav0 (fun x hx=>(hΦ i j x hx).1) (h6 i r0 _ j av0 _ hr0 hv hav0 (List.getElem?_eq_getElem hj))
  · have h0:rows=[]:=List.eq_nil_of_length_eq_zero zqo
    subst h0
    exact .ls n [] A c ⟨0,0,none⟩ (fun _ _=>undef) (by simp) (by simp) (fun h=>absurd h (by simp)) (fun i r j av h=>by simp at h) (fun i r j av h=>by simp at h)
theorem fz_pu {d:Nat} {av:AV} (h:av.own=false):av.fz d=av:=by
 cases d<;>cases av<;>first|rfl|cases h
theorem OW.fix {F F':View} (hle:F.le F'):∀ (d:Nat) {av:AV} {v:Value} {φ:Nat→Prop},OW F w av v φ→(∀ p,φ p.block→F' p=w.cell? p)→av.shal d=true→RP F' (av.fz d) v
 | d,av,v,φ,h,hF,hs=>by
  by_cases ho:av.own=true
  ·cases av with
   | ow T n rows =>
    cases d with
    | zero=>cases hs
    | succ d =>
     refine RowIs.fix (AV.fz d) h.row hF fun i r j av u ψ hr hav hψ x=>?_
     have h1:(rows.all fun r=>r.all (AV.shal d))=true:=hs
     have h2:=List.all_eq_true.1 (List.all_eq_true.1 h1 r (List.mem_of_getElem? hr)) av (List.mem_of_getElem? hav)
     exact OW.fix hle d x (fun p hp=>hF p (hψ _ hp)) h2
   | _=>cases ho
  ·rw [fz_pu (by simpa using ho)]
   exact (h.p (by simpa using ho)).mono hle
theorem Tr.freezeG (k:Nat) {n:Nat} {rows':List (List AV)} {ob:AO} (hk:look k σ.M=some ob) (hls:∀ G w (F':View),ObAt G w k ob→G.F.le F'→(∀ p,G.fp k p.block→F' p=w.cell? p)→RP F' (.ls n rows') (G.h k)):Tr C σ (σ.freeze k n rows'):=fun G a w ok=>by
 obtain ⟨hkn,_,hob⟩:=ok.ob k _ hk
 classical
 let F':View:=fun p=>if G.fp k p.block then w.cell? p else G.F p
 have hF:G.F.le F':=fun p u h=>by
  show (if _ then _ else _)=_
  rw [if_neg (fun e=>ok.dF k _ p.block p u hk e h rfl)];exact h
 have hFn:∀ p u,F' p=some u→G.F p=some u∨(G.fp k p.block∧w.cell? p=some u):=fun p u h=>by
  have h:(if G.fp k p.block then w.cell? p else G.F p)=some u:=h
  by_cases e:G.fp k p.block
  ·rw [if_pos e] at h;exact .inr ⟨e,h⟩
  ·rw [if_neg e] at h;exact .inl h
 have hls:=hls G w F' hob hF (fun p hp=>if_pos hp)
 have hle:G.le { G with F:=F' } σ.nk:=⟨hF,fun _ _=>rfl,fun _ _=>rfl,fun _ _=>rfl⟩
 have hls':R { G with F:=F' } (.ls n rows') (({ G with F:=F' }:Gh).h k):=.pu _ _ hls
 have hl:∀ i ob,look i (σ.freeze k n rows').M=some ob→∃ ob0,i≠k∧look i σ.M=some ob0∧ob=ob0.frz k n rows':=fun i ob h=>by
  rw [show look i (σ.freeze k n rows').M=_ from look_mapS _ i _,look_rem] at h
  by_cases e:i=k
  ·rw [if_pos e] at h;cases h
  ·rw [if_neg e] at h
   cases hq:look i σ.M with
   | none=>simp [hq] at h
   | some ob0=>simp [hq] at h;exact ⟨ob0,e,rfl,h.symm⟩
 refine ⟨{ G with F:=F' },ok.sz,ok.df,fun i av h=>?_,ok.bel,fun p u h=>?_,fun p u h=>hF p u (ok.f0 p u h),fun p u h=>?_,fun i ob h=>?_,fun i o x h1 h2=>?_,?_,?_⟩
 ·rw [show look i (σ.freeze k n rows').t=_ from look_mapS _ i _] at h
  cases hq:look i σ.t with
  | none=>simp [hq] at h
  | some av0 =>
   simp [hq] at h
   obtain ⟨h1,h2,h3⟩:=ok.tm i av0 hq
   rw [← h]
   exact ⟨h1,frz_bd h2,frz_R hls' (h3.mono hle h2)⟩
 ·rcases hFn p u h with h|⟨_,h⟩
  ·exact ok.fw p u h
  ·exact h
 ·rcases hFn p u h with h|⟨h,_⟩
  ·exact ok.f1 p u h
  ·exact .inr (ok.my k _ _ hk h).1
 ·obtain ⟨ob0,e,h0,rfl⟩:=hl i ob h
  obtain ⟨g1,g2,g3⟩:=ok.ob i ob0 h0
  have g4:=g3.keep (w':=w) (G':={ G with F:=F' }) hle g1 g2 rfl (fun _ _=>rfl)
  refine ⟨g1,?_,?_⟩
  ·cases ob0 with
   | box T cells=>exact list_bd g2 fun _=>frz1_bd
   | rof T m rs hi hj y=>exact frz1_bd g2
   | rwo T m rs hi hj y=>exact frz1_bd g2
   | _=>exact g2
  ·cases ob0 with
   | box T cells =>
    obtain ⟨b1,cs,Φ,b2,b3,b4,b5,b6⟩:=g4
    refine ⟨b1,cs,Φ,b2,by simpa using b3,b4,b5,fun j av u x y=>?_⟩
    rw [List.getElem?_map] at x
    cases hq:cells[j]? with
    | none=>simp [hq] at x
    | some b=>simp [hq] at x;rw [← x];exact frz1_C hls' (b6 j b u hq y)
   | rof T m rs hi hj y =>
    obtain ⟨c1,c2,c3⟩:=g4
    refine ⟨c1,c2,c3.keep (fun _ _=>rfl) fun i r j av ψ u _ _ _ x=>?_⟩
    unfold XH at x ⊢
    by_cases e:i=hi∧j=hj
    ·rw [if_pos e] at x ⊢
     exact frz1_R hls' x
    ·rw [if_neg e] at x ⊢
     exact x
   | rwo T m rs hi hj y =>
    obtain ⟨c1,c2,c3⟩:=g4
    refine ⟨c1,c2,c3.keep (fun _ _=>rfl) fun i r j av ψ u _ _ _ x=>?_⟩
    unfold XQ at x ⊢
    by_cases e:i=hi∧j=hj
    ·rw [if_pos e] at x ⊢
     exact frz1_R hls' x
    ·rw [if_neg e] at x ⊢
     exact x
   | _=>exact g4
 ·obtain ⟨ob0,e,h0,rfl⟩:=hl i o h1
  exact ok.my i ob0 x h0 h2
 ·intro i o i' o' x h1 h2 h3 h4
  obtain ⟨ob0,e,h0,rfl⟩:=hl i o h1
  obtain ⟨ob0',e',h0',rfl⟩:=hl i' o' h2
  exact ok.dj i ob0 i' ob0' x h0 h0' h3 h4
 ·intro i o x p u h1 h2 h3
  obtain ⟨ob0,e,h0,rfl⟩:=hl i o h1
  rcases hFn p u h3 with h|⟨h,_⟩
  ·exact ok.dF i ob0 x p u h0 h2 h
  ·intro e2
   exact e (ok.dj i ob0 k _ x h0 hk h2 (by rw [← e2];exact h))
theorem Tr.freeze (k:Nat) {T n:Nat} {rows:List (List AV)} (hk:look k σ.M=some (.row T n rows)):Tr C σ (σ.freeze k n rows) :=
 Tr.freezeG k hk fun G w F' h hle hF=>by
  have:=RowIs.fix (F':=F') id h.2.2 hF fun i r j av u ψ _ _ _ x=>RP.mono hle x
  simpa using this
theorem Tr.freezeW (k d:Nat) {T n:Nat} {rows rows':List (List AV)} (hk:look k σ.M=some (.rwn T n rows)) (hs:(rows.all fun r=>r.all (AV.shal d))=true) (hr:(rows.map fun r=>r.map (AV.fz d))=rows'):Tr C σ (σ.freeze k n rows') :=
 Tr.freezeG k hk fun G w F' h hle hF=>by
  rw [← hr]
  refine RowIs.fix (AV.fz d) h.2.2 hF fun i r j av u ψ hr hav hψ x=>?_
  exact OW.fix hle d x (fun p hp=>hF p (hψ _ hp)) (List.all_eq_true.1 (List.all_eq_true.1 hs r (List.mem_of_getElem? hr)) av (List.mem_of_getElem? hav))
end
end
section
open Go.RowKit
def onlyT (t:List (Nat×AV)):List Nat→List (Nat×AV)
 | []=>[]
 | x::r =>
  match look x t with
  | some av=>(x,av)::onlyT t r
  | none=>onlyT t r
def St.only(σ:St)(ts:List Nat):St:={ σ with t:=onlyT σ.t ts }
theorem look_onlyT {t:List (Nat×AV)} {i:Nat} {av:AV}:∀ {ts:List Nat},look i (onlyT t ts)=some av→look i t=some av
 | [],h=>by cases h
 | x::r,h=>by
  unfold onlyT at h
  cases hx:look x t with
  | none=>rw [hx]at h;exact look_onlyT h
  | some a =>
   rw [hx]at h
   by_cases e:i=x
   ·subst e
    rw [look_set_same]at h
    rw [hx];exact h
   ·rw [look_set_other e]at h;exact look_onlyT h
theorem onlyT_congr {t t':List (Nat×AV)}:∀ {ts:List Nat},(∀ x∈ts,look x t=look x t')→onlyT t ts=onlyT t' ts
 | [],_=>rfl
 | x::r,h=>by
  unfold onlyT
  rw [h x (by simp),onlyT_congr fun y hy=>h y (by simp [hy])]
section
variable {P:Program} {C:Cx} {σ σ':St} {G G':Gh} {a:Act} {w w':World} {ops:Array Oper} {Q:Exit→St→Prop}
theorem Ok.only_ (ok:Ok C σ G a w)(ts:List Nat):Ok C (σ.only ts) G a w :=
 ⟨ok.sz,ok.df,fun i av h=>ok.tm i av (look_onlyT h),ok.bel,ok.fw,ok.f0,ok.f1,ok.ob,ok.my,ok.dj,ok.dF⟩
theorem Ok.congr_ (ok:Ok C σ G a w) (h:∀ t,look t σ'.t=look t σ.t) (hM:σ'.M=σ.M) (hn:σ'.nk=σ.nk):Ok C σ' G a w :=
 ⟨ok.sz,by rw [hn];exact ok.df,fun i av x=>by rw [hn];exact ok.tm i av (by rw [← h];exact x),ok.bel,ok.fw,ok.f0,ok.f1,fun k o x=>by rw [hn];exact ok.ob k o (by rw [← hM];exact x),fun k o x a=>ok.my k o x (by rw [← hM];exact a),fun k o k' o' x a b=>ok.dj k o k' o' x (by rw [← hM];exact a) (by rw [← hM];exact b),fun k o x p u a=>ok.dF k o x p u (by rw [← hM];exact a)⟩
def guardK (ops:Array Oper)(o:Oper)(σ:St):Option Bool :=
 match o.guard with
 | none=>some true
 | some (j,b) =>
  match (ops[j]?).bind (·.dst)with
  | some d =>
   match look d σ.t with
   | some (.sc v)=>some (match vb v with|some c=>c == b|none=>false)
   | _=>none
  | none=>none
theorem guardK_wanted {o:Oper} {b:Bool} (ok:Ok C σ G a w)(h:guardK ops o σ=some b):Region.wanted o (yielded ops a.tmps)=b:=by
 unfold guardK at h
 unfold Region.wanted
 cases hg:o.guard with
 | none=>rw [hg]at h;cases h;rfl
 | some x =>
  obtain⟨j,c⟩:=x
  rw [hg]at h
  simp only at h ⊢
  cases hj:ops[j]? with
  | none=>simp [hj]at h
  | some oj =>
   cases hd:oj.dst with
   | none=>simp [hj,hd]at h
   | some d =>
    simp only [hj,Option.bind_some,hd]at h
    cases hv:look d σ.t with
    | none=>simp [hv]at h
    | some av =>
     cases av with
     | sc v =>
      simp only [hv]at h
      cases h
      rw [yielded_of ok hj hd hv]
      cases vb v with
      | none=>rfl
      | some c'=>cases c'<;>cases c<;>rfl
     | _=>simp [hv]at h
def Does (P:Program)(C:Cx)(ops:Array Oper)(o:Oper)(σ:St)(av:AV):Prop :=
 (guardK ops o (σ.only (o.looksAt ops))=some true∧WV P C o (σ.only (o.looksAt ops)) av)∨(guardK ops o (σ.only (o.looksAt ops))=some false∧av=.sc undef)
theorem Does.congr_ {o:Oper} {av:AV} (h:Does P C ops o σ av)(hl:∀ t∈o.looksAt ops,look t σ.t=look t σ'.t)(hM:σ'.M=σ.M)(hn:σ'.nk=σ.nk):Does P C ops o σ' av:=by
 have e:σ'.only (o.looksAt ops)=σ.only (o.looksAt ops):=by
  unfold St.only
  rw [hM,hn,onlyT_congr fun x hx=>(hl x hx).symm]
 unfold Does
 rw [e];exact h
inductive DL (P:Program)(C:Cx)(ops:Array Oper):List Oper→St→St→Prop
 | nil (σ:St):DL P C ops [] σ σ
 | op (o:Oper)(rest:List Oper)(d:Tmp)(av:AV)(σ σ':St):o.dst=some d→Nat.blt d C.N=true→Does P C ops o σ av→DL P C ops rest (σ.put d av) σ'→DL P C ops (o::rest) σ σ'
def ent1 (o:Option Tmp)(b:Bool)(av:AV):List (Nat×AV) :=
 match b,o with
 | true,some d=>[(d,av)]
 | _,_=>[]
theorem look_ent1 (t:Nat) (o:Option Tmp) (b:Bool) (av:AV):look t (ent1 o b av)=if b=true∧o=some t then some av else none:=by
 cases b with
 | false=>simp [ent1,look]
 | true =>
  cases o with
  | none=>simp [ent1,look]
  | some d =>
   by_cases e:t=d
   ·subst e;rw [if_pos ⟨rfl,rfl⟩];exact look_set_same
   ·rw [if_neg (fun h=>e (by injection h.2 with h;exact h.symm))]
    show look t [(d,av)]=none
    rw [look_set_other e];rfl
def ents (ops:Array Oper) (avs:Nat→AV) (s:Nat→Bool):Nat→List (Nat×AV)
 | 0=>[]
 | m+1=>ent1 ((ops[m]?).bind (·.dst)) (s m) (avs m)++ents ops avs s m
theorem look_app {α:Type} (i:Nat):∀ (l m:List (Nat×α)),look i (l++m)=(look i l).or (look i m)
 | [],m=>rfl
 | x::r,m=>by
  by_cases e:i=x.1
  ·subst e
   rw [List.cons_append,look_set_same,look_set_same];rfl
  ·rw [List.cons_append,look_set_other e,look_set_other e,look_app i r m]
theorem ents_agree {avs:Nat→AV} {s s':Nat→Bool} {t:Nat}:∀ {m:Nat},(∀ i,i<m→(ops[i]?).bind (·.dst)=some t→s i=s' i)→look t (ents ops avs s m)=look t (ents ops avs s' m)
 | 0,_=>rfl
 | m+1,h=>by
  have ih:=ents_agree (avs:=avs) (s:=s) (s':=s') (t:=t) (m:=m) fun i hi hd=>h i zqo hd
  unfold ents
  rw [look_app,look_app,ih,look_ent1,look_ent1]
  by_cases e:(ops[m]?).bind (·.dst)=some t
  ·rw [h m (by omega) e]
  ·rw [if_neg (fun x=>e x.2),if_neg (fun x=>e x.2)]
theorem ents_none {avs:Nat→AV} {s:Nat→Bool} {t:Nat}:∀ {m:Nat},(∀ i,i<m→(ops[i]?).bind (·.dst)=some t→s i=false)→look t (ents ops avs s m)=none
 | 0,_=>rfl
 | m+1,h=>by
  have ih:=ents_none (avs:=avs) (s:=s) (t:=t) (m:=m) fun i hi hd=>h i zqo hd
  unfold ents
  rw [look_app,ih,look_ent1,if_neg]
  ·rfl
  ·intro x
   rw [h m (by omega) x.2] at x
   cases x.1
theorem ents_top {avs:Nat→AV} {s:Nat→Bool} {t j:Nat}:∀ {m:Nat},j<m→(ops[j]?).bind (·.dst)=some t→s j=true→(∀ i,j<i→i<m→(ops[i]?).bind (·.dst)=some t→s i=false)→look t (ents ops avs s m)=some (avs j)
 | 0,h,_,_,_=>by omega
 | m+1,hj,hd,hs,h=>by
  unfold ents
  rw [look_app,look_ent1]
  by_cases e:j=m
  ·subst e
   rw [if_pos ⟨hs,hd⟩];rfl
  ·have ih:=ents_top (avs:=avs) (s:=s) (t:=t) (j:=j) (m:=m) zqo hd hs fun i h1 h2=>h i h1 zqo
   rw [ih,if_neg]
   ·rfl
   ·intro x
    rw [h m (by omega) (by omega) x.2] at x
    cases x.1
theorem lex_facts {md:Region.Mode}:∀ (m k:Nat) (listed:Array Bool),ops.size=k+m→listed.size=ops.size→(∀ i,i<ops.size→listed.getD i true=decide (i<k))→Region.lexFrom md ops m k listed=true →
  (∀ j oj,k≤j→ops[j]?=some oj→∀ e∈oj.after,Region.binds md e=true→e.on<j) ∧
  (∀ i j oi oj,k≤i→i<j→ops[i]?=some oi→ops[j]?=some oj→(∀ e∈oj.after,Region.binds md e=true→e.on≠i)→oi.apart ops oj=true)
 | 0,k,listed,hk,_,_,_=>⟨fun j oj h h'=>by have:=(Array.getElem?_eq_some_iff.1 h').1;omega,fun i j oi oj h h1 h2=>by have:=(Array.getElem?_eq_some_iff.1 h2).1;omega⟩
 | m+1,k,listed,hk,hsz,hl,h=>by
  simp only [Region.lexFrom,Bool.and_eq_true] at h
  obtain ⟨⟨hr,hf⟩,hrest⟩:=h
  have ih:=lex_facts m (k+1) (listed.setIfInBounds k true) (by omega) (by simpa using hsz) (fun i hi=>by
   by_cases e:k=i
   ·subst e;simp [hsz,hi]
   ·rw [show (listed.setIfInBounds k true).getD i true=listed.getD i true from by simp [Array.getD_eq_getD_getElem?,Array.getElem?_setIfInBounds_ne e],hl i hi]
    have:(i<k)↔(i<k+1):=by omega
    simp [this]) hrest
  have hmem:k∈Region.ready md ops listed:=by simpa using hr
  obtain ⟨_,o,ho,hall⟩:=mem_ready.1 hmem
  refine ⟨fun j oj hj hoj e he hb=>?_,fun i j oi oj hi hij hoi hoj hno=>?_⟩
  ·by_cases e2:j=k
   ·subst e2
    rw [ho] at hoj
    cases hoj
    have h1:=hall e he hb
    by_cases hlt:e.on<ops.size
    ·have h2:=hl e.on hlt
     have h3:listed.getD e.on false=listed.getD e.on true:=by simp [Array.getD_eq_getD_getElem?,hsz,hlt]
     rw [h3,h2] at h1
     exact of_decide_eq_true h1
    ·have:listed.getD e.on false=false:=by simp [Array.getD_eq_getD_getElem?,hsz,hlt]
     rw [this] at h1;cases h1
   ·exact ih.1 j oj zqo hoj e he hb
  ·by_cases e2:i=k
   ·subst e2
    have hjlt:=(Array.getElem?_eq_some_iff.1 hoj).1
    exact Region.free_spec hoi hf j oj hoj (by omega) (by rw [hl j hjlt];simp;omega) hno
   ·exact ih.2 i j oi oj zqo hij hoi hoj hno
theorem DL.data {l:List Oper} {σ σ':St} (h:DL P C ops l σ σ'):∃ avs:Nat→AV,σ'={ σ with t:=ents l.toArray avs (fun _=>true) l.length++σ.t } ∧
  ∀ j oj,l[j]?=some oj→∃ d,oj.dst=some d∧d<C.N∧Does P C ops oj { σ with t:=ents l.toArray avs (fun _=>true) j++σ.t } (avs j):=by
 induction h with
 | nil σ=>exact ⟨fun _=>.sc undef,rfl,fun j oj h=>by simp at h⟩
 | op o rest d av σ σ' hd hN hdo _ ih =>
  obtain ⟨avs,e1,e2⟩:=ih
  have key:∀ m,m≤rest.length→ents (o::rest).toArray (fun j=>if j=0 then av else avs (j-1)) (fun _=>true) (m+1)=ents rest.toArray avs (fun _=>true) m++[(d,av)]:=by
   intro m
   induction m with
   | zero=>intro _;simp [ents,ent1,hd]
   | succ m ihm =>
    intro hm
    rw [ents,ihm (by omega),ents]
    simp
  refine ⟨fun j=>if j=0 then av else avs (j-1),?_,fun j oj hj=>?_⟩
  ·rw [e1,List.length_cons,key _ (Nat.le_refl _)]
   simp [St.put]
  ·cases j with
   | zero=>cases hj;exact ⟨d,hd,of_blt hN,by simpa [ents] using hdo⟩
   | succ j =>
    have hj':rest[j]?=some oj:=by simpa using hj
    obtain ⟨d',q1,q2,q3⟩:=e2 j oj hj'
    refine ⟨d',q1,q2,?_⟩
    rw [key j (by have:=(List.getElem?_eq_some_iff.1 hj').1;omega)]
    simpa [St.put] using q3
theorem rep_getD(n j:Nat):(Array.replicate n false).getD j false=false:=by
 unfold Array.getD
 split<;>simp
theorem countP_lt {p q:Nat→Bool} (h:∀ i,q i=true→p i=true):∀ {n j:Nat},j<n→p j=true→q j=false→(List.range n).countP q<(List.range n).countP p
 | 0,_,hj,_,_=>by omega
 | n+1,j,hj,hp,hq=>by
  rw [List.range_succ,List.countP_append,List.countP_append]
  have hle:(List.range n).countP q≤(List.range n).countP p:=List.countP_mono_left fun x _ hx=>h x hx
  by_cases e:j=n
  ·subst e
   have a1:[j].countP q=0:=by simp [hq]
   have a2:[j].countP p=1:=by simp [hp]
   omega
  ·have:=countP_lt h (n:=n) (j:=j) zqo hp hq
   have h1:[n].countP q≤[n].countP p:=List.countP_mono_left fun x _ hx=>h x hx
   omega
def WA (P:Program)(C:Cx)(ops:Array Oper)(σ:St)(Q:Exit→St→Prop):Prop:=∀ G a w,Ok C σ G a w→wpAny P .any ops (Post C Q) ops.size (Array.replicate ops.size false) a { w with drawn:=w.drawn+1 }
theorem W.of_wa {id:Nat} (hm:P.follows .mixedOrders=true)(h:WA P C ops σ Q):W P C (.region id ops true) σ Q:=fun G a w ok=>wp_region_any hm (h G a w ok)
theorem WA.draw {l:List Oper} (hB:Region.lexB .any l.toArray=true) (h:DL P C l.toArray l σ σ') (k:Q .normal σ'):WA P C l.toArray σ Q:=by
 intro G a w ok
 obtain ⟨avs,e1,e2⟩:=h.data
 simp only [Region.lexB,Bool.and_eq_true] at hB
 obtain ⟨FA,FB⟩:=lex_facts (ops:=l.toArray) l.toArray.size 0 (Array.replicate l.toArray.size false) (by simp) (by simp) (fun i hi=>by simp [Array.getD_eq_getD_getElem?,hi] at hi ⊢;simp [hi]) hB.2
 have sz:l.toArray.size=l.length:=by simp
 let KS:Array Bool→St:=fun listed=>{ σ with t:=ents l.toArray avs (fun i=>listed.getD i false) l.length++σ.t }
 have key:∀ (fuel:Nat) (listed:Array Bool) (G:Gh) (a:Act) (w:World),listed.size=l.length→(∀ j oj,l[j]?=some oj→listed.getD j false=true→∀ e∈oj.after,Region.binds .any e=true→listed.getD e.on false=true) →
   (List.range l.length).countP (fun i=>!listed.getD i false)≤fuel→Ok C (KS listed) G a w→wpAny P .any l.toArray (Post C Q) fuel listed a w:=by
  intro fuel
  have done:∀ (listed:Array Bool) (G:Gh) (a:Act) (w:World),listed.size=l.length→Region.ready .any l.toArray listed=[]→Ok C (KS listed) G a w→Post C Q .normal a w:=by
   intro listed G a w hsz hr ok
   have hall:∀ n i,i < n→i < l.length→listed.getD i false=true:=by
    intro n
    induction n with
    | zero=>intro i h;omega
    | succ n ih =>
     intro i hi hlt
     by_cases e:i < n
     ·exact ih i e hlt
     ·have hin:i=n:=by omega
      subst hin
      cases hli:listed.getD i false with
      | true=>rfl
      | false =>
       have hoi:l.toArray[i]?=some l[i]:=by simp [hlt]
       have:i∈Region.ready .any l.toArray listed:=mem_ready.2 ⟨by
        have:listed.getD i true=listed.getD i false:=by simp [Array.getD_eq_getD_getElem?,hsz,hlt]
        rw [this];exact hli,l[i],hoi,fun e he hb=>ih e.on (FA i l[i] (Nat.zero_le _) hoi e he hb) (by have:=FA i l[i] (Nat.zero_le _) hoi e he hb;omega)⟩
       rw [hr] at this;cases this
   refine ⟨σ',G,k,ok.congr_ (fun t=>?_) (by rw [e1]) (by rw [e1])⟩
   rw [e1]
   show look t (_++_)=look t (_++_)
   rw [look_app,look_app,ents_agree (s':=fun i=>listed.getD i false) fun i hi _=>(hall (i+1) i (by omega) hi).symm]
  induction fuel with
  | zero =>
   intro listed G a w hsz hcl hf ok
   have hr:Region.ready .any l.toArray listed=[]:=by
    apply List.eq_nil_iff_forall_not_mem.2
    intro j hj
    obtain ⟨h1,oj,h2,_⟩:=mem_ready.1 hj
    have hlt:j < l.length:=by have:=(Array.getElem?_eq_some_iff.1 h2).1;omega
    have h3:listed.getD j false=false:=by
     have:listed.getD j false=listed.getD j true:=by simp [Array.getD_eq_getD_getElem?,hsz,hlt]
     rw [this];exact h1
    have:=List.countP_eq_zero.1 (Nat.le_zero.1 hf) j (List.mem_range.2 hlt)
    simp [h3] at this
   exact ⟨hr,done listed G a w hsz hr ok⟩
  | succ fuel ih =>
   intro listed G a w hsz hcl hf ok
   refine ⟨fun hr=>done listed G a w hsz hr ok,fun j hj=>?_⟩
   obtain ⟨h1,oj,h2,h4⟩:=mem_ready.1 hj
   have hlt:j < l.length:=by have:=(Array.getElem?_eq_some_iff.1 h2).1;omega
   have h3:listed.getD j false=false:=by
    have:listed.getD j false=listed.getD j true:=by simp [Array.getD_eq_getD_getElem?,hsz,hlt]
    rw [this];exact h1
   have hlj:l[j]?=some oj:=by simpa using h2
   obtain ⟨d,hd,hdN,hdoes⟩:=e2 j oj hlj
   have hlook:∀ t∈oj.looksAt l.toArray,∀ i,i < l.length→(l.toArray[i]?).bind (·.dst)=some t→listed.getD i false=decide (i < j):=by
    intro t ht i hi hdi
    have hoi:l.toArray[i]?=some l[i]:=by simp [hi]
    rw [hoi] at hdi
    have hdi:l[i].dst=some t:=hdi
    rcases Nat.lt_trichotomy i j with hij|hij|hij
    ·rw [decide_eq_true hij]
     by_cases hno:∃ e,e∈oj.after∧Region.binds .any e=true∧e.on=i
     ·obtain ⟨e,he,hb,rfl⟩:=hno
      exact h4 e he hb
     ·exact absurd ht ((Oper.apart_spec (FB i j _ _ (Nat.zero_le _) hij hoi h2 fun e he hb h=>hno ⟨e,he,hb,h⟩)).1 t hdi)
    ·subst hij;rw [h3];simp
    ·rw [decide_eq_false (by omega)]
     cases hli:listed.getD i false with
     | false=>rfl
     | true =>
      by_cases hno:∃ e,e∈(l[i]).after∧Region.binds .any e=true∧e.on=j
      ·obtain ⟨e,he,hb,he2⟩:=hno
       have:=hcl i _ (by simp [hi]) hli e he hb
       rw [he2,h3] at this;cases this
      ·exact absurd ht ((Oper.apart_spec (FB j i _ _ (Nat.zero_le _) hij h2 hoi fun e he hb h=>hno ⟨e,he,hb,h⟩)).2.2 t hdi)
   have hents:∀ t,look t (ents l.toArray avs (fun _=>true) j)=look t (ents l.toArray avs (fun i=>decide (i < j)) l.length):=by
    intro t
    have:∀ m,j≤m→look t (ents l.toArray avs (fun i=>decide (i < j)) m)=look t (ents l.toArray avs (fun i=>decide (i < j)) j):=by
     intro m
     induction m with
     | zero=>intro h;rw [Nat.le_zero.1 h]
     | succ m ihm =>
      intro h
      by_cases e:j=m+1
      ·rw [e]
      ·rw [ents,look_app,look_ent1,if_neg (fun x=>by have:=of_decide_eq_true x.1;omega),ihm (by omega)];rfl
    rw [this l.length (by omega)]
    exact ents_agree fun i hi _=>(decide_eq_true hi).symm
   have hdo:Does P C l.toArray oj (KS listed) (avs j):=hdoes.congr_ (fun t ht=>by
    show look t (_++_)=look t (_++_)
    rw [look_app,look_app,hents t,ents_agree fun i hi hdi=>(hlook t ht i hi hdi).symm]) rfl rfl
   have next:∀ (v:Value) (G':Gh) (w':World),Ok C (KS listed) G' a w'→R G' (avs j) v→Bd σ.nk (avs j)→wpAny P .any l.toArray (Post C Q) fuel (listed.setIfInBounds j true) (a.put oj.dst v) w':=by
    intro v G' w' ok' hr hb
    have ok2:=ok'.set (d:=some d) hr hb fun x hx=>by cases hx;exact hdN
    rw [hd]
    refine ih (listed.setIfInBounds j true) G' _ w' (by simpa using hsz) (fun i oi hi hli e he hb=>?_) ?_ (ok2.congr_ (fun t=>?_) rfl rfl)
    ·have mono:∀ q,listed.getD q false=true→(listed.setIfInBounds j true).getD q false=true:=fun q hq=>by
      by_cases e:j=q
      ·subst e;rw [hq] at h3;cases h3
      ·simpa [Array.getD_eq_getD_getElem?,Array.getElem?_setIfInBounds_ne e] using hq
     by_cases e2:j=i
     ·subst e2
      rw [hlj] at hi;cases hi
      exact mono _ (h4 e he hb)
     ·refine mono _ (hcl i oi hi ?_ e he hb)
      simpa [Array.getD_eq_getD_getElem?,Array.getElem?_setIfInBounds_ne e2] using hli
    ·have hlt2:(List.range l.length).countP (fun i=>!(listed.setIfInBounds j true).getD i false) < (List.range l.length).countP (fun i=>!listed.getD i false):=by
      exact countP_lt (fun i hi=>by
       by_cases e:j=i
       ·subst e;simp [Array.getD_eq_getD_getElem?,hsz,hlt] at hi
       ·simpa [Array.getD_eq_getD_getElem?,Array.getElem?_setIfInBounds_ne e] using hi) hlt (by simp [h3]) (by simp [Array.getD_eq_getD_getElem?,hsz,hlt])
     omega
    ·show look t (_++_)=look t ((d,avs j)::(_++_))
     by_cases et:t=d
     ·subst et
      rw [look_set_same,look_app,ents_top (j:=j) hlt (by rw [h2];exact hd) (by simp [Array.getD_eq_getD_getElem?,hsz,hlt]) fun i hij hi hdi=>?_]
      ·rfl
      ·have hoi:l.toArray[i]?=some l[i]:=by simp [hi]
       rw [hoi] at hdi
       have hdi:l[i].dst=some t:=hdi
       have hne:j≠i:=by omega
       cases hli:listed.getD i false with
       | false=>simpa [Array.getD_eq_getD_getElem?,Array.getElem?_setIfInBounds_ne hne] using hli
       | true =>
        by_cases hno:∃ e,e∈(l[i]).after∧Region.binds .any e=true∧e.on=j
        ·obtain ⟨e,he,hb,he2⟩:=hno
         have:=hcl i _ (by simp [hi]) hli e he hb
         rw [he2,h3] at this;cases this
        ·exact absurd hdi ((Oper.apart_spec (FB j i _ _ (Nat.zero_le _) hij h2 hoi fun e he hb h=>hno ⟨e,he,hb,h⟩)).2.1 t hd)
     ·rw [look_set_other et,look_app,look_app]
      congr 1
      refine ents_agree fun i hi hdi=>?_
      by_cases e2:j=i
      ·subst e2
       rw [h2] at hdi
       have:oj.dst=some t:=hdi
       rw [hd] at this
       exact absurd (by injection this with h;exact h.symm) et
      ·simp [Array.getD_eq_getD_getElem?,Array.getElem?_setIfInBounds_ne e2]
   unfold wpOp
   simp only [h2]
   have okO:=ok.only_ (oj.looksAt l.toArray)
   rcases hdo with ⟨hg,hv⟩|⟨hg,hv⟩
   ·rw [if_pos (guardK_wanted okO hg)]
    exact .inl (hv G a w okO _ _ fun v G' w' hk hr hb=>next v G' w' (hk _ _ ok) hr hb)
   ·rw [if_neg (by rw [guardK_wanted okO hg];simp)]
    exact next undef G w ok (by rw [hv];exact .pu _ _ (.sc _)) (by rw [hv];exact .sc _)
 refine key _ (Array.replicate l.toArray.size false) G a _ (by simp) (fun j oj _ h=>?_) ?_ (ok.drew.congr_ (fun t=>?_) rfl rfl)
 ·rw [rep_getD] at h;cases h
 ·rw [sz]
  exact Nat.le_trans List.countP_le_length (by simp)
 ·show look t (_++_)=_
  rw [look_app,ents_none fun i hi _=>?_]
  ·rfl
  ·exact rep_getD _ _
theorem W.draw {id:Nat} {l:List Oper} (hm:P.follows .mixedOrders=true)(hB:Region.lexB .any l.toArray=true)(h:DL P C l.toArray l σ σ')(k:Q .normal σ'):W P C (.region id l.toArray true) σ Q:=W.of_wa hm (WA.draw hB h k)
end
end
section
open Go.RowKit
def needs(ops:Array Oper)(i:Nat):Nat→Nat→Bool
 | 0,_=>false
 | f+1,j =>
  match ops[j]? with
  | some o=>o.after.any fun e=>Region.binds .any e && (Nat.beq e.on i|| needs ops i f e.on)
  | none=>false
def behindB(ops:Array Oper)(mem:List Bool)(j:Nat):Bool:=(List.range j).all fun i=>!(mem.getD i false)|| needs ops i ops.size j
def chainB(ops:Array Oper)(mem:List Bool):Bool:=(List.range ops.size).all fun j=>!(mem.getD j false)|| behindB ops mem j
section
variable {P:Program} {C:Cx} {σ σ':St} {G G':Gh} {a:Act} {w w':World} {ops:Array Oper} {Q:Exit→St→Prop}
theorem needs_listed {listed:Array Bool} (hcl:∀ j oj,ops[j]?=some oj→listed.getD j false=true→∀ e∈oj.after,Region.binds .any e=true→listed.getD e.on false=true) {i:Nat}:∀ (f j:Nat),needs ops i f j=true→listed.getD j false=true→listed.getD i false=true
 | 0,j,h,_=>by cases h
 | f+1,j,h,hl=>by
  unfold needs at h
  cases ho:ops[j]? with
  | none=>simp [ho]at h
  | some o =>
   simp only [ho]at h
   obtain⟨e,he,h2⟩:=Array.any_eq_true'.1 h
   simp only [Bool.and_eq_true,Bool.or_eq_true]at h2
   have:=hcl j o ho hl e he h2.1
   rcases h2.2 with h3|h3
   ·rw [← Nat.eq_of_beq_eq_true h3];exact this
   ·exact needs_listed hcl f e.on h3 this
theorem needs_ready {listed:Array Bool} (hcl:∀ j oj,ops[j]?=some oj→listed.getD j false=true→∀ e∈oj.after,Region.binds .any e=true→listed.getD e.on false=true) {i j:Nat} {oj:Oper} (hj:ops[j]?=some oj)
  (hr:∀ e∈oj.after,Region.binds .any e=true→listed.getD e.on false=true):∀ (f:Nat),needs ops i f j=true→listed.getD i false=true
 | 0,h=>by cases h
 | f+1,h=>by
  unfold needs at h
  simp only [hj]at h
  obtain⟨e,he,h2⟩:=Array.any_eq_true'.1 h
  simp only [Bool.and_eq_true,Bool.or_eq_true]at h2
  have:=hr e he h2.1
  rcases h2.2 with h3|h3
  ·rw [← Nat.eq_of_beq_eq_true h3];exact this
  ·exact needs_listed hcl f e.on h3 this
theorem Ok.few (ok:Ok C σ G a w) {t:List (Nat×AV)} {M:List (Nat×AO)} {nk:Nat} (ht:∀ i av,look i t=some av→look i σ.t=some av∧av.inn nk=true) (hM:∀ k o,look k M=some o→look k σ.M=some o∧o.inn nk=true∧k<nk) (hnp:C.np≤nk):Ok C ⟨t,M,nk⟩ G a w :=
 ⟨ok.sz,⟨ok.df.1,hnp,ok.df.2.2⟩,fun i av x=>⟨(ok.tm i av (ht i av x).1).1,inn_bd (ht i av x).2,(ok.tm i av (ht i av x).1).2.2⟩,ok.bel,ok.fw,ok.f0,ok.f1,
  fun k o x=>⟨(hM k o x).2.2,by
   cases o with
   | box T cells=>exact fun i av y=>in1_bd (List.all_eq_true.1 (hM k _ x).2.1 av (List.mem_of_getElem? y))
   | rof T n rows hi hj y=>exact in1_bd (hM k _ x).2.1
   | rwo T n rows hi hj y=>exact in1_bd (hM k _ x).2.1
   | row T n rows=>trivial
   | rwn T n rows=>trivial
   | bld T e l=>trivial
   | opq q=>trivial,(ok.ob k o (hM k o x).1).2.2⟩,
  fun k o x p=>ok.my k o x (hM k o p).1,fun k o k' o' x p q=>ok.dj k o k' o' x (hM k o p).1 (hM k' o' q).1,fun k o x p u q=>ok.dF k o x p u (hM k o q).1⟩
def tsInn (nk:Nat):List (Nat×AV)→Bool
 | []=>true
 | x::r=>x.2.inn nk && tsInn nk r
def msInn (nk:Nat):List (Nat×AO)→Bool
 | []=>true
 | x::r=>x.2.inn nk && Nat.blt x.1 nk && msInn nk r
def msSub:List (Nat×AO)→List (Nat×AO)→Prop
 | [],_=>True
 | x::r,M=>look x.1 M=some x.2∧msSub r M
theorem tsInn_at {nk:Nat}:∀ {t:List (Nat×AV)},tsInn nk t=true→∀ i av,look i t=some av→av.inn nk=true
 | [],_,i,av,h=>by cases h
 | x::r,ht,i,av,h=>by
  simp only [tsInn,Bool.and_eq_true]at ht
  by_cases e:i=x.1
  ·subst e;rw [look_set_same]at h;cases h;exact ht.1
  ·rw [look_set_other e]at h;exact tsInn_at ht.2 i av h
theorem msInn_at {nk:Nat}:∀ {t:List (Nat×AO)},msInn nk t=true→∀ i o,look i t=some o→o.inn nk=true∧i<nk
 | [],_,i,o,h=>by cases h
 | x::r,ht,i,o,h=>by
  simp only [msInn,Bool.and_eq_true]at ht
  by_cases e:i=x.1
  ·subst e;rw [look_set_same]at h;cases h;exact⟨ht.1.1,of_blt ht.1.2⟩
  ·rw [look_set_other e]at h;exact msInn_at ht.2 i o h
theorem msSub_at {M:List (Nat×AO)}:∀ {t:List (Nat×AO)},msSub t M→∀ i o,look i t=some o→look i M=some o
 | [],_,i,o,h=>by cases h
 | x::r,ht,i,o,h=>by
  by_cases e:i=x.1
  ·subst e;rw [look_set_same]at h;cases h;exact ht.1
  ·rw [look_set_other e]at h;exact msSub_at ht.2 i o h
def DoesV (P:Program) (C:Cx) (ops:Array Oper) (o:Oper) (t:List (Nat×AV)) (Mc:List (Nat×AO)) (nk:Nat) (av:AV):Prop :=
 msInn nk Mc=true∧tsInn nk (onlyT t (o.looksAt ops))=true∧((guardK ops o ⟨onlyT t (o.looksAt ops),Mc,nk⟩=some true∧WV P C o ⟨onlyT t (o.looksAt ops),Mc,nk⟩ av)∨(guardK ops o ⟨onlyT t (o.looksAt ops),Mc,nk⟩=some false∧av=.sc undef))
def DoesM (P:Program) (C:Cx) (ops:Array Oper) (o:Oper) (σ:St) (d:Tmp) (av:AV) (M':List (Nat×AO)) (nk':Nat):Prop :=
 o.guard=none∧∀ t,(∀ q∈o.looksAt ops,look q t=look q σ.t)→WO P C o ⟨t,σ.M,σ.nk⟩ ⟨(d,av)::t,M',nk'⟩
inductive DM (P:Program) (C:Cx) (ops:Array Oper) (mem:List Bool) (Mc:List (Nat×AO)) (nk0:Nat):Nat→List Oper→St→St→Prop
 | nil (k:Nat) (σ:St):DM P C ops mem Mc nk0 k [] σ σ
 | val (k:Nat) (o:Oper) (rest:List Oper) (d:Tmp) (av:AV) (nk:Nat) (σ σ':St):mem.getD k false=false→o.dst=some d→Nat.blt d C.N=true→(nk=nk0∨(nk=σ.nk∧behindB ops mem k=true))→DoesV P C ops o σ.t Mc nk av →
   DM P C ops mem Mc nk0 (k+1) rest (σ.put d av) σ'→DM P C ops mem Mc nk0 k (o::rest) σ σ'
 | mem (k:Nat) (o:Oper) (rest:List Oper) (d:Tmp) (av:AV) (M':List (Nat×AO)) (nk':Nat) (σ σ':St):mem.getD k false=true→o.dst=some d→Nat.ble σ.nk nk'=true→msSub Mc M'→DoesM P C ops o σ d av M' nk' →
   DM P C ops mem Mc nk0 (k+1) rest ⟨(d,av)::σ.t,M',nk'⟩ σ'→DM P C ops mem Mc nk0 k (o::rest) σ σ'
def cur(mem s:Nat→Bool):Nat→Nat
 | 0=>0
 | m+1=>if mem m=true∧s m=true then m+1 else cur mem s m
theorem cur_congr {mem s s':Nat→Bool}:∀ {m:Nat},(∀ i,i<m→mem i=true→s i=s' i)→cur mem s m=cur mem s' m
 | 0,_=>rfl
 | m+1,h=>by
  unfold cur
  rw [cur_congr (m:=m) fun i hi=>h i (by omega)]
  by_cases e:mem m=true
  ·rw [h m (by omega) e]
  ·rw [if_neg (fun x=>e x.1),if_neg (fun x=>e x.1)]
theorem cur_le {mem s:Nat→Bool}:∀ m:Nat,cur mem s m≤m
 | 0=>Nat.le_refl _
 | m+1=>by
  unfold cur
  split
  ·exact Nat.le_refl _
  ·exact Nat.le_succ_of_le (cur_le m)
theorem cur_at {α:Type} {mem s:Nat→Bool} {f:Nat→α} {n j:Nat} (hc:∀ i,i<n→mem i=false→f (i+1)=f i) (hs:∀ i,i<n→mem i=true→s i=decide (i<j)):∀ m,m≤n→f (cur mem s m)=f (min m j)
 | 0,_=>by simp [cur]
 | m+1,h=>by
  have ih:=cur_at hc hs m zqo
  unfold cur
  by_cases e:mem m=true
  ·have:=hs m zqo e
   by_cases hm:m<j
   ·rw [if_pos ⟨e,by rw [this];simpa using hm⟩,show min (m+1) j=m+1 by omega]
   ·rw [if_neg (by rw [this];simp;intro _;omega),ih,show min (m+1) j=min m j by omega]
  ·rw [if_neg (fun x=>e x.1),ih]
   by_cases hm:m<j
   ·rw [show min (m+1) j=m+1 by omega,show min m j=m by omega,hc m (by omega) (by simpa using e)]
   ·rw [show min (m+1) j=min m j by omega]
theorem cur_ge {mem s:Nat→Bool} {f:Nat→Nat} {n j:Nat} (hc:∀ i,i<n→mem i=false→f (i+1)=f i) (hmono:∀ i,i<n→f i≤f (i+1)) (hs:∀ i,i<n→i<j→mem i=true→s i=true):∀ m,m≤n→f (min m j)≤f (cur mem s m)
 | 0,_=>by simp [cur]
 | m+1,h=>by
  have ih:=cur_ge hc hmono hs m zqo
  unfold cur
  by_cases e:mem m=true∧s m=true
  ·rw [if_pos e]
   by_cases hm:m<j
   ·rw [show min (m+1) j=m+1 by omega]
    exact Nat.le_refl _
   ·rw [show min (m+1) j=j by omega]
    have:∀ b a,a≤b→b≤n→f a≤f b:=by
     intro b
     induction b with
     | zero=>intro a h _;rw [Nat.le_zero.1 h];exact Nat.le_refl _
     | succ b ihb =>
      intro a hab hbn
      by_cases e2:a=b+1
      ·rw [e2];exact Nat.le_refl _
      ·exact Nat.le_trans (ihb a zqo zqo) (hmono b zqo)
    exact this (m+1) j zqo h
  ·rw [if_neg e]
   by_cases hm:m<j
   ·have hmf:mem m=false:=by
     cases hq:mem m with
     | false=>rfl
     | true=>exact absurd ⟨hq,hs m zqo hm hq⟩ e
    rw [show min (m+1) j=m+1 by omega,hc m (by omega) hmf]
    rw [show min m j=m by omega] at ih
    exact ih
   ·rw [show min (m+1) j=min m j by omega];exact ih
end
end
section
open Go.RowKit
theorem fold_put:∀ (v:List Value)(off:Nat)(cells:Array Value),off+v.length≤cells.size→(v.zipIdx.foldl (fun cs (c,j)=>cs.setIfInBounds (off+j) c) cells).toList=putL off v cells.toList:=by
 have key:∀ (v:List Value)(off s:Nat)(cells:Array Value),off+s+v.length≤cells.size→(v.zipIdx s|>.foldl (fun cs (x:Value×Nat)=>cs.setIfInBounds (off+x.2) x.1) cells).toList=putL (off+s) v cells.toList:=by
  intro v
  induction v with
  | nil =>
   intro off s cells h
   rw [putL_eq _ _ _ (by simpa using h)]
   simp
  | cons x r ih =>
   intro off s cells h
   rw [List.zipIdx_cons,List.foldl_cons,ih off (s+1) _ (by simp at h ⊢;omega)]
   have hlen:off+s+(r.length+1)≤cells.size:=by simpa [Nat.add_assoc] using h
   have hl:off+s<cells.toList.length:=by simp;omega
   apply List.ext_getElem?
   intro i
   rw [putL_at (by simp;omega),putL_at (by simp;omega),Array.toList_setIfInBounds,List.length_cons]
   by_cases h2:i=off+s
   ·subst h2
    rw [if_neg (by omega),if_pos (by omega),List.getElem?_set_self hl,Nat.sub_self];rfl
   ·rw [List.getElem?_set_ne (fun e=>h2 e.symm)]
    by_cases h3:off+s+1≤i∧i<off+s+(r.length+1)
    ·rw [if_pos (by omega),if_pos (by omega),show i-(off+s)=(i-(off+(s+1)))+1 by omega,List.getElem?_cons_succ]
    ·rw [if_neg (by omega),if_neg (by omega)]
 intro v off cells h
 have:=key v off 0 cells (by simpa using h)
 simpa using this
theorem putL_head {α:Type} (l m rest:List α)(off:Nat)(h:off=l.length)(done:List α)(hl:m.length≤rest.length):putL off m (l++rest)=l++m++rest.drop m.length:=by
 subst h
 rw [putL_eq _ _ _ (by simp;omega),List.take_left,List.drop_append]
 simp
theorem fill_rows {size:Nat}:∀ (vs:List Value) (q:Nat) (done rest:List Value),done.length=q*size→rest.length=vs.length*size→(∀ v∈vs,v.cells.size=size) →
  Instr.fill (fun i=>some (i*size,size)) (done++rest).toArray (number q vs)=some (done++(vs.map fun v=>v.cells.toList).flatten).toArray
 | [],q,done,rest,hd,hr,_=>by
  have:rest=[]:=List.eq_nil_of_length_eq_zero (by simpa using hr)
  subst this
  simp [number,Instr.fill]
 | v::vs,q,done,rest,hd,hr,hv=>by
  have h1:v.cells.size=size:=hv v (by simp)
  have hle:size≤rest.length:=by rw [hr,List.length_cons,Nat.succ_mul];omega
  have hb:(v.cells.size≠size|| q*size+v.cells.size > (done++rest).toArray.size)=false:=by
   rw [h1];simp [hd];omega
  have hf:=fold_put v.cells.toList (q*size) (done++rest).toArray (by simp [h1,hd];omega)
  have e:(v.cells.zipIdx.foldl (fun cs (c,j)=>cs.setIfInBounds (q*size+j) c) (done++rest).toArray)=((done++v.cells.toList)++rest.drop size).toArray:=by
   apply Array.ext'
   rw [← Array.foldl_toList,Array.toList_zipIdx,hf]
   have:=putL_head done v.cells.toList rest (q*size) hd.symm done (by simpa [h1] using hle)
   simp only [List.toList_toArray] at this ⊢
   rw [this]
   simp [h1]
  have ih:=fill_rows vs (q+1) (done++v.cells.toList) (rest.drop size) (by simp [hd,h1,Nat.succ_mul]) (by simp [hr,Nat.succ_mul]) fun x hx=>hv x (by simp [hx])
  show (match some (q*size,size) with|none=>none|some (off,sz)=>if v.cells.size≠sz|| off+v.cells.size > (done++rest).toArray.size then none else Instr.fill _ _ (number (q+1) vs))=_
  simp only
  rw [hb]
  simp only [Bool.false_eq_true,if_false]
  rw [e,ih]
  simp
section
variable {P:Program} {C:Cx} {σ σ':St} {G G':Gh} {a:Act} {w w':World} {o:Oper} {d:Tmp}
theorem run_buildS {T e n m:Nat} {z:Value} {vs:List Value} {parts:Array (Nat×Value)} (hT:P.underlying T=some (.slice e)) (hn:sizeB P e=some n) (hz:(P.info? e).bind (·.zero)=some z) (hp:parts.toList=number 0 vs) (hm:vs.length=m) (hv:∀ v∈vs,v.cells.size=n) (hb:m*n≤16777216) (w:World) :
  (Instr.buildSlice T m parts).run P w=.ok (.slice (some ⟨w.heap.size,0,none⟩) m m) (w.alloc (.cells (vs.map fun v=>v.cells.toList).flatten.toArray e)):=by
 cases hi:P.info? e with
 | none=>simp [hi] at hz
 | some i =>
  simp [hi] at hz
  have hfill:∀ zero:Array Value,Instr.fill (fun i=>some (i*n,n)) ((Array.range (m*n)).map (zero[· % zero.size]!)) parts.toList=some (vs.map fun v=>v.cells.toList).flatten.toArray:=fun zero=>by
   have:=fill_rows (size:=n) vs 0 [] ((Array.range (m*n)).map (zero[· % zero.size]!)).toList (by simp) (by simp [hm]) hv
   rw [hp]
   have e0:((Array.range (m*n)).map (zero[· % zero.size]!))=([]++((Array.range (m*n)).map (zero[· % zero.size]!)).toList).toArray:=by rw [List.nil_append,Array.toArray_toList]
   rw [e0];exact this
  have h2:¬ (m*n > 2 ^ 24):=by simp;omega
  unfold Instr.buildSlice
  by_cases h0:m*n=0
  ·simp only [Sem.run_bind,run_underlying hT,Result.andThen_ok,run_sizeB hn,if_neg h2,if_pos h0,Sem.run_pure,hfill,newRow,run_newObj]
   rfl
  ·simp only [Sem.run_bind,run_underlying hT,Result.andThen_ok,run_sizeB hn,if_neg h2,if_neg h0,Sem.run_pure,zeroValue,typeInfo,run_program,hi,hz,hfill,newRow,run_newObj]
   rfl
def rowsB(n:Nat)(l:List AV):Bool:=l.all fun av=>av.cellB && Nat.beq av.cells.length n && av.cells.all AV.oneB && av.cells.all AV.pu0
theorem number_map {α β:Type} (f:α→β):∀ (n:Nat)(l:List α),(number n l).map (fun x=>(x.1,f x.2))=number n (l.map f)
 | _,[]=>rfl
 | n,x::r=>by simp [number,number_map f (n+1) r]
def numB {α:Type}:Nat→List (Nat×α)→Bool
 | _,[]=>true
 | n,x::r=>Nat.beq x.1 n && numB (n+1) r
theorem numB_eq {α:Type}:∀ (n:Nat)(l:List (Nat×α)),numB n l=true→l=number n (l.map (·.2))
 | _,[],_=>rfl
 | n,x::r,h=>by
  simp only [numB,Bool.and_eq_true] at h
  rw [List.map_cons,number,← numB_eq (n+1) r h.2,← Nat.eq_of_beq_eq_true h.1]
theorem WO.build0 {T e n m q:Nat} {z:Value} {parts:Array (Nat×Operand)} {xs:List Operand} {avs:List AV} {rows:List (List AV)} (ho:o.op=.buildSlice T m parts) (hT:P.underlying T=some (.slice e)) (hn:sizeB P e=some n) (hz:(P.info? e).bind (·.zero)=some z)
  (hp:parts.toList=number 0 xs) (hm:xs.length=m) (hb:Nat.ble (m*n) 16777216=true) (hb1:Nat.ble m 16777216=true) (hds:o.dst=some d) (hd:Nat.blt d C.N=true) (hx:σ.evs xs=some avs) (hck:rowsB n avs=true) (hr:avs.map AV.cells=rows) (hq:σ.nk=q) :
  WO P C o σ ((σ.new (.row e n rows)).put d (.sl q)):=by
 intro G a w ok N Q' hN
 obtain ⟨e1,e2⟩:=ok.evl hx
 have hck':∀ av∈avs,av.cellB=true∧av.cells.length=n∧av.cells.all AV.oneB=true∧av.cells.all AV.pu0=true:=fun av hav=>by
  have:=List.all_eq_true.1 hck av hav
  simp only [Bool.and_eq_true] at this
  exact ⟨this.1.1.1,Nat.eq_of_beq_eq_true this.1.1.2,this.1.2,this.2⟩
 have hv:∀ v∈xs.map a.eval,v.cells.size=n:=fun v hv=>by
  obtain ⟨i,hi,rfl⟩:=List.getElem_of_mem hv
  have hi2:i<avs.length:=by omega
  obtain ⟨c1,c2,_⟩:=hck' _ (List.getElem_mem hi2)
  rw [(cells_of (e2 i _ _ (List.getElem?_eq_getElem hi2) (List.getElem?_eq_getElem hi)) c1).1,c2]
 have hlm:(xs.map a.eval).length=m:=by simpa using hm
 have hrun:=run_buildS (P:=P) (T:=T) (e:=e) (n:=n) (m:=m) (vs:=xs.map a.eval) (parts:=parts.map fun (i,x)=>(i,a.eval x)) hT hn hz (by
  have:=number_map a.eval 0 xs
  rw [← this,← hp];simp) hlm hv (Nat.le_of_ble_eq_true hb) w
 have hvs:((xs.map a.eval).map fun v=>v.cells.toList).length=rows.length:=by rw [← hr];simp only [List.length_map] at e1 ⊢;exact e1
 have hown:=own_built w e n m ((xs.map a.eval).map fun v=>v.cells.toList).flatten.toArray (by unfold maxLen;have:=Nat.le_of_ble_eq_true hb1;omega) (by
  rw [List.size_toArray,flatten_len (size:=n) (fun r hr=>by obtain ⟨v,hv',rfl⟩:=List.mem_map.1 hr;simpa using hv v hv')]
  simp [hm])
 have honeR:∀ r∈(xs.map a.eval).map fun v=>v.cells.toList,∀ u∈r,u.oneCell'=true :=
  (fun r hr' u hu=>by
   obtain ⟨v,hv',rfl⟩:=List.mem_map.1 hr'
   obtain ⟨i,hi,rfl⟩:=List.getElem_of_mem hv'
   have hi2:i<avs.length:=by omega
   obtain ⟨c1,c2,c3,_⟩:=hck' _ (List.getElem_mem hi2)
   obtain ⟨d1,d2⟩:=cells_of (e2 i _ _ (List.getElem?_eq_getElem hi2) (List.getElem?_eq_getElem hi)) c1
   obtain ⟨j,hj,rfl⟩:=List.getElem_of_mem hu
   have hj2:j<(avs[i]).cells.length:=by rw [← d1];simpa using hj
   exact oneB_of (d2 j _ _ (List.getElem?_eq_getElem hj2) (by simp at hj;simp [hj])) (List.all_eq_true.1 c3 _ (List.getElem_mem hj2)))
 have hrel:∀ (i:Nat) r r',rows[i]?=some r→((xs.map a.eval).map fun v=>v.cells.toList)[i]?=some r'→RL G.F r r' :=
  (fun i r r' h1 h2=>by
   rw [← hr,List.getElem?_map] at h1
   rw [List.getElem?_map] at h2
   cases q1:avs[i]? with
   | none=>simp [q1] at h1
   | some av =>
    cases q2:(xs.map a.eval)[i]? with
    | none=>simp [q2] at h2
    | some v =>
     simp [q1] at h1
     simp only [q2,Option.map_some,Option.some.injEq] at h2
     subst h1 h2
     obtain ⟨c1,c2,_,c4⟩:=hck' av (List.mem_of_getElem? q1)
     obtain ⟨d1,d2⟩:=cells_of (e2 i av v q1 q2) c1
     exact ⟨by simpa using d1,fun j x u hx hu=>(pu0_bd (List.all_eq_true.1 c4 x (List.mem_of_getElem? hx)) 0).rp (d2 j x u hx (by simpa using hu))⟩)
 have hsl:(.slice (some ⟨w.heap.size,0,none⟩) m m:Value).ownBlock=some w.heap.size:=rfl
 have ok':=ok.newObj (w':=w.alloc (.cells ((xs.map a.eval).map fun v=>v.cells.toList).flatten.toArray e)) (S:=fun _=>False) (b:=w.heap.size) (n:=n) (h:=.slice (some ⟨w.heap.size,0,none⟩) m m) (φ:=fun x=>x=w.heap.size) (ob:=.row e n rows)
  (Kept.below ((Below.refl _ _).alloc (Nat.le_refl _) _)) (fun _ h=>h.elim) (fun _ _ _ _ _ h=>h) (fun _ _ _ h=>h)
  ⟨with_n,(fun g hg=>by rw [with_h,hsl] at hg;rw [with_b];exact (Option.some.inj hg).symm),by
   rw [with_h,with_f]
   refine ⟨fun r hr'=>by rw [← hr] at hr';obtain ⟨av,hav,rfl⟩:=List.mem_map.1 hr';exact (hck' av hav).2.1,(xs.map a.eval).map fun v=>v.cells.toList,fun _ _ _=>False,?_,hvs,?_,fun g hg=>by rw [hsl] at hg;exact (Option.some.inj hg).symm,
    fun _ _ _ h=>h.elim,fun _ _ _ _ _ h=>h.elim,fun i r r' h1 h2=>(hrel i r r' h1 h2).1,fun i r r' j av u h1 h2 h3 h4=>(hrel i r r' h1 h2).2 j av u h3 h4⟩
   ·have:((xs.map a.eval).map fun v=>v.cells.toList).length=m:=by simpa using hlm
    rw [this]
    exact own_weaken (by simpa using hown) (Nat.zero_le _)
   ·exact honeR⟩ trivial (fun x hx=>by
   obtain rfl:x=w.heap.size:=hx
   refine ⟨.inl ok.bel.size,by simp,fun k o h1 h2=>?_,fun p u h1 h2=>?_⟩
   ·have:=(ok.my k o _ h1 h2).2;omega
   ·have:=cell_block (ok.fw p u h1);omega)
 unfold Oper.wp execOp
 simp only [ho,Sem.run_bind,hrun,Result.andThen_ok,Sem.run_pure,Oper.upon]
 rw [hds]
 subst hq
 exact hN _ _ _ (ok'.set (d:=some d) (av:=.sl σ.nk) (v:=.slice (some ⟨w.heap.size,0,none⟩) m m) (with_sl rfl) (.sl _ (Nat.lt_succ_self _)) fun x hx=>by cases hx;exact of_blt hd)
theorem WO.build {T e n m q:Nat} {z:Value} {parts:Array (Nat×Operand)} {avs:List AV} {rows:List (List AV)} (ho:o.op=.buildSlice T m parts) (hT:P.underlying T=some (.slice e)) (hn:sizeB P e=some n) (hz:(P.info? e).bind (·.zero)=some z)
  (hp:numB 0 parts.toList=true) (hm:parts.toList.length=m) (hb:Nat.ble (m*n) 16777216=true) (hb1:Nat.ble m 16777216=true) (hds:o.dst=some d) (hd:Nat.blt d C.N=true) (hx:σ.evs (parts.toList.map (·.2))=some avs) (hck:rowsB n avs=true) (hr:avs.map AV.cells=rows) (hq:σ.nk=q) :
  WO P C o σ ((σ.new (.row e n rows)).put d (.sl q)) :=
 WO.build0 ho hT hn hz (numB_eq 0 _ hp) (by simpa using hm) hb hb1 hds hd hx hck hr hq
end
end
end Go.Proofs.YtaeelcfjkhfpkaaGreat
