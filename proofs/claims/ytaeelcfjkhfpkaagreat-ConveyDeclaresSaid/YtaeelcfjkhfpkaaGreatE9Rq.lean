/- A walk that knows values as trees: a slice of its own that is never written again. -/
import Derived.Test.YtaeelcfjkhfpkaaGreatE8Rq
set_option linter.unusedVariables false
set_option linter.unusedSimpArgs false
namespace Go.Proofs.YtaeelcfjkhfpkaaGreat
open Go.RowKit
def AV.frz0 (k n:Nat)(rows:List (List AV)):AV→AV
 | .sl q=>bif Nat.beq q k then .ls n rows else .sl q
 | av=>av
def AV.frz1 (k n:Nat)(rows:List (List AV)):AV→AV
 | .fn f l=>.fn f (l.map (AV.frz0 k n rows))
 | av=>av.frz0 k n rows
def AV.frz2 (k n:Nat)(rows:List (List AV)):AV→AV
 | .ag l=>.ag (l.map (AV.frz1 k n rows))
 | av=>av.frz1 k n rows
def AV.frz (k n:Nat)(rows:List (List AV)):AV→AV
 | .tu l=>.tu (l.map (AV.frz2 k n rows))
 | av=>av.frz2 k n rows
def AO.frz (k n:Nat)(rows:List (List AV)):AO→AO
 | .box T cells=>.box T (cells.map (AV.frz1 k n rows))
 | .rof T m rs hi hj x=>.rof T m rs hi hj (x.frz1 k n rows)
 | .rwo T m rs hi hj x=>.rwo T m rs hi hj (x.frz1 k n rows)
 | ob=>ob
def mapS {α β:Type} (f:α→β):List (Nat×α)→List (Nat×β)
 | []=>[]
 | x::r=>(x.1,f x.2)::mapS f r
theorem look_mapS {α β:Type} (f:α→β)(i:Nat):∀ (l:List (Nat×α)),look i (mapS f l)=(look i l).map f
 | []=>rfl
 | x::r=>by
  by_cases e:i=x.1
  ·subst e
   rw [show look x.1 (x::r)=some x.2 from look_set_same]
   exact look_set_same
  ·rw [show look i (x::r)=look i r from look_set_other e,← look_mapS f i r]
   exact look_set_other e
def St.freeze (σ:St) (k n:Nat) (rows:List (List AV)):St:=⟨mapS (AV.frz k n rows) σ.t,mapS (AO.frz k n rows) (rem k σ.M),σ.nk⟩
def AV.fz:Nat→AV→AV
 | d+1,.ow _ n rows=>.ls n (rows.map fun r=>r.map (AV.fz d))
 | _,av=>av
def AV.shal:Nat→AV→Bool
 | 0,.ow _ _ _=>false
 | d+1,.ow _ _ rows=>rows.all fun r=>r.all (AV.shal d)
 | _,_=>true
section
variable {P:Program} {C:Cx} {σ σ':St} {G G':Gh} {a:Act} {w w':World} {o:Oper} {d:Tmp}
theorem list_R {Q:AV→AV} {l:List AV} {cs:Array Value} (h1:cs.size=l.length)(h2:∀ (i:Nat) av u,l[i]?=some av→cs[i]?=some u→R G av u)(hq:∀ av u,R G av u→R G (Q av) u) :
  cs.size=(l.map Q).length∧∀ (i:Nat) av u,(l.map Q)[i]?=some av→cs[i]?=some u→R G av u:=by
 refine⟨by simpa using h1,fun i av u x y=>?_⟩
 rw [List.getElem?_map] at x
 cases hx:l[i]? with
 | none=>simp [hx] at x
 | some b=>simp [hx] at x;rw [← x];exact hq _ _ (h2 i b u hx y)
theorem list_bd {Q:AV→AV} {nk:Nat} {l:List AV} (h:∀ (i:Nat)x,l[i]?=some x→Bd nk x)(hq:∀ av,Bd nk av→Bd nk (Q av)):∀ (i:Nat)x,(l.map Q)[i]?=some x→Bd nk x:=fun i x hx=>by
 rw [List.getElem?_map]at hx
 cases hq':l[i]? with
 | none=>simp [hq']at hx
 | some y=>simp [hq']at hx;rw [← hx];exact hq _ (h i y hq')
section
variable {k n nk:Nat} {rows:List (List AV)} {av:AV} {v:Value}
theorem frz0_R (h:R G (.ls n rows) (G.h k)) (r:R G av v):R G (av.frz0 k n rows) v:=by
 cases av with
 | sl q =>
  simp only [AV.frz0]
  cases e:Nat.beq q k with
  | true=>obtain rfl:=Nat.eq_of_beq_eq_true e;rw [r.sl_of.1];exact h
  | false=>exact r
 | _=>exact r
theorem frz0_bd (b:Bd nk av):Bd nk (av.frz0 k n rows):=by
 cases av with
 | sl q =>
  simp only [AV.frz0]
  cases e:Nat.beq q k with
  | true=>exact .ls _ _
  | false=>exact b
 | _=>exact b
theorem frz1_R (h:R G (.ls n rows) (G.h k)) (r:R G av v):R G (av.frz1 k n rows) v:=by
 cases av with
 | fn f l =>
  obtain ⟨cs,rfl,h1,h2⟩:=r.fn_of
  obtain ⟨q1,q2⟩:=list_R h1 h2 fun _ _=>frz0_R h
  exact .fn f _ cs q1 q2
 | sl q=>exact frz0_R (av:=.sl q) h r
 | _=>exact r
theorem frz1_bd (b:Bd nk av):Bd nk (av.frz1 k n rows):=by
 cases av with
 | fn f l=>cases b with|fn _ _ hb=>exact .fn f _ (list_bd hb fun _=>frz0_bd)
 | sl q=>exact frz0_bd (av:=.sl q) b
 | _=>exact b
theorem frz2_R (h:R G (.ls n rows) (G.h k)) (r:R G av v):R G (av.frz2 k n rows) v:=by
 cases av with
 | ag l =>
  obtain ⟨cs,rfl,h1,h2⟩:=r.ag_of
  obtain ⟨q1,q2⟩:=list_R h1 h2 fun _ _=>frz1_R h
  exact .ag _ cs q1 q2
 | fn f l=>exact frz1_R (av:=.fn f l) h r
 | sl q=>exact frz0_R (av:=.sl q) h r
 | _=>exact r
theorem frz2_bd (b:Bd nk av):Bd nk (av.frz2 k n rows):=by
 cases av with
 | ag l=>cases b with|ag _ hb=>exact .ag _ (list_bd hb fun _=>frz1_bd)
 | fn f l=>exact frz1_bd (av:=.fn f l) b
 | sl q=>exact frz0_bd (av:=.sl q) b
 | _=>exact b
theorem frz_R (h:R G (.ls n rows) (G.h k)) (r:R G av v):R G (av.frz k n rows) v:=by
 cases av with
 | tu l =>
  obtain ⟨cs,rfl,h1,h2⟩:=r.tu_of
  obtain ⟨q1,q2⟩:=list_R h1 h2 fun _ _=>frz2_R h
  exact .tu _ cs q1 q2
 | ag l=>exact frz2_R (av:=.ag l) h r
 | fn f l=>exact frz1_R (av:=.fn f l) h r
 | sl q=>exact frz0_R (av:=.sl q) h r
 | _=>exact r
theorem frz_bd (b:Bd nk av):Bd nk (av.frz k n rows):=by
 cases av with
 | tu l=>cases b with|tu _ hb=>exact .tu _ (list_bd hb fun _=>frz2_bd)
 | ag l=>exact frz2_bd (av:=.ag l) b
 | fn f l=>exact frz1_bd (av:=.fn f l) b
 | sl q=>exact frz0_bd (av:=.sl q) b
 | _=>exact b
theorem frz1_C {φ:Nat→Prop} (h:R G (.ls n rows) (G.h k)) (r:CR G w φ av v):CR G w φ (av.frz1 k n rows) v:=by
 rcases r with r|o
 ·exact .inl (frz1_R h r)
 ·by_cases ho:av.own=true
  ·cases av with
   | ow T n rows=>exact .inr o
   | _=>cases ho
  ·exact .inl (frz1_R h (.pu _ _ (OW.p o (by simpa using ho))))
end
theorem RowIs.fix {T n:Nat} {rows:List (List AV)} {v:Value} {φ:Nat→Prop} {X:Nat→Nat→(Nat→Prop)→AV→Value→Prop} {F':View} (f:AV→AV) (h:RowIs w T n rows v φ X) (hF:∀ p,φ p.block→F' p=w.cell? p)
    (hX:∀ (i:Nat) r (j:Nat) av u ψ,rows[i]?=some r→r[j]?=some av→(∀ x,ψ x→φ x)→X i j ψ av u→RP F' (f av) u):RP F' (.ls n (rows.map fun r=>r.map f)) v:=by
  have hfp:=h.2
  obtain ⟨vs0,_,_,_,_,hgf,_⟩:=hfp
  obtain ⟨A,c,vs,Φ,hA,h5,hrd,hvl,h7,h8,hΦ,_,h6⟩:=h.rd
  have hrl:=h.1
  have h4:=h.2
  obtain ⟨vs1,Φ1,h4,h51,_⟩:=h4
  have hcap:rows.length≤c:=by
    rcases h4.2 with⟨e,e2⟩|⟨g,cap,cur,e,_,_,hnc,_⟩
    · omega
    · rw [e] at hA;injection hA with _ _ hA;omega
  have hgA:∀ ad,A=some ad→φ ad.block:=fun ad e=>by
    rcases h4.2 with⟨e1,e2⟩|⟨g,cap,cur,e1,_⟩
    · rw [e1,e] at hA;cases hA
    · rw [e1,e] at hA;injection hA with hA _ _;cases hA
      exact hgf g (by rw [e1];rfl)
  have hv:v=.slice A (rows.map fun r=>r.map f).length c:=by rw [hA,List.length_map,h5]
  rw [hv]
  by_cases hp:0<rows.length
  · obtain ⟨ad,had,_⟩:=hrd zqo
    refine .ls n _ A c ad (fun i j=>((vs.getD i []).getD j undef)) (by simpa using hcap) (fun r hr=>?_) (fun _=>had) (fun i r j av hr hav=>?_) (fun i r j av hr hav=>?_)
    · obtain ⟨r',hr',rfl⟩:=List.mem_map.1 hr
      rw [List.length_map];exact hrl _ hr'
    all_goals
      rw [List.getElem?_map] at hr
      cases hr0:rows[i]? with
      | none=>simp [hr0] at hr
      | some r0 =>
        simp only [hr0,Option.map_some,Option.some.injEq] at hr
        subst hr
        rw [List.getElem?_map] at hav
        cases hav0:r0[j]? with
        | none=>simp [hav0] at hav
        | some av0 =>
          simp only [hav0,Option.map_some,Option.some.injEq] at hav
          subst hav
          have hi:i<rows.length:=(List.getElem?_eq_some_iff.1 hr0).1
          have hv:vs[i]?=some vs[i]:=List.getElem?_eq_getElem (by omega)
          have e1:=h8 i r0 _ hr0 hv
          have hj:j<vs[i].length:=by rw [e1];exact (List.getElem?_eq_some_iff.1 hav0).1
          have hu:(vs.getD i []).getD j undef=vs[i][j]:=by simp [List.getD,hv,hj]
          simp only [hu]
          first
            | (refine ⟨?_,h7 _ (List.getElem_mem _) _ (List.getElem_mem _)⟩
               obtain ⟨ad',had',_,hc⟩:=Rd.at_ (k:=i) hrd zqo
               obtain rfl:ad'=ad:=by rw [had] at had';exact (Option.some.inj had').symm
               rw [hF _ (by rw [block_of_add];exact hgA _ had)]
               exact hc j _ (List.getElem?_eq_getElem hj))
            |exact hX i r0 j av0 _ _ hr0 hav0 (fun x hx=>(hΦ i j x hx).1) (h6 i r0 _ j av0 _ hr0 hv hav0 (List.getElem?_eq_getElem hj))
  · have h0:rows=[]:=List.eq_nil_of_length_eq_zero zqo
    subst h0
    exact .ls n [] A c ⟨0,0,none⟩ (fun _ _=>undef) (by simp) (by simp) (fun h=>absurd h (by simp)) (fun i r j av h=>by simp at h) (fun i r j av h=>by simp at h)
theorem fz_pu {d:Nat} {av:AV} (h:av.own=false):av.fz d=av:=by
 cases d<;>cases av<;>first|rfl|cases h
theorem OW.fix {F F':View} (hle:F.le F'):∀ (d:Nat) {av:AV} {v:Value} {φ:Nat→Prop},OW F w av v φ→(∀ p,φ p.block→F' p=w.cell? p)→av.shal d=true→RP F' (av.fz d) v
 | d,av,v,φ,h,hF,hs=>by
  by_cases ho:av.own=true
  ·cases av with
   | ow T n rows =>
    cases d with
    | zero=>cases hs
    | succ d =>
     refine RowIs.fix (AV.fz d) h.row hF fun i r j av u ψ hr hav hψ x=>?_
     have h1:(rows.all fun r=>r.all (AV.shal d))=true:=hs
     have h2:=List.all_eq_true.1 (List.all_eq_true.1 h1 r (List.mem_of_getElem? hr)) av (List.mem_of_getElem? hav)
     exact OW.fix hle d x (fun p hp=>hF p (hψ _ hp)) h2
   | _=>cases ho
  ·rw [fz_pu (by simpa using ho)]
   exact (h.p (by simpa using ho)).mono hle
theorem Tr.freezeG (k:Nat) {n:Nat} {rows':List (List AV)} {ob:AO} (hk:look k σ.M=some ob) (hls:∀ G w (F':View),ObAt G w k ob→G.F.le F'→(∀ p,G.fp k p.block→F' p=w.cell? p)→RP F' (.ls n rows') (G.h k)):Tr C σ (σ.freeze k n rows'):=fun G a w ok=>by
 obtain ⟨hkn,_,hob⟩:=ok.ob k _ hk
 classical
 let F':View:=fun p=>if G.fp k p.block then w.cell? p else G.F p
 have hF:G.F.le F':=fun p u h=>by
  show (if _ then _ else _)=_
  rw [if_neg (fun e=>ok.dF k _ p.block p u hk e h rfl)];exact h
 have hFn:∀ p u,F' p=some u→G.F p=some u∨(G.fp k p.block∧w.cell? p=some u):=fun p u h=>by
  have h:(if G.fp k p.block then w.cell? p else G.F p)=some u:=h
  by_cases e:G.fp k p.block
  ·rw [if_pos e] at h;exact .inr ⟨e,h⟩
  ·rw [if_neg e] at h;exact .inl h
 have hls:=hls G w F' hob hF (fun p hp=>if_pos hp)
 have hle:G.le { G with F:=F' } σ.nk:=⟨hF,fun _ _=>rfl,fun _ _=>rfl,fun _ _=>rfl⟩
 have hls':R { G with F:=F' } (.ls n rows') (({ G with F:=F' }:Gh).h k):=.pu _ _ hls
 have hl:∀ i ob,look i (σ.freeze k n rows').M=some ob→∃ ob0,i≠k∧look i σ.M=some ob0∧ob=ob0.frz k n rows':=fun i ob h=>by
  rw [show look i (σ.freeze k n rows').M=_ from look_mapS _ i _,look_rem] at h
  by_cases e:i=k
  ·rw [if_pos e] at h;cases h
  ·rw [if_neg e] at h
   cases hq:look i σ.M with
   | none=>simp [hq] at h
   | some ob0=>simp [hq] at h;exact ⟨ob0,e,rfl,h.symm⟩
 refine ⟨{ G with F:=F' },ok.sz,ok.df,fun i av h=>?_,ok.bel,fun p u h=>?_,fun p u h=>hF p u (ok.f0 p u h),fun p u h=>?_,fun i ob h=>?_,fun i o x h1 h2=>?_,?_,?_⟩
 ·rw [show look i (σ.freeze k n rows').t=_ from look_mapS _ i _] at h
  cases hq:look i σ.t with
  | none=>simp [hq] at h
  | some av0 =>
   simp [hq] at h
   obtain ⟨h1,h2,h3⟩:=ok.tm i av0 hq
   rw [← h]
   exact ⟨h1,frz_bd h2,frz_R hls' (h3.mono hle h2)⟩
 ·rcases hFn p u h with h|⟨_,h⟩
  ·exact ok.fw p u h
  ·exact h
 ·rcases hFn p u h with h|⟨h,_⟩
  ·exact ok.f1 p u h
  ·exact .inr (ok.my k _ _ hk h).1
 ·obtain ⟨ob0,e,h0,rfl⟩:=hl i ob h
  obtain ⟨g1,g2,g3⟩:=ok.ob i ob0 h0
  have g4:=g3.keep (w':=w) (G':={ G with F:=F' }) hle g1 g2 rfl (fun _ _=>rfl)
  refine ⟨g1,?_,?_⟩
  ·cases ob0 with
   | box T cells=>exact list_bd g2 fun _=>frz1_bd
   | rof T m rs hi hj y=>exact frz1_bd g2
   | rwo T m rs hi hj y=>exact frz1_bd g2
   | _=>exact g2
  ·cases ob0 with
   | box T cells =>
    obtain ⟨b1,cs,Φ,b2,b3,b4,b5,b6⟩:=g4
    refine ⟨b1,cs,Φ,b2,by simpa using b3,b4,b5,fun j av u x y=>?_⟩
    rw [List.getElem?_map] at x
    cases hq:cells[j]? with
    | none=>simp [hq] at x
    | some b=>simp [hq] at x;rw [← x];exact frz1_C hls' (b6 j b u hq y)
   | rof T m rs hi hj y =>
    obtain ⟨c1,c2,c3⟩:=g4
    refine ⟨c1,c2,c3.keep (fun _ _=>rfl) fun i r j av ψ u _ _ _ x=>?_⟩
    unfold XH at x ⊢
    by_cases e:i=hi∧j=hj
    ·rw [if_pos e] at x ⊢
     exact frz1_R hls' x
    ·rw [if_neg e] at x ⊢
     exact x
   | rwo T m rs hi hj y =>
    obtain ⟨c1,c2,c3⟩:=g4
    refine ⟨c1,c2,c3.keep (fun _ _=>rfl) fun i r j av ψ u _ _ _ x=>?_⟩
    unfold XQ at x ⊢
    by_cases e:i=hi∧j=hj
    ·rw [if_pos e] at x ⊢
     exact frz1_R hls' x
    ·rw [if_neg e] at x ⊢
     exact x
   | _=>exact g4
 ·obtain ⟨ob0,e,h0,rfl⟩:=hl i o h1
  exact ok.my i ob0 x h0 h2
 ·intro i o i' o' x h1 h2 h3 h4
  obtain ⟨ob0,e,h0,rfl⟩:=hl i o h1
  obtain ⟨ob0',e',h0',rfl⟩:=hl i' o' h2
  exact ok.dj i ob0 i' ob0' x h0 h0' h3 h4
 ·intro i o x p u h1 h2 h3
  obtain ⟨ob0,e,h0,rfl⟩:=hl i o h1
  rcases hFn p u h3 with h|⟨h,_⟩
  ·exact ok.dF i ob0 x p u h0 h2 h
  ·intro e2
   exact e (ok.dj i ob0 k _ x h0 hk h2 (by rw [← e2];exact h))
theorem Tr.freeze (k:Nat) {T n:Nat} {rows:List (List AV)} (hk:look k σ.M=some (.row T n rows)):Tr C σ (σ.freeze k n rows) :=
 Tr.freezeG k hk fun G w F' h hle hF=>by
  have:=RowIs.fix (F':=F') id h.2.2 hF fun i r j av u ψ _ _ _ x=>RP.mono hle x
  simpa using this
theorem Tr.freezeW (k d:Nat) {T n:Nat} {rows rows':List (List AV)} (hk:look k σ.M=some (.rwn T n rows)) (hs:(rows.all fun r=>r.all (AV.shal d))=true) (hr:(rows.map fun r=>r.map (AV.fz d))=rows'):Tr C σ (σ.freeze k n rows') :=
 Tr.freezeG k hk fun G w F' h hle hF=>by
  rw [← hr]
  refine RowIs.fix (AV.fz d) h.2.2 hF fun i r j av u ψ hr hav hψ x=>?_
  exact OW.fix hle d x (fun p hp=>hF p (hψ _ hp)) (List.all_eq_true.1 (List.all_eq_true.1 hs r (List.mem_of_getElem? hr)) av (List.mem_of_getElem? hav))
end
end Go.Proofs.YtaeelcfjkhfpkaaGreat
