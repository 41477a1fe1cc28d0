/- What Check answers of a piece: the plain part. -/
import Derived.Test.YtgelfflighgajaaGreatDoorE8Uq
import Derived.Test.YtgelfflighgajaaGreatDoorSymUq
import Derived.Test.YtgelfflighgajaaGreatDoorRefUq
import Derived.Test.YtgelfflighgajaaGreatDoorRLgUq
set_option maxHeartbeats 1600000
set_option maxRecDepth 100000
set_option linter.unusedVariables false
set_option linter.unusedSimpArgs false
namespace Go.Proofs.YtgelfflighgajaaGreatDoor
open Go.RowKit
def AV.frz0 (k n:Nat)(rows:List (List AV)):AV→AV
 | .sl q=>bif Nat.beq q k then .ls n rows else .sl q
 | av=>av
def AV.frz1 (k n:Nat)(rows:List (List AV)):AV→AV
 | .fn f l=>.fn f (l.map (AV.frz0 k n rows))
 | av=>av.frz0 k n rows
def AV.frz2 (k n:Nat)(rows:List (List AV)):AV→AV
 | .ag l=>.ag (l.map (AV.frz1 k n rows))
 | av=>av.frz1 k n rows
def AV.frz (k n:Nat)(rows:List (List AV)):AV→AV
 | .tu l=>.tu (l.map (AV.frz2 k n rows))
 | av=>av.frz2 k n rows
def AO.frz (k n:Nat)(rows:List (List AV)):AO→AO
 | .box T cells=>.box T (cells.map (AV.frz1 k n rows))
 | .rof T m rs hi hj x=>.rof T m rs hi hj (x.frz1 k n rows)
 | .rwo T m rs hi hj x=>.rwo T m rs hi hj (x.frz1 k n rows)
 | ob=>ob
def mapS {α β:Type} (f:α→β):List (Nat×α)→List (Nat×β)
 | []=>[]
 | x::r=>(x.1,f x.2)::mapS f r
theorem look_mapS {α β:Type} (f:α→β)(i:Nat):∀ (l:List (Nat×α)),look i (mapS f l)=(look i l).map f
 | []=>rfl
 | x::r=>by
  by_cases e:i=x.1
  ·subst e
   rw [show look x.1 (x::r)=some x.2 from look_set_same]
   exact look_set_same
  ·rw [show look i (x::r)=look i r from look_set_other e,← look_mapS f i r]
   exact look_set_other e
def St.freeze (σ:St) (k n:Nat) (rows:List (List AV)):St:=⟨mapS (AV.frz k n rows) σ.t,mapS (AO.frz k n rows) (rem k σ.M),σ.nk⟩
section
variable {P:Program} {C:Cx} {σ σ':St} {G G':Gh} {a:Act} {w w':World} {o:Oper} {d:Tmp}
theorem list_R {Q:AV→AV} {l:List AV} {cs:Array Value} (h1:cs.size=l.length)(h2:∀ (i:Nat) av u,l[i]?=some av→cs[i]?=some u→R G av u)(hq:∀ av u,R G av u→R G (Q av) u) :
  cs.size=(l.map Q).length∧∀ (i:Nat) av u,(l.map Q)[i]?=some av→cs[i]?=some u→R G av u:=by
 refine⟨by simpa using h1,fun i av u x y=>?_⟩
 rw [List.getElem?_map] at x
 cases hx:l[i]? with
 | none=>simp [hx] at x
 | some b=>simp [hx] at x;rw [← x];exact hq _ _ (h2 i b u hx y)
theorem list_bd {Q:AV→AV} {nk:Nat} {l:List AV} (h:∀ (i:Nat)x,l[i]?=some x→Bd nk x)(hq:∀ av,Bd nk av→Bd nk (Q av)):∀ (i:Nat)x,(l.map Q)[i]?=some x→Bd nk x:=fun i x hx=>by
 rw [List.getElem?_map]at hx
 cases hq':l[i]? with
 | none=>simp [hq']at hx
 | some y=>simp [hq']at hx;rw [← hx];exact hq _ (h i y hq')
section
variable {k n nk:Nat} {rows:List (List AV)} {av:AV} {v:Value}
theorem frz0_R (h:R G (.ls n rows) (G.h k)) (r:R G av v):R G (av.frz0 k n rows) v:=by
 cases av with
 | sl q =>
  simp only [AV.frz0]
  cases e:Nat.beq q k with
  | true=>obtain rfl:=Nat.eq_of_beq_eq_true e;rw [r.sl_of.1];exact h
  | false=>exact r
 | _=>exact r
theorem frz0_bd (b:Bd nk av):Bd nk (av.frz0 k n rows):=by
 cases av with
 | sl q =>
  simp only [AV.frz0]
  cases e:Nat.beq q k with
  | true=>exact .ls _ _
  | false=>exact b
 | _=>exact b
theorem frz1_R (h:R G (.ls n rows) (G.h k)) (r:R G av v):R G (av.frz1 k n rows) v:=by
 cases av with
 | fn f l =>
  obtain ⟨cs,rfl,h1,h2⟩:=r.fn_of
  obtain ⟨q1,q2⟩:=list_R h1 h2 fun _ _=>frz0_R h
  exact .fn f _ cs q1 q2
 | sl q=>exact frz0_R (av:=.sl q) h r
 | _=>exact r
theorem frz1_bd (b:Bd nk av):Bd nk (av.frz1 k n rows):=by
 cases av with
 | fn f l=>cases b with|fn _ _ hb=>exact .fn f _ (list_bd hb fun _=>frz0_bd)
 | sl q=>exact frz0_bd (av:=.sl q) b
 | _=>exact b
theorem frz2_R (h:R G (.ls n rows) (G.h k)) (r:R G av v):R G (av.frz2 k n rows) v:=by
 cases av with
 | ag l =>
  obtain ⟨cs,rfl,h1,h2⟩:=r.ag_of
  obtain ⟨q1,q2⟩:=list_R h1 h2 fun _ _=>frz1_R h
  exact .ag _ cs q1 q2
 | fn f l=>exact frz1_R (av:=.fn f l) h r
 | sl q=>exact frz0_R (av:=.sl q) h r
 | _=>exact r
theorem frz2_bd (b:Bd nk av):Bd nk (av.frz2 k n rows):=by
 cases av with
 | ag l=>cases b with|ag _ hb=>exact .ag _ (list_bd hb fun _=>frz1_bd)
 | fn f l=>exact frz1_bd (av:=.fn f l) b
 | sl q=>exact frz0_bd (av:=.sl q) b
 | _=>exact b
theorem frz_R (h:R G (.ls n rows) (G.h k)) (r:R G av v):R G (av.frz k n rows) v:=by
 cases av with
 | tu l =>
  obtain ⟨cs,rfl,h1,h2⟩:=r.tu_of
  obtain ⟨q1,q2⟩:=list_R h1 h2 fun _ _=>frz2_R h
  exact .tu _ cs q1 q2
 | ag l=>exact frz2_R (av:=.ag l) h r
 | fn f l=>exact frz1_R (av:=.fn f l) h r
 | sl q=>exact frz0_R (av:=.sl q) h r
 | _=>exact r
theorem frz_bd (b:Bd nk av):Bd nk (av.frz k n rows):=by
 cases av with
 | tu l=>cases b with|tu _ hb=>exact .tu _ (list_bd hb fun _=>frz2_bd)
 | ag l=>exact frz2_bd (av:=.ag l) b
 | fn f l=>exact frz1_bd (av:=.fn f l) b
 | sl q=>exact frz0_bd (av:=.sl q) b
 | _=>exact b
theorem frz1_C {φ:Nat→Prop} (h:R G (.ls n rows) (G.h k)) (r:CR G w φ av v):CR G w φ (av.frz1 k n rows) v:=by
 rcases r with r|o
 ·exact .inl (frz1_R h r)
 ·by_cases ho:av.own=true
  ·cases av with
   | ow T n rows=>exact .inr o
   | _=>cases ho
  ·exact .inl (frz1_R h (.pu _ _ (OW.p o (by simpa using ho))))
end
theorem RowIs.fix {T n:Nat} {rows:List (List AV)} {v:Value} {φ:Nat→Prop} {X:Nat→Nat→(Nat→Prop)→AV→Value→Prop} {F':View} (f:AV→AV) (h:RowIs w T n rows v φ X) (hF:∀ p,φ p.block→F' p=w.cell? p)
    (hX:∀ (i:Nat) r (j:Nat) av u ψ,rows[i]?=some r→r[j]?=some av→(∀ x,ψ x→φ x)→X i j ψ av u→RP F' (f av) u):RP F' (.ls n (rows.map fun r=>r.map f)) v:=by
  have hfp:=h.2
  obtain ⟨vs0,_,_,_,_,hgf,_⟩:=hfp
  obtain ⟨A,c,vs,Φ,hA,h5,hrd,hvl,h7,h8,hΦ,_,h6⟩:=h.rd
  have hrl:=h.1
  have h4:=h.2
  obtain ⟨vs1,Φ1,h4,h51,_⟩:=h4
  have hcap:rows.length≤c:=by
    rcases h4.2 with⟨e,e2⟩|⟨g,cap,cur,e,_,_,hnc,_⟩
    · omega
    · rw [e] at hA;injection hA with _ _ hA;omega
  have hgA:∀ ad,A=some ad→φ ad.block:=fun ad e=>by
    rcases h4.2 with⟨e1,e2⟩|⟨g,cap,cur,e1,_⟩
    · rw [e1,e] at hA;cases hA
    · rw [e1,e] at hA;injection hA with hA _ _;cases hA
      exact hgf g (by rw [e1];rfl)
  have hv:v=.slice A (rows.map fun r=>r.map f).length c:=by rw [hA,List.length_map,h5]
  rw [hv]
  by_cases hp:0<rows.length
  · obtain ⟨ad,had,_⟩:=hrd (by omega)
    refine .ls n _ A c ad (fun i j=>((vs.getD i []).getD j undef)) (by simpa using hcap) (fun r hr=>?_) (fun _=>had) (fun i r j av hr hav=>?_) (fun i r j av hr hav=>?_)
    · obtain ⟨r',hr',rfl⟩:=List.mem_map.1 hr
      rw [List.length_map];exact hrl _ hr'
    all_goals
      rw [List.getElem?_map] at hr
      cases hr0:rows[i]? with
      | none=>simp [hr0] at hr
      | some r0 =>
        simp only [hr0,Option.map_some,Option.some.injEq] at hr
        subst hr
        rw [List.getElem?_map] at hav
        cases hav0:r0[j]? with
        | none=>simp [hav0] at hav
        | some av0 =>
          simp only [hav0,Option.map_some,Option.some.injEq] at hav
          subst hav
          have hi:i<rows.length:=(List.getElem?_eq_some_iff.1 hr0).1
          have hv:vs[i]?=some vs[i]:=List.getElem?_eq_getElem (by omega)
          have e1:=h8 i r0 _ hr0 hv
          have hj:j<vs[i].length:=by rw [e1];exact (List.getElem?_eq_some_iff.1 hav0).1
          have hu:(vs.getD i []).getD j undef=vs[i][j]:=by simp [List.getD,hv,hj]
          simp only [hu]
          first
            | (refine ⟨?_,h7 _ (List.getElem_mem _) _ (List.getElem_mem _)⟩
               obtain ⟨ad',had',_,hc⟩:=Rd.at_ (k:=i) hrd (by omega)
               obtain rfl:ad'=ad:=by rw [had] at had';exact (Option.some.inj had').symm
               rw [hF _ (by rw [block_of_add];exact hgA _ had)]
               exact hc j _ (List.getElem?_eq_getElem hj))
            |exact hX i r0 j av0 _ _ hr0 hav0 (fun x hx=>(hΦ i j x hx).1) (h6 i r0 _ j av0 _ hr0 hv hav0 (List.getElem?_eq_getElem hj))
  · have h0:rows=[]:=List.eq_nil_of_length_eq_zero (by omega)
    subst h0
    exact .ls n [] A c ⟨0,0,none⟩ (fun _ _=>undef) (by simp) (by simp) (fun h=>absurd h (by simp)) (fun i r j av h=>by simp at h) (fun i r j av h=>by simp at h)
theorem Tr.freezeG (k:Nat) {n:Nat} {rows':List (List AV)} {ob:AO} (hk:look k σ.M=some ob) (hls:∀ G w (F':View),ObAt G w k ob→G.F.le F'→(∀ p,G.fp k p.block→F' p=w.cell? p)→RP F' (.ls n rows') (G.h k)):Tr C σ (σ.freeze k n rows'):=fun G a w ok=>by
 obtain ⟨hkn,_,hob⟩:=ok.ob k _ hk
 classical
 let F':View:=fun p=>if G.fp k p.block then w.cell? p else G.F p
 have hF:G.F.le F':=fun p u h=>by
  show (if _ then _ else _)=_
  rw [if_neg (fun e=>ok.dF k _ p.block p u hk e h rfl)];exact h
 have hFn:∀ p u,F' p=some u→G.F p=some u∨(G.fp k p.block∧w.cell? p=some u):=fun p u h=>by
  have h:(if G.fp k p.block then w.cell? p else G.F p)=some u:=h
  by_cases e:G.fp k p.block
  ·rw [if_pos e] at h;exact .inr ⟨e,h⟩
  ·rw [if_neg e] at h;exact .inl h
 have hls:=hls G w F' hob hF (fun p hp=>if_pos hp)
 have hle:G.le { G with F:=F' } σ.nk:=⟨hF,fun _ _=>rfl,fun _ _=>rfl,fun _ _=>rfl⟩
 have hls':R { G with F:=F' } (.ls n rows') (({ G with F:=F' }:Gh).h k):=.pu _ _ hls
 have hl:∀ i ob,look i (σ.freeze k n rows').M=some ob→∃ ob0,i≠k∧look i σ.M=some ob0∧ob=ob0.frz k n rows':=fun i ob h=>by
  rw [show look i (σ.freeze k n rows').M=_ from look_mapS _ i _,look_rem] at h
  by_cases e:i=k
  ·rw [if_pos e] at h;cases h
  ·rw [if_neg e] at h
   cases hq:look i σ.M with
   | none=>simp [hq] at h
   | some ob0=>simp [hq] at h;exact ⟨ob0,e,rfl,h.symm⟩
 refine ⟨{ G with F:=F' },ok.sz,ok.df,fun i av h=>?_,ok.bel,fun p u h=>?_,fun p u h=>hF p u (ok.f0 p u h),fun p u h=>?_,fun i ob h=>?_,fun i o x h1 h2=>?_,?_,?_⟩
 ·rw [show look i (σ.freeze k n rows').t=_ from look_mapS _ i _] at h
  cases hq:look i σ.t with
  | none=>simp [hq] at h
  | some av0 =>
   simp [hq] at h
   obtain ⟨h1,h2,h3⟩:=ok.tm i av0 hq
   rw [← h]
   exact ⟨h1,frz_bd h2,frz_R hls' (h3.mono hle h2)⟩
 ·rcases hFn p u h with h|⟨_,h⟩
  ·exact ok.fw p u h
  ·exact h
 ·rcases hFn p u h with h|⟨h,_⟩
  ·exact ok.f1 p u h
  ·exact .inr (ok.my k _ _ hk h).1
 ·obtain ⟨ob0,e,h0,rfl⟩:=hl i ob h
  obtain ⟨g1,g2,g3⟩:=ok.ob i ob0 h0
  have g4:=g3.keep (w':=w) (G':={ G with F:=F' }) hle g1 g2 rfl (fun _ _=>rfl)
  refine ⟨g1,?_,?_⟩
  ·cases ob0 with
   | box T cells=>exact list_bd g2 fun _=>frz1_bd
   | rof T m rs hi hj y=>exact frz1_bd g2
   | rwo T m rs hi hj y=>exact frz1_bd g2
   | _=>exact g2
  ·cases ob0 with
   | box T cells =>
    obtain ⟨b1,cs,Φ,b2,b3,b4,b5,b6⟩:=g4
    refine ⟨b1,cs,Φ,b2,by simpa using b3,b4,b5,fun j av u x y=>?_⟩
    rw [List.getElem?_map] at x
    cases hq:cells[j]? with
    | none=>simp [hq] at x
    | some b=>simp [hq] at x;rw [← x];exact frz1_C hls' (b6 j b u hq y)
   | rof T m rs hi hj y =>
    obtain ⟨c1,c2,c3⟩:=g4
    refine ⟨c1,c2,c3.keep (fun _ _=>rfl) fun i r j av ψ u _ _ _ x=>?_⟩
    unfold XH at x ⊢
    by_cases e:i=hi∧j=hj
    ·rw [if_pos e] at x ⊢
     exact frz1_R hls' x
    ·rw [if_neg e] at x ⊢
     exact x
   | rwo T m rs hi hj y =>
    obtain ⟨c1,c2,c3⟩:=g4
    refine ⟨c1,c2,c3.keep (fun _ _=>rfl) fun i r j av ψ u _ _ _ x=>?_⟩
    unfold XQ at x ⊢
    by_cases e:i=hi∧j=hj
    ·rw [if_pos e] at x ⊢
     exact frz1_R hls' x
    ·rw [if_neg e] at x ⊢
     exact x
   | _=>exact g4
 ·obtain ⟨ob0,e,h0,rfl⟩:=hl i o h1
  exact ok.my i ob0 x h0 h2
 ·intro i o i' o' x h1 h2 h3 h4
  obtain ⟨ob0,e,h0,rfl⟩:=hl i o h1
  obtain ⟨ob0',e',h0',rfl⟩:=hl i' o' h2
  exact ok.dj i ob0 i' ob0' x h0 h0' h3 h4
 ·intro i o x p u h1 h2 h3
  obtain ⟨ob0,e,h0,rfl⟩:=hl i o h1
  rcases hFn p u h3 with h|⟨h,_⟩
  ·exact ok.dF i ob0 x p u h0 h2 h
  ·intro e2
   exact e (ok.dj i ob0 k _ x h0 hk h2 (by rw [← e2];exact h))
theorem Tr.freeze (k:Nat) {T n:Nat} {rows:List (List AV)} (hk:look k σ.M=some (.row T n rows)):Tr C σ (σ.freeze k n rows) :=
 Tr.freezeG k hk fun G w F' h hle hF=>by
  have:=RowIs.fix (F':=F') id h.2.2 hF fun i r j av u ψ _ _ _ x=>RP.mono hle x
  simpa using this
end
end Go.Proofs.YtgelfflighgajaaGreatDoor
namespace Go.Proofs.YtgelfflighgajaaGreatDoor
def pS(s c f:Int):List UInt8:=if s=1 then frS c f else if s=2 then itS c f else if s=3 then spS c f else geS c f
def pOk(s c f:Int):Bool:=if s=1 then frOk c f else if s=2 then itOk c f else if s=3 then spOk c f else geOk c f
end Go.Proofs.YtgelfflighgajaaGreatDoor
namespace Go.Proofs.YtgelfflighgajaaGreatDoor
open Go.RowKit
abbrev Lck:=Int×Int×Int
def lckCells(x:Lck):List Value:=[.int .i64 x.1,.int .i64 x.2.1,.int .i64 x.2.2]
theorem lck_len(l:List Lck):∀ r∈l.map lckCells,r.length=3:=by intro r h;obtain⟨x,_,rfl⟩:=List.mem_map.1 h;rfl
theorem lck_one(l:List Lck):∀ r∈l.map lckCells,∀ u∈r,u.oneCell'=true:=by
 intro r h u hu;obtain⟨x,_,rfl⟩:=List.mem_map.1 h
 simp only [lckCells,List.mem_cons,List.not_mem_nil,or_false]at hu
 rcases hu with rfl|rfl|rfl<;>rfl
theorem infoLack:(Tryz.prog.info? 308).map (fun i=>(i.zero,i.size,i.bytes))=some (some (.agg #[.int .i64 0,.int .i64 0,.int .i64 0]),3,24):=by kernel_rfl
def SayAt (w:World)(B0 b:Nat)(l:List Lck):Prop :=
 ∃ Q d,Blk w b 204 #[.slice Q l.length d]∧w.ownsRow B0 308 3 (.slice Q l.length d) l.length (l.map lckCells).flatten
theorem SayAt.start(w:World) (B0 b:Nat) (h:Blk w b 204 #[.slice none 0 0]):SayAt w B0 b []:=⟨none,0,h,⟨by simp,.inl ⟨rfl,rfl⟩⟩⟩
theorem SayAt.after {w w':World} {B0 b:Nat} {l:List Lck} (h:SayAt w B0 b l)(hb:Below w.heap.size w w'):SayAt w' B0 b l:=by
 obtain⟨Q,d,h1,h2⟩:=h
 exact⟨Q,d,h1.after hb,own_keep h2 fun g _ hlt=>hb.block g hlt⟩
def SayKeeps(b:Nat)(w w':World):Prop:=Below b w w'∧w.heap.size≤w'.heap.size∧∀ (g:Nat)(t:TypeId)(cs:Array Value),Blk w g t cs→g≠b→t≠308→Blk w' g t cs
def SayPost (B0 b:Nat)(l:List Lck)(w:World)(e:Ending)(w':World):Prop:=e=.returned (.tuple #[])∧SayAt w' B0 b l∧SayKeeps b w w'
theorem own_ne {w:World} {base g:Nat} {e t:TypeId} {size n:Nat} {v:Value} {xs:List Value} {cs:Array Value} (h:w.ownsRow base e size v n xs)(hg:Blk w g t cs)(hne:t≠e):v.ownBlock≠some g:=by
 rcases h.2 with⟨rfl,_⟩|⟨g',cap,cur,rfl,_,hh,_⟩
 ·simp [Value.ownBlock]
 ·intro he
  have:g'=g:=by simpa [Value.ownBlock]using he
  subst this
  unfold Blk at hg
  rw [hh]at hg
  injection hg with hg
  injection hg with _ ht
  exact hne ht.symm
theorem say_ok (c what:Int) (b be B0:Nat) (l:List Lck) (w:World) (h:SayAt w B0 b l) :
  Calls Tryz.prog 214 #[.bool true,.int .i64 c,.int .i64 what,.pointer (some ⟨b,0,none⟩),.pointer (some ⟨be,0,none⟩)] w (SayPost B0 b l w):=by
 have H:=Lib.hid h
 clear h
 go_enter Tryz.func214,Tryz.ntmps214
 go_wp2
 exact bodyPost_end (v:=.tuple #[]) (by simp [results,Tryz.results214,go_sem]) rfl ⟨rfl,H.out,Below.refl _ _,Nat.le_refl _,fun g t cs h _ _=>h⟩
theorem say_no (c what ev:Int) (b be B0:Nat) (l:List Lck) (w:World) (h:SayAt w B0 b l) (hev:w.cell? ⟨be,0,none⟩=some (.int .i64 ev)) (hb:b<B0) (hB:B0≤w.heap.size) (hl:l.length≤32000) :
    Calls Tryz.prog 214 #[.bool false,.int .i64 c,.int .i64 what,.pointer (some ⟨b,0,none⟩),.pointer (some ⟨be,0,none⟩)] w (SayPost B0 b (l++[(ev,c,what)]) w):=by
  obtain ⟨i0,hi0,hz0,hz1,hz2⟩:=info_parts infoLack
  obtain ⟨Q,d,hQ,hown⟩:=h
  have HQ:=Lib.hid hQ
  have HO:=Lib.hid hown
  have hbl:b<w.heap.size:=hQ.lt
  have hbe:be<w.heap.size:=World.block_lt_of_cell? w _ hev
  have q0:w.cell? ⟨b,0,none⟩=some (.slice Q l.length d):=hQ.cell 0
  have f0:=hQ.frozen 0
  clear hQ hown
  go_enter Tryz.func214,Tryz.ntmps214
  go_wp2_with (at_builtin
               refine wpList_append_rd rfl (.tmp 10) (.tmp 15) _ rfl B0 308 i0 _ 3 24 Tryz.underlying204 hi0 hz0 hz1 hz2 rfl (by omega) (.slice Q l.length d) l.length (l.map lckCells) rfl (own_keep HO.out fun g _ hlt=>Below.heap_alloc _ _ _ hlt) (lck_len _) (by simp) _ (some ⟨w.heap.size,0,none⟩) [lckCells (ev,c,what)] 1 1 rfl rfl (rd_block (blk_new' rfl) rfl) (lck_len [(ev,c,what)]) (lck_one [(ev,c,what)]) (by show l.length+1≤maxLen;unfold maxLen;omega) (by show (l.length+1)*24≤_;omega) (by simp;omega) ?_
               intro Q' d' w3 hown3 hg3 hat3
               have hne:(Value.slice Q l.length d).ownBlock≠some b:=fun e=>by have:=(own_lt HO.out _ e).1;omega
               have kb:Blk w3 b 204 #[.slice Q l.length d]:=blk_grown (HQ.out.alloc _) hg3 (fun e=>hne e.symm)
               have z0:w3.cell? ⟨b,0,none⟩=some (.slice Q l.length d):=kb.cell 0
               have zf0:=kb.frozen 0
               have KB:=Lib.hid kb
               clear kb)
  have hsz3:w.heap.size+1≤w3.heap.size:=by have:=hg3.size;simpa using this
  refine bodyPost_end (v:=.tuple #[]) (by simp [results,Tryz.results214,go_sem]) rfl ⟨rfl,⟨Q',d',?_,?_⟩,?_,?_,?_⟩
  · rw [List.length_append]
    exact KB.out.set_ 0 _
  · rw [List.length_append,List.map_append]
    exact own_keep hown3 fun g hg hlt=>Below.heap_setCell _ _ _ _ (by have:=(own_lt hown3 g hg).1;show g≠b;omega)
  · refine Below.setCell (p:=⟨b,0,none⟩) ?_ (Nat.le_refl b) _
    refine Below.grown ((Below.refl _ _).alloc (by omega) _) hg3 (by simp;omega) (fun g hgv=>by have:=(own_lt HO.out g hgv).1;omega)
  · simp [World.setCell];omega
  · intro g t cs hg hgb ht
    refine Blk.far (p:=⟨b,0,none⟩) ?_ hgb _
    exact blk_grown (hg.alloc _) hg3 (fun e=>own_ne HO.out hg ht e.symm)
end Go.Proofs.YtgelfflighgajaaGreatDoor
namespace Go.Proofs.YtgelfflighgajaaGreatDoor
def tmLet:List UInt8:=[66,83,77,67,81,88,68]
def tW (v:Int)(i:Nat):List UInt8:=if v=0 then [45] else if i=0 then cut tmLet (v-1) v else if i=1 then cut tmLet (v-1) v++[46] else cut tmLet (v-1) v++[51]
def tOk (s v:Int)(i:Nat):Bool:=if v=0 then decide (s≠4)else (decide (i≠2)|| decide (s≠4))
def sgD(i:Nat):Bool:=i == 1
def sgT(i:Nat):Bool:=i == 2
def sgOk (v:Int)(d t:Bool):Bool:=(v == 0 && !d && !t)|| (decide (1≤v) && decide (v≤7) && !(d && t))
def sgI(d t:Bool):Nat:=if d then 1 else if t then 2 else 0
def tkV(v:Int)(d t:Bool):Int :=
 if v<1∨7<v∨(d && t)=true then 0 else if d then 384/2 ^ (v-1).toNat/2*3 else if t then 384/2 ^ (v-1).toNat/3*2 else 384/2 ^ (v-1).toNat
theorem tkAll:((List.range' 1 7).all fun v=>[(false,false),(true,false),(false,true)].all fun p=>decide (0<tkV (v:Nat) p.1 p.2))=true:=by decide +kernel
theorem tkV_pos (v:Int) (d t:Bool) (hv:1≤v∧v≤7) (h:(d && t)=false):0<tkV v d t:=by
 obtain ⟨v,rfl⟩:=Int.eq_ofNat_of_zero_le (show 0≤v by omega)
 have h1:=tkAll
 rw [List.all_eq_true]at h1
 have h2:=h1 v (List.mem_range'_1.2 (by omega))
 rw [List.all_eq_true]at h2
 cases d<;>cases t
 ·exact of_decide_eq_true (h2 (false,false) (by simp))
 ·exact of_decide_eq_true (h2 (false,true) (by simp))
 ·exact of_decide_eq_true (h2 (true,false) (by simp))
 ·cases h
end Go.Proofs.YtgelfflighgajaaGreatDoor
namespace Go.Proofs.YtgelfflighgajaaGreatDoor
open Go.RowKit
def lineV(s c n:Int):Int:=if s=4 then 0 else if s=2 then n+1-c else c
theorem insE_len {cs:List (Int×Int×Bool)} {st:List Int} (h:insE cs st=0):1≤cs.length∧cs.length≤14∧st.length≤18∧stepsBad 0 st=false∧crsE st cs=0:=by
 unfold insE at h
 by_cases h1:14<cs.length∨18<st.length
 ·rw [if_pos h1]at h;cases h
 ·rw [if_neg h1]at h
  by_cases h2:cs.length=0
  ·rw [if_pos h2]at h;cases h
  ·rw [if_neg h2]at h
   by_cases h3:stepsBad 0 st=true
   ·rw [if_pos h3]at h;cases h
   ·rw [if_neg h3]at h
    exact⟨by omega,by omega,by omega,by simpa using h3,h⟩
end Go.Proofs.YtgelfflighgajaaGreatDoor
namespace Go.Proofs.YtgelfflighgajaaGreatDoor
open Go.RowKit
def fretsOf (cs:List (Int×Int×Bool)) (c:Int):Int:=(cs.getD (c.toNat-1) (0,0,false)).2.1
def stopE(p:Pce)(i:Int)(s:Stp)(last:Int):Int :=
 if s.1<1∨(p.cs.length:Int)<s.1 then 12
 else if s.2.1<0∨fretsOf p.cs s.1<s.2.1 then 13
 else if s.1≤last then 22
 else if(s.2.2.1<0∨3<s.2.2.1)∨(s.2.2.2.1<0∨4<s.2.2.2.1)then 23
 else if(s.2.2.2.2<0∨(longestN p.evs i s.1:Int)<s.2.2.2.2)∨(0<s.2.2.2.2∧s.2.1=0)then 24
 else 0
def stopsE(p:Pce)(i:Int):Int→List Stp→Int
 | _,[]=>0
 | last,s::r=>if stopE p i s last≠0 then stopE p i s last else stopsE p i s.1 r
def evE(p:Pce)(i:Int)(e:Ev):Int :=
 if sgOk e.val e.dot e.three=false∨(i=0∧e.val=0)then 20
 else if e.tie=true∧(0<e.stops.length∨i=0)then 21
 else stopsE p i 0 e.stops
def evsE (p:Pce):Nat→List Ev→Int
 | _,[]=>0
 | i,e::r=>if evE p i e≠0 then evE p i e else evsE p (i+1) r
def pceE(p:Pce):Int:=if insE p.cs p.st≠0 then insE p.cs p.st else if 400<p.evs.length then 2 else evsE p 0 p.evs
theorem stopsE_at {p:Pce} {i last:Int} {l:List Stp} {k:Nat} (h:k<l.length):stopsE p i last (l.drop k)=if stopE p i l[k] last≠0 then stopE p i l[k] last else stopsE p i l[k].1 (l.drop (k+1)):=by
 rw [List.drop_eq_getElem_cons h];rfl
theorem evsE_at {p:Pce} {l:List Ev} {k:Nat} (h:k<l.length):evsE p k (l.drop k)=if evE p k l[k]≠0 then evE p k l[k]else evsE p (k+1) (l.drop (k+1)):=by
 rw [List.drop_eq_getElem_cons h];rfl
section
variable {p:Pce} {i last:Int} {s:Stp}
theorem stopE_crs(h:s.1<1∨(p.cs.length:Int)<s.1):stopE p i s last=12:=if_pos h
theorem stopE_fret(h:¬ (s.1<1∨(p.cs.length:Int)<s.1))(h1:s.2.1<0∨fretsOf p.cs s.1<s.2.1):stopE p i s last=13:=by unfold stopE;rw [if_neg h,if_pos h1]
theorem stopE_order(h:¬ (s.1<1∨(p.cs.length:Int)<s.1))(h1:¬ (s.2.1<0∨fretsOf p.cs s.1<s.2.1))(h2:s.1≤last):stopE p i s last=22:=by unfold stopE;rw [if_neg h,if_neg h1,if_pos h2]
theorem stopE_mark(h:¬ (s.1<1∨(p.cs.length:Int)<s.1))(h1:¬ (s.2.1<0∨fretsOf p.cs s.1<s.2.1))(h2:¬ s.1≤last)(h3:(s.2.2.1<0∨3<s.2.2.1)∨(s.2.2.2.1<0∨4<s.2.2.2.1)):stopE p i s last=23:=by unfold stopE;rw [if_neg h,if_neg h1,if_neg h2,if_pos h3]
theorem stopE_hold(h:¬ (s.1<1∨(p.cs.length:Int)<s.1))(h1:¬ (s.2.1<0∨fretsOf p.cs s.1<s.2.1))(h2:¬ s.1≤last)(h3:¬ ((s.2.2.1<0∨3<s.2.2.1)∨(s.2.2.2.1<0∨4<s.2.2.2.1)))
  (h4:(s.2.2.2.2<0∨(longestN p.evs i s.1:Int)<s.2.2.2.2)∨(0<s.2.2.2.2∧s.2.1=0)):stopE p i s last=24:=by unfold stopE;rw [if_neg h,if_neg h1,if_neg h2,if_neg h3,if_pos h4]
theorem stopE_ok(h:¬ (s.1<1∨(p.cs.length:Int)<s.1))(h1:¬ (s.2.1<0∨fretsOf p.cs s.1<s.2.1))(h2:¬ s.1≤last)(h3:¬ ((s.2.2.1<0∨3<s.2.2.1)∨(s.2.2.2.1<0∨4<s.2.2.2.1)))
  (h4:¬ ((s.2.2.2.2<0∨(longestN p.evs i s.1:Int)<s.2.2.2.2)∨(0<s.2.2.2.2∧s.2.1=0))):stopE p i s last=0:=by unfold stopE;rw [if_neg h,if_neg h1,if_neg h2,if_neg h3,if_neg h4]
end
theorem fretsOf_at {cs:List (Int×Int×Bool)} {q:Nat} (h:q<cs.length):fretsOf cs ((q:Int)+1)=cs[q].2.1:=by
 unfold fretsOf
 have:((q:Int)+1).toNat-1=q:=by omega
 rw [this,List.getD_eq_getElem?_getD,List.getElem?_eq_getElem h];rfl
end Go.Proofs.YtgelfflighgajaaGreatDoor
