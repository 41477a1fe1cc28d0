/- A walk that knows values as trees: whether a function value is nil. -/
import Derived.Test.YtaeelcfjkhfpkaaGreatYMTq
set_option maxHeartbeats 8000000
set_option maxRecDepth 100000
set_option linter.unusedVariables false
set_option linter.unusedSimpArgs false
namespace Go.Proofs.YtaeelcfjkhfpkaaGreat
section
open Go.RowKit
def AV.frb0 (k:Nat)(cells0:List AV):AV→AV
 | .pt q 0 j=>bif Nat.beq q k then .pr (cells0.drop j)else .pt q 0 j
 | av=>av
def AV.frb1 (k:Nat)(cells0:List AV):AV→AV
 | .fn f l=>.fn f (l.map (AV.frb0 k cells0))
 | av=>av.frb0 k cells0
def AV.frb2 (k:Nat)(cells0:List AV):AV→AV
 | .ag l=>.ag (l.map (AV.frb1 k cells0))
 | av=>av.frb1 k cells0
def AV.frb (k:Nat)(cells0:List AV):AV→AV
 | .tu l=>.tu (l.map (AV.frb2 k cells0))
 | av=>av.frb2 k cells0
def AO.frb (k:Nat)(cells0:List AV):AO→AO
 | .box T cells=>.box T (cells.map (AV.frb1 k cells0))
 | .rof T m rs hi hj x=>.rof T m rs hi hj (x.frb1 k cells0)
 | .rwo T m rs hi hj x=>.rwo T m rs hi hj (x.frb1 k cells0)
 | ob=>ob
def St.freezeB (σ:St) (k:Nat) (cells0:List AV):St:=⟨mapS (AV.frb k cells0) σ.t,mapS (AO.frb k cells0) (rem k σ.M),σ.nk⟩
def PtPr (G:Gh) (k:Nat) (cells0:List AV):Prop:=∀ (j:Nat) (p:Addr),p.block=G.b k→p.off=j→p.spot=none→R G (.pr (cells0.drop j)) (.pointer (some p))
section
variable {P:Program} {C:Cx} {σ σ':St} {G G':Gh} {a:Act} {w w':World} {o:Oper} {d:Tmp}
section
variable {k nk:Nat} {cells0:List AV} {av:AV} {v:Value}
theorem frb0_R (h:PtPr G k cells0)(r:R G av v):R G (av.frb0 k cells0) v:=by
 cases av with
 | pt q i j =>
  cases i with
  | zero =>
   simp only [AV.frb0]
   cases e:Nat.beq q k with
   | true =>
    obtain rfl:=Nat.eq_of_beq_eq_true e
    obtain⟨p,rfl,h1,h2,h3⟩:=r.pt_of
    exact h j p h1 (by rw [h2];simp) h3
   | false=>exact r
  | succ i=>exact r
 | _=>exact r
theorem frb0_bd (b:Bd nk av):Bd nk (av.frb0 k cells0):=by
 cases av with
 | pt q i j =>
  cases i with
  | zero =>
   simp only [AV.frb0]
   cases e:Nat.beq q k with
   | true=>exact .pr _
   | false=>exact b
  | succ i=>exact b
 | _=>exact b
theorem frb1_R (h:PtPr G k cells0)(r:R G av v):R G (av.frb1 k cells0) v:=by
 cases av with
 | fn f l =>
  obtain⟨cs,rfl,h1,h2⟩:=r.fn_of
  obtain⟨q1,q2⟩:=list_R h1 h2 fun _ _=>frb0_R h
  exact .fn f _ cs q1 q2
 | pt q i j=>exact frb0_R (av:=.pt q i j) h r
 | _=>exact r
theorem frb1_bd (b:Bd nk av):Bd nk (av.frb1 k cells0):=by
 cases av with
 | fn f l=>cases b with|fn _ _ hb=>exact .fn f _ (list_bd hb fun _=>frb0_bd)
 | pt q i j=>exact frb0_bd (av:=.pt q i j) b
 | _=>exact b
theorem frb2_R (h:PtPr G k cells0)(r:R G av v):R G (av.frb2 k cells0) v:=by
 cases av with
 | ag l =>
  obtain⟨cs,rfl,h1,h2⟩:=r.ag_of
  obtain⟨q1,q2⟩:=list_R h1 h2 fun _ _=>frb1_R h
  exact .ag _ cs q1 q2
 | fn f l=>exact frb1_R (av:=.fn f l) h r
 | pt q i j=>exact frb0_R (av:=.pt q i j) h r
 | _=>exact r
theorem frb2_bd (b:Bd nk av):Bd nk (av.frb2 k cells0):=by
 cases av with
 | ag l=>cases b with|ag _ hb=>exact .ag _ (list_bd hb fun _=>frb1_bd)
 | fn f l=>exact frb1_bd (av:=.fn f l) b
 | pt q i j=>exact frb0_bd (av:=.pt q i j) b
 | _=>exact b
theorem frb_R (h:PtPr G k cells0)(r:R G av v):R G (av.frb k cells0) v:=by
 cases av with
 | tu l =>
  obtain⟨cs,rfl,h1,h2⟩:=r.tu_of
  obtain⟨q1,q2⟩:=list_R h1 h2 fun _ _=>frb2_R h
  exact .tu _ cs q1 q2
 | ag l=>exact frb2_R (av:=.ag l) h r
 | fn f l=>exact frb1_R (av:=.fn f l) h r
 | pt q i j=>exact frb0_R (av:=.pt q i j) h r
 | _=>exact r
theorem frb_bd (b:Bd nk av):Bd nk (av.frb k cells0):=by
 cases av with
 | tu l=>cases b with|tu _ hb=>exact .tu _ (list_bd hb fun _=>frb2_bd)
 | ag l=>exact frb2_bd (av:=.ag l) b
 | fn f l=>exact frb1_bd (av:=.fn f l) b
 | pt q i j=>exact frb0_bd (av:=.pt q i j) b
 | _=>exact b
theorem frb1_C {φ:Nat→Prop} (h:PtPr G k cells0)(r:CR G w φ av v):CR G w φ (av.frb1 k cells0) v:=by
 rcases r with r|o
 ·exact .inl (frb1_R h r)
 ·by_cases ho:av.own=true
  ·cases av with
   | ow T n rows=>exact .inr o
   | _=>cases ho
  ·exact .inl (frb1_R h (.pu _ _ (OW.p o (by simpa using ho))))
end
theorem Tr.freezeB (k:Nat) {T:TypeId} {cells0:List AV} (hk:look k σ.M=some (.box T cells0)) (hp0:(cells0.all fun av=>(av.pu2 && !av.own) && av.oneB)=true):Tr C σ (σ.freezeB k cells0):=fun G a w ok=>by
 obtain ⟨hkn,_,hob⟩:=ok.ob k _ hk
 classical
 let F':View:=fun p=>if G.fp k p.block then w.cell? p else G.F p
 have hF:G.F.le F':=fun p u h=>by
  show (if _ then _ else _)=_
  rw [if_neg (fun e=>ok.dF k _ p.block p u hk e h rfl)];exact h
 have hFn:∀ p u,F' p=some u→G.F p=some u∨(G.fp k p.block∧w.cell? p=some u):=fun p u h=>by
  have h:(if G.fp k p.block then w.cell? p else G.F p)=some u:=h
  by_cases e:G.fp k p.block
  ·rw [if_pos e] at h;exact .inr ⟨e,h⟩
  ·rw [if_neg e] at h;exact .inl h
 have hle:G.le { G with F:=F' } σ.nk:=⟨hF,fun _ _=>rfl,fun _ _=>rfl,fun _ _=>rfl⟩
 have hls':PtPr { G with F:=F' } k cells0:=by
  intro j p h1 h2 h3
  obtain ⟨g1,cs,Φ,g2,g3,_,_,g6⟩:=hob
  have hpe:∀ i,p.add i=⟨G.b k,j+i,none⟩:=fun i=>by
   obtain ⟨pb,po,ps⟩:=p
   dsimp only at h1 h2 h3
   subst h1 h2 h3
   simp [Addr.add]
  have hcell:∀ i av,(cells0.drop j)[i]?=some av→∃ u,cs[j+i]?=some u∧w.cell? (p.add i)=some u∧u.oneCell'=true∧RP G.F av u:=fun i av hi=>by
   rw [List.getElem?_drop] at hi
   have hlt:j+i<cells0.length:=(List.getElem?_eq_some_iff.1 hi).1
   have hcs:cs[j+i]?=some (cs[j+i]'(by omega)):=Array.getElem?_eq_getElem _
   have hpu:=List.all_eq_true.1 hp0 av (List.mem_of_getElem? hi)
   rw [Bool.and_eq_true,Bool.and_eq_true] at hpu
   have hr:=(g6 (j+i) av _ hi hcs).r (by simpa using hpu.1.2)
   exact ⟨_,hcs,by rw [hpe,g2.cell,hcs],oneB_of hr hpu.2,(pu2_bd hpu.1.1 0).rp hr⟩
  classical
  refine .pu _ _ (.pr _ p (fun i=>cs.getD (j+i) undef) (fun i av hi=>?_) fun i av hi=>?_)
  ·obtain ⟨u,q1,q2,q3,q4⟩:=hcell i av hi
   rw [show cs.getD (j+i) undef=u by rw [Array.getD_eq_getD_getElem?,q1];rfl]
   refine ⟨?_,q3⟩
   show (if G.fp k (p.add i).block then w.cell? (p.add i) else G.F (p.add i))=some u
   rw [if_pos (by rw [hpe];exact g1)]
   exact q2
  ·obtain ⟨u,q1,q2,q3,q4⟩:=hcell i av hi
   rw [show cs.getD (j+i) undef=u by rw [Array.getD_eq_getD_getElem?,q1];rfl]
   exact q4.mono hF
 have hl:∀ i ob,look i (σ.freezeB k cells0).M=some ob→∃ ob0,i≠k∧look i σ.M=some ob0∧ob=ob0.frb k cells0:=fun i ob h=>by
  rw [show look i (σ.freezeB k cells0).M=_ from look_mapS _ i _,look_rem] at h
  by_cases e:i=k
  ·rw [if_pos e] at h;cases h
  ·rw [if_neg e] at h
   cases hq:look i σ.M with
   | none=>simp [hq] at h
   | some ob0=>simp [hq] at h;exact ⟨ob0,e,rfl,h.symm⟩
 refine ⟨{ G with F:=F' },ok.sz,ok.df,fun i av h=>?_,ok.bel,fun p u h=>?_,fun p u h=>hF p u (ok.f0 p u h),fun p u h=>?_,fun i ob h=>?_,fun i o x h1 h2=>?_,?_,?_⟩
 ·rw [show look i (σ.freezeB k cells0).t=_ from look_mapS _ i _] at h
  cases hq:look i σ.t with
  | none=>simp [hq] at h
  | some av0 =>
   simp [hq] at h
   obtain ⟨h1,h2,h3⟩:=ok.tm i av0 hq
   rw [← h]
   exact ⟨h1,frb_bd h2,frb_R hls' (h3.mono hle h2)⟩
 ·rcases hFn p u h with h|⟨_,h⟩
  ·exact ok.fw p u h
  ·exact h
 ·rcases hFn p u h with h|⟨h,_⟩
  ·exact ok.f1 p u h
  ·exact .inr (ok.my k _ _ hk h).1
 ·obtain ⟨ob0,e,h0,rfl⟩:=hl i ob h
  obtain ⟨g1,g2,g3⟩:=ok.ob i ob0 h0
  have g4:=g3.keep (w':=w) (G':={ G with F:=F' }) hle g1 g2 rfl (fun _ _=>rfl)
  refine ⟨g1,?_,?_⟩
  ·cases ob0 with
   | box T cells=>exact list_bd g2 fun _=>frb1_bd
   | rof T m rs hi hj y=>exact frb1_bd g2
   | rwo T m rs hi hj y=>exact frb1_bd g2
   | _=>exact g2
  ·cases ob0 with
   | box T cells =>
    obtain ⟨b1,cs,Φ,b2,b3,b4,b5,b6⟩:=g4
    refine ⟨b1,cs,Φ,b2,by simpa using b3,b4,b5,fun j av u x y=>?_⟩
    rw [List.getElem?_map] at x
    cases hq:cells[j]? with
    | none=>simp [hq] at x
    | some b=>simp [hq] at x;rw [← x];exact frb1_C hls' (b6 j b u hq y)
   | rof T m rs hi hj y =>
    obtain ⟨c1,c2,c3⟩:=g4
    refine ⟨c1,c2,c3.keep (fun _ _=>rfl) fun i r j av ψ u _ _ _ x=>?_⟩
    unfold XH at x ⊢
    by_cases e:i=hi∧j=hj
    ·rw [if_pos e] at x ⊢
     exact frb1_R hls' x
    ·rw [if_neg e] at x ⊢
     exact x
   | rwo T m rs hi hj y =>
    obtain ⟨c1,c2,c3⟩:=g4
    refine ⟨c1,c2,c3.keep (fun _ _=>rfl) fun i r j av ψ u _ _ _ x=>?_⟩
    unfold XQ at x ⊢
    by_cases e:i=hi∧j=hj
    ·rw [if_pos e] at x ⊢
     exact frb1_R hls' x
    ·rw [if_neg e] at x ⊢
     exact x
   | _=>exact g4
 ·obtain ⟨ob0,e,h0,rfl⟩:=hl i o h1
  exact ok.my i ob0 x h0 h2
 ·intro i o i' o' x h1 h2 h3 h4
  obtain ⟨ob0,e,h0,rfl⟩:=hl i o h1
  obtain ⟨ob0',e',h0',rfl⟩:=hl i' o' h2
  exact ok.dj i ob0 i' ob0' x h0 h0' h3 h4
 ·intro i o x p u h1 h2 h3
  obtain ⟨ob0,e,h0,rfl⟩:=hl i o h1
  rcases hFn p u h3 with h|⟨h,_⟩
  ·exact ok.dF i ob0 x p u h0 h2 h
  ·intro e2
   exact e (ok.dj i ob0 k _ x h0 hk h2 (by rw [← e2];exact h))
end
end
section
open Go.RowKit
def cpS (st:List Int)(f:Int):Int:=st.getD (f.toNat-1) 0
def cp1(st:List Int)(f:Int)(x:Int×Int×Bool):Int×Int×Bool:=if x.2.1=0 then x else(x.1+cpS st f,x.2.1-f,x.2.2)
def cpBad (cs:List (Int×Int×Bool))(f:Int):Bool:=cs.any fun x=>decide (x.2.1≠0∧x.2.1<f)
def cpX (cs:List (Int×Int×Bool))(st:List Int)(f:Int):Int:=if insE cs st≠0 then insE cs st else if f<0∨(st.length:Int)<f then 13 else if f=0 then 0 else if cpBad cs f=true then 13 else 0
def cpCs (cs:List (Int×Int×Bool))(st:List Int)(f:Int):List (Int×Int×Bool):=if cpX cs st f=0 then (if f=0 then cs else cs.map (cp1 st f))else []
def cpSt (cs:List (Int×Int×Bool))(st:List Int)(f:Int):List Int:=if cpX cs st f=0 then (if f=0 then st else (st.drop f.toNat).map fun x=>x-cpS st f)else []
def capF (cs:List (Int×Int×Bool))(f:Int)(x:Stp):Int:=if 0<fretsOf cs x.1 then x.2.1-f else x.2.1
def capC (cs:List (Int×Int×Bool))(f:Int):Cg where
 ch x:=((x.1,capF cs f x,x.2.2),decide (capF cs f x<0))
 mr y:=y
 ml _:=[]
 tie _ e:=e.tie
 bare i:=decide (0<i)
def capE(p:Pce)(f:Int):Int:=if pceE p≠0 then pceE p else cpX p.cs p.st f
def capN (p:Pce)(f:Int):List Ev:=nwL (capC p.cs f) p.evs
def capP (p:Pce) (f:Int):Pce:=if capE p f=0 then ⟨cpCs p.cs p.st f,cpSt p.cs p.st f,fnL (ftH (capN p f)) (capN p f)⟩else noP
def capL (p:Pce) (f:Int):List Lck:=if capE p f=0 then lsL (capC p.cs f) (ftH (capN p f)) p.evs p.evs.length else []
theorem capC_mv {cs:List (Int×Int×Bool)} {f:Int} {x y:Stp} (h:(capC cs f).mv x=some y):0≤capF cs f x∧y=(x.1,capF cs f x,x.2.2):=by
 unfold Cg.mv at h
 by_cases hp:capF cs f x<0
 ·rw [if_pos (by show decide (capF cs f x<0)=true;exact decide_eq_true hp)]at h;cases h
 ·rw [if_neg (by show ¬ decide (capF cs f x<0)=true;simpa using hp)]at h
  exact⟨by omega,(Option.some.inj h).symm⟩
theorem capC_crs {cs:List (Int×Int×Bool)} {f:Int} (x y:Stp)(h:(capC cs f).mv x=some y):y.1=x.1∧y.2.2.2.2=x.2.2.2.2:=by
 obtain⟨_,rfl⟩:=capC_mv h;exact⟨rfl,rfl⟩
theorem cpS_bd {cs:List (Int×Int×Bool)} {st:List Int} (h:insE cs st=0) {f:Int} (h1:1≤f)(h2:f≤st.length):(f-1).toNat<st.length∧st[(f-1).toNat]?=some (cpS st f)∧1≤cpS st f∧cpS st f≤127:=by
 have hk:(f-1).toNat<st.length:=by omega
 obtain⟨_,_,_,l4,_⟩:=insE_len h
 have e:cpS st f=st[(f-1).toNat]:=by
  unfold cpS
  rw [List.getD_eq_getElem?_getD,show f.toNat-1=(f-1).toNat by omega,List.getElem?_eq_getElem hk];rfl
 refine⟨hk,by rw [e,List.getElem?_eq_getElem hk],?_⟩
 rw [e]
 exact stepsBad_bd zqo l4 _ hk
end
section
open Go.RowKit
theorem run_equalIn_fn {P:Program} (w:World)(d:Nat)(t:TypeId) {a b c} (f:Fn)(fs cs:Array Value)(h:P.underlying t=some (.func a b c)):(Op.equalIn (d+1) t (.func f fs cs) .nilFunc).run P w=.ok false w:=by
 simp [Op.equalIn,run_underlying h]
theorem run_equalIn_nn {P:Program} (w:World)(d:Nat)(t:TypeId) {a b c} (h:P.underlying t=some (.func a b c)):(Op.equalIn (d+1) t .nilFunc .nilFunc).run P w=.ok true w:=by
 simp [Op.equalIn,run_underlying h]
theorem run_neq_fn {P:Program} (w:World)(t:TypeId) {a b c} (f:Fn)(fs cs:Array Value)(h:P.underlying t=some (.func a b c)):(binOp .neq t (.func f fs cs) .nilFunc).run P w=.ok (.bool true) w:=by
 simp only [binOp]
 simp [Op.equal,Op.maxDepth,run_equalIn_fn w 9999 t f fs cs h]
theorem run_neq_nn {P:Program} (w:World)(t:TypeId) {a b c} (h:P.underlying t=some (.func a b c)):(binOp .neq t .nilFunc .nilFunc).run P w=.ok (.bool false) w:=by
 simp only [binOp]
 simp [Op.equal,Op.maxDepth,run_equalIn_nn w 9999 t h]
section
variable {P:Program} {C:Cx} {σ:St} {o:Oper}
def fnqV (P:Program)(σ:St):Op→Option Bool
 | .binOp .neq T x y _ =>
  match P.underlying T,σ.ev x,σ.ev y with
  | some (.func _ _ _),some (.fn _ _),some (.sc .nilFunc)=>some true
  | some (.func _ _ _),some (.sc .nilFunc),some (.sc .nilFunc)=>some false
  | _,_,_=>none
 | _=>none
theorem fnqV_of {b:Bool} (h:fnqV P σ o.op=some b):WV P C o σ (.sc (.bool b)):=by
 unfold fnqV at h
 split at h
 ·rename_i T x y Ty ho
  split at h
  ·rename_i a1 a2 a3 f caps hT hx hy
   cases h
   refine WV.val (fun G a w ok=>.sc _) fun G a w ok=>?_
   obtain⟨cs,e1,_,_⟩:=(ok.evr hx).2.fn_of
   have e2:=ok.evs hy
   have hrun:=run_neq_fn (P:=P) w T (.func f) #[] cs hT
   refine⟨.bool true,?_,.pu _ _ (.sc _)⟩
   unfold execOp
   simp only [ho,e1,e2,eqGuard,Sem.run_bind,Sem.run_pure,Result.andThen_ok,hrun]
   simp only [Bool.not_true,Bool.false_eq_true,if_false,Sem.run_bind,Sem.run_pure,Result.andThen_ok,hrun]
  ·rename_i a1 a2 a3 hT hx hy
   cases h
   refine WV.val (fun G a w ok=>.sc _) fun G a w ok=>?_
   have e1:=ok.evs hx
   have e2:=ok.evs hy
   have hrun:=run_neq_nn (P:=P) w T hT
   refine⟨.bool false,?_,.pu _ _ (.sc _)⟩
   unfold execOp
   simp only [ho,e1,e2,eqGuard,Sem.run_bind,Sem.run_pure,Result.andThen_ok,hrun]
   simp only [Bool.not_true,Bool.false_eq_true,if_false,Sem.run_bind,Sem.run_pure,Result.andThen_ok,hrun]
  ·cases h
 ·cases h
end
end
end Go.Proofs.YtaeelcfjkhfpkaaGreat
