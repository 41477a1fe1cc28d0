/- A walk that knows values as trees: what a function hands back, any number of results. -/
import Derived.Test.YthohlofpphjofaaGreatDoorEMGq
set_option linter.unusedVariables false
set_option linter.unusedSimpArgs false
namespace Go.Proofs.YthohlofpphjofaaGreatDoor
theorem A8 {p:Prop}(h:p:=by rw [← hl];exact hx):p:=h
theorem MC {p:Prop}(h:p:=by
 exact WL.vl hd (stepV_of rfl h) k):p:=h
theorem adR {p:Prop}(h:p:=by
 refine ⟨?_,h1⟩
 rw [← hu w G.F (hB.1 w G.F ok.bel ok.f0),add_flat,add_flat];simp):p:=h
theorem ai0 {p:Prop}(h:p:=by
 refine ⟨v::vs,by simp [List.mapM_cons,Sem.run_bind,e1,f1,Result.andThen],by simp [f2],fun i av u p q=>?_⟩
 cases i with
 | zero=>cases p;cases q;exact e2
 | succ i=>exact f3 i av u (by simpa using p) pF):p:=h
theorem aiN {p:Prop}(h:p:=by
 refine⟨.tuple vs.toArray,G.F,?_,fun _ _ h=>h,ok.fw,fun _ _ h=>.inl h,.tu _ _ (by simpa using e2) fun i av u x y=>e3 i av u x (by simpa using y)⟩
 have e:results fn a.tmps=(do let vs ← fn.results.mapM (resOne a.tmps);pure (if h:vs.size=1 then vs[0] else .tuple vs)):=rfl
 have hne:¬ vs.toArray.size=1:=by
  intro h1
  have:avs.length=1:=by rw [← e2];simpa using h1
  rw [this] at hl;cases hl
 rw [e,Array.mapM_eq_mapM_toList]
 simp only [Sem.run_bind,Sem.run_map,e1,Result.andThen]
 simp
 intro h1
 exact absurd pz hne):p:=h
theorem aiL {p:Prop}(h:p:=by
 unfold aggB at hT
 cases hu:P.underlying T with
 | none=>simp [hu] at hT
 | some d =>
  have hsz:sizeB P T=some cs.size:=by rw [hn,g5];exact congrArg some (dQ hb).symm
  have:=results_cell_row (fn:={ (default:Func) with results:=#[.cell t T] }) rfl a.tmps w (G.b k) T' cs (0,0) d ep g4 hu (by rw [hu] at hT;cases d<;>simp_all) hsz
  have e:(results { (default:Func) with results:=#[.cell t T] } a.tmps).run P w=(resOne a.tmps (.cell t T)).run P w:=by
   unfold results resOne
   first|(simp;done)|(simp;rfl)
  rw [← e];exact this):p:=h
section
open Go.RowKit
def remS {α:Type} (k:Nat):List (Nat×α)→Option (List (Nat×α))
 | []=>some []
 | x::r =>
  match remS k r with
  | some r'=>bif Nat.beq k x.1 then some r' else some (x::r')
  | none=>none
theorem remS_eq {α:Type} {k:Nat}:∀ {l l':List (Nat×α)},remS k l=some l'→l'=rem k l
 | [],l',h=>by cases h;rfl
 | x::r,l',h=>by
  unfold remS at h
  split at h
  ·rename_i r' h2
   have:=remS_eq h2
   grind[rem]
  ·cases h
def boolB(P:Program)(T:TypeId):Bool :=
 match P.underlying T with
 | some .bool=>true
 | _=>false
theorem boolB_of {P:Program} {T:TypeId} (h:boolB P T=true):P.underlying T=some .bool:=by
 grind[boolB]
def cmpI (op:BinOp)(m n:Int):Option Value :=
 match op with
 | .lss=>some (.bool (decide (m<n)))
 | .leq=>some (.bool (decide (m≤n)))
 | .gtr=>some (.bool (decide (n<m)))
 | .geq=>some (.bool (decide (n≤m)))
 | .eql=>some (.bool (decide (m=n)))
 | .neq=>some (.bool (!decide (m=n)))
 | _=>none
def cmpB (op:BinOp)(b c:Bool):Option Value :=
 match op with
 | .eql=>some (.bool (b == c))
 | .neq=>some (.bool (!(b == c)))
 | _=>none
def cmpS (op:BinOp)(s t:List UInt8):Option Value :=
 match op with
 | .eql=>some (.bool (s == t))
 | .neq=>some (.bool (!(s == t)))
 | _=>none
def cmpV(P:Program) (op:BinOp) (T:TypeId):Value→Value→Option Value
 | .string ⟨⟨s⟩⟩,.string ⟨⟨t⟩⟩=>cmpS op s t
 | .int j m,.int k n =>
  match decEq j k with
  | isTrue _=>cmpI op m n
  | isFalse _=>none
 | .bool b,.bool c=>bif boolB P T then cmpB op b c else none
 | _,_=>none
def pickV:AV→AV→AV→Option AV
 | .sc (.bool b),.sc u,.sc v=>some (.sc (bif b then u else v))
 | .sc (.bool true),x,_=>some x
 | .sc (.bool false),_,y=>some y
 | _,_,_=>none
def takeE:Nat→List AV→Option (List AV)
 | 0,_=>some []
 | n+1,x::r =>
  match takeE n r with
  | some l=>some (x::l)
  | none=>none
 | _+1,[]=>none
theorem takeE_of:∀ {n:Nat} {l l':List AV},takeE n l=some l'→l.take n=l'∧l'.length=n
 | 0,l,l',h=>by cases h;simp
 | n+1,[],l',h=>by cases h
 | n+1,x::r,l',h=>by
  unfold takeE at h
  split at h
  ·rename_i l2 h2
   cases h
   obtain⟨a,b⟩:=takeE_of h2
   simp [a,b]
  ·cases h
def takeV (P:Program)(T:TypeId)(l:List AV):Option AV :=
 match aggB P T with
 | some false =>
  match l with
  | av::_=>some av
  | []=>none
 | some true =>
  match sizeB P T with
  | some n =>
   match takeE n l with
   | some l'=>some (.ag l')
   | none=>none
  | none=>none
 | none=>none
def ownB:AV→Bool
 | .ow _ _ _=>true
 | .ag l=>l.any AV.own
 | _=>false
def takeO(P:Program)(T:TypeId)(l:List AV):Option AV :=
 match takeV P T l with
 | some av =>
  match ownB av with
  | false=>some av
  | true=>none
 | none=>none
theorem takeO_of {P:Program} {T:TypeId} {l:List AV} {av:AV} (h:takeO P T l=some av):takeV P T l=some av∧ownB av=false:=by
 grind[takeO]
theorem ownB_own {av:AV} (h:ownB av=false):av.own=false:=by cases av<;>first|rfl|cases h
theorem ownB_all {l:List AV} (h:ownB (.ag l)=false):(l.all fun av=>!av.own)=true:=by
 rw [jS]
 intro x hx
 have h:l.any AV.own=false:=h
 simp_all
def loadV(P:Program)(σ:St)(T:TypeId):AV→Option AV
 | .pt k i j =>
  match look k σ.M with
  | some ob =>
   match ob.from_ i j with
   | some l=>takeO P T l
   | none=>none
  | none=>none
 | .pr cells=>takeV P T cells
 | _=>none
def nthL {α:Type}:List α→Nat→Option α
 | [],_=>none
 | x::_,0=>some x
 | _::r,n+1=>nthL r n
theorem nthL_eq {α:Type}:∀ (l:List α)(n:Nat),nthL l n=l[n]?
 | [],n=>by simp [nthL]
 | x::r,0=>by simp [nthL]
 | x::r,n+1=>by simp [nthL,nthL_eq r n]
def dropE {α:Type}:Nat→List α→List α
 | 0,l=>l
 | _+1,[]=>[]
 | n+1,_::r=>dropE n r
theorem dropE_eq {α:Type}:∀ (n:Nat)(l:List α),dropE n l=l.drop n
 | 0,l=>by simp [dropE]
 | n+1,[]=>by simp [dropE]
 | n+1,x::r=>by simp [dropE,dropE_eq n r]
def fldE (P:Program)(T i:Nat):Option Nat :=
 match P.underlying T with
 | some (.struct fs) =>
  match nthL fs.toList i with
  | some f=>bif Nat.beq (P.cellsOf f.type) 0 then none else some f.offset
  | none=>none
 | _=>none
theorem fldE_of {P:Program} {T i off:Nat} (h:fldE P T i=some off):fldB P T i=some off:=by
 grind[fldE,fldB,nthL_eq,Nat.beq]
def fldV (P:Program)(T i:Nat):AV→Option AV
 | .pt k r j =>
  match fldE P T i with
  | some off=>some (.pt k r (j+off))
  | none=>none
 | .pr cells =>
  match fldE P T i with
  | some off=>some (.pr (dropE off cells))
  | none=>none
 | _=>none
def stepV (P:Program) (σ:St):Op→Option AV
 | .move x=>σ.ev x
 | .assign x=>σ.ev x
 | .pick c x y =>
  match σ.ev c,σ.ev x,σ.ev y with
  | some ac,some ax,some ay=>pickV ac ax ay
  | _,_,_=>none
 | .binOp op T x y _ =>
  match σ.ev x,σ.ev y with
  | some (.sc u),some (.sc v) =>
   match cmpV P op T u v with
   | some r=>some (.sc r)
   | none=>none
  | _,_=>none
 | .unOp .not _ x =>
  match σ.ev x with
  | some (.sc (.bool b))=>some (.sc (.bool (!b)))
  | _=>none
 | .extract x i =>
  match σ.ev x with
  | some (.tu l)=>l[i]?
  | _=>none
 | .fieldAddr T x i =>
  match σ.ev x with
  | some av=>fldV P T i av
  | none=>none
 | .load T x =>
  match σ.ev x with
  | some av=>loadV P σ T av
  | none=>none
 | .build T parts =>
  match (P.info? T).bind (·.zero),placesB P T,σ.evs (parts.toList.map (·.2))with
  | some z,some places,some avs =>
   match fillA places (z.cells.toList.map .sc) (pairUp parts.toList avs)with
   | some l=>some (.ag l)
   | none=>none
  | _,_,_=>none
 | _=>none
section
variable {P:Program} {C:Cx} {σ σ':St} {o:Oper} {d:Tmp} {av:AV}
theorem cmpV_of {op:BinOp} {T Ty:TypeId} {x y:Operand} {u v r:Value} (ho:o.op=.binOp op T x y Ty) (hx:σ.ev x=some (.sc u)) (hy:σ.ev y=some (.sc v)) (h:cmpV P op T u v=some r):WV P C o σ (.sc r):=by
 unfold cmpV at h
 split at h
 ·rename_i s t
  unfold cmpS at h
  split at h<;>first|cases h|skip
  ·exact WV.seq_ (s:=s) (t:=t) ho hx hy
  ·exact WV.sne (s:=s) (t:=t) ho hx hy
 ·split at h
  ·rename_i e _
   subst e
   unfold cmpI at h
   grind[WV.lss,WV.leq,WV.gtr,WV.geq,WV.eql,WV.neq]
  ·cases h
 ·rename_i b c
  cases hb:boolB P T with
  | false=>rw [hb] at h;cases h
  | true =>
   rw [hb] at h
   simp only [cond_true] at h
   unfold cmpB at h
   grind[WV.beq,boolB_of,WV.bne]
 ·cases h
theorem pickV_of {c x y:Operand} {ac ax ay:AV} (ho:o.op=.pick c x y)(hc:σ.ev c=some ac)(hx:σ.ev x=some ax)(hy:σ.ev y=some ay)(h:pickV ac ax ay=some av):WV P C o σ av:=by
 unfold pickV at h
 grind[WV.pickT,WV.pickF]
theorem loadV_of {T:TypeId} {x:Operand} {a:AV} (ho:o.op=.load T x)(hx:σ.ev x=some a)(h:loadV P σ T a=some av):WV P C o σ av:=by
 unfold loadV at h
 split at h
 ·rename_i k i j
  split at h
  ·rename_i ob hk
   split at h
   ·rename_i l hf
    obtain⟨h,hob⟩:=takeO_of h
    unfold takeV at h
    grind[WV.load1,ownB_own,takeE_of,WV.loadN,ownB_all]
   ·cases h
  ·cases h
 ·rename_i cells
  unfold takeV at h
  grind[WV.load1R,takeE_of,WV.loadNR]
 ·cases h
theorem fldV_of {T:TypeId} {i:Nat} {x:Operand} {a:AV} (ho:o.op=.fieldAddr T x i)(hx:σ.ev x=some a)(h:fldV P T i a=some av):WV P C o σ av:=by
 unfold fldV at h
 split at h
 ·split at h
  ·rename_i off hf;cases h;exact WV.fieldP ho (fldE_of hf) hx
  ·cases h
 all_goals grind[dropE_eq,WV.fieldR,fldE_of]
theorem stepV_of {op:Op} (ho:o.op=op)(h:stepV P σ op=some av):WV P C o σ av:=by
 unfold stepV at h
 grind[WV.move,WV.assign,pickV_of,cmpV_of,WV.not,WV.extract,fldV_of,loadV_of,WV.build]
end
def storeE (P:Program)(M:List (Nat×AO))(T:TypeId):AV→AV→Option (Nat×AO)
 | .pt k i j,av =>
  match sizeB P T,look k M with
  | some m,some ob =>
   bif av.cellB && Nat.beq av.cells.length m && av.cells.all AV.oneB then
    match ob.put i j av.cells with
    | some ob'=>some (k,ob')
    | none=>none
   else none
  | _,_=>none
 | _,_=>none
def buildE (P:Program)(σ:St)(T:TypeId)(m:Nat)(parts:List (Nat×Operand)):Option AO :=
 match P.underlying T with
 | some (.slice e) =>
  match sizeB P e,(P.info? e).bind (·.zero),σ.evs (parts.map (·.2)) with
  | some n,some _,some avs =>
   bif numB 0 parts && Nat.beq parts.length m && Nat.ble (m*n) 16777216 && Nat.ble m 16777216 && rowsB n avs then some (.row e n (avs.map AV.cells)) else none
  | _,_,_=>none
 | _=>none
theorem wo_rem {P:Program} {C:Cx} {σ:St} {o:Oper} {t:List (Nat×AV)} {M:List (Nat×AO)} {nk k:Nat} {ob:AO} (h:WO P C o σ ⟨t,(k,ob)::M,nk⟩):WO P C o σ ⟨t,(k,ob)::rem k M,nk⟩:=fun G a w ok N Q' hN =>
 h G a w ok N Q' fun G' a' w' ok'=>hN G' a' w' (by
  have hl:∀ i,look i ((k,ob)::rem k M)=look i ((k,ob)::M):=fun i=>by
   grind[look_set_same,look_set_other,look_rem]
  exact ⟨ok'.sz,ok'.df,ok'.tm,ok'.bel,ok'.fw,ok'.f0,ok'.f1,fun i x hx=>ok'.ob i x A8,fun i x y hx=>ok'.my i x y A8,fun i x i' x' y hx hx'=>ok'.dj i x i' x' y A8 (by simp_all),fun i x y p u hx=>ok'.dF i x y p u A8⟩)
def opE (P:Program) (N:Nat) (t:List (Nat×AV)) (M:List (Nat×AO)) (nk:Nat) (o:Oper):Option (List (Nat×AV)×List (Nat×AO)×Nat) :=
 match o.guard with
 | some _=>none
 | none =>
  match o.dst with
  | none =>
   match o.op with
   | .store T x y =>
    match (⟨t,M,nk⟩:St).ev x,(⟨t,M,nk⟩:St).ev y with
    | some ax,some ay =>
     match storeE P M T ax ay with
     | some (k,ob) =>
      match remS k M with
      | some M'=>some (t,(k,ob)::M',nk)
      | none=>none
     | none=>none
    | _,_=>none
   | _=>none
  | some d =>
   bif Nat.blt d N then
    match o.op with
    | .box T x =>
     match (⟨t,M,nk⟩:St).ev x with
     | some av=>bif av.cellB then some ((d,.pt nk 0 0)::t,(nk,.box T av.cells)::M,nk+1) else none
     | none=>none
    | .alloc T =>
     match (P.info? T).bind (·.zero) with
     | some z=>some ((d,.pt nk 0 0)::t,(nk,.box T (z.cells.toList.map .sc))::M,nk+1)
     | none=>none
    | .buildSlice T m parts =>
     match buildE P ⟨t,M,nk⟩ T m parts.toList with
     | some ob=>some ((d,.sl nk)::t,(nk,ob)::M,nk+1)
     | none=>none
    | op =>
     match stepV P ⟨t,M,nk⟩ op with
     | some av=>some ((d,av)::t,M,nk)
     | none=>none
   else none
theorem opE_of {P:Program} {C:Cx} {t t':List (Nat×AV)} {M M':List (Nat×AO)} {nk nk':Nat} {o:Oper} (h:opE P C.N t M nk o=some (t',M',nk')):o.guard=none∧WO P C o ⟨t,M,nk⟩ ⟨t',M',nk'⟩:=by
 unfold opE at h
 split at h
 ·cases h
 ·rename_i hg
  refine ⟨hg,?_⟩
  split at h
  ·rename_i hds
   split at h
   ·rename_i T x y ho
    split at h
    ·rename_i ax ay hx hy
     split at h
     ·rename_i k ob hst
      split at h
      case h_2=>cases h
      rename_i M1 hM1
      cases h
      rw [remS_eq hM1]
      unfold storeE at hst
      split at hst
      ·rename_i k i j
       split at hst
       ·rename_i m ob0 hm hk
        cases hb:ay.cellB && Nat.beq ay.cells.length m && ay.cells.all AV.oneB with
        | false=>rw [hb] at hst;cases hst
        | true =>
         rw [hb] at hst
         simp only [cond_true] at hst
         simp only [dw] at hb
         split at hst
         ·rename_i ob' hp
          cases hst
          exact wo_rem (WO.store (σ:=⟨t,M,nk⟩) ho hds hm hx hk hy hb.1.1 rfl (dQ hb.1.2) hb.2 hp)
         ·cases hst
       ·cases hst
      ·cases hst
     ·cases h
    ·cases h
   ·cases h
  ·rename_i d hds
   cases hd:Nat.blt d C.N with
   | false=>rw [hd] at h;cases h
   | true =>
    rw [hd] at h
    simp only [cond_true] at h
    split at h
    ·rename_i T x ho
     split at h
     ·rename_i av hx
      cases hB:av.cellB with
      | false=>rw [hB] at h;cases h
      | true =>
       rw [hB] at h
       cases h
       exact WO.box (σ:=⟨t,M,nk⟩) ho hds hd hx hB rfl rfl
     ·cases h
    ·rename_i T ho
     split at h
     ·rename_i z hz
      cases h
      exact WO.alloc (σ:=⟨t,M,nk⟩) ho hz hds hd rfl rfl
     ·cases h
    ·rename_i T m parts ho
     split at h
     ·rename_i ob hob
      cases h
      unfold buildE at hob
      split at hob
      ·rename_i e hT
       split at hob
       ·rename_i n z avs hn hz hx
        cases hb:numB 0 parts.toList && Nat.beq parts.toList.length m && Nat.ble (m*n) 16777216 && Nat.ble m 16777216 && rowsB n avs with
        | false=>rw [hb] at hob;cases hob
        | true =>
         rw [hb] at hob
         simp only [dw] at hb
         cases hob
         exact WO.build (σ:=⟨t,M,nk⟩) ho hT hn hz hb.1.1.1.1 (dQ hb.1.1.1.2) hb.1.1.2 hb.1.2 hds hd hx hb.2 rfl rfl
       ·cases hob
      ·cases hob
     ·cases h
    ·split at h
     ·rename_i av hv
      cases h
      exact WO.of_wv (σ:=⟨t,M,nk⟩) hds hd (stepV_of rfl hv)
     ·cases h
def goL (P:Program) (C:Cx) (ops:Array Oper) (Q:Exit→St→Prop):List Oper→List (Nat×AV)→List (Nat×AO)→Nat→Prop
 | [],t,M,nk=>Q .normal ⟨t,M,nk⟩
 | o::r,t,M,nk =>
  match opE P C.N t M nk o with
  | some (t',M',nk')=>goL P C ops Q r t' M' nk'
  | none=>WL P C ops (o::r) ⟨t,M,nk⟩ Q
theorem goL_of {P:Program} {C:Cx} {ops:Array Oper} {Q:Exit→St→Prop}:∀ {l:List Oper} {t:List (Nat×AV)} {M:List (Nat×AO)} {nk:Nat},goL P C ops Q l t M nk→WL P C ops l ⟨t,M,nk⟩ Q
 | [],t,M,nk,h=>WL.nil h
 | o::r,t,M,nk,h=>by
  unfold goL at h
  split at h
  ·rename_i t' M' nk' hs
   obtain ⟨h1,h2⟩:=opE_of hs
   exact WL.op h1 h2 (goL_of h)
  ·exact h
def goC (P:Program)(C:Cx):Code→St→(Exit→St→Prop)→Prop
 | .skip,σ,Q=>Q .normal σ
 | .exit id,σ,Q=>Q (.exit id) σ
 | .seq x y,σ,Q=>goC P C x σ (QThen (fun s=>W P C y s Q) Q)
 | .block id c,σ,Q=>goC P C c σ (QBlock id Q)
 | .region id ops false,⟨t,M,nk⟩,Q=>goL P C ops Q ops.toList t M nk
 | c,σ,Q=>W P C c σ Q
theorem goC_of {P:Program} {C:Cx}:∀ {c:Code} {σ:St} {Q:Exit→St→Prop},goC P C c σ Q→W P C c σ Q
 | .skip,σ,Q,h=>W.skip h
 | .exit id,σ,Q,h=>W.exit h
 | .ret,σ,Q,h=>h
 | .seq x y,σ,Q,h=>W.seq (goC_of (c:=x) h)
 | .block id c,σ,Q,h=>W.block (goC_of (c:=c) h)
 | .region id ops false,⟨t,M,nk⟩,Q,h=>fun G a w ok=>wp_region_list (goL_of (P:=P) (C:=C) (show goL P C ops Q ops.toList t M nk from h) G a w ok)
 | .region id ops true,σ,Q,h=>h
 | .cond c x y,σ,Q,h=>h
 | .loop c,σ,Q,h=>h
 | .rangeFunc f p a b,σ,Q,h=>h
 | .scope b,σ,Q,h=>h
 | .label l,σ,Q,h=>h
 | .goto l,σ,Q,h=>h
 | .refuse w,σ,Q,h=>h
def goB:Code→Bool
 | .skip=>true
 | .exit _=>true
 | .seq _ _=>true
 | .block _ _=>true
 | .region _ _ false=>true
 | _=>false
theorem W.go {P:Program} {C:Cx} {c:Code} {σ:St} {Q:Exit→St→Prop} (hc:goB c=true)(h:goC P C c σ Q):W P C c σ Q:=goC_of h
def goD (P:Program) (C:Cx):Code→St→(Exit→St→Prop)→Prop
 | .skip,σ,Q=>Q .normal σ
 | .exit id,σ,Q=>Q (.exit id) σ
 | .seq x y,σ,Q=>goD P C x σ (QThen (fun s=>W P C y s Q) Q)
 | .block id c,σ,Q=>goD P C c σ (QBlock id Q)
 | .region id ops false,⟨t,M,nk⟩,Q=>WL P C ops ops.toList ⟨t,M,nk⟩ Q
 | c,σ,Q=>W P C c σ Q
theorem goD_of {P:Program} {C:Cx}:∀ {c:Code} {σ:St} {Q:Exit→St→Prop},goD P C c σ Q→W P C c σ Q
 | .skip,σ,Q,h=>W.skip h
 | .exit id,σ,Q,h=>W.exit h
 | .ret,σ,Q,h=>h
 | .seq x y,σ,Q,h=>W.seq (goD_of (c:=x) h)
 | .block id c,σ,Q,h=>W.block (goD_of (c:=c) h)
 | .region id ops false,⟨t,M,nk⟩,Q,h=>fun G a w ok=>wp_region_list ((show WL P C ops ops.toList ⟨t,M,nk⟩ Q from h) G a w ok)
 | .region id ops true,σ,Q,h=>h
 | .cond c x y,σ,Q,h=>h
 | .loop c,σ,Q,h=>h
 | .rangeFunc f p a b,σ,Q,h=>h
 | .scope b,σ,Q,h=>h
 | .label l,σ,Q,h=>h
 | .goto l,σ,Q,h=>h
 | .refuse w,σ,Q,h=>h
theorem W.gob {P:Program} {C:Cx} {c:Code} {σ:St} {Q:Exit→St→Prop} (hc:goB c=true)(h:goD P C c σ Q):W P C c σ Q:=goD_of h
theorem WL.gyes {P:Program} {C:Cx} {ops:Array Oper} {o oj:Oper} {rest:List Oper} {σ:St} {Q:Exit→St→Prop} {j:Nat} {b:Bool} {d:Tmp} (hg:o.guard=some (j,b))(hj:ops[j]?=some oj)(hd:oj.dst=some d)(hv:look d σ.t=some (.sc (.bool b)))
  (k:WL P C ops ({ o with guard:=none }::rest) σ Q):WL P C ops (o::rest) σ Q:=fun G a w ok=>by
 have h:=k G a w ok
 have hy:=yielded_of (ops:=ops) ok hj hd hv
 unfold wpList at h ⊢
 rw [if_pos (by simp [Region.wanted])] at h
 rw [if_pos (by simp_all[Region.wanted,vb])]
 exact h
def sideI (op:BinOp)(m n:Int):Option (Prop×Int) :=
 match op with
 | .add=>some (I64 (m+n),m+n)
 | .sub=>some (I64 (m-n),m-n)
 | .mul=>some (I64 (m*n),m*n)
 | _=>none
def sideV (σ:St):Op→Option (Prop×Int)
 | .binOp op _ x y _ =>
  match σ.ev x,σ.ev y with
  | some (.sc (.int .i64 m)),some (.sc (.int .i64 n))=>sideI op m n
  | _,_=>none
 | _=>none
def catV (σ:St):Op→Option (List UInt8×List UInt8)
 | .binOp .add _ x y _ =>
  match σ.ev x,σ.ev y with
  | some (.sc (.string ⟨⟨s⟩⟩)),some (.sc (.string ⟨⟨t⟩⟩))=>some (s,t)
  | _,_=>none
 | _=>none
def lenA (P:Program) (σ:St) (T:TypeId):AV→Option Nat
 | .sc (.string ⟨⟨s⟩⟩) =>
  match P.underlying T with
  | some .string=>some s.length
  | _=>none
 | .ls _ rows =>
  match P.underlying T with
  | some (.slice _)=>some rows.length
  | _=>none
 | .sl k =>
  match P.underlying T,look k σ.M with
  | some (.slice _),some ob =>
   match ob.rows? with
   | some rows=>some rows.length
   | none=>none
  | _,_=>none
 | .sc (.slice _ m _) =>
  match P.underlying T with
  | some (.slice _)=>some m
  | _=>none
 | _=>none
def lenV(P:Program)(σ:St):Op→Option Nat
 | .call { callee:=.builtin .len,args:=⟨[x]⟩,argTypes:=⟨[T]⟩ } =>
  match σ.ev x with
  | some av=>lenA P σ T av
  | none=>none
 | _=>none
def idxV (P:Program)(σ:St):Op→Option (List (List AV)×Int)
 | .indexAddr T x y =>
  match P.underlying T,σ.ev x,σ.ev y with
  | some (.slice e),some (.ls n rows),some (.sc (.int _ z)) =>
   match sizeB P e with
   | some m=>bif Nat.beq m n then some (rows,z)else none
   | none=>none
  | _,_,_=>none
 | _=>none
def ixsV (P:Program)(σ:St):Op→Option (Nat×List (List AV)×Int)
 | .indexAddr T x y =>
  match P.underlying T,σ.ev x,σ.ev y with
  | some (.slice e),some (.sl k),some (.sc (.int _ z)) =>
   match sizeB P e,look k σ.M with
   | some m,some ob =>
    match ob.rows?,ob.n? with
    | some rows,some n=>bif Nat.beq m n then some (k,rows,z)else none
    | _,_=>none
   | _,_=>none
  | _,_,_=>none
 | _=>none
structure AppD where
 T:TypeId
 n:Nat
 k:Nat
 a:List (List AV)
 b:List (List AV)
def appV (P:Program) (σ:St):Op→Option AppD
 | .call { callee:=.builtin .append,args:=⟨[x,y]⟩,argTypes:=⟨[T,T']⟩ } =>
  match P.underlying T,σ.ev x,σ.ev y with
  | some (.slice e),some (.sl k),some av2 =>
   match P.info? e,look k σ.M with
   | some i,some (.row e' n rows) =>
    match i.zero,σ.src n av2 with
    | some z,some rows2=>bif Nat.beq T T' && Nat.beq e e' && Nat.beq i.size n && Nat.beq z.cells.size n && Nat.blt 0 n && Nat.ble i.bytes 100000 then some ⟨e,n,k,rows,rows2⟩else none
    | _,_=>none
   | _,_=>none
  | _,_,_=>none
 | _=>none
def dstB(N:Nat)(o:Oper):Option Tmp :=
 match o.guard,o.dst with
 | none,some d=>bif Nat.blt d N then some d else none
 | _,_=>none
section
variable {P:Program} {C:Cx} {ops:Array Oper} {o:Oper} {rest:List Oper} {σ:St} {Q:Exit→St→Prop} {d:Tmp}
theorem dstB_of(h:dstB C.N o=some d):o.guard=none∧o.dst=some d∧Nat.blt d C.N=true:=by
 grind[dstB]
theorem WL.vl {av:AV} (hd:dstB C.N o=some d)(h:WV P C o σ av)(k:WL P C ops rest (σ.put d av) Q):WL P C ops (o::rest) σ Q :=
 WL.opv (dstB_of hd).1 (dstB_of hd).2.1 (dstB_of hd).2.2 h k
theorem catV_of {s t:List UInt8} (h:catV σ o.op=some (s,t)) (hl:s.length+t.length<9223372036854775808):WV P C o σ (.sc (.string (bs (s++t)))):=by
 unfold catV at h
 split at h
 ·rename_i T x y Ty ho
  split at h
  ·rename_i s t h1 h2
   cases h
   exact WV.cat (s:=s) (t:=t) ho h1 h2 hl
  ·cases h
 ·cases h
theorem WL.cat {s t:List UInt8} (hd:dstB C.N o=some d)(h:catV σ o.op=some (s,t))(hl:s.length+t.length<9223372036854775808)(k:WL P C ops rest (σ.put d (.sc (.string (bs (s++t))))) Q):WL P C ops (o::rest) σ Q:=WL.vl hd (catV_of h hl) k
theorem lenV_of {m:Nat} (h:lenV P σ o.op=some m):WV P C o σ (.sc (.int .i64 m)):=by
 unfold lenV at h
 split at h
 ·rename_i x T ho
  split at h
  ·rename_i av hx
   unfold lenA at h
   split at h
   ·split at h
    ·rename_i s _ hT;cases h;exact WV.lenB (s:=s) ho hT hx
    ·cases h
   all_goals grind[WV.lenL,WV.lenS,WV.lenN]
  ·cases h
 ·cases h
theorem WL.len {m m':Nat} (hd:dstB C.N o=some d)(h:lenV P σ o.op=some m)(hm:m=m')(k:WL P C ops rest (σ.put d (.sc (.int .i64 m'))) Q):WL P C ops (o::rest) σ Q:=by
 subst hm
 exact WL.vl hd (lenV_of h) k
theorem zql {m n:Nat} (h:m = n:=by first|exact dH _|exact Et|rfl):m = n:=h
theorem idxV_of {rows:List (List AV)} {z:Int} {r:List AV} (h:idxV P σ o.op=some (rows,z))(h0:0≤z)(hr:rows[z.toNat]?=some r):WV P C o σ (.pr r):=by
 unfold idxV at h
 grind[dQ,WV.indexL]
theorem WL.idx {rows:List (List AV)} {z:Int} {r:List AV} (hd:dstB C.N o=some d)(h:idxV P σ o.op=some (rows,z))(h0:0≤z)(hr:rows[z.toNat]?=some r)(k:WL P C ops rest (σ.put d (.pr r)) Q):WL P C ops (o::rest) σ Q :=
 WL.vl hd (idxV_of h h0 hr) k
theorem ixsV_of {q:Nat} {rows:List (List AV)} {z:Int} (h:ixsV P σ o.op=some (q,rows,z))(h0:0≤z)(h1:z<rows.length):WV P C o σ (.pt q z.toNat 0):=by
 unfold ixsV at h
 split at h
 all_goals grind[dQ,WV.indexS]
theorem WL.ixs {q:Nat} {rows:List (List AV)} {z:Int} (hd:dstB C.N o=some d)(h:ixsV P σ o.op=some (q,rows,z))(h0:0≤z∧z<rows.length)(k:WL P C ops rest (σ.put d (.pt q z.toNat 0)) Q):WL P C ops (o::rest) σ Q :=
 WL.vl hd (ixsV_of h h0.1 h0.2) k
theorem appV_of {x:AppD} (hd:dstB C.N o=some d)(h:appV P σ o.op=some x)(hl:x.a.length+x.b.length≤1000000000):WO P C o σ (((σ.drop x.k).new (.row x.T x.n (x.a++x.b))).put d (.sl σ.nk)):=by
 obtain⟨_,hds,hdb⟩:=dstB_of hd
 unfold appV at h
 split at h
 all_goals grind[dQ,WO.append]
theorem WL.app {x:AppD} {t:List (Nat×AV)} {M M':List (Nat×AO)} {nk:Nat} (hd:dstB C.N o=some d) (h:appV P ⟨t,M,nk⟩ o.op=some x) (hM:remS x.k M=some M') (hl:x.a.length+x.b.length≤1000000000) (k:WL P C ops rest ⟨(d,.sl nk)::t,(nk,.row x.T x.n (x.a++x.b))::M',nk+1⟩ Q):WL P C ops (o::rest) ⟨t,M,nk⟩ Q:=by
 rw [remS_eq hM] at k
 exact WL.op (dstB_of hd).1 (appV_of hd h hl) k
theorem WL.ev {t:List (Nat×AV)} {M:List (Nat×AO)} {nk:Nat} (h:(opE P C.N t M nk o).isSome=true) (k:goL P C ops Q (o::rest) t M nk):WL P C ops (o::rest) ⟨t,M,nk⟩ Q:=goL_of k
def stepD (P:Program)(N:Nat)(ops:Array Oper)(σ:St)(o:Oper):Option (Tmp×AV) :=
 match o.dst with
 | some d =>
  bif Nat.blt d N then
   match guardK ops o (σ.only (o.looksAt ops)) with
   | some true =>
    match stepV P (σ.only (o.looksAt ops)) o.op with
    | some av=>some (d,av)
    | none=>none
   | some false=>some (d,.sc undef)
   | none=>none
  else none
 | none=>none
theorem DK.st {av:AV} (h:stepD P C.N ops σ o=some (d,av))(k:DK P C ops rest (σ.put d av) Q):DK P C ops (o::rest) σ Q:=by
 unfold stepD at h
 split at h
 ·rename_i x hds
  cases hb:Nat.blt x C.N with
  | false=>rw [hb] at h;cases h
  | true =>
   rw [hb] at h
   simp only [cond_true] at h
   split at h
   ·rename_i hg
    split at h
    ·rename_i av' hv
     cases h
     exact DK.val hds hb hg (stepV_of rfl hv) k
    ·cases h
   all_goals simp_all[DK.no]
 ·cases h
theorem DK.tt {b:Bool} (h:stepD P C.N ops σ o=some (d,.sc (.bool b)))(hb:b=true)(k:DK P C ops rest (σ.put d (.sc (.bool true))) Q):DK P C ops (o::rest) σ Q:=by
 grind[DK.st]
theorem DK.ff {b:Bool} (h:stepD P C.N ops σ o=some (d,.sc (.bool b)))(hb:b=false)(k:DK P C ops rest (σ.put d (.sc (.bool false))) Q):DK P C ops (o::rest) σ Q:=by
 grind[DK.st]
def dstD (N:Nat)(ops:Array Oper)(σ:St)(o:Oper):Option Tmp :=
 match o.dst,guardK ops o (σ.only (o.looksAt ops))with
 | some d,some true=>bif Nat.blt d N then some d else none
 | _,_=>none
theorem DK.vl {av:AV} (hd:dstD C.N ops σ o=some d)(h:WV P C o (σ.only (o.looksAt ops)) av)(k:DK P C ops rest (σ.put d av) Q):DK P C ops (o::rest) σ Q:=by
 grind[dstD,DK.val]
theorem DK.len {m m':Nat} (hd:dstD C.N ops σ o=some d)(h:lenV P (σ.only (o.looksAt ops)) o.op=some m)(hm:m=m')(k:DK P C ops rest (σ.put d (.sc (.int .i64 m'))) Q):DK P C ops (o::rest) σ Q:=by
 subst hm;exact DK.vl hd (lenV_of h) k
theorem DK.cat {s t:List UInt8} (hd:dstD C.N ops σ o=some d)(h:catV (σ.only (o.looksAt ops)) o.op=some (s,t))(hl:s.length+t.length<9223372036854775808)(k:DK P C ops rest (σ.put d (.sc (.string (bs (s++t))))) Q):DK P C ops (o::rest) σ Q:=DK.vl hd (catV_of h hl) k
theorem DK.idx {rows:List (List AV)} {z:Int} {r:List AV} (hd:dstD C.N ops σ o=some d)(h:idxV P (σ.only (o.looksAt ops)) o.op=some (rows,z))(h0:0≤z)(hr:rows[z.toNat]?=some r)(k:DK P C ops rest (σ.put d (.pr r)) Q):DK P C ops (o::rest) σ Q :=
 DK.vl hd (idxV_of h h0 hr) k
theorem DK.ixs {q:Nat} {rows:List (List AV)} {z:Int} (hd:dstD C.N ops σ o=some d)(h:ixsV P (σ.only (o.looksAt ops)) o.op=some (q,rows,z))(h0:0≤z∧z<rows.length)(k:DK P C ops rest (σ.put d (.pt q z.toNat 0)) Q):DK P C ops (o::rest) σ Q :=
 DK.vl hd (ixsV_of h h0.1 h0.2) k
theorem sideV_of {φ:Prop} {z:Int} (h:sideV σ o.op=some (φ,z))(hφ:φ):WV P C o σ (.sc (.int .i64 z)):=by
 unfold sideV at h
 split at h
 ·rename_i op T x y Ty ho
  split at h
  ·rename_i m n h1 h2
   unfold sideI at h
   grind[WV.add,WV.sub,WV.mul]
  ·cases h
 ·cases h
theorem WL.ar {φ:Prop} {z:Int} (hd:dstB C.N o=some d)(h:sideV σ o.op=some (φ,z))(hφ:φ)(k:WL P C ops rest (σ.put d (.sc (.int .i64 z))) Q):WL P C ops (o::rest) σ Q:=WL.vl hd (sideV_of h hφ) k
theorem DK.ar {φ:Prop} {z:Int} (hd:dstD C.N ops σ o=some d)(h:sideV (σ.only (o.looksAt ops)) o.op=some (φ,z))(hφ:φ)(k:DK P C ops rest (σ.put d (.sc (.int .i64 z))) Q):DK P C ops (o::rest) σ Q:=DK.vl hd (sideV_of h hφ) k
end
section
variable {P:Program} {C:Cx} {ops:Array Oper} {o:Oper} {rest:List Oper} {σ:St} {Q:Exit→St→Prop} {d:Tmp} {mem:List Bool} {Mc:List (Nat×AO)} {nk0 k:Nat}
def memB (N:Nat) (ops:Array Oper) (mem:List Bool) (Mc:List (Nat×AO)) (k nk:Nat) (t:List (Nat×AV)) (o:Oper):Option (Tmp×Bool) :=
 match o.dst with
 | some d =>
  bif !(mem.getD k false) && Nat.blt d N && msInn nk Mc && tsInn nk (onlyT t (o.looksAt ops))then
   match guardK ops o ⟨onlyT t (o.looksAt ops),Mc,nk⟩with
   | some b=>some (d,b)
   | none=>none
  else none
 | none=>none
theorem memB_of {nk:Nat} {t:List (Nat×AV)} {b:Bool} (h:memB C.N ops mem Mc k nk t o=some (d,b)):mem.getD k false=false∧o.dst=some d∧Nat.blt d C.N=true∧msInn nk Mc=true∧tsInn nk (onlyT t (o.looksAt ops))=true∧guardK ops o ⟨onlyT t (o.looksAt ops),Mc,nk⟩=some b:=by
 grind[memB]
theorem DMK.v0 {av:AV} (hd:memB C.N ops mem Mc k nk0 σ.t o=some (d,true)) (h:WV P C o ⟨onlyT σ.t (o.looksAt ops),Mc,nk0⟩ av) (r:DMK P C ops mem Mc nk0 (k+1) rest (σ.put d av) Q):DMK P C ops mem Mc nk0 k (o::rest) σ Q:=by
 obtain ⟨a,b,c,e,f,g⟩:=memB_of hd
 exact DMK.val a b c (.inl rfl) ⟨e,f,.inl ⟨g,h⟩⟩ r
theorem DMK.v1 {av:AV} (hd:memB C.N ops mem Mc k σ.nk σ.t o=some (d,true)) (hb:behindB ops mem k=true) (h:WV P C o ⟨onlyT σ.t (o.looksAt ops),Mc,σ.nk⟩ av) (r:DMK P C ops mem Mc nk0 (k+1) rest (σ.put d av) Q):DMK P C ops mem Mc nk0 k (o::rest) σ Q:=by
 obtain ⟨a,b,c,e,f,g⟩:=memB_of hd
 exact DMK.val a b c (.inr ⟨rfl,hb⟩) ⟨e,f,.inl ⟨g,h⟩⟩ r
theorem DMK.st {av:AV} (hd:memB C.N ops mem Mc k nk0 σ.t o=some (d,true)) (h:stepV P ⟨onlyT σ.t (o.looksAt ops),Mc,nk0⟩ o.op=some av) (r:DMK P C ops mem Mc nk0 (k+1) rest (σ.put d av) Q):DMK P C ops mem Mc nk0 k (o::rest) σ Q:=DMK.v0 hd (stepV_of rfl h) r
theorem DMK.s1 {av:AV} (hd:memB C.N ops mem Mc k σ.nk σ.t o=some (d,true)) (hb:behindB ops mem k=true) (h:stepV P ⟨onlyT σ.t (o.looksAt ops),Mc,σ.nk⟩ o.op=some av) (r:DMK P C ops mem Mc nk0 (k+1) rest (σ.put d av) Q):DMK P C ops mem Mc nk0 k (o::rest) σ Q:=DMK.v1 hd hb (stepV_of rfl h) r
theorem DMK.ar {φ:Prop} {z:Int} (hd:memB C.N ops mem Mc k nk0 σ.t o=some (d,true)) (h:sideV ⟨onlyT σ.t (o.looksAt ops),Mc,nk0⟩ o.op=some (φ,z)) (hφ:φ) (r:DMK P C ops mem Mc nk0 (k+1) rest (σ.put d (.sc (.int .i64 z))) Q):DMK P C ops mem Mc nk0 k (o::rest) σ Q:=DMK.v0 hd (sideV_of h hφ) r
theorem DMK.idx {rows:List (List AV)} {z:Int} {x:List AV} (hd:memB C.N ops mem Mc k nk0 σ.t o=some (d,true)) (h:idxV P ⟨onlyT σ.t (o.looksAt ops),Mc,nk0⟩ o.op=some (rows,z)) (h0:0≤z) (hr:rows[z.toNat]?=some x) (r:DMK P C ops mem Mc nk0 (k+1) rest (σ.put d (.pr x)) Q):DMK P C ops mem Mc nk0 k (o::rest) σ Q:=DMK.v0 hd (idxV_of h h0 hr) r
def wrB(mem:List Bool)(N k:Nat)(o:Oper):Option Tmp :=
 match o.dst,o.guard with
 | some d,none=>bif mem.getD k false && Nat.blt d N then some d else none
 | _,_=>none
theorem wrB_of {N:Nat} (h:wrB mem N k o=some d):mem.getD k false=true∧o.dst=some d∧o.guard=none∧Nat.blt d N=true:=by
 grind[wrB]
theorem DMK.bd {T m:Nat} {parts:Array (Nat×Operand)} {ob:AO} (hd:wrB mem C.N k o=some d) (ho:o.op=.buildSlice T m parts) (h:buildE P σ T m parts.toList=some ob) (hs:msSub Mc ((σ.nk,ob)::σ.M)) (r:DMK P C ops mem Mc nk0 (k+1) rest ⟨(d,.sl σ.nk)::σ.t,(σ.nk,ob)::σ.M,σ.nk+1⟩ Q):DMK P C ops mem Mc nk0 k (o::rest) σ Q:=by
 obtain ⟨a,b,c,e⟩:=wrB_of hd
 unfold buildE at h
 split at h
 ·rename_i el hT
  split at h
  ·rename_i n z avs hn hz hx
   cases hb:numB 0 parts.toList && Nat.beq parts.toList.length m && Nat.ble (m*n) 16777216 && Nat.ble m 16777216 && rowsB n avs with
   | false=>rw [hb] at h;cases h
   | true =>
    rw [hb] at h
    simp only [dw] at hb
    cases h
    exact DMK.wr a b (nG (uH _)) hs (DoesM.build c ho hT hn hz hb.1.1.1.1 (dQ hb.1.1.1.2) hb.1.1.2 hb.1.2 b e hx hb.2 rfl rfl rfl rfl) r
  ·cases h
 ·cases h
theorem DMK.ap {x:AppD} (hd:wrB mem C.N k o=some d) (h:appV P σ o.op=some x) (hl:x.a.length+x.b.length≤1000000000) (hs:msSub Mc ((σ.nk,.row x.T x.n (x.a++x.b))::rem x.k σ.M)) (r:DMK P C ops mem Mc nk0 (k+1) rest ⟨(d,.sl σ.nk)::σ.t,(σ.nk,.row x.T x.n (x.a++x.b))::rem x.k σ.M,σ.nk+1⟩ Q):DMK P C ops mem Mc nk0 k (o::rest) σ Q:=by
 obtain ⟨a,b,c,e⟩:=wrB_of hd
 unfold appV at h
 split at h
 ·rename_i x y T T' ho
  split at h
  ·rename_i el q av2 hT hx hy
   split at h
   ·rename_i i e' n rows hi hk
    split at h
    ·rename_i z rows2 hz hs2
     cases hb:Nat.beq T T' && Nat.beq el e' && Nat.beq i.size n && Nat.beq z.cells.size n && Nat.blt 0 n && Nat.ble i.bytes 100000 with
     | false=>rw [hb] at h;cases h
     | true =>
      rw [hb] at h
      simp only [dw] at hb
      cases h
      obtain ⟨⟨⟨⟨⟨b1,b2⟩,b3⟩,b4⟩,b5⟩,b6⟩:=hb
      obtain rfl:=dQ b1
      obtain rfl:=dQ b2
      exact DMK.wr a b (nG (uH _)) hs (DoesM.append c ho hT hi hz (dQ b3) rfl (dQ b4) b5 b e hx hk hy hs2 rfl hl b6 rfl rfl rfl) r
    ·cases h
   ·cases h
  ·cases h
 ·cases h
end
def onlyM (M:List (Nat×AO)):List Nat→List (Nat×AO)
 | []=>[]
 | x::r =>
  match look x M with
  | some o=>(x,o)::onlyM M r
  | none=>onlyM M r
def memOf(l:List Oper):List Bool:=l.map fun o =>
 match o.op with
 | .buildSlice _ _ _=>true
 | .call { callee:=.builtin .append,.. }=>true
 | _=>false
theorem W.dm {P:Program} {C:Cx} {σ:St} {Q:Exit→St→Prop} {id:Nat} {l:List Oper} (ms:List Nat) (hm:P.follows .mixedOrders=true) (hB:Region.lexB .any l.toArray=true) (hch:chainB l.toArray (memOf l)=true) (hMc:msSub (onlyM σ.M ms) σ.M)
  (h:DMK P C l.toArray (memOf l) (onlyM σ.M ms) σ.nk 0 l σ Q):W P C (.region id l.toArray true) σ Q:=W.drawMK (memOf l) (onlyM σ.M ms) hm hB hch hMc h
structure StoD where
 k:Nat
 i:Nat
 j:Nat
 T:TypeId
 n:Nat
 rows:List (List AV)
 l:List AV
def stoV (P:Program) (σ:St):Op→Option StoD
 | .store T x y =>
  match σ.ev x,σ.ev y with
  | some (.pt k i j),some av =>
   match sizeB P T,look k σ.M with
   | some m,some (.row T' n rows)=>bif av.cellB && Nat.beq av.cells.length m && av.cells.all AV.oneB && av.cells.all AV.pu0 then some ⟨k,i,j,T',n,rows,av.cells⟩else none
   | _,_=>none
  | _,_=>none
 | _=>none
section
variable {P:Program} {C:Cx} {ops:Array Oper} {o:Oper} {rest:List Oper} {σ:St} {Q:Exit→St→Prop} {d:Tmp}
theorem WL.sto {x:StoD} {r:List AV} {t:List (Nat×AV)} {M M':List (Nat×AO)} {nk:Nat} (hg:o.guard=none) (hds:o.dst=none) (h:stoV P ⟨t,M,nk⟩ o.op=some x) (hM:remS x.k M=some M') (hr:x.rows[x.i]?=some r) (hj:x.j+x.l.length≤r.length)
  (k:WL P C ops rest ⟨t,(x.k,.row x.T x.n (x.rows.set x.i (putL x.j x.l r)))::M',nk⟩ Q):WL P C ops (o::rest) ⟨t,M,nk⟩ Q:=by
 rw [remS_eq hM] at k
 clear hM
 refine WL.op hg ?_ k
 unfold stoV at h
 split at h
 ·rename_i T x y ho
  split at h
  ·rename_i k i j av hx hy
   split at h
   ·rename_i m T' n rows hm hk
    cases hb:av.cellB && Nat.beq av.cells.length m && av.cells.all AV.oneB && av.cells.all AV.pu0 with
    | false=>rw [hb] at h;cases h
    | true =>
     rw [hb] at h
     simp only [dw] at hb
     cases h
     refine wo_rem (WO.store (σ:=⟨t,M,nk⟩) ho hds hm hx hk hy hb.1.1.1 rfl (dQ hb.1.1.2) hb.1.2 ?_)
     simp_all[AO.put]
   ·cases h
  ·cases h
 ·cases h
def mmV (σ:St):Op→Option (IntKind×Int)
 | .call { callee:=.builtin .min,args:=⟨[x,y]⟩,.. } =>
  match σ.ev x,σ.ev y with
  | some (.sc (.int k m)),some (.sc (.int _ n))=>some (k,if n<m then n else m)
  | _,_=>none
 | .call { callee:=.builtin .max,args:=⟨[x,y]⟩,.. } =>
  match σ.ev x,σ.ev y with
  | some (.sc (.int k m)),some (.sc (.int _ n))=>some (k,if n > m then n else m)
  | _,_=>none
 | _=>none
theorem WL.mm {k:IntKind} {z z':Int} (hd:dstB C.N o=some d)(h:mmV σ o.op=some (k,z))(hz:z=z')(K:WL P C ops rest (σ.put d (.sc (.int k z'))) Q):WL P C ops (o::rest) σ Q:=by
 subst hz
 refine WL.vl hd ?_ K
 unfold mmV at h
 split at h
 ·rename_i x y ts ho
  split at h
  ·rename_i k m k' n hx hy
   cases h
   exact WV.sc fun G a w ok=>by unfold execOp;simp [ho,resolve,invoke,builtin,ok.evs hx,ok.evs hy,Builtin.min_,Builtin.min2]
  ·cases h
 ·rename_i x y ts ho
  split at h
  ·rename_i k m k' n hx hy
   cases h
   exact WV.sc fun G a w ok=>by unfold execOp;simp [ho,resolve,invoke,builtin,ok.evs hx,ok.evs hy,Builtin.max_,Builtin.max2]
  ·cases h
 ·cases h
def isCmp:Op→Bool
 | .binOp .lss _ _ _ _=>true
 | .binOp .leq _ _ _ _=>true
 | .binOp .gtr _ _ _ _=>true
 | .binOp .geq _ _ _ _=>true
 | .binOp .eql _ _ _ _=>true
 | _=>false
def isNeq:Op→Bool
 | .binOp .neq _ _ _ _=>true
 | _=>false
theorem WL.bt {φ:Prop} [i:Decidable φ] (hc:isCmp o.op=true)(hd:dstB C.N o=some d)(h:stepV P σ o.op=some (.sc (.bool (decide φ))))(hφ:φ)(k:WL P C ops rest (σ.put d (.sc (.bool true))) Q):WL P C ops (o::rest) σ Q:=by
 rw [fQ hφ] at h
 exact MC
theorem WL.bf {φ:Prop} [i:Decidable φ] (hc:isCmp o.op=true)(hd:dstB C.N o=some d)(h:stepV P σ o.op=some (.sc (.bool (decide φ))))(hφ:¬ φ)(k:WL P C ops rest (σ.put d (.sc (.bool false))) Q):WL P C ops (o::rest) σ Q:=by
 rw [dW hφ] at h
 exact MC
theorem WL.nt {φ:Prop} [i:Decidable φ] (hc:isNeq o.op=true)(hd:dstB C.N o=some d)(h:stepV P σ o.op=some (.sc (.bool (!decide φ))))(hφ:¬ φ)(k:WL P C ops rest (σ.put d (.sc (.bool true))) Q):WL P C ops (o::rest) σ Q:=by
 rw [dW hφ] at h
 exact MC
theorem WL.nf {φ:Prop} [i:Decidable φ] (hc:isNeq o.op=true)(hd:dstB C.N o=some d)(h:stepV P σ o.op=some (.sc (.bool (!decide φ))))(hφ:φ)(k:WL P C ops rest (σ.put d (.sc (.bool false))) Q):WL P C ops (o::rest) σ Q:=by
 rw [fQ hφ] at h
 exact MC
theorem WL.e1 {t t':List (Nat×AV)} {M M':List (Nat×AO)} {nk nk':Nat} (h:opE P C.N t M nk o=some (t',M',nk')) (k:WL P C ops rest ⟨t',M',nk'⟩ Q):WL P C ops (o::rest) ⟨t,M,nk⟩ Q :=
 WL.op (opE_of h).1 (opE_of h).2 k
def cutV (P:Program) (σ:St):Op→Option (List UInt8×Int×Int)
 | .slice T x (some y) (some z) none =>
  match P.underlying T,σ.ev x,σ.ev y,σ.ev z with
  | some .string,some (.sc (.string ⟨⟨s⟩⟩)),some (.sc (.int _ i)),some (.sc (.int _ j))=>some (s,i,j)
  | _,_,_,_=>none
 | .slice T x none (some z) none =>
  match P.underlying T,σ.ev x,σ.ev z with
  | some .string,some (.sc (.string ⟨⟨s⟩⟩)),some (.sc (.int _ j))=>some (s,0,j)
  | _,_,_=>none
 | .slice T x (some y) none none =>
  match P.underlying T,σ.ev x,σ.ev y with
  | some .string,some (.sc (.string ⟨⟨s⟩⟩)),some (.sc (.int _ i))=>some (s,i,s.length)
  | _,_,_=>none
 | _=>none
theorem cut_run {w:World} {T:TypeId} {s t:List UInt8} {lo hi:Option Value} (hT:P.underlying T=some .string)(h:(Instr.slice T (.string (bs s)) lo hi none).run P w=.ok (.string (bs t)) w) :
  ((Instr.sliceAt T (.string (bs s)) lo hi none).run P w).andThen (fun a w'=>Sem.run P (pure (Next.value a)) w')=.ok (.value (.string (bs t))) w:=by
 simp_all[Instr.sliceAt,run_underlying]
theorem cutV_of {s:List UInt8} {i j:Int} (h:cutV P σ o.op=some (s,i,j))(hb:0≤i∧i≤j∧j≤s.length):WV P C o σ (.sc (.string (bs (cut s i j)))):=by
 unfold cutV at h
 split at h
 ·rename_i T x y z ho
  split at h
  ·rename_i s' k i' k' j' hT hx hy hz
   cases h
   refine WV.sc fun G a w ok=>?_
   unfold execOp
   simp only [ho,kG,EX,ok.evs hx,ok.evs hy,ok.evs hz,Sem.run_bind]
   have:=run_cut (P:=P) w T s k k' i j hT hb.1 hb.2.1 hb.2.2
   exact cut_run hT this
  ·cases h
 ·rename_i T x z ho
  split at h
  ·rename_i s' k' j' hT hx hz
   cases h
   refine WV.sc fun G a w ok=>?_
   unfold execOp
   simp only [ho,kG,EX,ok.evs hx,ok.evs hz,Sem.run_bind]
   have:=run_cut_to (P:=P) w T s k' j hT aj hb.2.2
   exact cut_run hT this
  ·cases h
 ·rename_i T x y ho
  split at h
  ·rename_i s' k i' hT hx hy
   cases h
   refine WV.sc fun G a w ok=>?_
   unfold execOp
   simp only [ho,kG,EX,ok.evs hx,ok.evs hy,Sem.run_bind]
   have:=run_cut_from (P:=P) w T s k i hT hb.1 hb.2.1
   have e:cut s i s.length=s.drop i.toNat:=by unfold cut;rw [lC (by simp)]
   rw [e]
   exact cut_run hT this
  ·cases h
 ·cases h
theorem WL.cut {s:List UInt8} {i j:Int} (hd:dstB C.N o=some d)(h:cutV P σ o.op=some (s,i,j))(hb:0≤i∧i≤j∧j≤s.length)(k:WL P C ops rest (σ.put d (.sc (.string (bs (cut s i j))))) Q):WL P C ops (o::rest) σ Q :=
 WL.vl hd (cutV_of h hb) k
end
def BldRet (T e b:Nat)(φ:Nat→Prop)(l:List UInt8)(v:Value)(w:World):Ending→World→Prop:=fun r w' =>
 r=.returned v∧Kept φ w w'∧BldIs w' T e b (fun x=>φ x∨(w.heap.size≤x∧x<w'.heap.size)) l
def BldW (P:Program) (f:FuncId) (T e:TypeId):Prop:=∀ (w:World) (b:Nat) (φ:Nat→Prop) (l s:List UInt8),φ b→BldIs w T e b φ l→l.length+s.length≤1000000000 →
 Calls P f #[.pointer (some ⟨b,0,none⟩),.string (bs s)] w (BldRet T e b φ (l++s) (.tuple #[.int .i64 s.length,.nilIface]) w)
def BldS (P:Program) (f:FuncId) (T e:TypeId):Prop:=∀ (w:World) (b:Nat) (φ:Nat→Prop) (l:List UInt8),φ b→BldIs w T e b φ l→l≠[] →
 Calls P f #[.pointer (some ⟨b,0,none⟩)] w (BldRet T e b φ l (.string (bs l)) w)
def dstOk(N:Nat):Option Tmp→Bool
 | some d=>Nat.blt d N
 | none=>true
section
variable {P:Program} {C:Cx} {σ σ':St} {G G':Gh} {a:Act} {w w':World} {o:Oper} {d:Tmp}
theorem dstOk_of {N:Nat} {d:Option Tmp} (h:dstOk N d=true):∀ x,d=some x→x<N:=fun x hx=>by subst hx;exact of_blt h
theorem Ok.bldCall (ok:Ok C σ G a w) {k:Nat} {T e:TypeId} {l l':List UInt8} (hk:look k σ.M=some (.bld T e l)) (hkept:Kept (G.fp k) w w')
  (hb:BldIs w' T e (G.b k) (fun x=>G.fp k x∨(w.heap.size≤x∧x<w'.heap.size)) l'):∃ G',Ok C (σ.upd k (.bld T e l')) G' a w':=by
 have hob:=ok.ob k _ hk
 have hle:∀ nk,G.le { G with fp:=fun i x=>if i=k then G.fp k x∨(w.heap.size≤x∧x<w'.heap.size) else G.fp i x } nk:=fun nk=>⟨fun _ _ h=>h,fun _ _=>rfl,fun _ _=>rfl,fun _ _=>rfl⟩
 have hfo:∀ i,i≠k→({ G with fp:=fun i x=>if i=k then G.fp k x∨(w.heap.size≤x∧x<w'.heap.size) else G.fp i x }:Gh).fp i=G.fp i:=fun i hi=>by simp_all
 have hl:∀ k' o,look k' (σ.upd k (.bld T e l')).M=some o→(k'=k∧o=.bld T e l')∨(k'≠k∧look k' σ.M=some o):=fun k' o hx=>by
  by_cases e:k'=k
  ·subst e
   rw [show look k' (σ.upd k' (.bld T _ l')).M=some _ from look_set_same] at hx
   simp_all
  ·rw [show look k' (σ.upd k (.bld T _ l')).M=look k' σ.M from look_set_other e] at hx
   simp_all
 have fpx:∀ k' o x,look k' (σ.upd k (.bld T e l')).M=some o→(if k'=k then G.fp k x∨(w.heap.size≤x∧x<w'.heap.size) else G.fp k' x)→(∃ o',look k' σ.M=some o'∧G.fp k' x)∨(k'=k∧w.heap.size≤x∧x<w'.heap.size):=fun k' o x h1 h2=>by
  grind
 have hF:∀ p u,G.F p=some u→w'.heap[p.block]?=w.heap[p.block]?:=fun p u h=>hkept.block _ (cell_block (ok.fw p u h)) fun hx=>ok.dF k _ _ p u hk hx h rfl
 refine ⟨{ G with fp:=fun i x=>if i=k then G.fp k x∨(w.heap.size≤x∧x<w'.heap.size) else G.fp i x },ok.sz,ok.df,fun i av x=>⟨(ok.tm i av x).1,(ok.tm i av x).2.1,(ok.tm i av x).2.2.mono (hle σ.nk) (ok.tm i av x).2.1⟩,ok.bel.on hkept fun x hx=>(ok.my k _ x hk hx).1,
  fun p u h=>(World.cell?_of_block (hF p u h)).trans (ok.fw p u h),ok.f0,ok.f1,?_,?_,?_,?_⟩
 ·intro k' o x
  rcases hl k' o x with⟨rfl,rfl⟩|⟨e,y⟩
  ·refine ⟨hob.1,trivial,?_⟩
   refine ⟨?_,?_⟩
   ·show (if k'=k' then G.fp k' (G.b k')∨_ else G.fp k' (G.b k'))
    rw [if_pos rfl];exact .inl hob.2.2.1
   ·show BldIs w' T _ (G.b k') (fun x=>if k'=k' then G.fp k' x∨(w.heap.size≤x∧x<w'.heap.size) else G.fp k' x) l'
    rw [show (fun x=>if k'=k' then G.fp k' x∨(w.heap.size≤x∧x<w'.heap.size) else G.fp k' x)=(fun x=>G.fp k' x∨(w.heap.size≤x∧x<w'.heap.size)) from funext fun x=>if_pos rfl]
    exact hb
  ·obtain ⟨h1,h2,h3⟩:=ok.ob k' o y
   exact ⟨h1,h2,h3.keep (hle σ.nk) h1 h2 (hfo k' e) fun x hx=>hkept.block x (ok.my k' o x y hx).2 fun hx2=>e (ok.dj k' o k _ x y hk hx hx2)⟩
 ·intro k' o x h1 h2
  rcases fpx k' o x h1 h2 with⟨o',y,h3⟩|⟨_,h3,h4⟩
  ·exact ⟨(ok.my k' o' x y h3).1,jr (ok.my k' o' x y h3).2 hkept.size⟩
  ·exact ⟨.inl (iD ok.bel.size h3),h4⟩
 ·intro k1 o1 k2 o2 x h1 h2 h3 h4
  rcases fpx k1 o1 x h1 h3 with⟨o1',y1,h5⟩|⟨e1,h5,_⟩
  ·rcases fpx k2 o2 x h2 h4 with⟨o2',y2,h6⟩|⟨e2,h6,_⟩
   ·exact ok.dj k1 o1' k2 o2' x y1 y2 h5 h6
   ·have:=(ok.my k1 o1' x y1 h5).2;omega
  ·rcases fpx k2 o2 x h2 h4 with⟨o2',y2,h6⟩|⟨e2,h6,_⟩
   ·have:=(ok.my k2 o2' x y2 h6).2;omega
   ·rw [e1,e2]
 ·intro k1 o1 x p u h1 h2 h3
  rcases fpx k1 o1 x h1 h2 with⟨o1',y1,h5⟩|⟨_,h5,_⟩
  ·exact ok.dF k1 o1' x p u y1 h5 h3
  ·have:=cell_block (ok.fw p u h3);omega
theorem Tr.bld (k:Nat) {T:TypeId} (e:TypeId) (hk:look k σ.M=some (.box T [.sc (.pointer none),.sc (.slice none 0 0)])):Tr C σ (σ.upd k (.bld T e [])):=fun G a w ok=>by
 obtain ⟨g1,g2,g3,cs,Φ,g4,g5,g6,g7,g8⟩:=ok.ob k _ hk
 have hs:cs.size=2:=g5
 have e0:cs[0]=.pointer none:=((g8 0 _ _ rfl (pq (by omega))).r rfl).sc_eq
 have e1:cs[1]=.slice none 0 0:=((g8 1 _ _ rfl (pq (by omega))).r rfl).sc_eq
 have ecs:cs=#[.pointer none,.slice none 0 0]:=by
  grind
 subst ecs
 exact ⟨G,ok.reob hk ⟨g1,trivial,g3,.pointer none,.slice none 0 0,.inl rfl,g4,World.ownsRowF_nil _ _ _ _,fun g hg=>by cases hg⟩⟩
theorem WO.bldW {f:FuncId} {k:Nat} {x y:Operand} {ts:Array TypeId} {T e:TypeId} {l s l':List UInt8} (ho:o.op=.call { callee:=.value (.func f),args:=#[x,y],argTypes:=ts }) (hc:∀ vs w,(callFunc f vs).run P w=.ok (.enter f vs) w)
  (hx:σ.ev x=some (.pt k 0 0)) (hk:look k σ.M=some (.bld T e l)) (hy:σ.ev y=some (.sc (.string (bs s)))) (hd:dstOk C.N o.dst=true) (h:BldW P f T e) (hl:l.length+s.length≤1000000000) (hl':l++s=l') :
  WO P C o σ ((σ.upd k (.bld T e l')).set o.dst (.tu [.sc (.int .i64 s.length),.sc .nilIface])):=by
 intro G a w ok N Q' hN
 subst hl'
 obtain ⟨p,ep,p1,p2,p3⟩:=(ok.evr hx).2.pt_of
 obtain ⟨h1,h2⟩:=(ok.ob k _ hk).2.2
 obtain rfl:=addr_eq p1 p2 p3
 rw [uG] at ep
 refine fU ?_
 have ev:a.eval (.func f)=.func (.func f) #[] #[]:=rfl
 have e3:(#[]++(#[x,y]:Array Operand).map a.eval++#[]:Array Value)=#[.pointer (some ⟨G.b k,0,none⟩),.string (bs s)]:=by simp [ep,ok.evs hy]
 simp only [ho,resolve,ev,Deferred.ofValue,invoke,Sem.run_bind,Sem.run_pure,Result.andThen_ok,hc,Oper.upon,e3]
 refine (h w (G.b k) (G.fp k) l s h1 h2 hl).mono fun r w1 ⟨he,hkept,hb⟩=>?_
 subst he
 obtain ⟨G',ok'⟩:=ok.bldCall hk hkept hb
 exact hN _ _ _ (ok'.set (.tu _ _ rfl fun i av u p q=>by
  match i with
  | 0=>cases p;cases q;exact .pu _ _ (.sc _)
  | 1=>cases p;cases q;exact .pu _ _ (.sc _)
  | i+2=>simp at p) (.tu _ fun i x hx=>by
  match i with
  | 0=>cases hx;exact .sc _
  | 1=>cases hx;exact .sc _
  | i+2=>simp at hx) (dstOk_of hd))
theorem WO.bldS {f:FuncId} {k:Nat} {x:Operand} {ts:Array TypeId} {T e:TypeId} {l:List UInt8} (ho:o.op=.call { callee:=.value (.func f),args:=#[x],argTypes:=ts }) (hc:∀ vs w,(callFunc f vs).run P w=.ok (.enter f vs) w)
  (hx:σ.ev x=some (.pt k 0 0)) (hk:look k σ.M=some (.bld T e l)) (hd:dstOk C.N o.dst=true) (h:BldS P f T e) (hl:l≠[]) :
  WO P C o σ ((σ.upd k (.bld T e l)).set o.dst (.sc (.string (bs l)))):=by
 intro G a w ok N Q' hN
 obtain ⟨p,ep,p1,p2,p3⟩:=(ok.evr hx).2.pt_of
 obtain ⟨h1,h2⟩:=(ok.ob k _ hk).2.2
 obtain rfl:=addr_eq p1 p2 p3
 rw [uG] at ep
 refine fU ?_
 have ev:a.eval (.func f)=.func (.func f) #[] #[]:=rfl
 have e3:(#[]++(#[x]:Array Operand).map a.eval++#[]:Array Value)=#[.pointer (some ⟨G.b k,0,none⟩)]:=by simp [ep]
 simp only [ho,resolve,ev,Deferred.ofValue,invoke,Sem.run_bind,Sem.run_pure,Result.andThen_ok,hc,Oper.upon,e3]
 refine (h w (G.b k) (G.fp k) l h1 h2 hl).mono fun r w1 ⟨he,hkept,hb⟩=>?_
 subst he
 obtain ⟨G',ok'⟩:=ok.bldCall hk hkept hb
 exact hN _ _ _ (ok'.set (.pu _ _ (.sc _)) (.sc _) (dstOk_of hd))
def bwV (σ:St) (f:FuncId):Op→Option (Nat×TypeId×TypeId×List UInt8×List UInt8)
 | .call { callee:=.value (.func g),args:=⟨[x,y]⟩,argTypes:=_ } =>
  match σ.ev x,σ.ev y with
  | some (.pt k 0 0),some (.sc (.string ⟨⟨s⟩⟩)) =>
   match look k σ.M with
   | some (.bld T e l)=>bif Nat.beq f g then some (k,T,e,l,s)else none
   | _=>none
  | _,_=>none
 | _=>none
def bsV (σ:St)(f:FuncId):Op→Option (Nat×TypeId×TypeId×List UInt8)
 | .call { callee:=.value (.func g),args:=⟨[x]⟩,argTypes:=_ } =>
  match σ.ev x with
  | some (.pt k 0 0) =>
   match look k σ.M with
   | some (.bld T e l)=>bif Nat.beq f g then some (k,T,e,l)else none
   | _=>none
  | _=>none
 | _=>none
variable {ops:Array Oper} {rest:List Oper} {Q:Exit→St→Prop}
theorem WL.bw {f:FuncId} {k:Nat} {T e:TypeId} {l s l':List UInt8} {t:List (Nat×AV)} {M M':List (Nat×AO)} {nk:Nat} (hd:dstB C.N o=some d) (hv:bwV ⟨t,M,nk⟩ f o.op=some (k,T,e,l,s)) (hM:remS k M=some M')
  (hc:∀ vs w,(callFunc f vs).run P w=.ok (.enter f vs) w) (h:BldW P f T e) (hl:l.length+s.length≤1000000000) (hl':l++s=l')
  (K:WL P C ops rest ⟨(d,.tu [.sc (.int .i64 s.length),.sc .nilIface])::t,(k,.bld T e l')::M',nk⟩ Q):WL P C ops (o::rest) ⟨t,M,nk⟩ Q:=by
 rw [remS_eq hM] at K
 clear hM
 obtain ⟨hg,hds,hdb⟩:=dstB_of hd
 refine WL.op hg ?_ K
 unfold bwV at hv
 split at hv
 ·rename_i g x y ts ho
  split at hv
  ·rename_i k' s' hx hy
   split at hv
   ·rename_i T' e' l2 hk
    cases hb:Nat.beq f g with
    | false=>rw [hb] at hv;cases hv
    | true =>
     rw [hb] at hv
     cases hv
     obtain rfl:=dQ hb
     have:=WO.bldW (σ:=⟨t,M,nk⟩) (s:=s) ho hc hx hk hy (by rw [hds];exact hdb) h hl hl'
     rw [hds] at this
     exact wo_rem this
   ·cases hv
  ·cases hv
 ·cases hv
theorem WL.bs {f:FuncId} {k:Nat} {T e:TypeId} {l:List UInt8} {t:List (Nat×AV)} {M M':List (Nat×AO)} {nk:Nat} (hd:dstB C.N o=some d) (hv:bsV ⟨t,M,nk⟩ f o.op=some (k,T,e,l)) (hM:remS k M=some M')
  (hc:∀ vs w,(callFunc f vs).run P w=.ok (.enter f vs) w) (h:BldS P f T e) (hl:l≠[])
  (K:WL P C ops rest ⟨(d,.sc (.string (bs l)))::t,(k,.bld T e l)::M',nk⟩ Q):WL P C ops (o::rest) ⟨t,M,nk⟩ Q:=by
 rw [remS_eq hM] at K
 clear hM
 obtain ⟨hg,hds,hdb⟩:=dstB_of hd
 refine WL.op hg ?_ K
 unfold bsV at hv
 split at hv
 ·rename_i g x ts ho
  split at hv
  ·rename_i k' hx
   split at hv
   ·rename_i T' e' l2 hk
    cases hb:Nat.beq f g with
    | false=>rw [hb] at hv;cases hv
    | true =>
     rw [hb] at hv
     cases hv
     obtain rfl:=dQ hb
     have:=WO.bldS (σ:=⟨t,M,nk⟩) ho hc hx hk (by rw [hds];exact hdb) h hl
     rw [hds] at this
     exact wo_rem this
   ·cases hv
  ·cases hv
 ·cases hv
end
def Ctg(B:World→View→Prop)(P:Program)(f:FuncId)(args:List AV)(res:AV):Prop :=
 ∀ (w:World)(F:View)(vs:List Value),B w F→(∀ p u,F p=some u→w.cell? p=some u)→RL F args vs →
  Calls P f vs.toArray w fun e w'=>∃ v F',e=.returned v∧Below w.heap.size w w'∧View.le F F'∧(∀ p u,F' p=some u→w'.cell? p=some u)∧(∀ p u,F' p=some u→F p=some u∨w.heap.size≤p.block)∧RP F' res v
def Stab(B:World→View→Prop)(g:Nat):Prop:=(∀ w F,B w F→g≤w.heap.size)∧∀ w w' F F',(∀ i,i<g→w'.heap[i]?=w.heap[i]?)→View.le F F'→B w F→B w' F'
def Holds(B:World→View→Prop)(g:Nat)(C:Cx):Prop:=(∀ w F,Kept C.fp C.w0 w→C.F0.le F→B w F)∧∀ x,C.may x→g≤x
theorem Ctr.g {B:World→View→Prop} {P:Program} {f:FuncId} {args:List AV} {res:AV} (h:Ctr P f args res):Ctg B P f args res:=fun w F vs _ hF hR=>h w F vs hF hR
theorem Ctg.intro {B:World→View→Prop} {g:Nat} (hS:Stab B g) {P:Program} {f:FuncId} {fn:Func} {c:Code} {args:List AV} {res:AV} (hf:P.funcs[f]?=some fn) (hb:fn.body=some c) {N:Nat} (hN:fn.ntmps=N) (hn:args.length≤N) (hp:∀ (i:Nat) av,args[i]?=some av→Bd 0 av)
  (h:∀ w0 F0,Holds B g ⟨w0,F0,N,fun _=>False,0,G0,[]⟩→W P ⟨w0,F0,N,fun _=>False,0,G0,[]⟩ c (St.init args) (QFin P fn ⟨w0,F0,N,fun _=>False,0,G0,[]⟩ res)):Ctg B P f args res:=by
 intro w F vs hB hF hR
 subst hN
 refine calls_of_wp hf hb ?_
 have hsz:vs.toArray.size=args.length:=by simpa using hR.1
 have h1:=h w F ⟨fun w2 F2 k1 k2=>hS.2 w w2 F F2 (fun i hi=>k1.block i (jr hi (hS.1 w F hB)) fun h=>h) k2 hB,fun x hx=>hx.elim (fun h=>iD (hS.1 w F hB) h) fun h=>h.elim⟩ ⟨F,fun _=>0,fun _=>0,fun _=>undef,fun _ _=>False⟩ { tmps:=vs.toArray++Array.replicate (fn.ntmps - vs.toArray.size) undef,defers:=[] } w
  ⟨by simp_all,⟨rfl,Nat.le_refl _,fun k hk=>absurd hk (ED k)⟩,fun i av hx=>by
   obtain ⟨_,h2⟩:=look_number args 0 i av hx
   simp only [EW] at h2
   have hi:i < args.length:=(List.getElem?_eq_some_iff.1 h2).1
   have hv:i < vs.length:=by rw [hR.1];exact hi
   refine ⟨by grind,hp i av h2,.pu _ _ (hR.2 i av _ h2 ?_)⟩
   simp_all[yL],
   Kept.refl _ _,hF,fun _ _ h=>h,fun _ _ h=>.inl h,(fun k o h=>by cases h),(fun k o x h=>by cases h),(fun k o k' o' x h=>by cases h),(fun k o x p u h=>by cases h)⟩
 refine wp_mono h1 fun e a w' ⟨σ,G,⟨he,hfin⟩,ok⟩=>?_
 obtain ⟨v,F',hr,hle,hfw,hnew,hres⟩:=hfin G a w' ok
 rcases he with rfl|rfl
 ·exact Xa
 ·exact Xa
section
variable {B:World→View→Prop} {gl:Nat} {P:Program} {C:Cx} {ops:Array Oper} {rest:List Oper} {σ σ':St} {G G':Gh} {a:Act} {w w':World} {o:Oper} {d:Tmp} {Q:Exit→St→Prop}
theorem WV.callG (hB:Holds B gl C) {f:FuncId} {xs:Array Operand} {ts:Array TypeId} {args:List AV} {res:AV} (ho:o.op=.call { callee:=.value (.func f),args:=xs,argTypes:=ts }) (hc:∀ vs w,(callFunc f vs).run P w=.ok (.enter f vs) w)
  (hx:σ.evs xs.toList=some args) (hp:args.all AV.pu2=true) (h:Ctg B P f args res):WV P C o σ res:=by
 intro G a w ok N Q' hN
 obtain ⟨e1,e2⟩:=ok.evl hx
 have hcalls:=h w G.F (xs.toList.map a.eval) (hB.1 w G.F ok.bel ok.f0) ok.fw ⟨e1,fun i av u p q=>(pu2_bd (List.all_eq_true.1 hp av (aY p)) 0).rp (e2 i av u p q)⟩
 refine fU ?_
 have ev:a.eval (.func f)=.func (.func f) #[] #[]:=rfl
 have e3:(#[]++xs.map a.eval++#[]:Array Value)=(xs.toList.map a.eval).toArray:=by apply uI;simp
 simp only [ho,resolve,ev,Deferred.ofValue,invoke,Sem.run_bind,Sem.run_pure,Result.andThen_ok,hc,Oper.upon,e3]
 refine hcalls.mono fun e w1 ⟨v,F',he,hb,h1,h2,h3,h4⟩=>?_
 subst he
 exact hN v _ w1 (fun σ'' a'' ok''=>ok''.called hb h1 h2 h3) (.pu _ _ h4) (h4.bd _)
def divV (σ:St):Op→Option (Prop×Int)
 | .binOp .quo _ x y _ =>
  match σ.ev x,σ.ev y with
  | some (.sc (.int .i64 m)),some (.sc (.int .i64 n))=>some ((0≤m∧m≤9223372036854775807)∧0<n,m/n)
  | _,_=>none
 | .binOp .rem _ x y _ =>
  match σ.ev x,σ.ev y with
  | some (.sc (.int .i64 m)),some (.sc (.int .i64 n))=>some ((0≤m∧m≤9223372036854775807)∧0<n,m % n)
  | _,_=>none
 | _=>none
theorem divV_of {φ:Prop} {z:Int} (h:divV σ o.op=some (φ,z))(hφ:φ):WV P C o σ (.sc (.int .i64 z)):=by
 unfold divV at h
 split at h
 ·rename_i T x y Ty ho
  split at h
  ·rename_i m n h1 h2
   cases h
   obtain⟨⟨h3,h4⟩,h5⟩:=hφ
   have e:IntKind.i64.wrap (m/n)=m/n:=I64.wrap (by
    have:=Int.ediv_le_self n h3
    have:=Int.ediv_nonneg h3 (Int.le_of_lt h5)
    unfold I64;omega)
   exact WV.sc fun G a w ok=>by unfold execOp;simp [ho,ok.evs h1,ok.evs h2,eqGuard,binOp,Op.intDiv,Int.tdiv_eq_ediv_of_nonneg h3,show ¬ n=0 by omega,e]
  ·cases h
 ·rename_i T x y Ty ho
  split at h
  ·rename_i m n h1 h2
   cases h
   obtain⟨⟨h3,h4⟩,h5⟩:=hφ
   exact WV.sc fun G a w ok=>by unfold execOp;simp [ho,ok.evs h1,ok.evs h2,eqGuard,binOp,Op.intDiv,Int.tmod_eq_emod_of_nonneg h3,show ¬ n=0 by omega]
  ·cases h
 ·cases h
theorem WL.div {φ:Prop} {z:Int} (hd:dstB C.N o=some d)(h:divV σ o.op=some (φ,z))(hφ:φ)(k:WL P C ops rest (σ.put d (.sc (.int .i64 z))) Q):WL P C ops (o::rest) σ Q:=WL.vl hd (divV_of h hφ) k
def negV (σ:St):Op→Option (Prop×Int)
 | .unOp .neg _ x =>
  match σ.ev x with
  | some (.sc (.int .i64 m))=>some (I64 (0-m),0-m)
  | _=>none
 | _=>none
theorem negV_of {φ:Prop} {z:Int} (h:negV σ o.op=some (φ,z))(hφ:φ):WV P C o σ (.sc (.int .i64 z)):=by
 unfold negV at h
 split at h
 ·rename_i T x ho
  split at h
  ·rename_i m h1
   cases h
   exact WV.sc fun G a w ok=>by unfold execOp;have hw:=I64.wrap hφ;simp [ho,ok.evs h1,Op.unary,Op.intArith];simpa using hw
  ·cases h
 ·cases h
theorem WL.neg {φ:Prop} {z:Int} (hd:dstB C.N o=some d)(h:negV σ o.op=some (φ,z))(hφ:φ)(k:WL P C ops rest (σ.put d (.sc (.int .i64 z))) Q):WL P C ops (o::rest) σ Q:=WL.vl hd (negV_of h hφ) k
theorem run_indexA {T e n len:Nat} (hT:P.underlying T=some (.array len e)) (hn:sizeB P e=some n) (ad:Addr) (k:IntKind) (z:Int) (h0:0≤z) (h1:z<len) :
  (Instr.indexAt T (.pointer (some ad)) (.int k z)).run P w=.ok (.pointer (some (ad.add (z.toNat*n)))) w:=by
 simp [Instr.indexAt,asIntOf,run_underlying hT,Instr.sureAddr,h0,h1,run_sizeB hn]
def idaV (P:Program)(σ:St):Op→Option (AV×Nat×Nat×Int)
 | .indexAddr T x y =>
  match P.underlying T,σ.ev x,σ.ev y with
  | some (.array len e),some av,some (.sc (.int _ z)) =>
   match sizeB P e with
   | some n=>some (av,len,n,z)
   | none=>none
  | _,_,_=>none
 | _=>none
theorem idaV_run {av:AV} {len n:Nat} {z:Int} (h:idaV P σ o.op=some (av,len,n,z))(h0:0≤z∧z<len) {av':AV} (hb:∀ nk,Bd nk av→Bd nk av')
  (hr:∀ G a w,Ok C σ G a w→∀ v,R G av v→∃ ad,v=.pointer (some ad)∧R G av' (.pointer (some (ad.add (z.toNat*n))))):WV P C o σ av':=by
 unfold idaV at h
 split at h
 ·rename_i T x y ho
  split at h
  ·rename_i len' e av' k z' hT hx hy
   split at h
   ·rename_i m hn
    cases h
    refine WV.val (fun G a w ok=>hb _ (ok.evr hx).1) fun G a w ok=>?_
    obtain⟨ad,e1,e2⟩:=hr G a w ok _ (ok.evr hx).2
    exact⟨_,by unfold execOp;simp [ho,e1,ok.evs hy,run_indexA hT hn ad k z h0.1 h0.2],e2⟩
   ·cases h
  ·cases h
 ·cases h
theorem WL.glob (hB:Holds B gl C) {g len:Nat} {z:Int} {u:Value} (hd:dstB C.N o=some d) (h:idaV P σ o.op=some (.sc (.pointer (some ⟨g,0,none⟩)),len,1,z)) (h0:0≤z∧z<len) (hu:∀ w F,B w F→F ⟨g,z.toNat,none⟩=some u) (h1:u.oneCell'=true)
  (k:WL P C ops rest (σ.put d (.pr [.sc u])) Q):WL P C ops (o::rest) σ Q :=
 WL.vl hd (idaV_run h h0 (fun nk _=>.pr _) fun G a w ok v r=>⟨⟨g,0,none⟩,r.sc_eq,.pu _ _ (.pr _ _ (fun _=>u) (fun j av hj=>by
  match j with
  | 0 =>
   exact adR
  | j+1=>simp at hj) fun j av hj=>by
  match j with
  | 0=>cases hj;exact .sc _
  | j+1=>simp at hj)⟩) k
theorem DK.glob (hB:Holds B gl C) {g len:Nat} {z:Int} {u:Value} (hd:dstD C.N ops σ o=some d) (h:idaV P (σ.only (o.looksAt ops)) o.op=some (.sc (.pointer (some ⟨g,0,none⟩)),len,1,z)) (h0:0≤z∧z<len) (hu:∀ w F,B w F→F ⟨g,z.toNat,none⟩=some u) (h1:u.oneCell'=true)
  (k:DK P C ops rest (σ.put d (.pr [.sc u])) Q):DK P C ops (o::rest) σ Q :=
 DK.vl hd (idaV_run h h0 (fun nk _=>.pr _) fun G a w ok v r=>⟨⟨g,0,none⟩,r.sc_eq,.pu _ _ (.pr _ _ (fun _=>u) (fun j av hj=>by
  match j with
  | 0 =>
   exact adR
  | j+1=>simp at hj) fun j av hj=>by
  match j with
  | 0=>cases hj;exact .sc _
  | j+1=>simp at hj)⟩) k
end
def resOne (tmps:Array Value):ResultVar→Sem Value
 | .tmp t=>pure (tmps.getD t undef)
 | .cell a t=>do loadVar t (← asAddr (tmps.getD a undef))
def resV (P:Program)(σ:St):ResultVar→Option AV
 | .tmp t=>look t σ.t
 | .cell t T =>
  match look t σ.t with
  | some (.pt k 0 0) =>
   match look k σ.M,aggB P T with
   | some (.box T' cells),some true =>
    match sizeB P T with
    | some n=>bif Nat.beq cells.length n then some (.ag cells)else none
    | none=>none
   | _,_=>none
  | _=>none
def resL (P:Program)(σ:St):List ResultVar→Option (List AV)
 | []=>some []
 | r::l =>
  match resV P σ r,resL P σ l with
  | some a,some b=>some (a::b)
  | _,_=>none
section
variable {P:Program} {C:Cx} {σ:St} {G:Gh} {a:Act} {w:World}
theorem resV_of (ok:Ok C σ G a w) {r:ResultVar} {av:AV} (h:resV P σ r=some av)(hp:av.pu2=true):∃ v,(resOne a.tmps r).run P w=.ok v w∧RP G.F av v:=by
 cases r with
 | tmp t=>exact⟨a.tmps.getD t undef,rfl,(pu2_bd hp 0).rp (ok.tm t _ h).2.2⟩
 | cell t T =>
  simp only [resV] at h
  split at h
  ·rename_i k ht
   split at h
   ·rename_i T' cells hk hT
    split at h
    ·rename_i n hn
     cases hb:Nat.beq cells.length n with
     | false=>rw [hb] at h;cases h
     | true =>
      rw [hb] at h
      cases h
      obtain⟨p,ep,p1,p2,p3⟩:=(ok.tm t _ ht).2.2.pt_of
      obtain⟨_,_,g3,cs,Φ,g4,g5,_,_,g6⟩:=ok.ob k _ hk
      obtain rfl:=addr_eq p1 p2 p3
      rw [uG,mJ] at ep
      have hpc:cells.all AV.pu0=true:=hp
      refine⟨.agg cs,?_,.ag _ _ g5 fun i av u x y=>(pu0_bd (List.all_eq_true.1 hpc av (aY x)) 0).rp ((g6 i av u x y).r (pu0_own (List.all_eq_true.1 hpc av (aY x))))⟩
      exact aiL
    ·cases h
   ·cases h
  ·cases h
theorem resL_of (ok:Ok C σ G a w):∀ {l:List ResultVar} {avs:List AV},resL P σ l=some avs→avs.all AV.pu2=true→∃ vs:List Value,(l.mapM (resOne a.tmps)).run P w=.ok vs w∧vs.length=avs.length∧∀ (i:Nat)av u,avs[i]?=some av→vs[i]?=some u→RP G.F av u
 | [],avs,h,_=>by cases h;exact ⟨[],rfl,rfl,fun i av u x=>by simp at x⟩
 | r::l,avs,h,hp=>by
  cases h1:resV P σ r with
  | none=>simp only [resL,h1]at h;cases h
  | some x =>
  cases h2:resL P σ l with
  | none=>simp only [resL,h1,h2]at h;cases h
  | some y =>
   simp only [resL,h1,h2,Option.some.injEq]at h
   subst h
   simp only [List.all_cons,dw]at hp
   obtain ⟨v,e1,e2⟩:=resV_of ok h1 hp.1
   obtain ⟨vs,f1,f2,f3⟩:=resL_of ok h2 hp.2
   exact ai0
theorem finN {fn:Func} {avs:List AV} {res:AV} (h:resL P σ fn.results.toList=some avs)(hp:avs.all AV.pu2=true)(hl:Nat.beq avs.length 1=false)(e:.tu avs=res):QFin P fn C res .ret σ:=by
 refine⟨.inr rfl,fun G a w ok=>?_⟩
 subst e
 obtain⟨vs,e1,e2,e3⟩:=resL_of ok h hp
 exact aiN
end
end
end Go.Proofs.YthohlofpphjofaaGreatDoor
