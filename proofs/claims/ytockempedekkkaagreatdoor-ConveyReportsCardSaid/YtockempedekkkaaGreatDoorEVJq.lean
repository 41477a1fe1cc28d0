/- A walk that knows values as trees: operations without conditions are carried out by computing. -/
import Derived.Test.YtockempedekkkaaGreatDoorMkPJq
set_option linter.unusedVariables false
set_option linter.unusedSimpArgs false
namespace Go.Proofs.YtockempedekkkaaGreatDoor
open Go.RowKit
def remS {α:Type} (k:Nat):List (Nat×α)→Option (List (Nat×α))
 | []=>some []
 | x::r =>
  match remS k r with
  | some r'=>bif Nat.beq k x.1 then some r' else some (x::r')
  | none=>none
theorem remS_eq {α:Type} {k:Nat}:∀ {l l':List (Nat×α)},remS k l=some l'→l'=rem k l
 | [],l',h=>by cases h;rfl
 | x::r,l',h=>by
  unfold remS at h
  split at h
  ·rename_i r' h2
   have:=remS_eq h2
   subst this
   unfold rem
   cases hb:Nat.beq k x.1 with
   | true=>rw [hb]at h;cases h;rfl
   | false=>rw [hb]at h;cases h;rfl
  ·cases h
def boolB(P:Program)(T:TypeId):Bool :=
 match P.underlying T with
 | some .bool=>true
 | _=>false
theorem boolB_of {P:Program} {T:TypeId} (h:boolB P T=true):P.underlying T=some .bool:=by
 unfold boolB at h
 split at h
 ·assumption
 ·cases h
def cmpI (op:BinOp)(m n:Int):Option Value :=
 match op with
 | .lss=>some (.bool (decide (m<n)))
 | .leq=>some (.bool (decide (m≤n)))
 | .gtr=>some (.bool (decide (n<m)))
 | .geq=>some (.bool (decide (n≤m)))
 | .eql=>some (.bool (decide (m=n)))
 | .neq=>some (.bool (!decide (m=n)))
 | _=>none
def cmpB (op:BinOp)(b c:Bool):Option Value :=
 match op with
 | .eql=>some (.bool (b == c))
 | .neq=>some (.bool (!(b == c)))
 | _=>none
def cmpS (op:BinOp)(s t:List UInt8):Option Value :=
 match op with
 | .eql=>some (.bool (s == t))
 | .neq=>some (.bool (!(s == t)))
 | _=>none
def cmpV(P:Program) (op:BinOp) (T:TypeId):Value→Value→Option Value
 | .string ⟨⟨s⟩⟩,.string ⟨⟨t⟩⟩=>cmpS op s t
 | .int j m,.int k n =>
  match decEq j k with
  | isTrue _=>cmpI op m n
  | isFalse _=>none
 | .bool b,.bool c=>bif boolB P T then cmpB op b c else none
 | _,_=>none
def pickV:AV→AV→AV→Option AV
 | .sc (.bool b),.sc u,.sc v=>some (.sc (bif b then u else v))
 | .sc (.bool true),x,_=>some x
 | .sc (.bool false),_,y=>some y
 | _,_,_=>none
def takeE:Nat→List AV→Option (List AV)
 | 0,_=>some []
 | n+1,x::r =>
  match takeE n r with
  | some l=>some (x::l)
  | none=>none
 | _+1,[]=>none
theorem takeE_of:∀ {n:Nat} {l l':List AV},takeE n l=some l'→l.take n=l'∧l'.length=n
 | 0,l,l',h=>by cases h;simp
 | n+1,[],l',h=>by cases h
 | n+1,x::r,l',h=>by
  unfold takeE at h
  split at h
  ·rename_i l2 h2
   cases h
   obtain⟨a,b⟩:=takeE_of h2
   simp [a,b]
  ·cases h
def takeV (P:Program)(T:TypeId)(l:List AV):Option AV :=
 match aggB P T with
 | some false =>
  match l with
  | av::_=>some av
  | []=>none
 | some true =>
  match sizeB P T with
  | some n =>
   match takeE n l with
   | some l'=>some (.ag l')
   | none=>none
  | none=>none
 | none=>none
def ownB:AV→Bool
 | .ow _ _ _=>true
 | .ag l=>l.any AV.own
 | _=>false
def takeO(P:Program)(T:TypeId)(l:List AV):Option AV :=
 match takeV P T l with
 | some av =>
  match ownB av with
  | false=>some av
  | true=>none
 | none=>none
theorem takeO_of {P:Program} {T:TypeId} {l:List AV} {av:AV} (h:takeO P T l=some av):takeV P T l=some av∧ownB av=false:=by
 unfold takeO at h
 split at h
 ·rename_i h1
  split at h
  ·rename_i h2;cases h;exact⟨h1,h2⟩
  ·cases h
 ·cases h
theorem ownB_own {av:AV} (h:ownB av=false):av.own=false:=by cases av<;>first|rfl|cases h
theorem ownB_all {l:List AV} (h:ownB (.ag l)=false):(l.all fun av=>!av.own)=true:=by
 rw [List.all_eq_true]
 intro x hx
 have h:l.any AV.own=false:=h
 rw [List.any_eq_false]at h
 simpa using h x hx
def loadV(P:Program)(σ:St)(T:TypeId):AV→Option AV
 | .pt k i j =>
  match look k σ.M with
  | some ob =>
   match ob.from_ i j with
   | some l=>takeO P T l
   | none=>none
  | none=>none
 | .pr cells=>takeV P T cells
 | _=>none
def nthL {α:Type}:List α→Nat→Option α
 | [],_=>none
 | x::_,0=>some x
 | _::r,n+1=>nthL r n
theorem nthL_eq {α:Type}:∀ (l:List α)(n:Nat),nthL l n=l[n]?
 | [],n=>by simp [nthL]
 | x::r,0=>by simp [nthL]
 | x::r,n+1=>by simp [nthL,nthL_eq r n]
def dropE {α:Type}:Nat→List α→List α
 | 0,l=>l
 | _+1,[]=>[]
 | n+1,_::r=>dropE n r
theorem dropE_eq {α:Type}:∀ (n:Nat)(l:List α),dropE n l=l.drop n
 | 0,l=>by simp [dropE]
 | n+1,[]=>by simp [dropE]
 | n+1,x::r=>by simp [dropE,dropE_eq n r]
def fldE (P:Program)(T i:Nat):Option Nat :=
 match P.underlying T with
 | some (.struct fs) =>
  match nthL fs.toList i with
  | some f=>bif Nat.beq (P.cellsOf f.type) 0 then none else some f.offset
  | none=>none
 | _=>none
theorem fldE_of {P:Program} {T i off:Nat} (h:fldE P T i=some off):fldB P T i=some off:=by
 unfold fldE at h
 unfold fldB
 split at h
 ·rename_i fs hu
  rw [nthL_eq] at h
  rw [show fs.toList[i]?=fs[i]? by simp] at h
  split at h
  ·rename_i f hf
   try rw [hu]
   try simp only [hf]
   cases hb:Nat.beq (P.cellsOf f.type) 0 with
   | true=>rw [hb] at h;cases h
   | false =>
    rw [hb] at h
    rw [if_neg (fun e=>by rw [e] at hb;cases hb)]
    exact h
  ·cases h
 ·cases h
def fldV (P:Program)(T i:Nat):AV→Option AV
 | .pt k r j =>
  match fldE P T i with
  | some off=>some (.pt k r (j+off))
  | none=>none
 | .pr cells =>
  match fldE P T i with
  | some off=>some (.pr (dropE off cells))
  | none=>none
 | _=>none
def stepV (P:Program) (σ:St):Op→Option AV
 | .move x=>σ.ev x
 | .assign x=>σ.ev x
 | .pick c x y =>
  match σ.ev c,σ.ev x,σ.ev y with
  | some ac,some ax,some ay=>pickV ac ax ay
  | _,_,_=>none
 | .binOp op T x y _ =>
  match σ.ev x,σ.ev y with
  | some (.sc u),some (.sc v) =>
   match cmpV P op T u v with
   | some r=>some (.sc r)
   | none=>none
  | _,_=>none
 | .unOp .not _ x =>
  match σ.ev x with
  | some (.sc (.bool b))=>some (.sc (.bool (!b)))
  | _=>none
 | .extract x i =>
  match σ.ev x with
  | some (.tu l)=>l[i]?
  | _=>none
 | .fieldAddr T x i =>
  match σ.ev x with
  | some av=>fldV P T i av
  | none=>none
 | .load T x =>
  match σ.ev x with
  | some av=>loadV P σ T av
  | none=>none
 | .build T parts =>
  match (P.info? T).bind (·.zero),placesB P T,σ.evs (parts.toList.map (·.2))with
  | some z,some places,some avs =>
   match fillA places (z.cells.toList.map .sc) (pairUp parts.toList avs)with
   | some l=>some (.ag l)
   | none=>none
  | _,_,_=>none
 | _=>none
section
variable {P:Program} {C:Cx} {σ σ':St} {o:Oper} {d:Tmp} {av:AV}
theorem cmpV_of {op:BinOp} {T Ty:TypeId} {x y:Operand} {u v r:Value} (ho:o.op=.binOp op T x y Ty) (hx:σ.ev x=some (.sc u)) (hy:σ.ev y=some (.sc v)) (h:cmpV P op T u v=some r):WV P C o σ (.sc r):=by
 unfold cmpV at h
 split at h
 ·rename_i s t
  unfold cmpS at h
  split at h<;>first|cases h|skip
  ·exact WV.seq_ (s:=s) (t:=t) ho hx hy
  ·exact WV.sne (s:=s) (t:=t) ho hx hy
 ·split at h
  ·rename_i e _
   subst e
   unfold cmpI at h
   split at h<;>first|cases h|skip
   ·exact WV.lss ho hx hy
   ·exact WV.leq ho hx hy
   ·exact WV.gtr ho hx hy
   ·exact WV.geq ho hx hy
   ·exact WV.eql ho hx hy
   ·exact WV.neq ho hx hy
  ·cases h
 ·rename_i b c
  cases hb:boolB P T with
  | false=>rw [hb] at h;cases h
  | true =>
   rw [hb] at h
   simp only [cond_true] at h
   unfold cmpB at h
   split at h<;>first|cases h|skip
   ·exact WV.beq ho (boolB_of hb) hx hy
   ·exact WV.bne ho (boolB_of hb) hx hy
 ·cases h
theorem pickV_of {c x y:Operand} {ac ax ay:AV} (ho:o.op=.pick c x y) (hc:σ.ev c=some ac) (hx:σ.ev x=some ax) (hy:σ.ev y=some ay) (h:pickV ac ax ay=some av):WV P C o σ av:=by
 unfold pickV at h
 split at h
 ·rename_i b u v
  cases h
  have:=WV.pickS (P:=P) (C:=C) ho hc hx hy
  cases b<;>exact this
 ·cases h;exact WV.pickT ho hc hx
 ·cases h;exact WV.pickF ho hc hy
 ·cases h
theorem loadV_of {T:TypeId} {x:Operand} {a:AV} (ho:o.op=.load T x)(hx:σ.ev x=some a)(h:loadV P σ T a=some av):WV P C o σ av:=by
 unfold loadV at h
 split at h
 ·rename_i k i j
  split at h
  ·rename_i ob hk
   split at h
   ·rename_i l hf
    obtain⟨h,hob⟩:=takeO_of h
    unfold takeV at h
    split at h
    ·rename_i hT
     split at h
     ·rename_i a r
      cases h
      exact WV.load1 ho hT hx hk hf rfl (ownB_own hob)
     ·cases h
    ·rename_i hT
     split at h
     ·rename_i n hn
      split at h
      ·rename_i l' hl
       cases h
       obtain⟨e1,e2⟩:=takeE_of hl
       exact WV.loadN ho hT hn hx hk hf e1 e2 (ownB_all hob)
      ·cases h
     ·cases h
    ·cases h
   ·cases h
  ·cases h
 ·rename_i cells
  unfold takeV at h
  split at h
  ·rename_i hT
   split at h
   ·rename_i a r
    cases h
    exact WV.load1R ho hT hx rfl
   ·cases h
  ·rename_i hT
   split at h
   ·rename_i n hn
    split at h
    ·rename_i l' hl
     cases h
     obtain⟨e1,e2⟩:=takeE_of hl
     exact WV.loadNR ho hT hn hx e1 e2
    ·cases h
   ·cases h
  ·cases h
 ·cases h
theorem fldV_of {T:TypeId} {i:Nat} {x:Operand} {a:AV} (ho:o.op=.fieldAddr T x i)(hx:σ.ev x=some a)(h:fldV P T i a=some av):WV P C o σ av:=by
 unfold fldV at h
 split at h
 ·split at h
  ·rename_i off hf;cases h;exact WV.fieldP ho (fldE_of hf) hx
  ·cases h
 ·split at h
  ·rename_i off hf;cases h;rw [dropE_eq];exact WV.fieldR ho (fldE_of hf) hx
  ·cases h
 ·cases h
theorem stepV_of {op:Op} (ho:o.op=op)(h:stepV P σ op=some av):WV P C o σ av:=by
 unfold stepV at h
 split at h
 ·exact WV.move ho h
 ·exact WV.assign ho h
 ·split at h
  ·rename_i h1 h2 h3;exact pickV_of ho h1 h2 h3 h
  ·cases h
 ·split at h
  ·rename_i h1 h2
   split at h
   ·rename_i r hr;cases h;exact cmpV_of ho h1 h2 hr
   ·cases h
  ·cases h
 ·split at h
  ·rename_i b h1;cases h;exact WV.not ho h1
  ·cases h
 ·split at h
  ·rename_i l h1;exact WV.extract ho h1 h
  ·cases h
 ·split at h
  ·rename_i a h1;exact fldV_of ho h1 h
  ·cases h
 ·split at h
  ·rename_i a h1;exact loadV_of ho h1 h
  ·cases h
 ·split at h
  ·rename_i h1 h2 h3
   split at h
   ·rename_i l hl;cases h;exact WV.build ho h1 h2 h3 hl
   ·cases h
  ·cases h
 ·cases h
end
def storeE (P:Program)(M:List (Nat×AO))(T:TypeId):AV→AV→Option (Nat×AO)
 | .pt k i j,av =>
  match sizeB P T,look k M with
  | some m,some ob =>
   bif av.cellB && Nat.beq av.cells.length m && av.cells.all AV.oneB then
    match ob.put i j av.cells with
    | some ob'=>some (k,ob')
    | none=>none
   else none
  | _,_=>none
 | _,_=>none
def buildE (P:Program)(σ:St)(T:TypeId)(m:Nat)(parts:List (Nat×Operand)):Option AO :=
 match P.underlying T with
 | some (.slice e) =>
  match sizeB P e,(P.info? e).bind (·.zero),σ.evs (parts.map (·.2)) with
  | some n,some _,some avs =>
   bif numB 0 parts && Nat.beq parts.length m && Nat.ble (m*n) 16777216 && Nat.ble m 16777216 && rowsB n avs then some (.row e n (avs.map AV.cells)) else none
  | _,_,_=>none
 | _=>none
theorem wo_rem {P:Program} {C:Cx} {σ:St} {o:Oper} {t:List (Nat×AV)} {M:List (Nat×AO)} {nk k:Nat} {ob:AO} (h:WO P C o σ ⟨t,(k,ob)::M,nk⟩):WO P C o σ ⟨t,(k,ob)::rem k M,nk⟩:=fun G a w ok N Q' hN =>
 h G a w ok N Q' fun G' a' w' ok'=>hN G' a' w' (by
  have hl:∀ i,look i ((k,ob)::rem k M)=look i ((k,ob)::M):=fun i=>by
   by_cases e:i=k
   ·subst e;rw [look_set_same,look_set_same]
   ·rw [look_set_other e,look_set_other e,look_rem,if_neg e]
  exact ⟨ok'.sz,ok'.df,ok'.tm,ok'.bel,ok'.fw,ok'.f0,ok'.f1,fun i x hx=>ok'.ob i x (by rw [← hl];exact hx),fun i x y hx=>ok'.my i x y (by rw [← hl];exact hx),fun i x i' x' y hx hx'=>ok'.dj i x i' x' y (by rw [← hl];exact hx) (by rw [← hl];exact hx'),fun i x y p u hx=>ok'.dF i x y p u (by rw [← hl];exact hx)⟩)
def opE (P:Program) (N:Nat) (t:List (Nat×AV)) (M:List (Nat×AO)) (nk:Nat) (o:Oper):Option (List (Nat×AV)×List (Nat×AO)×Nat) :=
 match o.guard with
 | some _=>none
 | none =>
  match o.dst with
  | none =>
   match o.op with
   | .store T x y =>
    match (⟨t,M,nk⟩:St).ev x,(⟨t,M,nk⟩:St).ev y with
    | some ax,some ay =>
     match storeE P M T ax ay with
     | some (k,ob) =>
      match remS k M with
      | some M'=>some (t,(k,ob)::M',nk)
      | none=>none
     | none=>none
    | _,_=>none
   | _=>none
  | some d =>
   bif Nat.blt d N then
    match o.op with
    | .box T x =>
     match (⟨t,M,nk⟩:St).ev x with
     | some av=>bif av.cellB then some ((d,.pt nk 0 0)::t,(nk,.box T av.cells)::M,nk+1) else none
     | none=>none
    | .alloc T =>
     match (P.info? T).bind (·.zero) with
     | some z=>some ((d,.pt nk 0 0)::t,(nk,.box T (z.cells.toList.map .sc))::M,nk+1)
     | none=>none
    | .buildSlice T m parts =>
     match buildE P ⟨t,M,nk⟩ T m parts.toList with
     | some ob=>some ((d,.sl nk)::t,(nk,ob)::M,nk+1)
     | none=>none
    | op =>
     match stepV P ⟨t,M,nk⟩ op with
     | some av=>some ((d,av)::t,M,nk)
     | none=>none
   else none
theorem opE_of {P:Program} {C:Cx} {t t':List (Nat×AV)} {M M':List (Nat×AO)} {nk nk':Nat} {o:Oper} (h:opE P C.N t M nk o=some (t',M',nk')):o.guard=none∧WO P C o ⟨t,M,nk⟩ ⟨t',M',nk'⟩:=by
 unfold opE at h
 split at h
 ·cases h
 ·rename_i hg
  refine ⟨hg,?_⟩
  split at h
  ·rename_i hds
   split at h
   ·rename_i T x y ho
    split at h
    ·rename_i ax ay hx hy
     split at h
     ·rename_i k ob hst
      split at h
      case h_2=>cases h
      rename_i M1 hM1
      cases h
      rw [remS_eq hM1]
      unfold storeE at hst
      split at hst
      ·rename_i k i j
       split at hst
       ·rename_i m ob0 hm hk
        cases hb:ay.cellB && Nat.beq ay.cells.length m && ay.cells.all AV.oneB with
        | false=>rw [hb] at hst;cases hst
        | true =>
         rw [hb] at hst
         simp only [cond_true] at hst
         simp only [Bool.and_eq_true] at hb
         split at hst
         ·rename_i ob' hp
          cases hst
          exact wo_rem (WO.store (σ:=⟨t,M,nk⟩) ho hds hm hx hk hy hb.1.1 rfl (Nat.eq_of_beq_eq_true hb.1.2) hb.2 hp)
         ·cases hst
       ·cases hst
      ·cases hst
     ·cases h
    ·cases h
   ·cases h
  ·rename_i d hds
   cases hd:Nat.blt d C.N with
   | false=>rw [hd] at h;cases h
   | true =>
    rw [hd] at h
    simp only [cond_true] at h
    split at h
    ·rename_i T x ho
     split at h
     ·rename_i av hx
      cases hB:av.cellB with
      | false=>rw [hB] at h;cases h
      | true =>
       rw [hB] at h
       cases h
       exact WO.box (σ:=⟨t,M,nk⟩) ho hds hd hx hB rfl rfl
     ·cases h
    ·rename_i T ho
     split at h
     ·rename_i z hz
      cases h
      exact WO.alloc (σ:=⟨t,M,nk⟩) ho hz hds hd rfl rfl
     ·cases h
    ·rename_i T m parts ho
     split at h
     ·rename_i ob hob
      cases h
      unfold buildE at hob
      split at hob
      ·rename_i e hT
       split at hob
       ·rename_i n z avs hn hz hx
        cases hb:numB 0 parts.toList && Nat.beq parts.toList.length m && Nat.ble (m*n) 16777216 && Nat.ble m 16777216 && rowsB n avs with
        | false=>rw [hb] at hob;cases hob
        | true =>
         rw [hb] at hob
         simp only [Bool.and_eq_true] at hb
         cases hob
         exact WO.build (σ:=⟨t,M,nk⟩) ho hT hn hz hb.1.1.1.1 (Nat.eq_of_beq_eq_true hb.1.1.1.2) hb.1.1.2 hb.1.2 hds hd hx hb.2 rfl rfl
       ·cases hob
      ·cases hob
     ·cases h
    ·split at h
     ·rename_i av hv
      cases h
      exact WO.of_wv (σ:=⟨t,M,nk⟩) hds hd (stepV_of rfl hv)
     ·cases h
def goL (P:Program) (C:Cx) (ops:Array Oper) (Q:Exit→St→Prop):List Oper→List (Nat×AV)→List (Nat×AO)→Nat→Prop
 | [],t,M,nk=>Q .normal ⟨t,M,nk⟩
 | o::r,t,M,nk =>
  match opE P C.N t M nk o with
  | some (t',M',nk')=>goL P C ops Q r t' M' nk'
  | none=>WL P C ops (o::r) ⟨t,M,nk⟩ Q
theorem goL_of {P:Program} {C:Cx} {ops:Array Oper} {Q:Exit→St→Prop}:∀ {l:List Oper} {t:List (Nat×AV)} {M:List (Nat×AO)} {nk:Nat},goL P C ops Q l t M nk→WL P C ops l ⟨t,M,nk⟩ Q
 | [],t,M,nk,h=>WL.nil h
 | o::r,t,M,nk,h=>by
  unfold goL at h
  split at h
  ·rename_i t' M' nk' hs
   obtain ⟨h1,h2⟩:=opE_of hs
   exact WL.op h1 h2 (goL_of h)
  ·exact h
def goC (P:Program)(C:Cx):Code→St→(Exit→St→Prop)→Prop
 | .skip,σ,Q=>Q .normal σ
 | .exit id,σ,Q=>Q (.exit id) σ
 | .seq x y,σ,Q=>goC P C x σ (QThen (fun s=>W P C y s Q) Q)
 | .block id c,σ,Q=>goC P C c σ (QBlock id Q)
 | .region id ops false,⟨t,M,nk⟩,Q=>goL P C ops Q ops.toList t M nk
 | c,σ,Q=>W P C c σ Q
theorem goC_of {P:Program} {C:Cx}:∀ {c:Code} {σ:St} {Q:Exit→St→Prop},goC P C c σ Q→W P C c σ Q
 | .skip,σ,Q,h=>W.skip h
 | .exit id,σ,Q,h=>W.exit h
 | .ret,σ,Q,h=>h
 | .seq x y,σ,Q,h=>W.seq (goC_of (c:=x) h)
 | .block id c,σ,Q,h=>W.block (goC_of (c:=c) h)
 | .region id ops false,⟨t,M,nk⟩,Q,h=>fun G a w ok=>wp_region_list (goL_of (P:=P) (C:=C) (show goL P C ops Q ops.toList t M nk from h) G a w ok)
 | .region id ops true,σ,Q,h=>h
 | .cond c x y,σ,Q,h=>h
 | .loop c,σ,Q,h=>h
 | .rangeFunc f p a b,σ,Q,h=>h
 | .scope b,σ,Q,h=>h
 | .label l,σ,Q,h=>h
 | .goto l,σ,Q,h=>h
 | .refuse w,σ,Q,h=>h
def goB:Code→Bool
 | .skip=>true
 | .exit _=>true
 | .seq _ _=>true
 | .block _ _=>true
 | .region _ _ false=>true
 | _=>false
theorem W.go {P:Program} {C:Cx} {c:Code} {σ:St} {Q:Exit→St→Prop} (hc:goB c=true)(h:goC P C c σ Q):W P C c σ Q:=goC_of h
def goD (P:Program) (C:Cx):Code→St→(Exit→St→Prop)→Prop
 | .skip,σ,Q=>Q .normal σ
 | .exit id,σ,Q=>Q (.exit id) σ
 | .seq x y,σ,Q=>goD P C x σ (QThen (fun s=>W P C y s Q) Q)
 | .block id c,σ,Q=>goD P C c σ (QBlock id Q)
 | .region id ops false,⟨t,M,nk⟩,Q=>WL P C ops ops.toList ⟨t,M,nk⟩ Q
 | c,σ,Q=>W P C c σ Q
theorem goD_of {P:Program} {C:Cx}:∀ {c:Code} {σ:St} {Q:Exit→St→Prop},goD P C c σ Q→W P C c σ Q
 | .skip,σ,Q,h=>W.skip h
 | .exit id,σ,Q,h=>W.exit h
 | .ret,σ,Q,h=>h
 | .seq x y,σ,Q,h=>W.seq (goD_of (c:=x) h)
 | .block id c,σ,Q,h=>W.block (goD_of (c:=c) h)
 | .region id ops false,⟨t,M,nk⟩,Q,h=>fun G a w ok=>wp_region_list ((show WL P C ops ops.toList ⟨t,M,nk⟩ Q from h) G a w ok)
 | .region id ops true,σ,Q,h=>h
 | .cond c x y,σ,Q,h=>h
 | .loop c,σ,Q,h=>h
 | .rangeFunc f p a b,σ,Q,h=>h
 | .scope b,σ,Q,h=>h
 | .label l,σ,Q,h=>h
 | .goto l,σ,Q,h=>h
 | .refuse w,σ,Q,h=>h
theorem W.gob {P:Program} {C:Cx} {c:Code} {σ:St} {Q:Exit→St→Prop} (hc:goB c=true)(h:goD P C c σ Q):W P C c σ Q:=goD_of h
theorem WL.gyes {P:Program} {C:Cx} {ops:Array Oper} {o oj:Oper} {rest:List Oper} {σ:St} {Q:Exit→St→Prop} {j:Nat} {b:Bool} {d:Tmp} (hg:o.guard=some (j,b))(hj:ops[j]?=some oj)(hd:oj.dst=some d)(hv:look d σ.t=some (.sc (.bool b)))
  (k:WL P C ops ({ o with guard:=none }::rest) σ Q):WL P C ops (o::rest) σ Q:=fun G a w ok=>by
 have h:=k G a w ok
 have hy:=yielded_of (ops:=ops) ok hj hd hv
 unfold wpList at h ⊢
 rw [if_pos (by simp [Region.wanted])] at h
 rw [if_pos (by simp [Region.wanted,hg,hy,vb])]
 exact h
def sideI (op:BinOp)(m n:Int):Option (Prop×Int) :=
 match op with
 | .add=>some (I64 (m+n),m+n)
 | .sub=>some (I64 (m-n),m-n)
 | .mul=>some (I64 (m*n),m*n)
 | _=>none
def sideV (σ:St):Op→Option (Prop×Int)
 | .binOp op _ x y _ =>
  match σ.ev x,σ.ev y with
  | some (.sc (.int .i64 m)),some (.sc (.int .i64 n))=>sideI op m n
  | _,_=>none
 | _=>none
def catV (σ:St):Op→Option (List UInt8×List UInt8)
 | .binOp .add _ x y _ =>
  match σ.ev x,σ.ev y with
  | some (.sc (.string ⟨⟨s⟩⟩)),some (.sc (.string ⟨⟨t⟩⟩))=>some (s,t)
  | _,_=>none
 | _=>none
def lenA (P:Program) (σ:St) (T:TypeId):AV→Option Nat
 | .sc (.string ⟨⟨s⟩⟩) =>
  match P.underlying T with
  | some .string=>some s.length
  | _=>none
 | .ls _ rows =>
  match P.underlying T with
  | some (.slice _)=>some rows.length
  | _=>none
 | .sl k =>
  match P.underlying T,look k σ.M with
  | some (.slice _),some ob =>
   match ob.rows? with
   | some rows=>some rows.length
   | none=>none
  | _,_=>none
 | .sc (.slice _ m _) =>
  match P.underlying T with
  | some (.slice _)=>some m
  | _=>none
 | _=>none
def lenV(P:Program)(σ:St):Op→Option Nat
 | .call { callee:=.builtin .len,args:=⟨[x]⟩,argTypes:=⟨[T]⟩ } =>
  match σ.ev x with
  | some av=>lenA P σ T av
  | none=>none
 | _=>none
def idxV (P:Program)(σ:St):Op→Option (List (List AV)×Int)
 | .indexAddr T x y =>
  match P.underlying T,σ.ev x,σ.ev y with
  | some (.slice e),some (.ls n rows),some (.sc (.int _ z)) =>
   match sizeB P e with
   | some m=>bif Nat.beq m n then some (rows,z)else none
   | none=>none
  | _,_,_=>none
 | _=>none
def ixsV (P:Program)(σ:St):Op→Option (Nat×List (List AV)×Int)
 | .indexAddr T x y =>
  match P.underlying T,σ.ev x,σ.ev y with
  | some (.slice e),some (.sl k),some (.sc (.int _ z)) =>
   match sizeB P e,look k σ.M with
   | some m,some ob =>
    match ob.rows?,ob.n? with
    | some rows,some n=>bif Nat.beq m n then some (k,rows,z)else none
    | _,_=>none
   | _,_=>none
  | _,_,_=>none
 | _=>none
structure AppD where
 T:TypeId
 n:Nat
 k:Nat
 a:List (List AV)
 b:List (List AV)
def appV (P:Program) (σ:St):Op→Option AppD
 | .call { callee:=.builtin .append,args:=⟨[x,y]⟩,argTypes:=⟨[T,T']⟩ } =>
  match P.underlying T,σ.ev x,σ.ev y with
  | some (.slice e),some (.sl k),some av2 =>
   match P.info? e,look k σ.M with
   | some i,some (.row e' n rows) =>
    match i.zero,σ.src n av2 with
    | some z,some rows2=>bif Nat.beq T T' && Nat.beq e e' && Nat.beq i.size n && Nat.beq z.cells.size n && Nat.blt 0 n && Nat.ble i.bytes 100000 then some ⟨e,n,k,rows,rows2⟩else none
    | _,_=>none
   | _,_=>none
  | _,_,_=>none
 | _=>none
def dstB(N:Nat)(o:Oper):Option Tmp :=
 match o.guard,o.dst with
 | none,some d=>bif Nat.blt d N then some d else none
 | _,_=>none
section
variable {P:Program} {C:Cx} {ops:Array Oper} {o:Oper} {rest:List Oper} {σ:St} {Q:Exit→St→Prop} {d:Tmp}
theorem dstB_of(h:dstB C.N o=some d):o.guard=none∧o.dst=some d∧Nat.blt d C.N=true:=by
 unfold dstB at h
 split at h
 ·rename_i x h1 h2
  cases hb:Nat.blt x C.N with
  | false=>rw [hb]at h;cases h
  | true=>rw [hb]at h;cases h;exact⟨h1,h2,hb⟩
 ·cases h
theorem WL.vl {av:AV} (hd:dstB C.N o=some d)(h:WV P C o σ av)(k:WL P C ops rest (σ.put d av) Q):WL P C ops (o::rest) σ Q :=
 WL.opv (dstB_of hd).1 (dstB_of hd).2.1 (dstB_of hd).2.2 h k
theorem catV_of {s t:List UInt8} (h:catV σ o.op=some (s,t)) (hl:s.length+t.length<9223372036854775808):WV P C o σ (.sc (.string (bs (s++t)))):=by
 unfold catV at h
 split at h
 ·rename_i T x y Ty ho
  split at h
  ·rename_i s t h1 h2
   cases h
   exact WV.cat (s:=s) (t:=t) ho h1 h2 hl
  ·cases h
 ·cases h
theorem lenV_of {m:Nat} (h:lenV P σ o.op=some m):WV P C o σ (.sc (.int .i64 m)):=by
 unfold lenV at h
 split at h
 ·rename_i x T ho
  split at h
  ·rename_i av hx
   unfold lenA at h
   split at h
   ·split at h
    ·rename_i s _ hT;cases h;exact WV.lenB (s:=s) ho hT hx
    ·cases h
   ·split at h
    ·rename_i hT;cases h;exact WV.lenL ho hT hx rfl
    ·cases h
   ·split at h
    ·rename_i ob hT hk
     split at h
     ·rename_i rows hr;cases h;exact WV.lenS ho hT hx hk hr rfl
     ·cases h
    ·cases h
   ·split at h
    ·rename_i hT;cases h;exact WV.lenN ho hT hx
    ·cases h
   ·cases h
  ·cases h
 ·cases h
theorem WL.len {m m':Nat} (hd:dstB C.N o=some d)(h:lenV P σ o.op=some m)(hm:m=m')(k:WL P C ops rest (σ.put d (.sc (.int .i64 m'))) Q):WL P C ops (o::rest) σ Q:=by
 subst hm
 exact WL.vl hd (lenV_of h) k
theorem zql {m n:Nat} (h:m = n:=by first|exact List.length_map _|exact List.length_replicate|rfl):m = n:=h
theorem idxV_of {rows:List (List AV)} {z:Int} {r:List AV} (h:idxV P σ o.op=some (rows,z))(h0:0≤z)(hr:rows[z.toNat]?=some r):WV P C o σ (.pr r):=by
 unfold idxV at h
 split at h
 ·rename_i T x y ho
  split at h
  ·rename_i e n rows' q z' hT hx hy
   split at h
   ·rename_i m hn
    cases hb:Nat.beq m n with
    | false=>rw [hb]at h;cases h
    | true =>
     rw [hb]at h
     cases h
     obtain rfl:=Nat.eq_of_beq_eq_true hb
     exact WV.indexL ho hT hn hx hy h0 hr
   ·cases h
  ·cases h
 ·cases h
theorem WL.idx {rows:List (List AV)} {z:Int} {r:List AV} (hd:dstB C.N o=some d)(h:idxV P σ o.op=some (rows,z))(h0:0≤z)(hr:rows[z.toNat]?=some r)(k:WL P C ops rest (σ.put d (.pr r)) Q):WL P C ops (o::rest) σ Q :=
 WL.vl hd (idxV_of h h0 hr) k
theorem ixsV_of {q:Nat} {rows:List (List AV)} {z:Int} (h:ixsV P σ o.op=some (q,rows,z))(h0:0≤z)(h1:z<rows.length):WV P C o σ (.pt q z.toNat 0):=by
 unfold ixsV at h
 split at h
 ·rename_i T x y ho
  split at h
  ·rename_i e k q' z' hT hx hy
   split at h
   ·rename_i m ob hn hk
    split at h
    ·rename_i rows' n hr hn2
     cases hb:Nat.beq m n with
     | false=>rw [hb]at h;cases h
     | true =>
      rw [hb]at h
      cases h
      obtain rfl:=Nat.eq_of_beq_eq_true hb
      exact WV.indexS ho hT hn hx hy hk hr hn2 h0 h1
    ·cases h
   ·cases h
  ·cases h
 ·cases h
theorem WL.ixs {q:Nat} {rows:List (List AV)} {z:Int} (hd:dstB C.N o=some d)(h:ixsV P σ o.op=some (q,rows,z))(h0:0≤z∧z<rows.length)(k:WL P C ops rest (σ.put d (.pt q z.toNat 0)) Q):WL P C ops (o::rest) σ Q :=
 WL.vl hd (ixsV_of h h0.1 h0.2) k
theorem appV_of {x:AppD} (hd:dstB C.N o=some d)(h:appV P σ o.op=some x)(hl:x.a.length+x.b.length≤1000000000):WO P C o σ (((σ.drop x.k).new (.row x.T x.n (x.a++x.b))).put d (.sl σ.nk)):=by
 obtain⟨_,hds,hdb⟩:=dstB_of hd
 unfold appV at h
 split at h
 ·rename_i x y T T' ho
  split at h
  ·rename_i e k av2 hT hx hy
   split at h
   ·rename_i i e' n rows hi hk
    split at h
    ·rename_i z rows2 hz hs
     cases hb:Nat.beq T T' && Nat.beq e e' && Nat.beq i.size n && Nat.beq z.cells.size n && Nat.blt 0 n && Nat.ble i.bytes 100000 with
     | false=>rw [hb] at h;cases h
     | true =>
      rw [hb] at h
      simp only [Bool.and_eq_true] at hb
      cases h
      obtain⟨⟨⟨⟨⟨b1,b2⟩,b3⟩,b4⟩,b5⟩,b6⟩:=hb
      obtain rfl:=Nat.eq_of_beq_eq_true b1
      obtain rfl:=Nat.eq_of_beq_eq_true b2
      exact WO.append ho hT hi hz (Nat.eq_of_beq_eq_true b3) rfl (Nat.eq_of_beq_eq_true b4) b5 hds hdb hx hk hy hs rfl hl b6 rfl
    ·cases h
   ·cases h
  ·cases h
 ·cases h
theorem WL.app {x:AppD} {t:List (Nat×AV)} {M M':List (Nat×AO)} {nk:Nat} (hd:dstB C.N o=some d) (h:appV P ⟨t,M,nk⟩ o.op=some x) (hM:remS x.k M=some M') (hl:x.a.length+x.b.length≤1000000000) (k:WL P C ops rest ⟨(d,.sl nk)::t,(nk,.row x.T x.n (x.a++x.b))::M',nk+1⟩ Q):WL P C ops (o::rest) ⟨t,M,nk⟩ Q:=by
 rw [remS_eq hM] at k
 exact WL.op (dstB_of hd).1 (appV_of hd h hl) k
theorem WL.ev {t:List (Nat×AV)} {M:List (Nat×AO)} {nk:Nat} (h:(opE P C.N t M nk o).isSome=true) (k:goL P C ops Q (o::rest) t M nk):WL P C ops (o::rest) ⟨t,M,nk⟩ Q:=goL_of k
def stepD (P:Program)(N:Nat)(ops:Array Oper)(σ:St)(o:Oper):Option (Tmp×AV) :=
 match o.dst with
 | some d =>
  bif Nat.blt d N then
   match guardK ops o (σ.only (o.looksAt ops)) with
   | some true =>
    match stepV P (σ.only (o.looksAt ops)) o.op with
    | some av=>some (d,av)
    | none=>none
   | some false=>some (d,.sc undef)
   | none=>none
  else none
 | none=>none
theorem DK.st {av:AV} (h:stepD P C.N ops σ o=some (d,av))(k:DK P C ops rest (σ.put d av) Q):DK P C ops (o::rest) σ Q:=by
 unfold stepD at h
 split at h
 ·rename_i x hds
  cases hb:Nat.blt x C.N with
  | false=>rw [hb] at h;cases h
  | true =>
   rw [hb] at h
   simp only [cond_true] at h
   split at h
   ·rename_i hg
    split at h
    ·rename_i av' hv
     cases h
     exact DK.val hds hb hg (stepV_of rfl hv) k
    ·cases h
   ·rename_i hg
    cases h
    exact DK.no hds hb hg k
   ·cases h
 ·cases h
theorem DK.tt {b:Bool} (h:stepD P C.N ops σ o=some (d,.sc (.bool b)))(hb:b=true)(k:DK P C ops rest (σ.put d (.sc (.bool true))) Q):DK P C ops (o::rest) σ Q:=by
 subst hb;exact DK.st h k
theorem DK.ff {b:Bool} (h:stepD P C.N ops σ o=some (d,.sc (.bool b)))(hb:b=false)(k:DK P C ops rest (σ.put d (.sc (.bool false))) Q):DK P C ops (o::rest) σ Q:=by
 subst hb;exact DK.st h k
def dstD (N:Nat)(ops:Array Oper)(σ:St)(o:Oper):Option Tmp :=
 match o.dst,guardK ops o (σ.only (o.looksAt ops))with
 | some d,some true=>bif Nat.blt d N then some d else none
 | _,_=>none
theorem DK.vl {av:AV} (hd:dstD C.N ops σ o=some d)(h:WV P C o (σ.only (o.looksAt ops)) av)(k:DK P C ops rest (σ.put d av) Q):DK P C ops (o::rest) σ Q:=by
 unfold dstD at hd
 split at hd
 ·rename_i x h1 h2
  cases hb:Nat.blt x C.N with
  | false=>rw [hb] at hd;cases hd
  | true=>rw [hb] at hd;cases hd;exact DK.val h1 hb h2 h k
 ·cases hd
theorem DK.cat {s t:List UInt8} (hd:dstD C.N ops σ o=some d)(h:catV (σ.only (o.looksAt ops)) o.op=some (s,t))(hl:s.length+t.length<9223372036854775808)(k:DK P C ops rest (σ.put d (.sc (.string (bs (s++t))))) Q):DK P C ops (o::rest) σ Q:=DK.vl hd (catV_of h hl) k
theorem DK.idx {rows:List (List AV)} {z:Int} {r:List AV} (hd:dstD C.N ops σ o=some d)(h:idxV P (σ.only (o.looksAt ops)) o.op=some (rows,z))(h0:0≤z)(hr:rows[z.toNat]?=some r)(k:DK P C ops rest (σ.put d (.pr r)) Q):DK P C ops (o::rest) σ Q :=
 DK.vl hd (idxV_of h h0 hr) k
theorem DK.ixs {q:Nat} {rows:List (List AV)} {z:Int} (hd:dstD C.N ops σ o=some d)(h:ixsV P (σ.only (o.looksAt ops)) o.op=some (q,rows,z))(h0:0≤z∧z<rows.length)(k:DK P C ops rest (σ.put d (.pt q z.toNat 0)) Q):DK P C ops (o::rest) σ Q :=
 DK.vl hd (ixsV_of h h0.1 h0.2) k
theorem sideV_of {φ:Prop} {z:Int} (h:sideV σ o.op=some (φ,z))(hφ:φ):WV P C o σ (.sc (.int .i64 z)):=by
 unfold sideV at h
 split at h
 ·rename_i op T x y Ty ho
  split at h
  ·rename_i m n h1 h2
   unfold sideI at h
   split at h<;>first|cases h|skip
   ·exact WV.add ho h1 h2 hφ
   ·exact WV.sub ho h1 h2 hφ
   ·exact WV.mul ho h1 h2 hφ
  ·cases h
 ·cases h
theorem WL.ar {φ:Prop} {z:Int} (hd:dstB C.N o=some d)(h:sideV σ o.op=some (φ,z))(hφ:φ)(k:WL P C ops rest (σ.put d (.sc (.int .i64 z))) Q):WL P C ops (o::rest) σ Q:=WL.vl hd (sideV_of h hφ) k
theorem DK.ar {φ:Prop} {z:Int} (hd:dstD C.N ops σ o=some d)(h:sideV (σ.only (o.looksAt ops)) o.op=some (φ,z))(hφ:φ)(k:DK P C ops rest (σ.put d (.sc (.int .i64 z))) Q):DK P C ops (o::rest) σ Q:=DK.vl hd (sideV_of h hφ) k
end
end Go.Proofs.YtockempedekkkaaGreatDoor
