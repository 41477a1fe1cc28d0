/- The line of a course: the plain part. -/
import Derived.Test.YthehkchjdkdbiaaGreatDoorPlHq
import Derived.Test.YthehkchjdkdbiaaGreatDoorRq0Hq
set_option maxHeartbeats 1600000
set_option maxRecDepth 100000
set_option linter.unusedVariables false
set_option linter.unusedSimpArgs false
namespace Go.Proofs.YthehkchjdkdbiaaGreatDoor
section
open Go.RowKit
abbrev Stp:=Int×Int×Int×Int×Int
def stpCells(x:Stp):List Value:=[.int .i64 x.1,.int .i64 x.2.1,.int .i64 x.2.2.1,.int .i64 x.2.2.2.1,.int .i64 x.2.2.2.2]
structure Ev where
 bar:Bool
 val:Int
 dot:Bool
 three:Bool
 tie:Bool
 stops:List Stp
def evCells(e:Ev)(m:Option Addr×Nat):List Value:=[.bool e.bar,.int .i64 e.val,.bool e.dot,.bool e.three,.bool e.tie,.slice m.1 e.stops.length m.2]
structure Pce where
 cs:List (Int×Int×Bool)
 st:List Int
 evs:List Ev
structure PM where
 A1:Option Addr
 A2:Option Addr
 A3:Option Addr
 c1:Nat
 c2:Nat
 c3:Nat
def StpsAt (w:World)(B:Nat)(A:Option Addr)(l:List Stp):Prop:=Rd w B 5 A (l.map stpCells)
def EvsAt (w:World)(B:Nat)(A:Option Addr)(evs:List Ev):Prop :=
 ∃ ms:List (Option Addr×Nat),ms.length=evs.length∧Rd w B 6 A (List.zipWith evCells evs ms)∧∀ (k:Nat)(e:Ev)(m:Option Addr×Nat),evs[k]?=some e→ms[k]?=some m→StpsAt w B m.1 e.stops
def PcAt(w:World)(B:Nat)(M:PM)(p:Pce):Prop:=InsAt w B M.A1 M.A2 p.cs p.st∧EvsAt w B M.A3 p.evs∧p.evs.length≤M.c3
def pcValue(M:PM)(p:Pce):Value:=.agg #[.slice M.A1 p.cs.length M.c1,.slice M.A2 p.st.length M.c2,.slice M.A3 p.evs.length M.c3]
section
variable {w w':World} {B B':Nat} {A:Option Addr} {l:List Stp} {evs:List Ev} {M:PM} {p:Pce}
theorem StpsAt.keep(h:StpsAt w B A l)(hk:∀ p:Addr,p.block<B→w'.cell? p=w.cell? p):StpsAt w' B A l:=Rd.keep h hk
theorem StpsAt.more(h:StpsAt w B A l)(hB:B≤B'):StpsAt w B' A l:=Rd.more h hB
theorem StpsAt.below(h:StpsAt w B A l)(hb:Below B w w'):StpsAt w' B A l:=h.keep fun _ hp=>hb.cell hp
theorem EvsAt.keep(h:EvsAt w B A evs)(hk:∀ p:Addr,p.block<B→w'.cell? p=w.cell? p):EvsAt w' B A evs:=by
 obtain⟨ms,h1,h2,h3⟩:=h
 exact⟨ms,h1,h2.keep hk,fun k e m he hm=>(h3 k e m he hm).keep hk⟩
theorem EvsAt.below(h:EvsAt w B A evs)(hb:Below B w w'):EvsAt w' B A evs:=h.keep fun _ hp=>hb.cell hp
theorem StpsAt.after(h:StpsAt w w.heap.size A l)(hb:Below w.heap.size w w'):StpsAt w' w'.heap.size A l:=(h.below hb).more hb.size
theorem StpsAt.stp {k:Nat} (h:StpsAt w B A l) (hk:k<l.length):∃ ad,A=some ad∧ad.block<B∧w.cell? (ad.add (k*5))=some (.int .i64 l[k].1) ∧
  w.cell? ⟨(ad.add (k*5)).block,(ad.add (k*5)).off+1,none⟩=some (.int .i64 l[k].2.1)∧w.cell? ⟨(ad.add (k*5)).block,(ad.add (k*5)).off+2,none⟩=some (.int .i64 l[k].2.2.1) ∧
  w.cell? ⟨(ad.add (k*5)).block,(ad.add (k*5)).off+3,none⟩=some (.int .i64 l[k].2.2.2.1)∧w.cell? ⟨(ad.add (k*5)).block,(ad.add (k*5)).off+4,none⟩=some (.int .i64 l[k].2.2.2.2):=by
 obtain ⟨ad,e,hb,hc⟩:=Rd.at_ (k:=k) h (by simpa using hk)
 refine ⟨ad,e,hb,?_,?_,?_,?_,?_⟩
 ·have:=hc 0 (.int .i64 l[k].1) (by simp [stpCells]);simpa using this
 ·rw [← add_field _ _ _ (by omega)];exact hc 1 _ (by simp [stpCells])
 ·rw [← add_field _ _ _ (by omega)];exact hc 2 _ (by simp [stpCells])
 ·rw [← add_field _ _ _ (by omega)];exact hc 3 _ (by simp [stpCells])
 ·rw [← add_field _ _ _ (by omega)];exact hc 4 _ (by simp [stpCells])
theorem EvsAt.ev {k:Nat} (h:EvsAt w B A evs) (hk:k<evs.length):∃ (ad:Addr) (S:Option Addr) (c:Nat),A=some ad∧ad.block<B∧w.cell? (ad.add (k*6))=some (.bool evs[k].bar) ∧
  w.cell? ⟨(ad.add (k*6)).block,(ad.add (k*6)).off+1,none⟩=some (.int .i64 evs[k].val)∧w.cell? ⟨(ad.add (k*6)).block,(ad.add (k*6)).off+2,none⟩=some (.bool evs[k].dot) ∧
  w.cell? ⟨(ad.add (k*6)).block,(ad.add (k*6)).off+3,none⟩=some (.bool evs[k].three)∧w.cell? ⟨(ad.add (k*6)).block,(ad.add (k*6)).off+4,none⟩=some (.bool evs[k].tie) ∧
  w.cell? ⟨(ad.add (k*6)).block,(ad.add (k*6)).off+5,none⟩=some (.slice S evs[k].stops.length c)∧StpsAt w B S evs[k].stops:=by
 obtain ⟨ms,h1,h2,h3⟩:=h
 obtain ⟨ad,e,hb,hc⟩:=Rd.at_ (k:=k) h2 (by simp;omega)
 have hm:k<ms.length:=by omega
 have hz:(List.zipWith evCells evs ms)[k]'(by simp;omega)=evCells evs[k] ms[k]:=List.getElem_zipWith
 rw [hz] at hc
 refine ⟨ad,ms[k].1,ms[k].2,e,hb,?_,?_,?_,?_,?_,?_,h3 k _ _ (List.getElem?_eq_getElem hk) (List.getElem?_eq_getElem hm)⟩
 ·have:=hc 0 (.bool evs[k].bar) (by simp [evCells]);simpa using this
 ·rw [← add_field _ _ _ (by omega)];exact hc 1 _ (by simp [evCells])
 ·rw [← add_field _ _ _ (by omega)];exact hc 2 _ (by simp [evCells])
 ·rw [← add_field _ _ _ (by omega)];exact hc 3 _ (by simp [evCells])
 ·rw [← add_field _ _ _ (by omega)];exact hc 4 _ (by simp [evCells])
 ·rw [← add_field _ _ _ (by omega)];exact hc 5 _ (by simp [evCells])
end
theorem any_at {α:Type} {f:α→Bool} {l:List α} {k:Nat} (h:k<l.length):(l.drop k).any f=(f l[k]|| (l.drop (k+1)).any f):=by
 rw [List.drop_eq_getElem_cons h];rfl
def evVal(e:Ev)(S:Option Addr)(c:Nat):Value:=.agg #[.bool e.bar,.int .i64 e.val,.bool e.dot,.bool e.three,.bool e.tie,.slice S e.stops.length c]
def restB(e:Ev):Bool:=e.stops.length == 0 && !e.tie
def hasB(c:Int)(l:List Stp):Bool:=l.any fun x=>x.1 == c
def runL(c:Int):Nat→List Ev→Nat
 | 0,_=>0
 | _+1,[]=>0
 | k+1,e::r=>if(restB e|| hasB c e.stops)=true then 0 else runL c k r+1
def longestN (evs:List Ev)(i c:Int):Nat:=if i<0∨(evs.length:Int)≤i then 0 else runL c 15 (evs.drop (i.toNat+1))
theorem runL_nil(c:Int)(k:Nat):runL c k []=0:=by cases k<;>rfl
theorem runL_le(c:Int):∀ (k:Nat)(l:List Ev),runL c k l≤k:=by
 intro k
 induction k with
 | zero=>intro l;simp [runL]
 | succ k ih =>
  intro l
  cases l with
  | nil=>simp [runL]
  | cons e r =>
   have:=ih r
   unfold runL
   split
   ·omega
   ·omega
theorem longestN_le(evs:List Ev)(i c:Int):longestN evs i c≤15:=by
 unfold longestN;split
 ·omega
 ·exact runL_le _ _ _
theorem runL_stop {c:Int} {l:List Ev} {k j:Nat} (hj:j<l.length)(h:(restB l[j]|| hasB c l[j].stops)=true):runL c k (l.drop j)=0:=by
 rw [List.drop_eq_getElem_cons hj]
 cases k with
 | zero=>rfl
 | succ k=>unfold runL;rw [if_pos h]
theorem runL_step {c:Int} {l:List Ev} {k j:Nat} (hj:j<l.length) (h:(restB l[j]|| hasB c l[j].stops)=false):runL c (k+1) (l.drop j)=runL c k (l.drop (j+1))+1:=by
 rw [List.drop_eq_getElem_cons hj,runL,if_neg (by rw [h];decide)]
end
section
open Go.RowKit
def DK(P:Program)(C:Cx)(ops:Array Oper)(l:List Oper)(σ:St)(Q:Exit→St→Prop):Prop:=∃ σ',DL P C ops l σ σ'∧Q .normal σ'
section
variable {P:Program} {C:Cx} {σ:St} {ops:Array Oper} {l rest:List Oper} {o:Oper} {d:Tmp} {av:AV} {Q:Exit→St→Prop}
theorem W.drawK {id:Nat} (hm:P.follows .mixedOrders=true)(hB:Region.lexB .any l.toArray=true)(h:DK P C l.toArray l σ Q):W P C (.region id l.toArray true) σ Q :=
 let⟨_,a,b⟩:=h;W.draw hm hB a b
theorem DK.nil(k:Q .normal σ):DK P C ops [] σ Q:=⟨σ,.nil σ,k⟩
theorem DK.op (hd:o.dst=some d)(hN:Nat.blt d C.N=true)(h:Does P C ops o σ av)(k:DK P C ops rest (σ.put d av) Q):DK P C ops (o::rest) σ Q :=
 let⟨s,a,b⟩:=k;⟨s,.op o rest d av σ s hd hN h a,b⟩
theorem DK.val (hd:o.dst=some d) (hN:Nat.blt d C.N=true) (hg:guardK ops o (σ.only (o.looksAt ops))=some true) (h:WV P C o (σ.only (o.looksAt ops)) av) (k:DK P C ops rest (σ.put d av) Q):DK P C ops (o::rest) σ Q:=DK.op hd hN (.inl ⟨hg,h⟩) k
theorem DK.no (hd:o.dst=some d) (hN:Nat.blt d C.N=true) (hg:guardK ops o (σ.only (o.looksAt ops))=some false) (k:DK P C ops rest (σ.put d (.sc undef)) Q):DK P C ops (o::rest) σ Q:=DK.op hd hN (.inr ⟨hg,rfl⟩) k
variable {mem:List Bool} {Mc:List (Nat×AO)} {nk0 k:Nat}
end
end
section
open Go.RowKit
def remS {α:Type} (k:Nat):List (Nat×α)→Option (List (Nat×α))
 | []=>some []
 | x::r =>
  match remS k r with
  | some r'=>bif Nat.beq k x.1 then some r' else some (x::r')
  | none=>none
theorem remS_eq {α:Type} {k:Nat}:∀ {l l':List (Nat×α)},remS k l=some l'→l'=rem k l
 | [],l',h=>by cases h;rfl
 | x::r,l',h=>by
  unfold remS at h
  split at h
  ·rename_i r' h2
   have:=remS_eq h2
   subst this
   unfold rem
   cases hb:Nat.beq k x.1 with
   | true=>rw [hb]at h;cases h;rfl
   | false=>rw [hb]at h;cases h;rfl
  ·cases h
def boolB(P:Program)(T:TypeId):Bool :=
 match P.underlying T with
 | some .bool=>true
 | _=>false
theorem boolB_of {P:Program} {T:TypeId} (h:boolB P T=true):P.underlying T=some .bool:=by
 unfold boolB at h
 split at h
 ·assumption
 ·cases h
def cmpI (op:BinOp)(m n:Int):Option Value :=
 match op with
 | .lss=>some (.bool (decide (m<n)))
 | .leq=>some (.bool (decide (m≤n)))
 | .gtr=>some (.bool (decide (n<m)))
 | .geq=>some (.bool (decide (n≤m)))
 | .eql=>some (.bool (decide (m=n)))
 | .neq=>some (.bool (!decide (m=n)))
 | _=>none
def cmpB (op:BinOp)(b c:Bool):Option Value :=
 match op with
 | .eql=>some (.bool (b == c))
 | .neq=>some (.bool (!(b == c)))
 | _=>none
def cmpS (op:BinOp)(s t:List UInt8):Option Value :=
 match op with
 | .eql=>some (.bool (s == t))
 | .neq=>some (.bool (!(s == t)))
 | _=>none
def cmpV(P:Program) (op:BinOp) (T:TypeId):Value→Value→Option Value
 | .string ⟨⟨s⟩⟩,.string ⟨⟨t⟩⟩=>cmpS op s t
 | .int j m,.int k n =>
  match decEq j k with
  | isTrue _=>cmpI op m n
  | isFalse _=>none
 | .bool b,.bool c=>bif boolB P T then cmpB op b c else none
 | _,_=>none
def pickV:AV→AV→AV→Option AV
 | .sc (.bool b),.sc u,.sc v=>some (.sc (bif b then u else v))
 | .sc (.bool true),x,_=>some x
 | .sc (.bool false),_,y=>some y
 | _,_,_=>none
def takeE:Nat→List AV→Option (List AV)
 | 0,_=>some []
 | n+1,x::r =>
  match takeE n r with
  | some l=>some (x::l)
  | none=>none
 | _+1,[]=>none
theorem takeE_of:∀ {n:Nat} {l l':List AV},takeE n l=some l'→l.take n=l'∧l'.length=n
 | 0,l,l',h=>by cases h;simp
 | n+1,[],l',h=>by cases h
 | n+1,x::r,l',h=>by
  unfold takeE at h
  split at h
  ·rename_i l2 h2
   cases h
   obtain⟨a,b⟩:=takeE_of h2
   simp [a,b]
  ·cases h
def takeV (P:Program)(T:TypeId)(l:List AV):Option AV :=
 match aggB P T with
 | some false =>
  match l with
  | av::_=>some av
  | []=>none
 | some true =>
  match sizeB P T with
  | some n =>
   match takeE n l with
   | some l'=>some (.ag l')
   | none=>none
  | none=>none
 | none=>none
def ownB:AV→Bool
 | .ow _ _ _=>true
 | .ag l=>l.any AV.own
 | _=>false
def takeO(P:Program)(T:TypeId)(l:List AV):Option AV :=
 match takeV P T l with
 | some av =>
  match ownB av with
  | false=>some av
  | true=>none
 | none=>none
theorem takeO_of {P:Program} {T:TypeId} {l:List AV} {av:AV} (h:takeO P T l=some av):takeV P T l=some av∧ownB av=false:=by
 unfold takeO at h
 split at h
 ·rename_i h1
  split at h
  ·rename_i h2;cases h;exact⟨h1,h2⟩
  ·cases h
 ·cases h
theorem ownB_own {av:AV} (h:ownB av=false):av.own=false:=by cases av<;>first|rfl|cases h
theorem ownB_all {l:List AV} (h:ownB (.ag l)=false):(l.all fun av=>!av.own)=true:=by
 rw [List.all_eq_true]
 intro x hx
 have h:l.any AV.own=false:=h
 rw [List.any_eq_false]at h
 simpa using h x hx
def loadV(P:Program)(σ:St)(T:TypeId):AV→Option AV
 | .pt k i j =>
  match look k σ.M with
  | some ob =>
   match ob.from_ i j with
   | some l=>takeO P T l
   | none=>none
  | none=>none
 | .pr cells=>takeV P T cells
 | _=>none
def nthL {α:Type}:List α→Nat→Option α
 | [],_=>none
 | x::_,0=>some x
 | _::r,n+1=>nthL r n
theorem nthL_eq {α:Type}:∀ (l:List α)(n:Nat),nthL l n=l[n]?
 | [],n=>by simp [nthL]
 | x::r,0=>by simp [nthL]
 | x::r,n+1=>by simp [nthL,nthL_eq r n]
def dropE {α:Type}:Nat→List α→List α
 | 0,l=>l
 | _+1,[]=>[]
 | n+1,_::r=>dropE n r
theorem dropE_eq {α:Type}:∀ (n:Nat)(l:List α),dropE n l=l.drop n
 | 0,l=>by simp [dropE]
 | n+1,[]=>by simp [dropE]
 | n+1,x::r=>by simp [dropE,dropE_eq n r]
def fldE (P:Program)(T i:Nat):Option Nat :=
 match P.underlying T with
 | some (.struct fs) =>
  match nthL fs.toList i with
  | some f=>bif Nat.beq (P.cellsOf f.type) 0 then none else some f.offset
  | none=>none
 | _=>none
theorem fldE_of {P:Program} {T i off:Nat} (h:fldE P T i=some off):fldB P T i=some off:=by
 unfold fldE at h
 unfold fldB
 split at h
 ·rename_i fs hu
  rw [nthL_eq] at h
  rw [show fs.toList[i]?=fs[i]? by simp] at h
  split at h
  ·rename_i f hf
   try rw [hu]
   try simp only [hf]
   cases hb:Nat.beq (P.cellsOf f.type) 0 with
   | true=>rw [hb] at h;cases h
   | false =>
    rw [hb] at h
    rw [if_neg (fun e=>by rw [e] at hb;cases hb)]
    exact h
  ·cases h
 ·cases h
def fldV (P:Program)(T i:Nat):AV→Option AV
 | .pt k r j =>
  match fldE P T i with
  | some off=>some (.pt k r (j+off))
  | none=>none
 | .pr cells =>
  match fldE P T i with
  | some off=>some (.pr (dropE off cells))
  | none=>none
 | _=>none
def stepV (P:Program) (σ:St):Op→Option AV
 | .move x=>σ.ev x
 | .assign x=>σ.ev x
 | .pick c x y =>
  match σ.ev c,σ.ev x,σ.ev y with
  | some ac,some ax,some ay=>pickV ac ax ay
  | _,_,_=>none
 | .binOp op T x y _ =>
  match σ.ev x,σ.ev y with
  | some (.sc u),some (.sc v) =>
   match cmpV P op T u v with
   | some r=>some (.sc r)
   | none=>none
  | _,_=>none
 | .unOp .not _ x =>
  match σ.ev x with
  | some (.sc (.bool b))=>some (.sc (.bool (!b)))
  | _=>none
 | .extract x i =>
  match σ.ev x with
  | some (.tu l)=>l[i]?
  | _=>none
 | .fieldAddr T x i =>
  match σ.ev x with
  | some av=>fldV P T i av
  | none=>none
 | .load T x =>
  match σ.ev x with
  | some av=>loadV P σ T av
  | none=>none
 | .build T parts =>
  match (P.info? T).bind (·.zero),placesB P T,σ.evs (parts.toList.map (·.2))with
  | some z,some places,some avs =>
   match fillA places (z.cells.toList.map .sc) (pairUp parts.toList avs)with
   | some l=>some (.ag l)
   | none=>none
  | _,_,_=>none
 | _=>none
section
variable {P:Program} {C:Cx} {σ σ':St} {o:Oper} {d:Tmp} {av:AV}
theorem cmpV_of {op:BinOp} {T Ty:TypeId} {x y:Operand} {u v r:Value} (ho:o.op=.binOp op T x y Ty) (hx:σ.ev x=some (.sc u)) (hy:σ.ev y=some (.sc v)) (h:cmpV P op T u v=some r):WV P C o σ (.sc r):=by
 unfold cmpV at h
 split at h
 ·rename_i s t
  unfold cmpS at h
  split at h<;>first|cases h|skip
  ·exact WV.seq_ (s:=s) (t:=t) ho hx hy
  ·exact WV.sne (s:=s) (t:=t) ho hx hy
 ·split at h
  ·rename_i e _
   subst e
   unfold cmpI at h
   split at h<;>first|cases h|skip
   ·exact WV.lss ho hx hy
   ·exact WV.leq ho hx hy
   ·exact WV.gtr ho hx hy
   ·exact WV.geq ho hx hy
   ·exact WV.eql ho hx hy
   ·exact WV.neq ho hx hy
  ·cases h
 ·rename_i b c
  cases hb:boolB P T with
  | false=>rw [hb] at h;cases h
  | true =>
   rw [hb] at h
   simp only [cond_true] at h
   unfold cmpB at h
   split at h<;>first|cases h|skip
   ·exact WV.beq ho (boolB_of hb) hx hy
   ·exact WV.bne ho (boolB_of hb) hx hy
 ·cases h
theorem pickV_of {c x y:Operand} {ac ax ay:AV} (ho:o.op=.pick c x y) (hc:σ.ev c=some ac) (hx:σ.ev x=some ax) (hy:σ.ev y=some ay) (h:pickV ac ax ay=some av):WV P C o σ av:=by
 unfold pickV at h
 split at h
 ·rename_i b u v
  cases h
  have:=WV.pickS (P:=P) (C:=C) ho hc hx hy
  cases b<;>exact this
 ·cases h;exact WV.pickT ho hc hx
 ·cases h;exact WV.pickF ho hc hy
 ·cases h
theorem loadV_of {T:TypeId} {x:Operand} {a:AV} (ho:o.op=.load T x)(hx:σ.ev x=some a)(h:loadV P σ T a=some av):WV P C o σ av:=by
 unfold loadV at h
 split at h
 ·rename_i k i j
  split at h
  ·rename_i ob hk
   split at h
   ·rename_i l hf
    obtain⟨h,hob⟩:=takeO_of h
    unfold takeV at h
    split at h
    ·rename_i hT
     split at h
     ·rename_i a r
      cases h
      exact WV.load1 ho hT hx hk hf rfl (ownB_own hob)
     ·cases h
    ·rename_i hT
     split at h
     ·rename_i n hn
      split at h
      ·rename_i l' hl
       cases h
       obtain⟨e1,e2⟩:=takeE_of hl
       exact WV.loadN ho hT hn hx hk hf e1 e2 (ownB_all hob)
      ·cases h
     ·cases h
    ·cases h
   ·cases h
  ·cases h
 ·rename_i cells
  unfold takeV at h
  split at h
  ·rename_i hT
   split at h
   ·rename_i a r
    cases h
    exact WV.load1R ho hT hx rfl
   ·cases h
  ·rename_i hT
   split at h
   ·rename_i n hn
    split at h
    ·rename_i l' hl
     cases h
     obtain⟨e1,e2⟩:=takeE_of hl
     exact WV.loadNR ho hT hn hx e1 e2
    ·cases h
   ·cases h
  ·cases h
 ·cases h
theorem fldV_of {T:TypeId} {i:Nat} {x:Operand} {a:AV} (ho:o.op=.fieldAddr T x i)(hx:σ.ev x=some a)(h:fldV P T i a=some av):WV P C o σ av:=by
 unfold fldV at h
 split at h
 ·split at h
  ·rename_i off hf;cases h;exact WV.fieldP ho (fldE_of hf) hx
  ·cases h
 ·split at h
  ·rename_i off hf;cases h;rw [dropE_eq];exact WV.fieldR ho (fldE_of hf) hx
  ·cases h
 ·cases h
theorem stepV_of {op:Op} (ho:o.op=op)(h:stepV P σ op=some av):WV P C o σ av:=by
 unfold stepV at h
 split at h
 ·exact WV.move ho h
 ·exact WV.assign ho h
 ·split at h
  ·rename_i h1 h2 h3;exact pickV_of ho h1 h2 h3 h
  ·cases h
 ·split at h
  ·rename_i h1 h2
   split at h
   ·rename_i r hr;cases h;exact cmpV_of ho h1 h2 hr
   ·cases h
  ·cases h
 ·split at h
  ·rename_i b h1;cases h;exact WV.not ho h1
  ·cases h
 ·split at h
  ·rename_i l h1;exact WV.extract ho h1 h
  ·cases h
 ·split at h
  ·rename_i a h1;exact fldV_of ho h1 h
  ·cases h
 ·split at h
  ·rename_i a h1;exact loadV_of ho h1 h
  ·cases h
 ·split at h
  ·rename_i h1 h2 h3
   split at h
   ·rename_i l hl;cases h;exact WV.build ho h1 h2 h3 hl
   ·cases h
  ·cases h
 ·cases h
end
def storeE (P:Program)(M:List (Nat×AO))(T:TypeId):AV→AV→Option (Nat×AO)
 | .pt k i j,av =>
  match sizeB P T,look k M with
  | some m,some ob =>
   bif av.cellB && Nat.beq av.cells.length m && av.cells.all AV.oneB then
    match ob.put i j av.cells with
    | some ob'=>some (k,ob')
    | none=>none
   else none
  | _,_=>none
 | _,_=>none
def buildE (P:Program)(σ:St)(T:TypeId)(m:Nat)(parts:List (Nat×Operand)):Option AO :=
 match P.underlying T with
 | some (.slice e) =>
  match sizeB P e,(P.info? e).bind (·.zero),σ.evs (parts.map (·.2)) with
  | some n,some _,some avs =>
   bif numB 0 parts && Nat.beq parts.length m && Nat.ble (m*n) 16777216 && Nat.ble m 16777216 && rowsB n avs then some (.row e n (avs.map AV.cells)) else none
  | _,_,_=>none
 | _=>none
theorem wo_rem {P:Program} {C:Cx} {σ:St} {o:Oper} {t:List (Nat×AV)} {M:List (Nat×AO)} {nk k:Nat} {ob:AO} (h:WO P C o σ ⟨t,(k,ob)::M,nk⟩):WO P C o σ ⟨t,(k,ob)::rem k M,nk⟩:=fun G a w ok N Q' hN =>
 h G a w ok N Q' fun G' a' w' ok'=>hN G' a' w' (by
  have hl:∀ i,look i ((k,ob)::rem k M)=look i ((k,ob)::M):=fun i=>by
   by_cases e:i=k
   ·subst e;rw [look_set_same,look_set_same]
   ·rw [look_set_other e,look_set_other e,look_rem,if_neg e]
  exact ⟨ok'.sz,ok'.df,ok'.tm,ok'.bel,ok'.fw,ok'.f0,ok'.f1,fun i x hx=>ok'.ob i x (by rw [← hl];exact hx),fun i x y hx=>ok'.my i x y (by rw [← hl];exact hx),fun i x i' x' y hx hx'=>ok'.dj i x i' x' y (by rw [← hl];exact hx) (by rw [← hl];exact hx'),fun i x y p u hx=>ok'.dF i x y p u (by rw [← hl];exact hx)⟩)
def opE (P:Program) (N:Nat) (t:List (Nat×AV)) (M:List (Nat×AO)) (nk:Nat) (o:Oper):Option (List (Nat×AV)×List (Nat×AO)×Nat) :=
 match o.guard with
 | some _=>none
 | none =>
  match o.dst with
  | none =>
   match o.op with
   | .store T x y =>
    match (⟨t,M,nk⟩:St).ev x,(⟨t,M,nk⟩:St).ev y with
    | some ax,some ay =>
     match storeE P M T ax ay with
     | some (k,ob) =>
      match remS k M with
      | some M'=>some (t,(k,ob)::M',nk)
      | none=>none
     | none=>none
    | _,_=>none
   | _=>none
  | some d =>
   bif Nat.blt d N then
    match o.op with
    | .box T x =>
     match (⟨t,M,nk⟩:St).ev x with
     | some av=>bif av.cellB then some ((d,.pt nk 0 0)::t,(nk,.box T av.cells)::M,nk+1) else none
     | none=>none
    | .alloc T =>
     match (P.info? T).bind (·.zero) with
     | some z=>some ((d,.pt nk 0 0)::t,(nk,.box T (z.cells.toList.map .sc))::M,nk+1)
     | none=>none
    | .buildSlice T m parts =>
     match buildE P ⟨t,M,nk⟩ T m parts.toList with
     | some ob=>some ((d,.sl nk)::t,(nk,ob)::M,nk+1)
     | none=>none
    | op =>
     match stepV P ⟨t,M,nk⟩ op with
     | some av=>some ((d,av)::t,M,nk)
     | none=>none
   else none
theorem opE_of {P:Program} {C:Cx} {t t':List (Nat×AV)} {M M':List (Nat×AO)} {nk nk':Nat} {o:Oper} (h:opE P C.N t M nk o=some (t',M',nk')):o.guard=none∧WO P C o ⟨t,M,nk⟩ ⟨t',M',nk'⟩:=by
 unfold opE at h
 split at h
 ·cases h
 ·rename_i hg
  refine ⟨hg,?_⟩
  split at h
  ·rename_i hds
   split at h
   ·rename_i T x y ho
    split at h
    ·rename_i ax ay hx hy
     split at h
     ·rename_i k ob hst
      split at h
      case h_2=>cases h
      rename_i M1 hM1
      cases h
      rw [remS_eq hM1]
      unfold storeE at hst
      split at hst
      ·rename_i k i j
       split at hst
       ·rename_i m ob0 hm hk
        cases hb:ay.cellB && Nat.beq ay.cells.length m && ay.cells.all AV.oneB with
        | false=>rw [hb] at hst;cases hst
        | true =>
         rw [hb] at hst
         simp only [cond_true] at hst
         simp only [Bool.and_eq_true] at hb
         split at hst
         ·rename_i ob' hp
          cases hst
          exact wo_rem (WO.store (σ:=⟨t,M,nk⟩) ho hds hm hx hk hy hb.1.1 rfl (Nat.eq_of_beq_eq_true hb.1.2) hb.2 hp)
         ·cases hst
       ·cases hst
      ·cases hst
     ·cases h
    ·cases h
   ·cases h
  ·rename_i d hds
   cases hd:Nat.blt d C.N with
   | false=>rw [hd] at h;cases h
   | true =>
    rw [hd] at h
    simp only [cond_true] at h
    split at h
    ·rename_i T x ho
     split at h
     ·rename_i av hx
      cases hB:av.cellB with
      | false=>rw [hB] at h;cases h
      | true =>
       rw [hB] at h
       cases h
       exact WO.box (σ:=⟨t,M,nk⟩) ho hds hd hx hB rfl rfl
     ·cases h
    ·rename_i T ho
     split at h
     ·rename_i z hz
      cases h
      exact WO.alloc (σ:=⟨t,M,nk⟩) ho hz hds hd rfl rfl
     ·cases h
    ·rename_i T m parts ho
     split at h
     ·rename_i ob hob
      cases h
      unfold buildE at hob
      split at hob
      ·rename_i e hT
       split at hob
       ·rename_i n z avs hn hz hx
        cases hb:numB 0 parts.toList && Nat.beq parts.toList.length m && Nat.ble (m*n) 16777216 && Nat.ble m 16777216 && rowsB n avs with
        | false=>rw [hb] at hob;cases hob
        | true =>
         rw [hb] at hob
         simp only [Bool.and_eq_true] at hb
         cases hob
         exact WO.build (σ:=⟨t,M,nk⟩) ho hT hn hz hb.1.1.1.1 (Nat.eq_of_beq_eq_true hb.1.1.1.2) hb.1.1.2 hb.1.2 hds hd hx hb.2 rfl rfl
       ·cases hob
      ·cases hob
     ·cases h
    ·split at h
     ·rename_i av hv
      cases h
      exact WO.of_wv (σ:=⟨t,M,nk⟩) hds hd (stepV_of rfl hv)
     ·cases h
def goL (P:Program) (C:Cx) (ops:Array Oper) (Q:Exit→St→Prop):List Oper→List (Nat×AV)→List (Nat×AO)→Nat→Prop
 | [],t,M,nk=>Q .normal ⟨t,M,nk⟩
 | o::r,t,M,nk =>
  match opE P C.N t M nk o with
  | some (t',M',nk')=>goL P C ops Q r t' M' nk'
  | none=>WL P C ops (o::r) ⟨t,M,nk⟩ Q
theorem goL_of {P:Program} {C:Cx} {ops:Array Oper} {Q:Exit→St→Prop}:∀ {l:List Oper} {t:List (Nat×AV)} {M:List (Nat×AO)} {nk:Nat},goL P C ops Q l t M nk→WL P C ops l ⟨t,M,nk⟩ Q
 | [],t,M,nk,h=>WL.nil h
 | o::r,t,M,nk,h=>by
  unfold goL at h
  split at h
  ·rename_i t' M' nk' hs
   obtain ⟨h1,h2⟩:=opE_of hs
   exact WL.op h1 h2 (goL_of h)
  ·exact h
def goC (P:Program)(C:Cx):Code→St→(Exit→St→Prop)→Prop
 | .skip,σ,Q=>Q .normal σ
 | .exit id,σ,Q=>Q (.exit id) σ
 | .seq x y,σ,Q=>goC P C x σ (QThen (fun s=>W P C y s Q) Q)
 | .block id c,σ,Q=>goC P C c σ (QBlock id Q)
 | .region id ops false,⟨t,M,nk⟩,Q=>goL P C ops Q ops.toList t M nk
 | c,σ,Q=>W P C c σ Q
theorem goC_of {P:Program} {C:Cx}:∀ {c:Code} {σ:St} {Q:Exit→St→Prop},goC P C c σ Q→W P C c σ Q
 | .skip,σ,Q,h=>W.skip h
 | .exit id,σ,Q,h=>W.exit h
 | .ret,σ,Q,h=>h
 | .seq x y,σ,Q,h=>W.seq (goC_of (c:=x) h)
 | .block id c,σ,Q,h=>W.block (goC_of (c:=c) h)
 | .region id ops false,⟨t,M,nk⟩,Q,h=>fun G a w ok=>wp_region_list (goL_of (P:=P) (C:=C) (show goL P C ops Q ops.toList t M nk from h) G a w ok)
 | .region id ops true,σ,Q,h=>h
 | .cond c x y,σ,Q,h=>h
 | .loop c,σ,Q,h=>h
 | .rangeFunc f p a b,σ,Q,h=>h
 | .scope b,σ,Q,h=>h
 | .label l,σ,Q,h=>h
 | .goto l,σ,Q,h=>h
 | .refuse w,σ,Q,h=>h
def goB:Code→Bool
 | .skip=>true
 | .exit _=>true
 | .seq _ _=>true
 | .block _ _=>true
 | .region _ _ false=>true
 | _=>false
theorem W.go {P:Program} {C:Cx} {c:Code} {σ:St} {Q:Exit→St→Prop} (hc:goB c=true)(h:goC P C c σ Q):W P C c σ Q:=goC_of h
def goD (P:Program) (C:Cx):Code→St→(Exit→St→Prop)→Prop
 | .skip,σ,Q=>Q .normal σ
 | .exit id,σ,Q=>Q (.exit id) σ
 | .seq x y,σ,Q=>goD P C x σ (QThen (fun s=>W P C y s Q) Q)
 | .block id c,σ,Q=>goD P C c σ (QBlock id Q)
 | .region id ops false,⟨t,M,nk⟩,Q=>WL P C ops ops.toList ⟨t,M,nk⟩ Q
 | c,σ,Q=>W P C c σ Q
theorem goD_of {P:Program} {C:Cx}:∀ {c:Code} {σ:St} {Q:Exit→St→Prop},goD P C c σ Q→W P C c σ Q
 | .skip,σ,Q,h=>W.skip h
 | .exit id,σ,Q,h=>W.exit h
 | .ret,σ,Q,h=>h
 | .seq x y,σ,Q,h=>W.seq (goD_of (c:=x) h)
 | .block id c,σ,Q,h=>W.block (goD_of (c:=c) h)
 | .region id ops false,⟨t,M,nk⟩,Q,h=>fun G a w ok=>wp_region_list ((show WL P C ops ops.toList ⟨t,M,nk⟩ Q from h) G a w ok)
 | .region id ops true,σ,Q,h=>h
 | .cond c x y,σ,Q,h=>h
 | .loop c,σ,Q,h=>h
 | .rangeFunc f p a b,σ,Q,h=>h
 | .scope b,σ,Q,h=>h
 | .label l,σ,Q,h=>h
 | .goto l,σ,Q,h=>h
 | .refuse w,σ,Q,h=>h
theorem W.gob {P:Program} {C:Cx} {c:Code} {σ:St} {Q:Exit→St→Prop} (hc:goB c=true)(h:goD P C c σ Q):W P C c σ Q:=goD_of h
theorem WL.gyes {P:Program} {C:Cx} {ops:Array Oper} {o oj:Oper} {rest:List Oper} {σ:St} {Q:Exit→St→Prop} {j:Nat} {b:Bool} {d:Tmp} (hg:o.guard=some (j,b))(hj:ops[j]?=some oj)(hd:oj.dst=some d)(hv:look d σ.t=some (.sc (.bool b)))
  (k:WL P C ops ({ o with guard:=none }::rest) σ Q):WL P C ops (o::rest) σ Q:=fun G a w ok=>by
 have h:=k G a w ok
 have hy:=yielded_of (ops:=ops) ok hj hd hv
 unfold wpList at h ⊢
 rw [if_pos (by simp [Region.wanted])] at h
 rw [if_pos (by simp [Region.wanted,hg,hy,vb])]
 exact h
def sideI (op:BinOp)(m n:Int):Option (Prop×Int) :=
 match op with
 | .add=>some (I64 (m+n),m+n)
 | .sub=>some (I64 (m-n),m-n)
 | .mul=>some (I64 (m*n),m*n)
 | _=>none
def sideV (σ:St):Op→Option (Prop×Int)
 | .binOp op _ x y _ =>
  match σ.ev x,σ.ev y with
  | some (.sc (.int .i64 m)),some (.sc (.int .i64 n))=>sideI op m n
  | _,_=>none
 | _=>none
def catV (σ:St):Op→Option (List UInt8×List UInt8)
 | .binOp .add _ x y _ =>
  match σ.ev x,σ.ev y with
  | some (.sc (.string ⟨⟨s⟩⟩)),some (.sc (.string ⟨⟨t⟩⟩))=>some (s,t)
  | _,_=>none
 | _=>none
def lenA (P:Program) (σ:St) (T:TypeId):AV→Option Nat
 | .sc (.string ⟨⟨s⟩⟩) =>
  match P.underlying T with
  | some .string=>some s.length
  | _=>none
 | .ls _ rows =>
  match P.underlying T with
  | some (.slice _)=>some rows.length
  | _=>none
 | .sl k =>
  match P.underlying T,look k σ.M with
  | some (.slice _),some ob =>
   match ob.rows? with
   | some rows=>some rows.length
   | none=>none
  | _,_=>none
 | .sc (.slice _ m _) =>
  match P.underlying T with
  | some (.slice _)=>some m
  | _=>none
 | _=>none
def lenV(P:Program)(σ:St):Op→Option Nat
 | .call { callee:=.builtin .len,args:=⟨[x]⟩,argTypes:=⟨[T]⟩ } =>
  match σ.ev x with
  | some av=>lenA P σ T av
  | none=>none
 | _=>none
def idxV (P:Program)(σ:St):Op→Option (List (List AV)×Int)
 | .indexAddr T x y =>
  match P.underlying T,σ.ev x,σ.ev y with
  | some (.slice e),some (.ls n rows),some (.sc (.int _ z)) =>
   match sizeB P e with
   | some m=>bif Nat.beq m n then some (rows,z)else none
   | none=>none
  | _,_,_=>none
 | _=>none
def ixsV (P:Program)(σ:St):Op→Option (Nat×List (List AV)×Int)
 | .indexAddr T x y =>
  match P.underlying T,σ.ev x,σ.ev y with
  | some (.slice e),some (.sl k),some (.sc (.int _ z)) =>
   match sizeB P e,look k σ.M with
   | some m,some ob =>
    match ob.rows?,ob.n? with
    | some rows,some n=>bif Nat.beq m n then some (k,rows,z)else none
    | _,_=>none
   | _,_=>none
  | _,_,_=>none
 | _=>none
structure AppD where
 T:TypeId
 n:Nat
 k:Nat
 a:List (List AV)
 b:List (List AV)
def appV (P:Program) (σ:St):Op→Option AppD
 | .call { callee:=.builtin .append,args:=⟨[x,y]⟩,argTypes:=⟨[T,T']⟩ } =>
  match P.underlying T,σ.ev x,σ.ev y with
  | some (.slice e),some (.sl k),some av2 =>
   match P.info? e,look k σ.M with
   | some i,some (.row e' n rows) =>
    match i.zero,σ.src n av2 with
    | some z,some rows2=>bif Nat.beq T T' && Nat.beq e e' && Nat.beq i.size n && Nat.beq z.cells.size n && Nat.blt 0 n && Nat.ble i.bytes 100000 then some ⟨e,n,k,rows,rows2⟩else none
    | _,_=>none
   | _,_=>none
  | _,_,_=>none
 | _=>none
def dstB(N:Nat)(o:Oper):Option Tmp :=
 match o.guard,o.dst with
 | none,some d=>bif Nat.blt d N then some d else none
 | _,_=>none
section
variable {P:Program} {C:Cx} {ops:Array Oper} {o:Oper} {rest:List Oper} {σ:St} {Q:Exit→St→Prop} {d:Tmp}
theorem dstB_of(h:dstB C.N o=some d):o.guard=none∧o.dst=some d∧Nat.blt d C.N=true:=by
 unfold dstB at h
 split at h
 ·rename_i x h1 h2
  cases hb:Nat.blt x C.N with
  | false=>rw [hb]at h;cases h
  | true=>rw [hb]at h;cases h;exact⟨h1,h2,hb⟩
 ·cases h
theorem WL.vl {av:AV} (hd:dstB C.N o=some d)(h:WV P C o σ av)(k:WL P C ops rest (σ.put d av) Q):WL P C ops (o::rest) σ Q :=
 WL.opv (dstB_of hd).1 (dstB_of hd).2.1 (dstB_of hd).2.2 h k
theorem catV_of {s t:List UInt8} (h:catV σ o.op=some (s,t)) (hl:s.length+t.length<9223372036854775808):WV P C o σ (.sc (.string (bs (s++t)))):=by
 unfold catV at h
 split at h
 ·rename_i T x y Ty ho
  split at h
  ·rename_i s t h1 h2
   cases h
   exact WV.cat (s:=s) (t:=t) ho h1 h2 hl
  ·cases h
 ·cases h
theorem WL.cat {s t:List UInt8} (hd:dstB C.N o=some d)(h:catV σ o.op=some (s,t))(hl:s.length+t.length<9223372036854775808)(k:WL P C ops rest (σ.put d (.sc (.string (bs (s++t))))) Q):WL P C ops (o::rest) σ Q:=WL.vl hd (catV_of h hl) k
theorem lenV_of {m:Nat} (h:lenV P σ o.op=some m):WV P C o σ (.sc (.int .i64 m)):=by
 unfold lenV at h
 split at h
 ·rename_i x T ho
  split at h
  ·rename_i av hx
   unfold lenA at h
   split at h
   ·split at h
    ·rename_i s _ hT;cases h;exact WV.lenB (s:=s) ho hT hx
    ·cases h
   ·split at h
    ·rename_i hT;cases h;exact WV.lenL ho hT hx rfl
    ·cases h
   ·split at h
    ·rename_i ob hT hk
     split at h
     ·rename_i rows hr;cases h;exact WV.lenS ho hT hx hk hr rfl
     ·cases h
    ·cases h
   ·split at h
    ·rename_i hT;cases h;exact WV.lenN ho hT hx
    ·cases h
   ·cases h
  ·cases h
 ·cases h
theorem WL.len {m m':Nat} (hd:dstB C.N o=some d)(h:lenV P σ o.op=some m)(hm:m=m')(k:WL P C ops rest (σ.put d (.sc (.int .i64 m'))) Q):WL P C ops (o::rest) σ Q:=by
 subst hm
 exact WL.vl hd (lenV_of h) k
theorem zql {m n:Nat} (h:m = n:=by first|exact List.length_map _|exact List.length_replicate|rfl):m = n:=h
theorem idxV_of {rows:List (List AV)} {z:Int} {r:List AV} (h:idxV P σ o.op=some (rows,z))(h0:0≤z)(hr:rows[z.toNat]?=some r):WV P C o σ (.pr r):=by
 unfold idxV at h
 split at h
 ·rename_i T x y ho
  split at h
  ·rename_i e n rows' q z' hT hx hy
   split at h
   ·rename_i m hn
    cases hb:Nat.beq m n with
    | false=>rw [hb]at h;cases h
    | true =>
     rw [hb]at h
     cases h
     obtain rfl:=Nat.eq_of_beq_eq_true hb
     exact WV.indexL ho hT hn hx hy h0 hr
   ·cases h
  ·cases h
 ·cases h
theorem WL.idx {rows:List (List AV)} {z:Int} {r:List AV} (hd:dstB C.N o=some d)(h:idxV P σ o.op=some (rows,z))(h0:0≤z)(hr:rows[z.toNat]?=some r)(k:WL P C ops rest (σ.put d (.pr r)) Q):WL P C ops (o::rest) σ Q :=
 WL.vl hd (idxV_of h h0 hr) k
theorem ixsV_of {q:Nat} {rows:List (List AV)} {z:Int} (h:ixsV P σ o.op=some (q,rows,z))(h0:0≤z)(h1:z<rows.length):WV P C o σ (.pt q z.toNat 0):=by
 unfold ixsV at h
 split at h
 ·rename_i T x y ho
  split at h
  ·rename_i e k q' z' hT hx hy
   split at h
   ·rename_i m ob hn hk
    split at h
    ·rename_i rows' n hr hn2
     cases hb:Nat.beq m n with
     | false=>rw [hb]at h;cases h
     | true =>
      rw [hb]at h
      cases h
      obtain rfl:=Nat.eq_of_beq_eq_true hb
      exact WV.indexS ho hT hn hx hy hk hr hn2 h0 h1
    ·cases h
   ·cases h
  ·cases h
 ·cases h
theorem WL.ixs {q:Nat} {rows:List (List AV)} {z:Int} (hd:dstB C.N o=some d)(h:ixsV P σ o.op=some (q,rows,z))(h0:0≤z∧z<rows.length)(k:WL P C ops rest (σ.put d (.pt q z.toNat 0)) Q):WL P C ops (o::rest) σ Q :=
 WL.vl hd (ixsV_of h h0.1 h0.2) k
theorem appV_of {x:AppD} (hd:dstB C.N o=some d)(h:appV P σ o.op=some x)(hl:x.a.length+x.b.length≤1000000000):WO P C o σ (((σ.drop x.k).new (.row x.T x.n (x.a++x.b))).put d (.sl σ.nk)):=by
 obtain⟨_,hds,hdb⟩:=dstB_of hd
 unfold appV at h
 split at h
 ·rename_i x y T T' ho
  split at h
  ·rename_i e k av2 hT hx hy
   split at h
   ·rename_i i e' n rows hi hk
    split at h
    ·rename_i z rows2 hz hs
     cases hb:Nat.beq T T' && Nat.beq e e' && Nat.beq i.size n && Nat.beq z.cells.size n && Nat.blt 0 n && Nat.ble i.bytes 100000 with
     | false=>rw [hb] at h;cases h
     | true =>
      rw [hb] at h
      simp only [Bool.and_eq_true] at hb
      cases h
      obtain⟨⟨⟨⟨⟨b1,b2⟩,b3⟩,b4⟩,b5⟩,b6⟩:=hb
      obtain rfl:=Nat.eq_of_beq_eq_true b1
      obtain rfl:=Nat.eq_of_beq_eq_true b2
      exact WO.append ho hT hi hz (Nat.eq_of_beq_eq_true b3) rfl (Nat.eq_of_beq_eq_true b4) b5 hds hdb hx hk hy hs rfl hl b6 rfl
    ·cases h
   ·cases h
  ·cases h
 ·cases h
theorem WL.app {x:AppD} {t:List (Nat×AV)} {M M':List (Nat×AO)} {nk:Nat} (hd:dstB C.N o=some d) (h:appV P ⟨t,M,nk⟩ o.op=some x) (hM:remS x.k M=some M') (hl:x.a.length+x.b.length≤1000000000) (k:WL P C ops rest ⟨(d,.sl nk)::t,(nk,.row x.T x.n (x.a++x.b))::M',nk+1⟩ Q):WL P C ops (o::rest) ⟨t,M,nk⟩ Q:=by
 rw [remS_eq hM] at k
 exact WL.op (dstB_of hd).1 (appV_of hd h hl) k
theorem WL.ev {t:List (Nat×AV)} {M:List (Nat×AO)} {nk:Nat} (h:(opE P C.N t M nk o).isSome=true) (k:goL P C ops Q (o::rest) t M nk):WL P C ops (o::rest) ⟨t,M,nk⟩ Q:=goL_of k
def stepD (P:Program)(N:Nat)(ops:Array Oper)(σ:St)(o:Oper):Option (Tmp×AV) :=
 match o.dst with
 | some d =>
  bif Nat.blt d N then
   match guardK ops o (σ.only (o.looksAt ops)) with
   | some true =>
    match stepV P (σ.only (o.looksAt ops)) o.op with
    | some av=>some (d,av)
    | none=>none
   | some false=>some (d,.sc undef)
   | none=>none
  else none
 | none=>none
theorem DK.st {av:AV} (h:stepD P C.N ops σ o=some (d,av))(k:DK P C ops rest (σ.put d av) Q):DK P C ops (o::rest) σ Q:=by
 unfold stepD at h
 split at h
 ·rename_i x hds
  cases hb:Nat.blt x C.N with
  | false=>rw [hb] at h;cases h
  | true =>
   rw [hb] at h
   simp only [cond_true] at h
   split at h
   ·rename_i hg
    split at h
    ·rename_i av' hv
     cases h
     exact DK.val hds hb hg (stepV_of rfl hv) k
    ·cases h
   ·rename_i hg
    cases h
    exact DK.no hds hb hg k
   ·cases h
 ·cases h
theorem DK.tt {b:Bool} (h:stepD P C.N ops σ o=some (d,.sc (.bool b)))(hb:b=true)(k:DK P C ops rest (σ.put d (.sc (.bool true))) Q):DK P C ops (o::rest) σ Q:=by
 subst hb;exact DK.st h k
theorem DK.ff {b:Bool} (h:stepD P C.N ops σ o=some (d,.sc (.bool b)))(hb:b=false)(k:DK P C ops rest (σ.put d (.sc (.bool false))) Q):DK P C ops (o::rest) σ Q:=by
 subst hb;exact DK.st h k
def dstD (N:Nat)(ops:Array Oper)(σ:St)(o:Oper):Option Tmp :=
 match o.dst,guardK ops o (σ.only (o.looksAt ops))with
 | some d,some true=>bif Nat.blt d N then some d else none
 | _,_=>none
theorem DK.vl {av:AV} (hd:dstD C.N ops σ o=some d)(h:WV P C o (σ.only (o.looksAt ops)) av)(k:DK P C ops rest (σ.put d av) Q):DK P C ops (o::rest) σ Q:=by
 unfold dstD at hd
 split at hd
 ·rename_i x h1 h2
  cases hb:Nat.blt x C.N with
  | false=>rw [hb] at hd;cases hd
  | true=>rw [hb] at hd;cases hd;exact DK.val h1 hb h2 h k
 ·cases hd
theorem DK.len {m m':Nat} (hd:dstD C.N ops σ o=some d)(h:lenV P (σ.only (o.looksAt ops)) o.op=some m)(hm:m=m')(k:DK P C ops rest (σ.put d (.sc (.int .i64 m'))) Q):DK P C ops (o::rest) σ Q:=by
 subst hm;exact DK.vl hd (lenV_of h) k
theorem DK.idx {rows:List (List AV)} {z:Int} {r:List AV} (hd:dstD C.N ops σ o=some d)(h:idxV P (σ.only (o.looksAt ops)) o.op=some (rows,z))(h0:0≤z)(hr:rows[z.toNat]?=some r)(k:DK P C ops rest (σ.put d (.pr r)) Q):DK P C ops (o::rest) σ Q :=
 DK.vl hd (idxV_of h h0 hr) k
theorem DK.ixs {q:Nat} {rows:List (List AV)} {z:Int} (hd:dstD C.N ops σ o=some d)(h:ixsV P (σ.only (o.looksAt ops)) o.op=some (q,rows,z))(h0:0≤z∧z<rows.length)(k:DK P C ops rest (σ.put d (.pt q z.toNat 0)) Q):DK P C ops (o::rest) σ Q :=
 DK.vl hd (ixsV_of h h0.1 h0.2) k
theorem sideV_of {φ:Prop} {z:Int} (h:sideV σ o.op=some (φ,z))(hφ:φ):WV P C o σ (.sc (.int .i64 z)):=by
 unfold sideV at h
 split at h
 ·rename_i op T x y Ty ho
  split at h
  ·rename_i m n h1 h2
   unfold sideI at h
   split at h<;>first|cases h|skip
   ·exact WV.add ho h1 h2 hφ
   ·exact WV.sub ho h1 h2 hφ
   ·exact WV.mul ho h1 h2 hφ
  ·cases h
 ·cases h
theorem WL.ar {φ:Prop} {z:Int} (hd:dstB C.N o=some d)(h:sideV σ o.op=some (φ,z))(hφ:φ)(k:WL P C ops rest (σ.put d (.sc (.int .i64 z))) Q):WL P C ops (o::rest) σ Q:=WL.vl hd (sideV_of h hφ) k
theorem DK.ar {φ:Prop} {z:Int} (hd:dstD C.N ops σ o=some d)(h:sideV (σ.only (o.looksAt ops)) o.op=some (φ,z))(hφ:φ)(k:DK P C ops rest (σ.put d (.sc (.int .i64 z))) Q):DK P C ops (o::rest) σ Q:=DK.vl hd (sideV_of h hφ) k
end
end
section
open Go.RowKit
def tailB (ops:Array Oper)(k0:Nat):Bool:=Nat.ble k0 ops.size &&
 ((List.range ops.size).all fun j=>Nat.blt j k0|| (List.range j).all fun i=>needs ops i ops.size j) &&
 ((List.range k0).all fun j=>match ops[j]? with
  | some o=>match o.guard with
   | some (g,_)=>Nat.blt g k0
   | none=>true
  | none=>true)
section
variable {P:Program} {ops:Array Oper} {Q Q1:Exit→Act→World→Prop}
theorem Oper.wp_post {o:Oper} {a:Act} {w:World} {K K':Act→World→Prop} (hK:∀ a w,K a w→K' a w)(hQ:∀ e a w,e≠.normal→Q1 e a w→Q e a w)(h:o.wp P a w K Q1):o.wp P a w K' Q:=by
 unfold Oper.wp at *
 generalize (execOp a.eval o).run P w=r at *
 have lets:LetsOut Q1→LetsOut Q:=fun⟨a,w,q⟩=>⟨a,w,hQ _ _ _ (by simp) q⟩
 unfold Oper.upon at *
 split at h
 ·exact hK _ _ h
 ·exact hK _ _ h
 ·exact hK _ _ h
 ·refine Calls.mono h fun e w' he=>?_
  cases e with
  | returned v=>exact hK _ _ he
  | panicked c=>exact hQ _ _ _ (by simp) he
  | outgrown=>exact lets he
 ·exact Rows.mono h fun v w' hv=>hK _ _ hv
 ·exact hQ _ _ _ (by simp) h
 ·exact h.elim
theorem yielded_app {l s:List Oper} {t:Array Value} {g:Nat} (h:g<l.length):yielded (l++s).toArray t g=yielded l.toArray t g:=by
 unfold yielded
 have:(l++s).toArray[g]?=l.toArray[g]?:=by simp [List.getElem?_append_left h]
 rw [this]
theorem wpAny_tail (FA:∀ j oj,ops[j]?=some oj→∀ e∈oj.after,Region.binds .any e=true→e.on<j) {k0:Nat} (hT:∀ j,k0≤j→j<ops.size→∀ i,i<j→needs ops i ops.size j=true) :
  ∀ (f m fuel:Nat) (listed:Array Bool) (a:Act) (w:World),m+f=ops.size→k0≤m→listed.size=ops.size→(∀ i,i<ops.size→listed.getD i false=decide (i<m))→f≤fuel→wpList P ops Q (ops.toList.drop m) a w→wpAny P .any ops Q fuel listed a w:=by
 intro f
 induction f with
 | zero =>
  intro m fuel listed a w hm hk hsz hl hf h
  have hr:Region.ready .any ops listed=[]:=by
   apply List.eq_nil_iff_forall_not_mem.2
   intro j hj
   obtain ⟨h1,oj,h2,_⟩:=mem_ready.1 hj
   have hlt:=(Array.getElem?_eq_some_iff.1 h2).1
   have h3:=hl j hlt
   rw [decide_eq_true (by omega)] at h3
   have:listed.getD j true=listed.getD j false:=by simp [Array.getD_eq_getD_getElem?,hsz,hlt]
   rw [this,h3] at h1;cases h1
  have hd:ops.toList.drop m=[]:=List.drop_eq_nil_of_le (by simp;omega)
  rw [hd] at h
  cases fuel with
  | zero=>exact ⟨hr,h⟩
  | succ fuel=>exact ⟨fun _=>h,fun i hi=>by rw [hr] at hi;cases hi⟩
 | succ f ih =>
  intro m fuel listed a w hm hk hsz hl hf h
  obtain ⟨fuel,rfl⟩:∃ q,fuel=q+1:=⟨fuel-1,by omega⟩
  have hlt:m<ops.size:=by omega
  have hom:ops[m]?=some ops[m]:=Array.getElem?_eq_getElem hlt
  have hrm:m∈Region.ready .any ops listed:=mem_ready.2 ⟨by
   have:listed.getD m true=listed.getD m false:=by simp [Array.getD_eq_getD_getElem?,hsz,hlt]
   rw [this,hl m hlt];simp,_,hom,fun e he hb=>by
   have:=FA m _ hom e he hb
   rw [hl _ (by omega)];simpa using this⟩
  have hd:ops.toList.drop m=ops[m]::ops.toList.drop (m+1):=by
   rw [List.drop_eq_getElem_cons (by simpa using hlt)];simp
  rw [hd] at h
  refine ⟨fun hr=>(by rw [hr] at hrm;cases hrm),fun i hi=>?_⟩
  have him:m=i:=by
   obtain ⟨h1,oi,h2,h3⟩:=mem_ready.1 hi
   have hi2:=(Array.getElem?_eq_some_iff.1 h2).1
   have e1:listed.getD i true=listed.getD i false:=by simp [Array.getD_eq_getD_getElem?,hsz,hi2]
   rw [e1,hl i hi2] at h1
   have hge:m≤i:=by simpa using h1
   by_cases e:m=i
   ·exact e
   ·have:=needs_ready (listed:=listed) (fun j oj ho hj e he hb=>by
      have h5:=FA j oj ho e he hb
      have hjs:=(Array.getElem?_eq_some_iff.1 ho).1
      rw [hl j hjs] at hj
      rw [hl _ (by omega)]
      have h6:=of_decide_eq_true hj
      exact decide_eq_true zqo) h2 h3 _ (hT i zqo hi2 m zqo)
    rw [hl m hlt] at this
    simp at this
  subst him
  have step:∀ a w,wpList P ops Q (ops.toList.drop (m+1)) a w→wpAny P .any ops Q fuel (listed.setIfInBounds m true) a w:=fun a w hw =>
   ih (m+1) fuel _ a w (by omega) (by omega) (by simpa using hsz) (fun q hq=>by
    by_cases e:m=q
    ·subst e
     simp [Array.getD_eq_getD_getElem?,hsz,hlt]
    ·have h7:(listed.setIfInBounds m true).getD q false=listed.getD q false:=by simp [Array.getD_eq_getD_getElem?,Array.getElem?_setIfInBounds_ne e]
     rw [h7,hl q hq]
     have:(q<m)↔(q<m+1):=by omega
     simp [this]) (by omega) hw
  unfold wpOp
  simp only [hom]
  simp only [wpList] at h
  by_cases hw:Region.wanted ops[m] (yielded ops a.tmps)=true
  ·rw [if_pos hw] at h ⊢
   exact h.imp (Oper.wp_mono step) id
  ·rw [if_neg hw] at h ⊢
   exact step _ _ h
theorem wpAny_app {l s:List Oper} (FA:∀ j oj,(l++s).toArray[j]?=some oj→∀ e∈oj.after,Region.binds .any e=true→e.on<j) (hT:∀ j,l.length≤j→j<(l++s).toArray.size→∀ i,i<j→needs (l++s).toArray i (l++s).toArray.size j=true)
  (hg:∀ (j:Nat) o g b,l[j]?=some o→o.guard=some (g,b)→g<l.length) (hN:∀ a w,Q1 .normal a w→wpList P (l++s).toArray Q s a w) (hQ:∀ e a w,e≠.normal→Q1 e a w→Q e a w) :
  ∀ (fuel:Nat) (la lb:Array Bool) (a:Act) (w:World),la.size=l.length→lb.size=(l++s).length→(∀ i,i<l.length→lb.getD i false=la.getD i false)→(∀ i,l.length≤i→i<(l++s).length→lb.getD i false=false) →
   (∀ j oj,l[j]?=some oj→la.getD j false=true→∀ e∈oj.after,Region.binds .any e=true→la.getD e.on false=true) →
   wpAny P .any l.toArray Q1 fuel la a w→wpAny P .any (l++s).toArray Q (fuel+s.length) lb a w:=by
 have opl:∀ {j:Nat},j<l.length→(l++s).toArray[j]?=l[j]?:=fun h=>by simp [List.getElem?_append_left h]
 have FAl:∀ j oj,l[j]?=some oj→∀ e∈oj.after,Region.binds .any e=true→e.on<j:=fun j oj ho=>FA j oj ((opl (List.getElem?_eq_some_iff.1 ho).1).trans ho)
 have fin:∀ (fuel:Nat) (la lb:Array Bool) (a:Act) (w:World),la.size=l.length→lb.size=(l++s).length→(∀ i,i<l.length→lb.getD i false=la.getD i false)→(∀ i,l.length≤i→i<(l++s).length→lb.getD i false=false) →
   Region.ready .any l.toArray la=[]→Q1 .normal a w→wpAny P .any (l++s).toArray Q (fuel+s.length) lb a w:=by
  intro fuel la lb a w h1 h2 h3 h4 hr hq
  have hall:∀ n i,i<n→i<l.length→la.getD i false=true:=by
   intro n
   induction n with
   | zero=>intro i h;omega
   | succ n ih =>
    intro i hi hlt
    by_cases e:i<n
    ·exact ih i e hlt
    ·cases hli:la.getD i false with
     | true=>rfl
     | false =>
      have hoi:l.toArray[i]?=some l[i]:=by simp [hlt]
      have:i∈Region.ready .any l.toArray la:=mem_ready.2 ⟨by
       have:la.getD i true=la.getD i false:=by simp [Array.getD_eq_getD_getElem?,h1,hlt]
       rw [this];exact hli,l[i],hoi,fun e he hb=>by
        have:=FAl i l[i] (by simp [hlt]) e he hb
        exact ih e.on zqo zqo⟩
      rw [hr] at this;cases this
  refine wpAny_tail FA hT s.length l.length _ lb a w (by simp) (Nat.le_refl _) (by simpa using h2) (fun i hi=>?_) (by omega) ?_
  ·by_cases e:i<l.length
   ·rw [h3 i e,hall (i+1) i (by omega) e,decide_eq_true e]
   ·rw [h4 i (by omega) (by simpa using hi),decide_eq_false e]
  ·have:(l++s).toArray.toList.drop l.length=s:=by simp
   rw [this]
   exact hN a w hq
 intro fuel
 induction fuel with
 | zero =>
  intro la lb a w h1 h2 h3 h4 _ h
  exact fin 0 la lb a w h1 h2 h3 h4 h.1 h.2
 | succ fuel ih =>
  intro la lb a w h1 h2 h3 h4 hcl h
  obtain ⟨hn,hs⟩:=h
  by_cases hr:Region.ready .any l.toArray la=[]
  ·exact fin (fuel+1) la lb a w h1 h2 h3 h4 hr (hn hr)
  ·obtain ⟨j0,hj0⟩:=List.exists_mem_of_ne_nil _ hr
   obtain ⟨u1,o0,u2,u3⟩:=mem_ready.1 hj0
   have hj0l:j0<l.length:=by have:=(Array.getElem?_eq_some_iff.1 u2).1;simpa using this
   have hj0n:j0<(l++s).length:=by simp;omega
   have u1':la.getD j0 false=false:=by
    have:la.getD j0 true=la.getD j0 false:=by simp [Array.getD_eq_getD_getElem?,h1,hj0l]
    rw [← this];exact u1
   have hcl2:∀ j oj,(l++s).toArray[j]?=some oj→lb.getD j false=true→∀ e∈oj.after,Region.binds .any e=true→lb.getD e.on false=true:=by
    intro j oj ho hj e he hb
    have hjn:j<(l++s).length:=by have:=(Array.getElem?_eq_some_iff.1 ho).1;simpa using this
    by_cases e2:j<l.length
    ·have ho':l[j]?=some oj:=(opl e2).symm.trans ho
     have:=FAl j oj ho' e he hb
     rw [h3 _ (by omega)]
     rw [h3 _ e2] at hj
     exact hcl j oj ho' hj e he hb
    ·rw [h4 j (by omega) hjn] at hj;cases hj
   rw [show fuel+1+s.length=(fuel+s.length)+1 by omega]
   have hmem:∀ i,i∈Region.ready .any (l++s).toArray lb→i<l.length∧i∈Region.ready .any l.toArray la:=by
    intro i hi
    obtain ⟨v1,oi,v2,v3⟩:=mem_ready.1 hi
    have hin:i<(l++s).toArray.size:=(Array.getElem?_eq_some_iff.1 v2).1
    have hil:i<l.length:=by
     by_cases e:i<l.length
     ·exact e
     ·have:=needs_ready (listed:=lb) hcl2 v2 v3 _ (hT i zqo hin j0 zqo)
      rw [h3 _ hj0l,u1'] at this;cases this
    have v2':l.toArray[i]?=some oi:=by rw [opl hil] at v2;simpa using v2
    refine ⟨hil,mem_ready.2 ⟨?_,oi,v2',fun e he hb=>?_⟩⟩
    ·have q1:lb.getD i true=lb.getD i false:=by simp [Array.getD_eq_getD_getElem?,show i<lb.size by rw [h2];simpa using hin]
     have q2:la.getD i true=la.getD i false:=by simp [Array.getD_eq_getD_getElem?,h1,hil]
     rw [q2,← h3 i hil,← q1];exact v1
    ·have:=FA i oi v2 e he hb
     rw [← h3 _ (by omega)];exact v3 e he hb
   refine ⟨fun hr2=>?_,fun i hi=>?_⟩
   ·have:j0∈Region.ready .any (l++s).toArray lb:=mem_ready.2 ⟨by
     have:lb.getD j0 true=lb.getD j0 false:=by simp [Array.getD_eq_getD_getElem?,show j0<lb.size by rw [h2];exact hj0n]
     rw [this,h3 _ hj0l];exact u1',o0,by rw [opl hj0l];simpa using u2,fun e he hb=>by
      have:=FAl j0 o0 (by simpa using u2) e he hb
      rw [h3 _ (by omega)];exact u3 e he hb⟩
    rw [hr2] at this;cases this
   ·obtain ⟨hil,hia⟩:=hmem i hi
    obtain ⟨v1,oi,v2,v3⟩:=mem_ready.1 hia
    have hli:l[i]?=some oi:=by simpa using v2
    have h:=hs i hia
    have hob:(l++s).toArray[i]?=some oi:=(opl hil).trans hli
    have hset:∀ q,i≠q→∀ (x:Array Bool),(x.setIfInBounds i true).getD q false=x.getD q false:=fun q e x=>by simp [Array.getD_eq_getD_getElem?,Array.getElem?_setIfInBounds_ne e]
    have step:∀ a w,wpAny P .any l.toArray Q1 fuel (la.setIfInBounds i true) a w→wpAny P .any (l++s).toArray Q (fuel+s.length) (lb.setIfInBounds i true) a w:=fun a w k =>
     ih _ _ a w (by simpa using h1) (by simpa using h2) (fun q hq=>by
      by_cases e:i=q
      ·subst e;simp [Array.getD_eq_getD_getElem?,h1,h2,hil];omega
      ·rw [hset q e,hset q e];exact h3 q hq) (fun q hq hq2=>by rw [hset q (by omega)];exact h4 q hq hq2)
      (fun q oq hoq hq e he hb=>by
       have mono:∀ x,la.getD x false=true→(la.setIfInBounds i true).getD x false=true:=fun x hx=>by
        by_cases e:i=x
        ·subst e;simp [Array.getD_eq_getD_getElem?,h1,hil]
        ·rw [hset x e];exact hx
       by_cases e2:i=q
       ·subst e2
        rw [hli] at hoq;cases hoq
        exact mono _ (v3 e he hb)
       ·rw [hset q e2] at hq
        exact mono _ (hcl q oq hoq hq e he hb)) k
    unfold wpOp at h ⊢
    simp only [v2] at h
    simp only [hob]
    have hwant:Region.wanted oi (yielded (l++s).toArray a.tmps)=Region.wanted oi (yielded l.toArray a.tmps):=by
     cases hgd:oi.guard with
     | none=>simp [Region.wanted,hgd]
     | some gb =>
      obtain ⟨g,b⟩:=gb
      simp [Region.wanted,hgd,yielded_app (hg i oi g b hli hgd)]
    rw [hwant]
    by_cases hw:Region.wanted oi (yielded l.toArray a.tmps)=true
    ·rw [if_pos hw] at h ⊢
     rcases h with h|⟨h,hl⟩
     ·exact .inl (Oper.wp_post step hQ h)
     ·exact .inr ⟨h,let ⟨a,w,q⟩:=hl;⟨a,w,hQ _ _ _ (by simp) q⟩⟩
    ·rw [if_neg hw] at h ⊢
     exact step _ _ h
end
section
variable {P:Program} {C:Cx} {σ:St} {Q:Exit→St→Prop}
theorem W.drawT {id:Nat} {L:List Oper} (k0:Nat) (hm:P.follows .mixedOrders=true) (hB:Region.lexB .any L.toArray=true) (hT:tailB L.toArray k0=true)
  (h:WA P C (L.take k0).toArray σ (fun e s=>e=.normal∧WL P C L.toArray (L.drop k0) s Q)):W P C (.region id L.toArray true) σ Q:=by
 refine W.of_wa hm fun G a w ok=>?_
 obtain ⟨l,hl⟩:∃ l,L.take k0=l:=⟨_,rfl⟩
 obtain ⟨s,hs⟩:∃ s,L.drop k0=s:=⟨_,rfl⟩
 have hL:L=l++s:=by rw [← hl,← hs,List.take_append_drop]
 rw [hl,hs] at h
 simp only [Region.lexB,Bool.and_eq_true] at hB
 obtain ⟨FA,_⟩:=lex_facts (ops:=L.toArray) L.toArray.size 0 (Array.replicate L.toArray.size false) (by simp) (by simp) (fun i hi=>by simp [Array.getD_eq_getD_getElem?,hi] at hi ⊢;simp [hi]) hB.2
 simp only [tailB,Bool.and_eq_true] at hT
 obtain ⟨⟨T0,T1⟩,T2⟩:=hT
 have hk:l.length≤k0:=by rw [← hl];simp;omega
 by_cases hkL:k0≤L.length
 ·have hlk:l.length=k0:=by rw [← hl];simp;omega
  subst hL
  have:=wpAny_app (P:=P) (Q:=Post C Q) (Q1:=Post C (fun e s'=>e=.normal∧WL P C (l++s).toArray s s' Q)) (l:=l) (s:=s) (fun j oj ho=>FA j oj (Nat.zero_le _) ho)
   (fun j hj hjn i hij=>by
    have q:=List.all_eq_true.1 T1 j (List.mem_range.2 hjn)
    have e:Nat.blt j k0=false:=by
     cases hb:Nat.blt j k0 with
     | false=>rfl
     | true=>have:=of_blt hb;omega
    rw [e,Bool.false_or] at q
    exact List.all_eq_true.1 q i (List.mem_range.2 hij))
   (fun j o g b ho hgd=>by
    have hj:j<l.length:=(List.getElem?_eq_some_iff.1 ho).1
    have q:=List.all_eq_true.1 T2 j (List.mem_range.2 zqo)
    rw [show (l++s).toArray[j]?=some o by simp [List.getElem?_append_left hj,ho]] at q
    simp only [hgd] at q
    have:=of_blt q
    omega)
   (fun a w ⟨s',G',⟨_,q⟩,o⟩=>q G' a w o)
   (fun e a w he ⟨s',G',⟨q,_⟩,o⟩=>absurd q he)
   l.length (Array.replicate l.length false) (Array.replicate (l++s).length false) a _ (by simp) (by simp) (fun i hi=>by rw [rep_getD,rep_getD]) (fun i _ _=>rep_getD _ _)
   (fun j oj _ hj=>by rw [rep_getD] at hj;cases hj) (by simpa using h G a w ok)
  simpa using this
 ·exact absurd (by simpa using Nat.le_of_ble_eq_true T0) hkL
end
end
section
open Go.RowKit
abbrev Lck:=Int×Int×Int
def lckCells(x:Lck):List Value:=[.int .i64 x.1,.int .i64 x.2.1,.int .i64 x.2.2]
def SayAt (w:World)(B0 b:Nat)(l:List Lck):Prop :=
 ∃ Q d,Blk w b 45 #[.slice Q l.length d]∧w.ownsRow B0 122 3 (.slice Q l.length d) l.length (l.map lckCells).flatten
end
section
open Go.RowKit
def lineV(s c n:Int):Int:=if s=4 then 0 else if s=2 then n+1-c else c
theorem insE_len {cs:List (Int×Int×Bool)} {st:List Int} (h:insE cs st=0):1≤cs.length∧cs.length≤14∧st.length≤18∧stepsBad 0 st=false∧crsE st cs=0:=by
 unfold insE at h
 by_cases h1:14<cs.length∨18<st.length
 ·rw [if_pos h1]at h;cases h
 ·rw [if_neg h1]at h
  by_cases h2:cs.length=0
  ·rw [if_pos h2]at h;cases h
  ·rw [if_neg h2]at h
   by_cases h3:stepsBad 0 st=true
   ·rw [if_pos h3]at h;cases h
   ·rw [if_neg h3]at h
    exact⟨by omega,by omega,by omega,by simpa using h3,h⟩
end
end Go.Proofs.YthehkchjdkdbiaaGreatDoor
