/- What Check answers of a piece: the plain part. -/
import Derived.Test.YtgelfflighgajaaGreatDoorEVPq
import Derived.Test.YtgelfflighgajaaGreatDoorPLgPq
import Derived.Test.YtgelfflighgajaaGreatDoorSayPq
set_option linter.unusedVariables false
set_option linter.unusedSimpArgs false
namespace Go.Proofs.YtgelfflighgajaaGreatDoor
section
open Go.RowKit
section
variable {P:Program} {C:Cx} {ops:Array Oper} {o:Oper} {rest:List Oper} {σ:St} {Q:Exit→St→Prop} {d:Tmp} {mem:List Bool} {Mc:List (Nat×AO)} {nk0 k:Nat}
def memB (N:Nat) (ops:Array Oper) (mem:List Bool) (Mc:List (Nat×AO)) (k nk:Nat) (t:List (Nat×AV)) (o:Oper):Option (Tmp×Bool) :=
 match o.dst with
 | some d =>
  bif !(mem.getD k false) && Nat.blt d N && msInn nk Mc && tsInn nk (onlyT t (o.looksAt ops))then
   match guardK ops o ⟨onlyT t (o.looksAt ops),Mc,nk⟩with
   | some b=>some (d,b)
   | none=>none
  else none
 | none=>none
theorem memB_of {nk:Nat} {t:List (Nat×AV)} {b:Bool} (h:memB C.N ops mem Mc k nk t o=some (d,b)):mem.getD k false=false∧o.dst=some d∧Nat.blt d C.N=true∧msInn nk Mc=true∧tsInn nk (onlyT t (o.looksAt ops))=true∧guardK ops o ⟨onlyT t (o.looksAt ops),Mc,nk⟩=some b:=by
 unfold memB at h
 split at h
 ·rename_i x hds
  cases hb:!(mem.getD k false) && Nat.blt x C.N && msInn nk Mc && tsInn nk (onlyT t (o.looksAt ops))with
  | false=>rw [hb]at h;cases h
  | true =>
   rw [hb]at h
   simp only [cond_true]at h
   simp only [Bool.and_eq_true,Bool.not_eq_true']at hb
   split at h
   ·rename_i b' hg
    cases h
    exact ⟨hb.1.1.1,hds,hb.1.1.2,hb.1.2,hb.2,hg⟩
   ·cases h
 ·cases h
theorem DMK.v0 {av:AV} (hd:memB C.N ops mem Mc k nk0 σ.t o=some (d,true)) (h:WV P C o ⟨onlyT σ.t (o.looksAt ops),Mc,nk0⟩ av) (r:DMK P C ops mem Mc nk0 (k+1) rest (σ.put d av) Q):DMK P C ops mem Mc nk0 k (o::rest) σ Q:=by
 obtain ⟨a,b,c,e,f,g⟩:=memB_of hd
 exact DMK.val a b c (.inl rfl) ⟨e,f,.inl ⟨g,h⟩⟩ r
theorem DMK.v1 {av:AV} (hd:memB C.N ops mem Mc k σ.nk σ.t o=some (d,true)) (hb:behindB ops mem k=true) (h:WV P C o ⟨onlyT σ.t (o.looksAt ops),Mc,σ.nk⟩ av) (r:DMK P C ops mem Mc nk0 (k+1) rest (σ.put d av) Q):DMK P C ops mem Mc nk0 k (o::rest) σ Q:=by
 obtain ⟨a,b,c,e,f,g⟩:=memB_of hd
 exact DMK.val a b c (.inr ⟨rfl,hb⟩) ⟨e,f,.inl ⟨g,h⟩⟩ r
theorem DMK.st {av:AV} (hd:memB C.N ops mem Mc k nk0 σ.t o=some (d,true)) (h:stepV P ⟨onlyT σ.t (o.looksAt ops),Mc,nk0⟩ o.op=some av) (r:DMK P C ops mem Mc nk0 (k+1) rest (σ.put d av) Q):DMK P C ops mem Mc nk0 k (o::rest) σ Q:=DMK.v0 hd (stepV_of rfl h) r
theorem DMK.s1 {av:AV} (hd:memB C.N ops mem Mc k σ.nk σ.t o=some (d,true)) (hb:behindB ops mem k=true) (h:stepV P ⟨onlyT σ.t (o.looksAt ops),Mc,σ.nk⟩ o.op=some av) (r:DMK P C ops mem Mc nk0 (k+1) rest (σ.put d av) Q):DMK P C ops mem Mc nk0 k (o::rest) σ Q:=DMK.v1 hd hb (stepV_of rfl h) r
theorem DMK.ar {φ:Prop} {z:Int} (hd:memB C.N ops mem Mc k nk0 σ.t o=some (d,true)) (h:sideV ⟨onlyT σ.t (o.looksAt ops),Mc,nk0⟩ o.op=some (φ,z)) (hφ:φ) (r:DMK P C ops mem Mc nk0 (k+1) rest (σ.put d (.sc (.int .i64 z))) Q):DMK P C ops mem Mc nk0 k (o::rest) σ Q:=DMK.v0 hd (sideV_of h hφ) r
theorem DMK.idx {rows:List (List AV)} {z:Int} {x:List AV} (hd:memB C.N ops mem Mc k nk0 σ.t o=some (d,true)) (h:idxV P ⟨onlyT σ.t (o.looksAt ops),Mc,nk0⟩ o.op=some (rows,z)) (h0:0≤z) (hr:rows[z.toNat]?=some x) (r:DMK P C ops mem Mc nk0 (k+1) rest (σ.put d (.pr x)) Q):DMK P C ops mem Mc nk0 k (o::rest) σ Q:=DMK.v0 hd (idxV_of h h0 hr) r
def wrB(mem:List Bool)(N k:Nat)(o:Oper):Option Tmp :=
 match o.dst,o.guard with
 | some d,none=>bif mem.getD k false && Nat.blt d N then some d else none
 | _,_=>none
theorem wrB_of {N:Nat} (h:wrB mem N k o=some d):mem.getD k false=true∧o.dst=some d∧o.guard=none∧Nat.blt d N=true:=by
 unfold wrB at h
 split at h
 ·rename_i x h1 h2
  cases hb:mem.getD k false && Nat.blt x N with
  | false=>rw [hb]at h;cases h
  | true =>
   rw [hb]at h
   cases h
   simp only [Bool.and_eq_true]at hb
   exact⟨hb.1,h1,h2,hb.2⟩
 ·cases h
theorem DMK.bd {T m:Nat} {parts:Array (Nat×Operand)} {ob:AO} (hd:wrB mem C.N k o=some d) (ho:o.op=.buildSlice T m parts) (h:buildE P σ T m parts.toList=some ob) (hs:msSub Mc ((σ.nk,ob)::σ.M)) (r:DMK P C ops mem Mc nk0 (k+1) rest ⟨(d,.sl σ.nk)::σ.t,(σ.nk,ob)::σ.M,σ.nk+1⟩ Q):DMK P C ops mem Mc nk0 k (o::rest) σ Q:=by
 obtain ⟨a,b,c,e⟩:=wrB_of hd
 unfold buildE at h
 split at h
 ·rename_i el hT
  split at h
  ·rename_i n z avs hn hz hx
   cases hb:numB 0 parts.toList && Nat.beq parts.toList.length m && Nat.ble (m*n) 16777216 && Nat.ble m 16777216 && rowsB n avs with
   | false=>rw [hb] at h;cases h
   | true =>
    rw [hb] at h
    simp only [Bool.and_eq_true] at hb
    cases h
    exact DMK.wr a b (Nat.ble_eq_true_of_le (Nat.le_succ _)) hs (DoesM.build c ho hT hn hz hb.1.1.1.1 (Nat.eq_of_beq_eq_true hb.1.1.1.2) hb.1.1.2 hb.1.2 b e hx hb.2 rfl rfl rfl rfl) r
  ·cases h
 ·cases h
theorem DMK.ap {x:AppD} (hd:wrB mem C.N k o=some d) (h:appV P σ o.op=some x) (hl:x.a.length+x.b.length≤1000000000) (hs:msSub Mc ((σ.nk,.row x.T x.n (x.a++x.b))::rem x.k σ.M)) (r:DMK P C ops mem Mc nk0 (k+1) rest ⟨(d,.sl σ.nk)::σ.t,(σ.nk,.row x.T x.n (x.a++x.b))::rem x.k σ.M,σ.nk+1⟩ Q):DMK P C ops mem Mc nk0 k (o::rest) σ Q:=by
 obtain ⟨a,b,c,e⟩:=wrB_of hd
 unfold appV at h
 split at h
 ·rename_i x y T T' ho
  split at h
  ·rename_i el q av2 hT hx hy
   split at h
   ·rename_i i e' n rows hi hk
    split at h
    ·rename_i z rows2 hz hs2
     cases hb:Nat.beq T T' && Nat.beq el e' && Nat.beq i.size n && Nat.beq z.cells.size n && Nat.blt 0 n && Nat.ble i.bytes 100000 with
     | false=>rw [hb] at h;cases h
     | true =>
      rw [hb] at h
      simp only [Bool.and_eq_true] at hb
      cases h
      obtain ⟨⟨⟨⟨⟨b1,b2⟩,b3⟩,b4⟩,b5⟩,b6⟩:=hb
      obtain rfl:=Nat.eq_of_beq_eq_true b1
      obtain rfl:=Nat.eq_of_beq_eq_true b2
      exact DMK.wr a b (Nat.ble_eq_true_of_le (Nat.le_succ _)) hs (DoesM.append c ho hT hi hz (Nat.eq_of_beq_eq_true b3) rfl (Nat.eq_of_beq_eq_true b4) b5 b e hx hk hy hs2 rfl hl b6 rfl rfl rfl) r
    ·cases h
   ·cases h
  ·cases h
 ·cases h
end
def onlyM (M:List (Nat×AO)):List Nat→List (Nat×AO)
 | []=>[]
 | x::r =>
  match look x M with
  | some o=>(x,o)::onlyM M r
  | none=>onlyM M r
def memOf(l:List Oper):List Bool:=l.map fun o =>
 match o.op with
 | .buildSlice _ _ _=>true
 | .call { callee:=.builtin .append,.. }=>true
 | _=>false
theorem W.dm {P:Program} {C:Cx} {σ:St} {Q:Exit→St→Prop} {id:Nat} {l:List Oper} (ms:List Nat) (hm:P.follows .mixedOrders=true) (hB:Region.lexB .any l.toArray=true) (hch:chainB l.toArray (memOf l)=true) (hMc:msSub (onlyM σ.M ms) σ.M)
  (h:DMK P C l.toArray (memOf l) (onlyM σ.M ms) σ.nk 0 l σ Q):W P C (.region id l.toArray true) σ Q:=W.drawMK (memOf l) (onlyM σ.M ms) hm hB hch hMc h
structure StoD where
 k:Nat
 i:Nat
 j:Nat
 T:TypeId
 n:Nat
 rows:List (List AV)
 l:List AV
def stoV (P:Program) (σ:St):Op→Option StoD
 | .store T x y =>
  match σ.ev x,σ.ev y with
  | some (.pt k i j),some av =>
   match sizeB P T,look k σ.M with
   | some m,some (.row T' n rows)=>bif av.cellB && Nat.beq av.cells.length m && av.cells.all AV.oneB && av.cells.all AV.pu0 then some ⟨k,i,j,T',n,rows,av.cells⟩else none
   | _,_=>none
  | _,_=>none
 | _=>none
section
variable {P:Program} {C:Cx} {ops:Array Oper} {o:Oper} {rest:List Oper} {σ:St} {Q:Exit→St→Prop} {d:Tmp}
theorem WL.sto {x:StoD} {r:List AV} {t:List (Nat×AV)} {M M':List (Nat×AO)} {nk:Nat} (hg:o.guard=none) (hds:o.dst=none) (h:stoV P ⟨t,M,nk⟩ o.op=some x) (hM:remS x.k M=some M') (hr:x.rows[x.i]?=some r) (hj:x.j+x.l.length≤r.length)
  (k:WL P C ops rest ⟨t,(x.k,.row x.T x.n (x.rows.set x.i (putL x.j x.l r)))::M',nk⟩ Q):WL P C ops (o::rest) ⟨t,M,nk⟩ Q:=by
 rw [remS_eq hM] at k
 clear hM
 refine WL.op hg ?_ k
 unfold stoV at h
 split at h
 ·rename_i T x y ho
  split at h
  ·rename_i k i j av hx hy
   split at h
   ·rename_i m T' n rows hm hk
    cases hb:av.cellB && Nat.beq av.cells.length m && av.cells.all AV.oneB && av.cells.all AV.pu0 with
    | false=>rw [hb] at h;cases h
    | true =>
     rw [hb] at h
     simp only [Bool.and_eq_true] at hb
     cases h
     refine wo_rem (WO.store (σ:=⟨t,M,nk⟩) ho hds hm hx hk hy hb.1.1.1 rfl (Nat.eq_of_beq_eq_true hb.1.1.2) hb.1.2 ?_)
     simp only at hr hj
     simp only [AO.put,hr]
     rw [if_pos ⟨hj,hb.2⟩]
   ·cases h
  ·cases h
 ·cases h
def mmV (σ:St):Op→Option (IntKind×Int)
 | .call { callee:=.builtin .min,args:=⟨[x,y]⟩,.. } =>
  match σ.ev x,σ.ev y with
  | some (.sc (.int k m)),some (.sc (.int _ n))=>some (k,if n<m then n else m)
  | _,_=>none
 | .call { callee:=.builtin .max,args:=⟨[x,y]⟩,.. } =>
  match σ.ev x,σ.ev y with
  | some (.sc (.int k m)),some (.sc (.int _ n))=>some (k,if n > m then n else m)
  | _,_=>none
 | _=>none
theorem WL.mm {k:IntKind} {z z':Int} (hd:dstB C.N o=some d)(h:mmV σ o.op=some (k,z))(hz:z=z')(K:WL P C ops rest (σ.put d (.sc (.int k z'))) Q):WL P C ops (o::rest) σ Q:=by
 subst hz
 refine WL.vl hd ?_ K
 unfold mmV at h
 split at h
 ·rename_i x y ts ho
  split at h
  ·rename_i k m k' n hx hy
   cases h
   exact WV.sc fun G a w ok=>by unfold execOp;simp [ho,resolve,invoke,builtin,ok.evs hx,ok.evs hy,Builtin.min_,Builtin.min2]
  ·cases h
 ·rename_i x y ts ho
  split at h
  ·rename_i k m k' n hx hy
   cases h
   exact WV.sc fun G a w ok=>by unfold execOp;simp [ho,resolve,invoke,builtin,ok.evs hx,ok.evs hy,Builtin.max_,Builtin.max2]
  ·cases h
 ·cases h
def isCmp:Op→Bool
 | .binOp .lss _ _ _ _=>true
 | .binOp .leq _ _ _ _=>true
 | .binOp .gtr _ _ _ _=>true
 | .binOp .geq _ _ _ _=>true
 | .binOp .eql _ _ _ _=>true
 | _=>false
def isNeq:Op→Bool
 | .binOp .neq _ _ _ _=>true
 | _=>false
theorem WL.bt {φ:Prop} [i:Decidable φ] (hc:isCmp o.op=true)(hd:dstB C.N o=some d)(h:stepV P σ o.op=some (.sc (.bool (decide φ))))(hφ:φ)(k:WL P C ops rest (σ.put d (.sc (.bool true))) Q):WL P C ops (o::rest) σ Q:=by
 rw [decide_eq_true hφ] at h
 exact WL.vl hd (stepV_of rfl h) k
theorem WL.bf {φ:Prop} [i:Decidable φ] (hc:isCmp o.op=true)(hd:dstB C.N o=some d)(h:stepV P σ o.op=some (.sc (.bool (decide φ))))(hφ:¬ φ)(k:WL P C ops rest (σ.put d (.sc (.bool false))) Q):WL P C ops (o::rest) σ Q:=by
 rw [decide_eq_false hφ] at h
 exact WL.vl hd (stepV_of rfl h) k
theorem WL.nt {φ:Prop} [i:Decidable φ] (hc:isNeq o.op=true)(hd:dstB C.N o=some d)(h:stepV P σ o.op=some (.sc (.bool (!decide φ))))(hφ:¬ φ)(k:WL P C ops rest (σ.put d (.sc (.bool true))) Q):WL P C ops (o::rest) σ Q:=by
 rw [decide_eq_false hφ] at h
 exact WL.vl hd (stepV_of rfl h) k
theorem WL.nf {φ:Prop} [i:Decidable φ] (hc:isNeq o.op=true)(hd:dstB C.N o=some d)(h:stepV P σ o.op=some (.sc (.bool (!decide φ))))(hφ:φ)(k:WL P C ops rest (σ.put d (.sc (.bool false))) Q):WL P C ops (o::rest) σ Q:=by
 rw [decide_eq_true hφ] at h
 exact WL.vl hd (stepV_of rfl h) k
theorem WL.e1 {t t':List (Nat×AV)} {M M':List (Nat×AO)} {nk nk':Nat} (h:opE P C.N t M nk o=some (t',M',nk')) (k:WL P C ops rest ⟨t',M',nk'⟩ Q):WL P C ops (o::rest) ⟨t,M,nk⟩ Q :=
 WL.op (opE_of h).1 (opE_of h).2 k
def cutV (P:Program) (σ:St):Op→Option (List UInt8×Int×Int)
 | .slice T x (some y) (some z) none =>
  match P.underlying T,σ.ev x,σ.ev y,σ.ev z with
  | some .string,some (.sc (.string ⟨⟨s⟩⟩)),some (.sc (.int _ i)),some (.sc (.int _ j))=>some (s,i,j)
  | _,_,_,_=>none
 | .slice T x none (some z) none =>
  match P.underlying T,σ.ev x,σ.ev z with
  | some .string,some (.sc (.string ⟨⟨s⟩⟩)),some (.sc (.int _ j))=>some (s,0,j)
  | _,_,_=>none
 | .slice T x (some y) none none =>
  match P.underlying T,σ.ev x,σ.ev y with
  | some .string,some (.sc (.string ⟨⟨s⟩⟩)),some (.sc (.int _ i))=>some (s,i,s.length)
  | _,_,_=>none
 | _=>none
theorem cut_run {w:World} {T:TypeId} {s t:List UInt8} {lo hi:Option Value} (hT:P.underlying T=some .string)(h:(Instr.slice T (.string (bs s)) lo hi none).run P w=.ok (.string (bs t)) w) :
  ((Instr.sliceAt T (.string (bs s)) lo hi none).run P w).andThen (fun a w'=>Sem.run P (pure (Next.value a)) w')=.ok (.value (.string (bs t))) w:=by
 have:(Instr.sliceAt T (.string (bs s)) lo hi none).run P w=(Instr.slice T (.string (bs s)) lo hi none).run P w:=by
  unfold Instr.sliceAt
  rw [Sem.run_bind,run_underlying hT w];rfl
 rw [this,h];rfl
theorem cutV_of {s:List UInt8} {i j:Int} (h:cutV P σ o.op=some (s,i,j))(hb:0≤i∧i≤j∧j≤s.length):WV P C o σ (.sc (.string (bs (cut s i j)))):=by
 unfold cutV at h
 split at h
 ·rename_i T x y z ho
  split at h
  ·rename_i s' k i' k' j' hT hx hy hz
   cases h
   refine WV.sc fun G a w ok=>?_
   unfold execOp
   simp only [ho,Option.map_some,Option.map_none,ok.evs hx,ok.evs hy,ok.evs hz,Sem.run_bind]
   have:=run_cut (P:=P) w T s k k' i j hT hb.1 hb.2.1 hb.2.2
   exact cut_run hT this
  ·cases h
 ·rename_i T x z ho
  split at h
  ·rename_i s' k' j' hT hx hz
   cases h
   refine WV.sc fun G a w ok=>?_
   unfold execOp
   simp only [ho,Option.map_some,Option.map_none,ok.evs hx,ok.evs hz,Sem.run_bind]
   have:=run_cut_to (P:=P) w T s k' j hT (by omega) hb.2.2
   exact cut_run hT this
  ·cases h
 ·rename_i T x y ho
  split at h
  ·rename_i s' k i' hT hx hy
   cases h
   refine WV.sc fun G a w ok=>?_
   unfold execOp
   simp only [ho,Option.map_some,Option.map_none,ok.evs hx,ok.evs hy,Sem.run_bind]
   have:=run_cut_from (P:=P) w T s k i hT hb.1 hb.2.1
   have e:cut s i s.length=s.drop i.toNat:=by unfold cut;rw [List.take_of_length_le (by simp)]
   rw [e]
   exact cut_run hT this
  ·cases h
 ·cases h
end
end
section
open Go.RowKit
def BldRet (T e b:Nat)(φ:Nat→Prop)(l:List UInt8)(v:Value)(w:World):Ending→World→Prop:=fun r w' =>
 r=.returned v∧Kept φ w w'∧BldIs w' T e b (fun x=>φ x∨(w.heap.size≤x∧x<w'.heap.size)) l
def BldW (P:Program) (f:FuncId) (T e:TypeId):Prop:=∀ (w:World) (b:Nat) (φ:Nat→Prop) (l s:List UInt8),φ b→BldIs w T e b φ l→l.length+s.length≤1000000000 →
 Calls P f #[.pointer (some ⟨b,0,none⟩),.string (bs s)] w (BldRet T e b φ (l++s) (.tuple #[.int .i64 s.length,.nilIface]) w)
def BldS (P:Program) (f:FuncId) (T e:TypeId):Prop:=∀ (w:World) (b:Nat) (φ:Nat→Prop) (l:List UInt8),φ b→BldIs w T e b φ l→l≠[] →
 Calls P f #[.pointer (some ⟨b,0,none⟩)] w (BldRet T e b φ l (.string (bs l)) w)
def dstOk(N:Nat):Option Tmp→Bool
 | some d=>Nat.blt d N
 | none=>true
section
variable {P:Program} {C:Cx} {σ σ':St} {G G':Gh} {a:Act} {w w':World} {o:Oper} {d:Tmp}
theorem dstOk_of {N:Nat} {d:Option Tmp} (h:dstOk N d=true):∀ x,d=some x→x<N:=fun x hx=>by subst hx;exact of_blt h
theorem Ok.bldCall (ok:Ok C σ G a w) {k:Nat} {T e:TypeId} {l l':List UInt8} (hk:look k σ.M=some (.bld T e l)) (hkept:Kept (G.fp k) w w')
  (hb:BldIs w' T e (G.b k) (fun x=>G.fp k x∨(w.heap.size≤x∧x<w'.heap.size)) l'):∃ G',Ok C (σ.upd k (.bld T e l')) G' a w':=by
 have hob:=ok.ob k _ hk
 have hle:∀ nk,G.le { G with fp:=fun i x=>if i=k then G.fp k x∨(w.heap.size≤x∧x<w'.heap.size) else G.fp i x } nk:=fun nk=>⟨fun _ _ h=>h,fun _ _=>rfl,fun _ _=>rfl,fun _ _=>rfl⟩
 have hfo:∀ i,i≠k→({ G with fp:=fun i x=>if i=k then G.fp k x∨(w.heap.size≤x∧x<w'.heap.size) else G.fp i x }:Gh).fp i=G.fp i:=fun i hi=>by funext x;exact if_neg hi
 have hl:∀ k' o,look k' (σ.upd k (.bld T e l')).M=some o→(k'=k∧o=.bld T e l')∨(k'≠k∧look k' σ.M=some o):=fun k' o hx=>by
  by_cases e:k'=k
  ·subst e
   rw [show look k' (σ.upd k' (.bld T _ l')).M=some _ from look_set_same] at hx
   cases hx
   exact .inl ⟨rfl,rfl⟩
  ·rw [show look k' (σ.upd k (.bld T _ l')).M=look k' σ.M from look_set_other e] at hx
   exact .inr ⟨e,hx⟩
 have fpx:∀ k' o x,look k' (σ.upd k (.bld T e l')).M=some o→(if k'=k then G.fp k x∨(w.heap.size≤x∧x<w'.heap.size) else G.fp k' x)→(∃ o',look k' σ.M=some o'∧G.fp k' x)∨(k'=k∧w.heap.size≤x∧x<w'.heap.size):=fun k' o x h1 h2=>by
  rcases hl k' o h1 with⟨rfl,_⟩|⟨e,y⟩
  ·rw [if_pos rfl] at h2
   rcases h2 with h2|h2
   ·exact .inl ⟨_,hk,h2⟩
   ·exact .inr ⟨rfl,h2⟩
  ·rw [if_neg e] at h2
   exact .inl ⟨o,y,h2⟩
 have hF:∀ p u,G.F p=some u→w'.heap[p.block]?=w.heap[p.block]?:=fun p u h=>hkept.block _ (cell_block (ok.fw p u h)) fun hx=>ok.dF k _ _ p u hk hx h rfl
 refine ⟨{ G with fp:=fun i x=>if i=k then G.fp k x∨(w.heap.size≤x∧x<w'.heap.size) else G.fp i x },ok.sz,ok.df,fun i av x=>⟨(ok.tm i av x).1,(ok.tm i av x).2.1,(ok.tm i av x).2.2.mono (hle σ.nk) (ok.tm i av x).2.1⟩,ok.bel.on hkept fun x hx=>(ok.my k _ x hk hx).1,
  fun p u h=>(World.cell?_of_block (hF p u h)).trans (ok.fw p u h),ok.f0,ok.f1,?_,?_,?_,?_⟩
 ·intro k' o x
  rcases hl k' o x with⟨rfl,rfl⟩|⟨e,y⟩
  ·refine ⟨hob.1,trivial,?_⟩
   refine ⟨?_,?_⟩
   ·show (if k'=k' then G.fp k' (G.b k')∨_ else G.fp k' (G.b k'))
    rw [if_pos rfl];exact .inl hob.2.2.1
   ·show BldIs w' T _ (G.b k') (fun x=>if k'=k' then G.fp k' x∨(w.heap.size≤x∧x<w'.heap.size) else G.fp k' x) l'
    rw [show (fun x=>if k'=k' then G.fp k' x∨(w.heap.size≤x∧x<w'.heap.size) else G.fp k' x)=(fun x=>G.fp k' x∨(w.heap.size≤x∧x<w'.heap.size)) from funext fun x=>if_pos rfl]
    exact hb
  ·obtain ⟨h1,h2,h3⟩:=ok.ob k' o y
   exact ⟨h1,h2,h3.keep (hle σ.nk) h1 h2 (hfo k' e) fun x hx=>hkept.block x (ok.my k' o x y hx).2 fun hx2=>e (ok.dj k' o k _ x y hk hx hx2)⟩
 ·intro k' o x h1 h2
  rcases fpx k' o x h1 h2 with⟨o',y,h3⟩|⟨_,h3,h4⟩
  ·exact ⟨(ok.my k' o' x y h3).1,Nat.lt_of_lt_of_le (ok.my k' o' x y h3).2 hkept.size⟩
  ·exact ⟨.inl (Nat.le_trans ok.bel.size h3),h4⟩
 ·intro k1 o1 k2 o2 x h1 h2 h3 h4
  rcases fpx k1 o1 x h1 h3 with⟨o1',y1,h5⟩|⟨e1,h5,_⟩
  ·rcases fpx k2 o2 x h2 h4 with⟨o2',y2,h6⟩|⟨e2,h6,_⟩
   ·exact ok.dj k1 o1' k2 o2' x y1 y2 h5 h6
   ·have:=(ok.my k1 o1' x y1 h5).2;omega
  ·rcases fpx k2 o2 x h2 h4 with⟨o2',y2,h6⟩|⟨e2,h6,_⟩
   ·have:=(ok.my k2 o2' x y2 h6).2;omega
   ·rw [e1,e2]
 ·intro k1 o1 x p u h1 h2 h3
  rcases fpx k1 o1 x h1 h2 with⟨o1',y1,h5⟩|⟨_,h5,_⟩
  ·exact ok.dF k1 o1' x p u y1 h5 h3
  ·have:=cell_block (ok.fw p u h3);omega
theorem Tr.bld (k:Nat) {T:TypeId} (e:TypeId) (hk:look k σ.M=some (.box T [.sc (.pointer none),.sc (.slice none 0 0)])):Tr C σ (σ.upd k (.bld T e [])):=fun G a w ok=>by
 obtain ⟨g1,g2,g3,cs,Φ,g4,g5,g6,g7,g8⟩:=ok.ob k _ hk
 have hs:cs.size=2:=g5
 have e0:cs[0]=.pointer none:=((g8 0 _ _ rfl (Array.getElem?_eq_getElem (by omega))).r rfl).sc_eq
 have e1:cs[1]=.slice none 0 0:=((g8 1 _ _ rfl (Array.getElem?_eq_getElem (by omega))).r rfl).sc_eq
 have ecs:cs=#[.pointer none,.slice none 0 0]:=by
  apply Array.ext (by simp [hs])
  intro i h1 h2
  match i,(show i<2 by omega)with
  | 0,_=>exact e0
  | 1,_=>exact e1
 subst ecs
 exact ⟨G,ok.reob hk ⟨g1,trivial,g3,.pointer none,.slice none 0 0,.inl rfl,g4,World.ownsRowF_nil _ _ _ _,fun g hg=>by cases hg⟩⟩
theorem WO.bldW {f:FuncId} {k:Nat} {x y:Operand} {ts:Array TypeId} {T e:TypeId} {l s l':List UInt8} (ho:o.op=.call { callee:=.value (.func f),args:=#[x,y],argTypes:=ts }) (hc:∀ vs w,(callFunc f vs).run P w=.ok (.enter f vs) w)
  (hx:σ.ev x=some (.pt k 0 0)) (hk:look k σ.M=some (.bld T e l)) (hy:σ.ev y=some (.sc (.string (bs s)))) (hd:dstOk C.N o.dst=true) (h:BldW P f T e) (hl:l.length+s.length≤1000000000) (hl':l++s=l') :
  WO P C o σ ((σ.upd k (.bld T e l')).set o.dst (.tu [.sc (.int .i64 s.length),.sc .nilIface])):=by
 intro G a w ok N Q' hN
 subst hl'
 obtain ⟨p,ep,p1,p2,p3⟩:=(ok.evr hx).2.pt_of
 obtain ⟨h1,h2⟩:=(ok.ob k _ hk).2.2
 obtain rfl:=addr_eq p1 p2 p3
 rw [Nat.zero_mul] at ep
 unfold Oper.wp execOp
 have ev:a.eval (.func f)=.func (.func f) #[] #[]:=rfl
 have e3:(#[]++(#[x,y]:Array Operand).map a.eval++#[]:Array Value)=#[.pointer (some ⟨G.b k,0,none⟩),.string (bs s)]:=by simp [ep,ok.evs hy]
 simp only [ho,resolve,ev,Deferred.ofValue,invoke,Sem.run_bind,Sem.run_pure,Result.andThen_ok,hc,Oper.upon,e3]
 refine (h w (G.b k) (G.fp k) l s h1 h2 hl).mono fun r w1 ⟨he,hkept,hb⟩=>?_
 subst he
 obtain ⟨G',ok'⟩:=ok.bldCall hk hkept hb
 exact hN _ _ _ (ok'.set (.tu _ _ rfl fun i av u p q=>by
  match i with
  | 0=>cases p;cases q;exact .pu _ _ (.sc _)
  | 1=>cases p;cases q;exact .pu _ _ (.sc _)
  | i+2=>simp at p) (.tu _ fun i x hx=>by
  match i with
  | 0=>cases hx;exact .sc _
  | 1=>cases hx;exact .sc _
  | i+2=>simp at hx) (dstOk_of hd))
theorem WO.bldS {f:FuncId} {k:Nat} {x:Operand} {ts:Array TypeId} {T e:TypeId} {l:List UInt8} (ho:o.op=.call { callee:=.value (.func f),args:=#[x],argTypes:=ts }) (hc:∀ vs w,(callFunc f vs).run P w=.ok (.enter f vs) w)
  (hx:σ.ev x=some (.pt k 0 0)) (hk:look k σ.M=some (.bld T e l)) (hd:dstOk C.N o.dst=true) (h:BldS P f T e) (hl:l≠[]) :
  WO P C o σ ((σ.upd k (.bld T e l)).set o.dst (.sc (.string (bs l)))):=by
 intro G a w ok N Q' hN
 obtain ⟨p,ep,p1,p2,p3⟩:=(ok.evr hx).2.pt_of
 obtain ⟨h1,h2⟩:=(ok.ob k _ hk).2.2
 obtain rfl:=addr_eq p1 p2 p3
 rw [Nat.zero_mul] at ep
 unfold Oper.wp execOp
 have ev:a.eval (.func f)=.func (.func f) #[] #[]:=rfl
 have e3:(#[]++(#[x]:Array Operand).map a.eval++#[]:Array Value)=#[.pointer (some ⟨G.b k,0,none⟩)]:=by simp [ep]
 simp only [ho,resolve,ev,Deferred.ofValue,invoke,Sem.run_bind,Sem.run_pure,Result.andThen_ok,hc,Oper.upon,e3]
 refine (h w (G.b k) (G.fp k) l h1 h2 hl).mono fun r w1 ⟨he,hkept,hb⟩=>?_
 subst he
 obtain ⟨G',ok'⟩:=ok.bldCall hk hkept hb
 exact hN _ _ _ (ok'.set (.pu _ _ (.sc _)) (.sc _) (dstOk_of hd))
def bwV (σ:St) (f:FuncId):Op→Option (Nat×TypeId×TypeId×List UInt8×List UInt8)
 | .call { callee:=.value (.func g),args:=⟨[x,y]⟩,argTypes:=_ } =>
  match σ.ev x,σ.ev y with
  | some (.pt k 0 0),some (.sc (.string ⟨⟨s⟩⟩)) =>
   match look k σ.M with
   | some (.bld T e l)=>bif Nat.beq f g then some (k,T,e,l,s)else none
   | _=>none
  | _,_=>none
 | _=>none
def bsV (σ:St)(f:FuncId):Op→Option (Nat×TypeId×TypeId×List UInt8)
 | .call { callee:=.value (.func g),args:=⟨[x]⟩,argTypes:=_ } =>
  match σ.ev x with
  | some (.pt k 0 0) =>
   match look k σ.M with
   | some (.bld T e l)=>bif Nat.beq f g then some (k,T,e,l)else none
   | _=>none
  | _=>none
 | _=>none
variable {ops:Array Oper} {rest:List Oper} {Q:Exit→St→Prop}
theorem WL.bw {f:FuncId} {k:Nat} {T e:TypeId} {l s l':List UInt8} {t:List (Nat×AV)} {M M':List (Nat×AO)} {nk:Nat} (hd:dstB C.N o=some d) (hv:bwV ⟨t,M,nk⟩ f o.op=some (k,T,e,l,s)) (hM:remS k M=some M')
  (hc:∀ vs w,(callFunc f vs).run P w=.ok (.enter f vs) w) (h:BldW P f T e) (hl:l.length+s.length≤1000000000) (hl':l++s=l')
  (K:WL P C ops rest ⟨(d,.tu [.sc (.int .i64 s.length),.sc .nilIface])::t,(k,.bld T e l')::M',nk⟩ Q):WL P C ops (o::rest) ⟨t,M,nk⟩ Q:=by
 rw [remS_eq hM] at K
 clear hM
 obtain ⟨hg,hds,hdb⟩:=dstB_of hd
 refine WL.op hg ?_ K
 unfold bwV at hv
 split at hv
 ·rename_i g x y ts ho
  split at hv
  ·rename_i k' s' hx hy
   split at hv
   ·rename_i T' e' l2 hk
    cases hb:Nat.beq f g with
    | false=>rw [hb] at hv;cases hv
    | true =>
     rw [hb] at hv
     cases hv
     obtain rfl:=Nat.eq_of_beq_eq_true hb
     have:=WO.bldW (σ:=⟨t,M,nk⟩) (s:=s) ho hc hx hk hy (by rw [hds];exact hdb) h hl hl'
     rw [hds] at this
     exact wo_rem this
   ·cases hv
  ·cases hv
 ·cases hv
theorem WL.bs {f:FuncId} {k:Nat} {T e:TypeId} {l:List UInt8} {t:List (Nat×AV)} {M M':List (Nat×AO)} {nk:Nat} (hd:dstB C.N o=some d) (hv:bsV ⟨t,M,nk⟩ f o.op=some (k,T,e,l)) (hM:remS k M=some M')
  (hc:∀ vs w,(callFunc f vs).run P w=.ok (.enter f vs) w) (h:BldS P f T e) (hl:l≠[])
  (K:WL P C ops rest ⟨(d,.sc (.string (bs l)))::t,(k,.bld T e l)::M',nk⟩ Q):WL P C ops (o::rest) ⟨t,M,nk⟩ Q:=by
 rw [remS_eq hM] at K
 clear hM
 obtain ⟨hg,hds,hdb⟩:=dstB_of hd
 refine WL.op hg ?_ K
 unfold bsV at hv
 split at hv
 ·rename_i g x ts ho
  split at hv
  ·rename_i k' hx
   split at hv
   ·rename_i T' e' l2 hk
    cases hb:Nat.beq f g with
    | false=>rw [hb] at hv;cases hv
    | true =>
     rw [hb] at hv
     cases hv
     obtain rfl:=Nat.eq_of_beq_eq_true hb
     have:=WO.bldS (σ:=⟨t,M,nk⟩) ho hc hx hk (by rw [hds];exact hdb) h hl
     rw [hds] at this
     exact wo_rem this
   ·cases hv
  ·cases hv
 ·cases hv
end
end
section
open Go.RowKit
def Ctg(B:World→View→Prop)(P:Program)(f:FuncId)(args:List AV)(res:AV):Prop :=
 ∀ (w:World)(F:View)(vs:List Value),B w F→(∀ p u,F p=some u→w.cell? p=some u)→RL F args vs →
  Calls P f vs.toArray w fun e w'=>∃ v F',e=.returned v∧Below w.heap.size w w'∧View.le F F'∧(∀ p u,F' p=some u→w'.cell? p=some u)∧(∀ p u,F' p=some u→F p=some u∨w.heap.size≤p.block)∧RP F' res v
def Stab(B:World→View→Prop)(g:Nat):Prop:=(∀ w F,B w F→g≤w.heap.size)∧∀ w w' F F',(∀ i,i<g→w'.heap[i]?=w.heap[i]?)→View.le F F'→B w F→B w' F'
def Holds(B:World→View→Prop)(g:Nat)(C:Cx):Prop:=(∀ w F,Kept C.fp C.w0 w→C.F0.le F→B w F)∧∀ x,C.may x→g≤x
theorem Ctr.g {B:World→View→Prop} {P:Program} {f:FuncId} {args:List AV} {res:AV} (h:Ctr P f args res):Ctg B P f args res:=fun w F vs _ hF hR=>h w F vs hF hR
theorem Ctg.intro {B:World→View→Prop} {g:Nat} (hS:Stab B g) {P:Program} {f:FuncId} {fn:Func} {c:Code} {args:List AV} {res:AV} (hf:P.funcs[f]?=some fn) (hb:fn.body=some c) {N:Nat} (hN:fn.ntmps=N) (hn:args.length≤N) (hp:∀ (i:Nat) av,args[i]?=some av→Bd 0 av)
  (h:∀ w0 F0,Holds B g ⟨w0,F0,N,fun _=>False,0,G0⟩→W P ⟨w0,F0,N,fun _=>False,0,G0⟩ c (St.init args) (QFin P fn ⟨w0,F0,N,fun _=>False,0,G0⟩ res)):Ctg B P f args res:=by
 intro w F vs hB hF hR
 subst hN
 refine calls_of_wp hf hb ?_
 have hsz:vs.toArray.size=args.length:=by simpa using hR.1
 have h1:=h w F ⟨fun w2 F2 k1 k2=>hS.2 w w2 F F2 (fun i hi=>k1.block i (Nat.lt_of_lt_of_le hi (hS.1 w F hB)) fun h=>h) k2 hB,fun x hx=>hx.elim (fun h=>Nat.le_trans (hS.1 w F hB) h) fun h=>h.elim⟩ ⟨F,fun _=>0,fun _=>0,fun _=>undef,fun _ _=>False⟩ { tmps:=vs.toArray++Array.replicate (fn.ntmps - vs.toArray.size) undef,defers:=[] } w
  ⟨by simp;have:=hR.1;omega,⟨rfl,Nat.le_refl _,fun k hk=>absurd hk (Nat.not_lt_zero k)⟩,fun i av hx=>by
   obtain ⟨_,h2⟩:=look_number args 0 i av hx
   simp only [Nat.sub_zero] at h2
   have hi:i < args.length:=(List.getElem?_eq_some_iff.1 h2).1
   have hv:i < vs.length:=by rw [hR.1];exact hi
   refine ⟨by show i < fn.ntmps;omega,hp i av h2,.pu _ _ (hR.2 i av _ h2 ?_)⟩
   simp [Array.getD_eq_getD_getElem?,Array.getElem?_append_left,hv],
   Kept.refl _ _,hF,fun _ _ h=>h,fun _ _ h=>.inl h,(fun k o h=>by cases h),(fun k o x h=>by cases h),(fun k o k' o' x h=>by cases h),(fun k o x p u h=>by cases h)⟩
 refine wp_mono h1 fun e a w' ⟨σ,G,⟨he,hfin⟩,ok⟩=>?_
 obtain ⟨v,F',hr,hle,hfw,hnew,hres⟩:=hfin G a w' ok
 rcases he with rfl|rfl
 ·exact ⟨ok.df.1,v,hr,v,F',rfl,ok.bel.to_below (fun _ h=>h),fun p u x=>hle p u (ok.f0 p u x),hfw,fun p u x=>(hnew p u x).elim (fun y=>(ok.f1 p u y).elim .inl fun z=>.inr (z.elim id fun h=>h.elim)) fun z=>.inr (z.elim id fun h=>h.elim),hres⟩
 ·exact ⟨ok.df.1,v,hr,v,F',rfl,ok.bel.to_below (fun _ h=>h),fun p u x=>hle p u (ok.f0 p u x),hfw,fun p u x=>(hnew p u x).elim (fun y=>(ok.f1 p u y).elim .inl fun z=>.inr (z.elim id fun h=>h.elim)) fun z=>.inr (z.elim id fun h=>h.elim),hres⟩
section
variable {B:World→View→Prop} {gl:Nat} {P:Program} {C:Cx} {ops:Array Oper} {rest:List Oper} {σ σ':St} {G G':Gh} {a:Act} {w w':World} {o:Oper} {d:Tmp} {Q:Exit→St→Prop}
theorem WV.callG (hB:Holds B gl C) {f:FuncId} {xs:Array Operand} {ts:Array TypeId} {args:List AV} {res:AV} (ho:o.op=.call { callee:=.value (.func f),args:=xs,argTypes:=ts }) (hc:∀ vs w,(callFunc f vs).run P w=.ok (.enter f vs) w)
  (hx:σ.evs xs.toList=some args) (hp:args.all AV.pu2=true) (h:Ctg B P f args res):WV P C o σ res:=by
 intro G a w ok N Q' hN
 obtain ⟨e1,e2⟩:=ok.evl hx
 have hcalls:=h w G.F (xs.toList.map a.eval) (hB.1 w G.F ok.bel ok.f0) ok.fw ⟨e1,fun i av u p q=>(pu2_bd (List.all_eq_true.1 hp av (List.mem_of_getElem? p)) 0).rp (e2 i av u p q)⟩
 unfold Oper.wp execOp
 have ev:a.eval (.func f)=.func (.func f) #[] #[]:=rfl
 have e3:(#[]++xs.map a.eval++#[]:Array Value)=(xs.toList.map a.eval).toArray:=by apply Array.ext';simp
 simp only [ho,resolve,ev,Deferred.ofValue,invoke,Sem.run_bind,Sem.run_pure,Result.andThen_ok,hc,Oper.upon,e3]
 refine hcalls.mono fun e w1 ⟨v,F',he,hb,h1,h2,h3,h4⟩=>?_
 subst he
 exact hN v _ w1 (fun σ'' a'' ok''=>ok''.called hb h1 h2 h3) (.pu _ _ h4) (h4.bd _)
def divV (σ:St):Op→Option (Prop×Int)
 | .binOp .quo _ x y _ =>
  match σ.ev x,σ.ev y with
  | some (.sc (.int .i64 m)),some (.sc (.int .i64 n))=>some ((0≤m∧m≤9223372036854775807)∧0<n,m/n)
  | _,_=>none
 | .binOp .rem _ x y _ =>
  match σ.ev x,σ.ev y with
  | some (.sc (.int .i64 m)),some (.sc (.int .i64 n))=>some ((0≤m∧m≤9223372036854775807)∧0<n,m % n)
  | _,_=>none
 | _=>none
theorem divV_of {φ:Prop} {z:Int} (h:divV σ o.op=some (φ,z))(hφ:φ):WV P C o σ (.sc (.int .i64 z)):=by
 unfold divV at h
 split at h
 ·rename_i T x y Ty ho
  split at h
  ·rename_i m n h1 h2
   cases h
   obtain⟨⟨h3,h4⟩,h5⟩:=hφ
   have e:IntKind.i64.wrap (m/n)=m/n:=I64.wrap (by
    have:=Int.ediv_le_self n h3
    have:=Int.ediv_nonneg h3 (Int.le_of_lt h5)
    unfold I64;omega)
   exact WV.sc fun G a w ok=>by unfold execOp;simp [ho,ok.evs h1,ok.evs h2,eqGuard,binOp,Op.intDiv,Int.tdiv_eq_ediv_of_nonneg h3,show ¬ n=0 by omega,e]
  ·cases h
 ·rename_i T x y Ty ho
  split at h
  ·rename_i m n h1 h2
   cases h
   obtain⟨⟨h3,h4⟩,h5⟩:=hφ
   exact WV.sc fun G a w ok=>by unfold execOp;simp [ho,ok.evs h1,ok.evs h2,eqGuard,binOp,Op.intDiv,Int.tmod_eq_emod_of_nonneg h3,show ¬ n=0 by omega]
  ·cases h
 ·cases h
theorem WL.div {φ:Prop} {z:Int} (hd:dstB C.N o=some d)(h:divV σ o.op=some (φ,z))(hφ:φ)(k:WL P C ops rest (σ.put d (.sc (.int .i64 z))) Q):WL P C ops (o::rest) σ Q:=WL.vl hd (divV_of h hφ) k
def negV (σ:St):Op→Option (Prop×Int)
 | .unOp .neg _ x =>
  match σ.ev x with
  | some (.sc (.int .i64 m))=>some (I64 (0-m),0-m)
  | _=>none
 | _=>none
theorem negV_of {φ:Prop} {z:Int} (h:negV σ o.op=some (φ,z))(hφ:φ):WV P C o σ (.sc (.int .i64 z)):=by
 unfold negV at h
 split at h
 ·rename_i T x ho
  split at h
  ·rename_i m h1
   cases h
   exact WV.sc fun G a w ok=>by unfold execOp;have hw:=I64.wrap hφ;simp [ho,ok.evs h1,Op.unary,Op.intArith];simpa using hw
  ·cases h
 ·cases h
theorem WL.neg {φ:Prop} {z:Int} (hd:dstB C.N o=some d)(h:negV σ o.op=some (φ,z))(hφ:φ)(k:WL P C ops rest (σ.put d (.sc (.int .i64 z))) Q):WL P C ops (o::rest) σ Q:=WL.vl hd (negV_of h hφ) k
theorem run_indexA {T e n len:Nat} (hT:P.underlying T=some (.array len e)) (hn:sizeB P e=some n) (ad:Addr) (k:IntKind) (z:Int) (h0:0≤z) (h1:z<len) :
  (Instr.indexAt T (.pointer (some ad)) (.int k z)).run P w=.ok (.pointer (some (ad.add (z.toNat*n)))) w:=by
 simp [Instr.indexAt,asIntOf,run_underlying hT,Instr.sureAddr,h0,h1,run_sizeB hn]
def idaV (P:Program)(σ:St):Op→Option (AV×Nat×Nat×Int)
 | .indexAddr T x y =>
  match P.underlying T,σ.ev x,σ.ev y with
  | some (.array len e),some av,some (.sc (.int _ z)) =>
   match sizeB P e with
   | some n=>some (av,len,n,z)
   | none=>none
  | _,_,_=>none
 | _=>none
theorem idaV_run {av:AV} {len n:Nat} {z:Int} (h:idaV P σ o.op=some (av,len,n,z))(h0:0≤z∧z<len) {av':AV} (hb:∀ nk,Bd nk av→Bd nk av')
  (hr:∀ G a w,Ok C σ G a w→∀ v,R G av v→∃ ad,v=.pointer (some ad)∧R G av' (.pointer (some (ad.add (z.toNat*n))))):WV P C o σ av':=by
 unfold idaV at h
 split at h
 ·rename_i T x y ho
  split at h
  ·rename_i len' e av' k z' hT hx hy
   split at h
   ·rename_i m hn
    cases h
    refine WV.val (fun G a w ok=>hb _ (ok.evr hx).1) fun G a w ok=>?_
    obtain⟨ad,e1,e2⟩:=hr G a w ok _ (ok.evr hx).2
    exact⟨_,by unfold execOp;simp [ho,e1,ok.evs hy,run_indexA hT hn ad k z h0.1 h0.2],e2⟩
   ·cases h
  ·cases h
 ·cases h
theorem WL.glob (hB:Holds B gl C) {g len:Nat} {z:Int} {u:Value} (hd:dstB C.N o=some d) (h:idaV P σ o.op=some (.sc (.pointer (some ⟨g,0,none⟩)),len,1,z)) (h0:0≤z∧z<len) (hu:∀ w F,B w F→F ⟨g,z.toNat,none⟩=some u) (h1:u.oneCell'=true)
  (k:WL P C ops rest (σ.put d (.pr [.sc u])) Q):WL P C ops (o::rest) σ Q :=
 WL.vl hd (idaV_run h h0 (fun nk _=>.pr _) fun G a w ok v r=>⟨⟨g,0,none⟩,r.sc_eq,.pu _ _ (.pr _ _ (fun _=>u) (fun j av hj=>by
  match j with
  | 0 =>
   refine ⟨?_,h1⟩
   rw [← hu w G.F (hB.1 w G.F ok.bel ok.f0),add_flat,add_flat];simp
  | j+1=>simp at hj) fun j av hj=>by
  match j with
  | 0=>cases hj;exact .sc _
  | j+1=>simp at hj)⟩) k
theorem DK.glob (hB:Holds B gl C) {g len:Nat} {z:Int} {u:Value} (hd:dstD C.N ops σ o=some d) (h:idaV P (σ.only (o.looksAt ops)) o.op=some (.sc (.pointer (some ⟨g,0,none⟩)),len,1,z)) (h0:0≤z∧z<len) (hu:∀ w F,B w F→F ⟨g,z.toNat,none⟩=some u) (h1:u.oneCell'=true)
  (k:DK P C ops rest (σ.put d (.pr [.sc u])) Q):DK P C ops (o::rest) σ Q :=
 DK.vl hd (idaV_run h h0 (fun nk _=>.pr _) fun G a w ok v r=>⟨⟨g,0,none⟩,r.sc_eq,.pu _ _ (.pr _ _ (fun _=>u) (fun j av hj=>by
  match j with
  | 0 =>
   refine ⟨?_,h1⟩
   rw [← hu w G.F (hB.1 w G.F ok.bel ok.f0),add_flat,add_flat];simp
  | j+1=>simp at hj) fun j av hj=>by
  match j with
  | 0=>cases hj;exact .sc _
  | j+1=>simp at hj)⟩) k
end
end
section
open Go.RowKit
def resOne (tmps:Array Value):ResultVar→Sem Value
 | .tmp t=>pure (tmps.getD t undef)
 | .cell a t=>do loadVar t (← asAddr (tmps.getD a undef))
def resV (P:Program)(σ:St):ResultVar→Option AV
 | .tmp t=>look t σ.t
 | .cell t T =>
  match look t σ.t with
  | some (.pt k 0 0) =>
   match look k σ.M,aggB P T with
   | some (.box T' cells),some true =>
    match sizeB P T with
    | some n=>bif Nat.beq cells.length n then some (.ag cells)else none
    | none=>none
   | _,_=>none
  | _=>none
def resL (P:Program)(σ:St):List ResultVar→Option (List AV)
 | []=>some []
 | r::l =>
  match resV P σ r,resL P σ l with
  | some a,some b=>some (a::b)
  | _,_=>none
section
variable {P:Program} {C:Cx} {σ:St} {G:Gh} {a:Act} {w:World}
theorem resV_of (ok:Ok C σ G a w) {r:ResultVar} {av:AV} (h:resV P σ r=some av)(hp:av.pu2=true):∃ v,(resOne a.tmps r).run P w=.ok v w∧RP G.F av v:=by
 cases r with
 | tmp t=>exact⟨a.tmps.getD t undef,rfl,(pu2_bd hp 0).rp (ok.tm t _ h).2.2⟩
 | cell t T =>
  simp only [resV] at h
  split at h
  ·rename_i k ht
   split at h
   ·rename_i T' cells hk hT
    split at h
    ·rename_i n hn
     cases hb:Nat.beq cells.length n with
     | false=>rw [hb] at h;cases h
     | true =>
      rw [hb] at h
      cases h
      obtain⟨p,ep,p1,p2,p3⟩:=(ok.tm t _ ht).2.2.pt_of
      obtain⟨_,_,g3,cs,Φ,g4,g5,_,_,g6⟩:=ok.ob k _ hk
      obtain rfl:=addr_eq p1 p2 p3
      rw [Nat.zero_mul,Nat.zero_add] at ep
      have hpc:cells.all AV.pu0=true:=hp
      refine⟨.agg cs,?_,.ag _ _ g5 fun i av u x y=>(pu0_bd (List.all_eq_true.1 hpc av (List.mem_of_getElem? x)) 0).rp ((g6 i av u x y).r (pu0_own (List.all_eq_true.1 hpc av (List.mem_of_getElem? x))))⟩
      unfold aggB at hT
      cases hu:P.underlying T with
      | none=>simp [hu] at hT
      | some d =>
       have hsz:sizeB P T=some cs.size:=by rw [hn,g5];exact congrArg some (Nat.eq_of_beq_eq_true hb).symm
       have:=results_cell_row (fn:={ (default:Func) with results:=#[.cell t T] }) rfl a.tmps w (G.b k) T' cs (0,0) d ep g4 hu (by rw [hu] at hT;cases d<;>simp_all) hsz
       have e:(results { (default:Func) with results:=#[.cell t T] } a.tmps).run P w=(resOne a.tmps (.cell t T)).run P w:=by
        unfold results resOne
        first|(simp;done)|(simp;rfl)
       rw [← e];exact this
    ·cases h
   ·cases h
  ·cases h
theorem resL_of (ok:Ok C σ G a w):∀ {l:List ResultVar} {avs:List AV},resL P σ l=some avs→avs.all AV.pu2=true→∃ vs:List Value,(l.mapM (resOne a.tmps)).run P w=.ok vs w∧vs.length=avs.length∧∀ (i:Nat)av u,avs[i]?=some av→vs[i]?=some u→RP G.F av u
 | [],avs,h,_=>by cases h;exact ⟨[],rfl,rfl,fun i av u x=>by simp at x⟩
 | r::l,avs,h,hp=>by
  cases h1:resV P σ r with
  | none=>simp only [resL,h1]at h;cases h
  | some x =>
  cases h2:resL P σ l with
  | none=>simp only [resL,h1,h2]at h;cases h
  | some y =>
   simp only [resL,h1,h2,Option.some.injEq]at h
   subst h
   simp only [List.all_cons,Bool.and_eq_true]at hp
   obtain ⟨v,e1,e2⟩:=resV_of ok h1 hp.1
   obtain ⟨vs,f1,f2,f3⟩:=resL_of ok h2 hp.2
   refine ⟨v::vs,by simp [List.mapM_cons,Sem.run_bind,e1,f1,Result.andThen],by simp [f2],fun i av u p q=>?_⟩
   cases i with
   | zero=>cases p;cases q;exact e2
   | succ i=>exact f3 i av u (by simpa using p) (by simpa using q)
theorem finN {fn:Func} {avs:List AV} {res:AV} (h:resL P σ fn.results.toList=some avs)(hp:avs.all AV.pu2=true)(hl:Nat.beq avs.length 1=false)(e:.tu avs=res):QFin P fn C res .ret σ:=by
 refine⟨.inr rfl,fun G a w ok=>?_⟩
 subst e
 obtain⟨vs,e1,e2,e3⟩:=resL_of ok h hp
 refine⟨.tuple vs.toArray,G.F,?_,fun _ _ h=>h,ok.fw,fun _ _ h=>.inl h,.tu _ _ (by simpa using e2) fun i av u x y=>e3 i av u x (by simpa using y)⟩
 have e:results fn a.tmps=(do let vs ← fn.results.mapM (resOne a.tmps);pure (if h:vs.size=1 then vs[0] else .tuple vs)):=rfl
 have hne:¬ vs.toArray.size=1:=by
  intro h1
  have:avs.length=1:=by rw [← e2];simpa using h1
  rw [this] at hl;cases hl
 rw [e,Array.mapM_eq_mapM_toList]
 simp only [Sem.run_bind,Sem.run_map,e1,Result.andThen]
 simp
 intro h1
 exact absurd (by simpa using h1) hne
end
end
section
open Go.RowKit
def fpM (G:Gh)(M:List (Nat×AO))(x:Nat):Prop:=∃ k o,look k M=some o∧G.fp k x
structure Obs (G:Gh)(w:World)(M:List (Nat×AO))(nk:Nat):Prop where
 fw:∀ p u,G.F p=some u→w.cell? p=some u
 ob:∀ k o,look k M=some o→k<nk∧o.bd nk∧ObAt G w k o
 my:∀ k o x,look k M=some o→G.fp k x→x<w.heap.size
 dj:∀ k o k' o' x,look k M=some o→look k' M=some o'→G.fp k x→G.fp k' x→k=k'
 dF:∀ k o x p u,look k M=some o→G.fp k x→G.F p=some u→p.block≠x
def Cto (B:World→View→Prop)(g:Nat)(P:Program)(f:FuncId)(args:List AV)(M:List (Nat×AO))(nk:Nat)(res:AV)(M':List (Nat×AO))(nk':Nat):Prop :=
 ∀ (w:World)(G:Gh)(vs:List Value),B w G.F→(∀ x,fpM G M x→g≤x)→Obs G w M nk→vs.length=args.length→(∀ (i:Nat) av u,args[i]?=some av→vs[i]?=some u→R G av u) →
  Calls P f vs.toArray w fun e w'=>∃ v G',e=.returned v∧Kept (fpM G M) w w'∧View.le G.F G'.F∧(∀ p u,G'.F p=some u→G.F p=some u∨w.heap.size≤p.block∨fpM G M p.block)∧Obs G' w' M' nk' ∧
   (∀ k o x,look k M'=some o→G'.fp k x→w.heap.size≤x∨fpM G M x)∧(∀ k,k<nk→G'.b k=G.b k∧G'.n k=G.n k∧G'.h k=G.h k)∧nk≤nk'∧Bd nk' res∧R G' res v
def QFinM (P:Program) (fn:Func) (C:Cx) (res:AV) (M':List (Nat×AO)) (nk':Nat):Exit→St→Prop:=fun e σ=>(e=.normal∨e=.ret) ∧
 ∀ G a w,Ok C σ G a w→∃ v G',(results fn a.tmps).run P w=.ok v w∧Ok C ⟨[],M',nk'⟩ G' a w∧Bd nk' res∧R G' res v
theorem Cto.intro {B:World→View→Prop} {g:Nat} (hS:Stab B g) {P:Program} {f:FuncId} {fn:Func} {c:Code} {args:List AV} {M:List (Nat×AO)} {nk:Nat} {res:AV} {M':List (Nat×AO)} {nk':Nat} (hf:P.funcs[f]?=some fn) (hb:fn.body=some c) {N:Nat} (hN:fn.ntmps=N) (hn:args.length≤N)
  (hp:args.all (AV.inn nk)=true)
  (h:∀ w0 F0 fp pg,Holds B g ⟨w0,F0,N,fp,nk,pg⟩→W P ⟨w0,F0,N,fp,nk,pg⟩ c ⟨number 0 args,M,nk⟩ (QFinM P fn ⟨w0,F0,N,fp,nk,pg⟩ res M' nk')):Cto B g P f args M nk res M' nk':=by
 intro w G vs hB hlo hO hl hR
 subst hN
 refine calls_of_wp hf hb ?_
 have hH:Holds B g ⟨w,G.F,fn.ntmps,fpM G M,nk,G⟩:=⟨fun w2 F2 k1 k2=>hS.2 w w2 G.F F2 (fun i hi=>k1.block i (Nat.lt_of_lt_of_le hi (hS.1 w G.F hB)) fun h=>by have:=hlo i h;omega) k2 hB,fun x hx=>hx.elim (fun h=>Nat.le_trans (hS.1 w G.F hB) h) (hlo x)⟩
 have h1:=h w G.F (fpM G M) G hH G { tmps:=vs.toArray++Array.replicate (fn.ntmps - vs.toArray.size) undef,defers:=[] } w
  ⟨by simp;omega,⟨rfl,Nat.le_refl _,fun k _=>⟨rfl,rfl,rfl⟩⟩,fun i av hx=>by
   obtain ⟨_,h2⟩:=look_number args 0 i av hx
   simp only [Nat.sub_zero] at h2
   have hi:i < args.length:=(List.getElem?_eq_some_iff.1 h2).1
   have hv:i < vs.length:=by omega
   refine ⟨by show i < fn.ntmps;omega,inn_bd (List.all_eq_true.1 hp av (List.mem_of_getElem? h2)),hR i av _ h2 ?_⟩
   simp [Array.getD_eq_getD_getElem?,Array.getElem?_append_left,hv],
   Kept.refl _ _,hO.fw,fun _ _ h=>h,fun _ _ h=>.inl h,hO.ob,(fun k o x h1 h2=>⟨.inr ⟨k,o,h1,h2⟩,hO.my k o x h1 h2⟩),hO.dj,hO.dF⟩
 refine wp_mono h1 fun e a w' ⟨σ,G1,⟨he,hfin⟩,ok⟩=>?_
 obtain ⟨v,G',hr,ok',hbd,hres⟩:=hfin G1 a w' ok
 have fin:∃ v' G'',Ending.returned v=.returned v'∧Kept (fpM G M) w w'∧View.le G.F G''.F∧(∀ p u,G''.F p=some u→G.F p=some u∨w.heap.size≤p.block∨fpM G M p.block)∧Obs G'' w' M' nk' ∧
   (∀ k o x,look k M'=some o→G''.fp k x→w.heap.size≤x∨fpM G M x)∧(∀ k,k < nk→G''.b k=G.b k∧G''.n k=G.n k∧G''.h k=G.h k)∧nk≤nk'∧Bd nk' res∧R G'' res v' :=
  ⟨v,G',rfl,ok'.bel,ok'.f0,ok'.f1,⟨ok'.fw,ok'.ob,fun k o x h1 h2=>(ok'.my k o x h1 h2).2,ok'.dj,ok'.dF⟩,fun k o x h1 h2=>(ok'.my k o x h1 h2).1,ok'.df.2.2,ok'.df.2.1,hbd,hres⟩
 rcases he with rfl|rfl
 ·exact ⟨ok'.df.1,v,hr,fin⟩
 ·exact ⟨ok'.df.1,v,hr,fin⟩
section
variable {P:Program} {C:Cx} {σ:St} {G:Gh} {a:Act} {w:World}
theorem resV_R (ok:Ok C σ G a w) {r:ResultVar} {av:AV} (h:resV P σ r=some av)(hp:ownB av=false):∃ v,(resOne a.tmps r).run P w=.ok v w∧R G av v∧Bd σ.nk av:=by
 cases r with
 | tmp t=>exact⟨a.tmps.getD t undef,rfl,(ok.tm t _ h).2.2,(ok.tm t _ h).2.1⟩
 | cell t T =>
  simp only [resV] at h
  split at h
  ·rename_i k ht
   split at h
   ·rename_i T' cells hk hT
    split at h
    ·rename_i n hn
     cases hb:Nat.beq cells.length n with
     | false=>rw [hb] at h;cases h
     | true =>
      rw [hb] at h
      cases h
      obtain⟨p,ep,p1,p2,p3⟩:=(ok.tm t _ ht).2.2.pt_of
      obtain⟨_,hbd,g3,cs,Φ,g4,g5,_,_,g6⟩:=ok.ob k _ hk
      obtain rfl:=addr_eq p1 p2 p3
      rw [Nat.zero_mul,Nat.zero_add] at ep
      have hown:=ownB_all hp
      refine⟨.agg cs,?_,.ag _ _ g5 fun i av u x y=>(g6 i av u x y).r (by simpa using List.all_eq_true.1 hown av (List.mem_of_getElem? x)),.ag _ fun i av x=>hbd i av x⟩
      unfold aggB at hT
      cases hu:P.underlying T with
      | none=>simp [hu] at hT
      | some d =>
       have hsz:sizeB P T=some cs.size:=by rw [hn,g5];exact congrArg some (Nat.eq_of_beq_eq_true hb).symm
       have:=results_cell_row (fn:={ (default:Func) with results:=#[.cell t T] }) rfl a.tmps w (G.b k) T' cs (0,0) d ep g4 hu (by rw [hu] at hT;cases d<;>simp_all) hsz
       have e:(results { (default:Func) with results:=#[.cell t T] } a.tmps).run P w=(resOne a.tmps (.cell t T)).run P w:=by
        unfold results resOne
        first|(simp;done)|(simp;rfl)
       rw [← e];exact this
    ·cases h
   ·cases h
  ·cases h
theorem resL_R (ok:Ok C σ G a w):∀ {l:List ResultVar} {avs:List AV},resL P σ l=some avs→avs.all (fun av=>!ownB av)=true→∃ vs:List Value,(l.mapM (resOne a.tmps)).run P w=.ok vs w∧vs.length=avs.length∧(∀ (i:Nat)av u,avs[i]?=some av→vs[i]?=some u→R G av u)∧∀ (i:Nat)av,avs[i]?=some av→Bd σ.nk av
 | [],avs,h,_=>by cases h;exact ⟨[],rfl,rfl,fun i av u x=>by simp at x,fun i av x=>by simp at x⟩
 | r::l,avs,h,hp=>by
  cases h1:resV P σ r with
  | none=>simp only [resL,h1]at h;cases h
  | some x =>
  cases h2:resL P σ l with
  | none=>simp only [resL,h1,h2]at h;cases h
  | some y =>
   simp only [resL,h1,h2,Option.some.injEq]at h
   subst h
   simp only [List.all_cons,Bool.and_eq_true,Bool.not_eq_true']at hp
   obtain ⟨v,e1,e2,e3⟩:=resV_R ok h1 hp.1
   obtain ⟨vs,f1,f2,f3,f4⟩:=resL_R ok h2 hp.2
   refine ⟨v::vs,by simp [List.mapM_cons,Sem.run_bind,e1,f1,Result.andThen],by simp [f2],fun i av u p q=>?_,fun i av p=>?_⟩
   ·cases i with
    | zero=>cases p;cases q;exact e2
    | succ i=>exact f3 i av u (by simpa using p) (by simpa using q)
   ·cases i with
    | zero=>cases p;exact e3
    | succ i=>exact f4 i av (by simpa using p)
def resT:List AV→AV
 | [x]=>x
 | l=>.tu l
theorem finM {fn:Func} {avs:List AV} {res:AV} {M':List (Nat×AO)} {nk':Nat} (h:resL P σ fn.results.toList=some avs) (hp:avs.all (fun av=>!ownB av)=true) (e:resT avs=res) (hM:σ.M=M') (hk:σ.nk=nk'):QFinM P fn C res M' nk' .ret σ:=by
 refine ⟨.inr rfl,fun G a w ok=>?_⟩
 subst e hM hk
 obtain ⟨vs,e1,e2,e3,e4⟩:=resL_R ok h hp
 have er:results fn a.tmps=(do let vs ← fn.results.mapM (resOne a.tmps);pure (if h:vs.size=1 then vs[0] else .tuple vs)):=rfl
 have run:(results fn a.tmps).run P w=.ok (if h:vs.toArray.size=1 then vs.toArray[0] else .tuple vs.toArray) w:=by
  rw [er,Array.mapM_eq_mapM_toList]
  simp only [Sem.run_bind,Sem.run_map,e1,Result.andThen]
  rfl
 have okE:Ok C ⟨[],σ.M,σ.nk⟩ G a w:=⟨ok.sz,ok.df,fun i av h=>(by cases h),ok.bel,ok.fw,ok.f0,ok.f1,ok.ob,ok.my,ok.dj,ok.dF⟩
 cases avs with
 | nil =>
  cases vs with
  | nil=>exact ⟨.tuple #[],G,run,okE,.tu _ fun i x hx=>by simp at hx,.tu _ _ rfl fun i av u x=>by simp at x⟩
  | cons v us=>cases e2
 | cons x r =>
  cases vs with
  | nil=>cases e2
  | cons v us =>
   cases r with
   | nil =>
    cases us with
    | nil=>exact ⟨v,G,run,okE,e4 0 x rfl,e3 0 x v rfl rfl⟩
    | cons u us=>cases e2
   | cons y r =>
    cases us with
    | nil=>cases e2
    | cons u us =>
     refine ⟨.tuple (v::u::us).toArray,G,?_,okE,.tu _ e4,.tu _ _ (by simpa using e2) fun i av u' p q=>e3 i av u' p (by simpa using q)⟩
     rw [run,dif_neg (by simp)]
end
theorem R.un0 {G:Gh} {ρ:Nat→Nat} {nk:Nat} {av:AV} {v:Value} (h:av.in0 nk=true) (r:R (G.ren ρ) av v):R G (av.ren0 ρ) v:=by
 cases av with
 | pt k i j=>obtain ⟨p,rfl,a,b,c⟩:=r.pt_of;exact .pt _ i j p a b c
 | sl k=>obtain ⟨rfl,b⟩:=r.sl_of;exact R.sl (G:=G) (ρ k) b
 | sc x=>rw [r.sc_eq];exact .pu _ _ (.sc x)
 | ls n rows=>exact .pu _ _ (show RP G.F _ _ from r.pu_of)
 | pr cells=>exact .pu _ _ (show RP G.F _ _ from r.pr_of)
 | ow T n rows=>exact r.no_ow.elim
 | _=>cases h
theorem R.un1 {G:Gh} {ρ:Nat→Nat} {nk:Nat} {av:AV} {v:Value} (h:av.in1 nk=true) (r:R (G.ren ρ) av v):R G (av.ren1 ρ) v:=by
 cases av with
 | fn f l =>
  obtain ⟨cs,rfl,h1,h2⟩:=r.fn_of
  refine .fn f _ cs (by simpa using h1) fun i av u x y=>?_
  rw [List.getElem?_map] at x
  cases hq:l[i]? with
  | none=>simp [hq] at x
  | some b=>simp [hq] at x;rw [← x];exact R.un0 (List.all_eq_true.1 h b (List.mem_of_getElem? hq)) (h2 i b u hq y)
 | ag l=>cases h
 | tu l=>cases h
 | pt k i j=>exact R.un0 (av:=.pt k i j) (nk:=nk) h r
 | sl k=>exact R.un0 (av:=.sl k) (nk:=nk) h r
 | sc x=>exact R.un0 (av:=.sc x) (nk:=nk) h r
 | ls n rows=>exact R.un0 (av:=.ls n rows) (nk:=nk) h r
 | ow T n rows=>exact R.un0 (av:=.ow T n rows) (nk:=nk) h r
 | pr cells=>exact R.un0 (av:=.pr cells) (nk:=nk) h r
theorem R.un2 {G:Gh} {ρ:Nat→Nat} {nk:Nat} {av:AV} {v:Value} (h:av.in2 nk=true) (r:R (G.ren ρ) av v):R G (av.ren2 ρ) v:=by
 cases av with
 | ag l =>
  obtain ⟨cs,rfl,h1,h2⟩:=r.ag_of
  refine .ag _ cs (by simpa using h1) fun i av u x y=>?_
  rw [List.getElem?_map] at x
  cases hq:l[i]? with
  | none=>simp [hq] at x
  | some b=>simp [hq] at x;rw [← x];exact R.un1 (List.all_eq_true.1 h b (List.mem_of_getElem? hq)) (h2 i b u hq y)
 | tu l=>cases h
 | fn f l=>exact R.un1 (av:=.fn f l) (nk:=nk) h r
 | pt k i j=>exact R.un1 (av:=.pt k i j) (nk:=nk) h r
 | sl k=>exact R.un1 (av:=.sl k) (nk:=nk) h r
 | sc x=>exact R.un1 (av:=.sc x) (nk:=nk) h r
 | ls n rows=>exact R.un1 (av:=.ls n rows) (nk:=nk) h r
 | ow T n rows=>exact R.un1 (av:=.ow T n rows) (nk:=nk) h r
 | pr cells=>exact R.un1 (av:=.pr cells) (nk:=nk) h r
theorem R.un {G:Gh} {ρ:Nat→Nat} {nk:Nat} {av:AV} {v:Value} (h:av.inn nk=true) (r:R (G.ren ρ) av v):R G (av.ren ρ) v:=by
 cases av with
 | tu l =>
  obtain ⟨cs,rfl,h1,h2⟩:=r.tu_of
  refine .tu _ cs (by simpa using h1) fun i av u x y=>?_
  rw [List.getElem?_map] at x
  cases hq:l[i]? with
  | none=>simp [hq] at x
  | some b=>simp [hq] at x;rw [← x];exact R.un2 (List.all_eq_true.1 h b (List.mem_of_getElem? hq)) (h2 i b u hq y)
 | ag l=>exact R.un2 (av:=.ag l) (nk:=nk) h r
 | fn f l=>exact R.un2 (av:=.fn f l) (nk:=nk) h r
 | pt k i j=>exact R.un2 (av:=.pt k i j) (nk:=nk) h r
 | sl k=>exact R.un2 (av:=.sl k) (nk:=nk) h r
 | sc x=>exact R.un2 (av:=.sc x) (nk:=nk) h r
 | ls n rows=>exact R.un2 (av:=.ls n rows) (nk:=nk) h r
 | ow T n rows=>exact R.un2 (av:=.ow T n rows) (nk:=nk) h r
 | pr cells=>exact R.un2 (av:=.pr cells) (nk:=nk) h r
theorem CR.un {G:Gh} {w:World} {ρ:Nat→Nat} {nk:Nat} {φ:Nat→Prop} {av:AV} {v:Value} (h:av.in1 nk=true)(r:CR (G.ren ρ) w φ av v):CR G w φ (av.ren1 ρ) v:=by
 rcases r with r|o
 ·exact .inl (R.un1 h r)
 ·by_cases ho:av.own=true
  ·cases av with
   | ow T n rows=>exact .inr o
   | _=>cases ho
  ·exact .inl (R.un1 h (.pu _ _ (OW.p o (by simpa using ho))))
theorem ObAt.un {G:Gh} {w:World} {ρ:Nat→Nat} {nk k:Nat} {ob:AO} (h:ob.inn nk=true) (g:ObAt (G.ren ρ) w k ob):ObAt G w (ρ k) (ob.ren ρ):=by
 cases ob with
 | box T cells =>
  obtain ⟨b1,cs,Φ,b2,b3,b4,b5,b6⟩:=g
  refine ⟨b1,cs,Φ,b2,by simpa using b3,b4,b5,fun i av u x y=>?_⟩
  rw [List.getElem?_map] at x
  cases hq:cells[i]? with
  | none=>simp [hq] at x
  | some b=>simp [hq] at x;rw [← x];exact CR.un (List.all_eq_true.1 h b (List.mem_of_getElem? hq)) (b6 i b u hq y)
 | row T n rows=>exact g
 | rwn T n rows=>exact g
 | rof T n rows hi hj y =>
  obtain ⟨g1,g2,g3⟩:=g
  refine ⟨g1,g2,g3.keep (fun _ _=>rfl) fun i r j av ψ u _ _ _ x=>?_⟩
  unfold XH at x ⊢
  by_cases e:i=hi∧j=hj
  ·rw [if_pos e] at x ⊢
   exact R.un1 h x
  ·rw [if_neg e] at x ⊢
   exact x
 | rwo T n rows hi hj y =>
  obtain ⟨g1,g2,g3⟩:=g
  refine ⟨g1,g2,g3.keep (fun _ _=>rfl) fun i r j av ψ u _ _ _ x=>?_⟩
  unfold XQ at x ⊢
  by_cases e:i=hi∧j=hj
  ·rw [if_pos e] at x ⊢
   exact R.un1 h x
  ·rw [if_neg e] at x ⊢
   exact x
 | bld T e l=>exact g
 | opq q=>exact g
def rhoC(ks:List Nat)(nk m q:Nat):Nat:=bif Nat.blt q nk then ks.getD q 0 else m+(q-nk)
def idx (q:Nat):List Nat→Option Nat
 | []=>none
 | x::r=>bif Nat.beq q x then some 0 else (idx q r).map (·+1)
theorem idx_some {q:Nat}:∀ {l:List Nat} {i:Nat},idx q l=some i→l[i]?=some q
 | [],i,h=>by cases h
 | x::r,i,h=>by
  unfold idx at h
  cases hb:Nat.beq q x with
  | true=>rw [hb]at h;cases h;rw [Nat.eq_of_beq_eq_true hb];rfl
  | false =>
   rw [hb]at h
   simp only [cond_false]at h
   obtain⟨j,h1,rfl⟩:=Option.map_eq_some_iff.1 h
   simpa using idx_some h1
def remL {α:Type} (ks:List Nat)(M:List (Nat×α)):List (Nat×α):=ks.foldr (fun k r=>rem k r) M
theorem look_remL {α:Type} (i:Nat):∀ (ks:List Nat)(M:List (Nat×α)),look i (remL ks M)=if i∈ks then none else look i M
 | [],M=>by simp [remL]
 | k::r,M=>by
  show look i (rem k (remL r M))=_
  rw [look_rem,look_remL i r M]
  by_cases e:i=k
  ·rw [if_pos e,if_pos (by simp [e])]
  ·rw [if_neg e]
   by_cases e2:i∈r
   ·rw [if_pos e2,if_pos (by simp [e2])]
   ·rw [if_neg e2,if_neg (by simp [e,e2])]
def renM (ρ:Nat→Nat):List (Nat×AO)→List (Nat×AO)
 | []=>[]
 | x::r=>(ρ x.1,x.2.ren ρ)::renM ρ r
theorem look_app_ {α:Type} (i:Nat):∀ (l r:List (Nat×α)),look i (l++r)=(look i l).or (look i r)
 | [],r=>by simp [look]
 | x::l,r=>by
  by_cases e:i=x.1
  ·subst e
   rw [List.cons_append,show look x.1 (x::(l++r))=some x.2 from look_set_same,show look x.1 (x::l)=some x.2 from look_set_same];rfl
  ·rw [List.cons_append,show look i (x::(l++r))=look i (l++r)from look_set_other e,show look i (x::l)=look i l from look_set_other e]
   exact look_app_ i l r
theorem look_renM {ρ:Nat→Nat} {q:Nat} {o:AO}:∀ {M:List (Nat×AO)},(∀ x∈M,∀ y∈M,ρ x.1=ρ y.1→x.1=y.1)→look q (renM ρ M)=some o→∃ i ob,q=ρ i∧look i M=some ob∧o=ob.ren ρ
 | [],_,h=>by cases h
 | x::r,hi,h=>by
  by_cases e:q=ρ x.1
  ·subst e
   rw [show look (ρ x.1) (renM ρ (x::r))=some (x.2.ren ρ) from look_set_same] at h
   cases h
   exact ⟨x.1,x.2,rfl,look_set_same,rfl⟩
  ·rw [show look q (renM ρ (x::r))=look q (renM ρ r) from look_set_other e] at h
   obtain ⟨i,ob,e1,e2,e3⟩:=look_renM (fun y hy z hz=>hi y (by simp [hy]) z (by simp [hz])) h
   refine ⟨i,ob,e1,?_,e3⟩
   rw [show look i (x::r)=look i r from look_set_other fun h=>e (by rw [e1,h])]
   exact e2
theorem AO.ren_bd {ρ:Nat→Nat} {nk nk2:Nat} {ob:AO} (h:ob.inn nk=true)(hρ:∀ i,i<nk→ρ i<nk2):(ob.ren ρ).bd nk2:=by
 have r0:∀ av:AV,av.in0 nk=true→Bd nk2 (av.ren0 ρ):=fun av h=>by
  cases av with
  | sc v=>exact .sc v
  | ls n rows=>exact .ls n rows
  | ow T n rows=>exact .ow T n rows
  | pr cells=>exact .pr cells
  | pt k i j=>exact .pt _ i j (hρ k (of_blt h))
  | sl k=>exact .sl _ (hρ k (of_blt h))
  | _=>cases h
 have r1:∀ b:AV,b.in1 nk=true→Bd nk2 (b.ren1 ρ):=fun b hb=>by
  cases b with
  | fn f l =>
   refine .fn f _ fun j x hx=>?_
   rw [List.getElem?_map] at hx
   cases hq2:l[j]? with
   | none=>simp [hq2] at hx
   | some c=>simp [hq2] at hx;rw [← hx];exact r0 c (List.all_eq_true.1 hb c (List.mem_of_getElem? hq2))
  | ag l=>cases hb
  | tu l=>cases hb
  | sc v=>exact r0 (.sc v) hb
  | ls n rows=>exact r0 (.ls n rows) hb
  | ow T n rows=>exact r0 (.ow T n rows) hb
  | pr cells=>exact r0 (.pr cells) hb
  | pt k i j=>exact r0 (.pt k i j) hb
  | sl k=>exact r0 (.sl k) hb
 cases ob with
 | box T cells =>
  intro i av hx
  have hx:(cells.map (AV.ren1 ρ))[i]?=some av:=hx
  rw [List.getElem?_map] at hx
  cases hq:cells[i]? with
  | none=>simp [hq] at hx
  | some b =>
   simp [hq] at hx
   rw [← hx]
   exact r1 b (List.all_eq_true.1 h b (List.mem_of_getElem? hq))
 | row T n rows=>trivial
 | rwn T n rows=>trivial
 | rof T n rows hi hj y=>exact r1 y h
 | rwo T n rows hi hj y=>exact r1 y h
 | bld T e l=>trivial
 | opq q=>trivial
theorem AV.ren_bd {ρ:Nat→Nat} {nk nk2:Nat} {av:AV} (h:av.inn nk=true) (hρ:∀ i,i<nk→ρ i<nk2):Bd nk2 (av.ren ρ):=by
 have r1:∀ av:AV,av.in1 nk=true→Bd nk2 (av.ren1 ρ):=fun av h=>by
  have:=AO.ren_bd (ob:=.box 0 [av]) (ρ:=ρ) (nk:=nk) (nk2:=nk2) (by simp [AO.inn,h]) hρ
  exact this 0 _ rfl
 have r2:∀ av:AV,av.in2 nk=true→Bd nk2 (av.ren2 ρ):=fun av h=>by
  cases av with
  | ag l =>
   refine .ag _ fun j x hx=>?_
   rw [List.getElem?_map] at hx
   cases hq2:l[j]? with
   | none=>simp [hq2] at hx
   | some c=>simp [hq2] at hx;rw [← hx];exact r1 c (List.all_eq_true.1 h c (List.mem_of_getElem? hq2))
  | fn f l=>exact r1 (.fn f l) h
  | tu l=>cases h
  | sc v=>exact r1 (.sc v) h
  | ls n rows=>exact r1 (.ls n rows) h
  | ow T n rows=>exact r1 (.ow T n rows) h
  | pr cells=>exact r1 (.pr cells) h
  | pt k i j=>exact r1 (.pt k i j) h
  | sl k=>exact r1 (.sl k) h
 cases av with
 | tu l =>
  refine .tu _ fun j x hx=>?_
  rw [List.getElem?_map] at hx
  cases hq2:l[j]? with
  | none=>simp [hq2] at hx
  | some c=>simp [hq2] at hx;rw [← hx];exact r2 c (List.all_eq_true.1 h c (List.mem_of_getElem? hq2))
 | ag l=>exact r2 (.ag l) h
 | fn f l=>exact r2 (.fn f l) h
 | sc v=>exact r2 (.sc v) h
 | ls n rows=>exact r2 (.ls n rows) h
 | ow T n rows=>exact r2 (.ow T n rows) h
 | pr cells=>exact r2 (.pr cells) h
 | pt k i j=>exact r2 (.pt k i j) h
 | sl k=>exact r2 (.sl k) h
def ksB (ks:List Nat)(nk m:Nat):Bool:=Nat.beq ks.length nk && injB id ks && nodB ks && ks.all (fun k=>Nat.blt k m)
where nodB : List Nat → Bool
  | [] => true
  | x :: r => !(r.any fun y => Nat.beq x y) && nodB r
theorem nod_of:∀ {ks:List Nat},ksB.nodB ks=true→ks.Nodup
 | [],_=>List.nodup_nil
 | x::r,h=>by
  simp only [ksB.nodB,Bool.and_eq_true,Bool.not_eq_true',List.any_eq_false]at h
  exact List.nodup_cons.2 ⟨fun hx=>h.1 x hx (Nat.beq_refl x),nod_of h.2⟩
theorem idx_of {q:Nat}:∀ {l:List Nat} {i:Nat},l.Nodup→l[i]?=some q→idx q l=some i
 | [],i,_,h=>by simp at h
 | x::r,0,_,h=>by cases h;unfold idx;rw [Nat.beq_refl];rfl
 | x::r,i+1,hn,h=>by
  have h:r[i]?=some q:=by simpa using h
  have hne:q≠x:=fun e=>(List.nodup_cons.1 hn).1 (e ▸ List.mem_of_getElem? h)
  have hb:Nat.beq q x=false:=by
   cases hb:Nat.beq q x with
   | false=>rfl
   | true=>exact absurd (Nat.eq_of_beq_eq_true hb) hne
  unfold idx
  rw [hb]
  simp only [cond_false]
  rw [idx_of (List.nodup_cons.1 hn).2 h];rfl
section
variable {B:World→View→Prop} {gl:Nat} {P:Program} {C:Cx} {σ:St} {G:Gh} {a:Act} {w w':World}
theorem Ok.cto (ok:Ok C σ G a w) {ks:List Nat} {M M':List (Nat×AO)} {nk nk':Nat} {G':Gh} (hks:ksB ks nk σ.nk=true) (hM:∀ k o,look k M=some o→k<nk∧∃ o2,look (ks.getD k 0) σ.M=some o2)
  (hMk:∀ x,fpM (G.ren (rhoC ks nk σ.nk)) M x→∃ k o,k<nk∧look (ks.getD k 0) σ.M=some o∧G.fp (ks.getD k 0) x)
  (hkept:Kept (fpM (G.ren (rhoC ks nk σ.nk)) M) w w') (hF:View.le G.F G'.F) (hnew:∀ p u,G'.F p=some u→G.F p=some u∨w.heap.size≤p.block∨fpM (G.ren (rhoC ks nk σ.nk)) M p.block) (hO:Obs G' w' M' nk')
  (hmy:∀ k o x,look k M'=some o→G'.fp k x→w.heap.size≤x∨fpM (G.ren (rhoC ks nk σ.nk)) M x) (hpin:∀ k,k<nk→G'.b k=(G.ren (rhoC ks nk σ.nk)).b k∧G'.n k=(G.ren (rhoC ks nk σ.nk)).n k∧G'.h k=(G.ren (rhoC ks nk σ.nk)).h k) (hle:nk≤nk')
  (hinn:M'.all (fun x=>x.2.inn nk')=true) (hkm:M'.all (fun x=>Nat.blt x.1 nk')=true) :
  ∃ G'',Ok C ⟨σ.t,renM (rhoC ks nk σ.nk) M'++remL ks σ.M,σ.nk+(nk'-nk)⟩ G'' a w'∧∀ av v,av.inn nk'=true→R G' av v→R G'' (av.ren (rhoC ks nk σ.nk)) v:=by
 simp only [ksB,Bool.and_eq_true] at hks
 obtain ⟨⟨⟨hk1,_⟩,hk3⟩,hk4⟩:=hks
 have hlen:=Nat.eq_of_beq_eq_true hk1
 have hnod:=nod_of hk3
 have hlt:∀ i,i<nk→ks.getD i 0<σ.nk:=fun i hi=>by
  rw [List.getD_eq_getElem?_getD,List.getElem?_eq_getElem (by omega)]
  exact of_blt (List.all_eq_true.1 hk4 _ (List.getElem_mem _))
 have hat:∀ i,i<nk→ks[i]?=some (ks.getD i 0):=fun i hi=>by
  rw [List.getD_eq_getElem?_getD,List.getElem?_eq_getElem (by omega)];rfl
 let ρ:=rhoC ks nk σ.nk
 have rlo:∀ i,i<nk→ρ i=ks.getD i 0:=fun i hi=>by
  show (bif Nat.blt i nk then _ else _)=_
  rw [show Nat.blt i nk=true from Nat.ble_eq_true_of_le hi];rfl
 have rhi:∀ i,nk≤i→ρ i=σ.nk+(i-nk):=fun i hi=>by
  show (bif Nat.blt i nk then _ else _)=_
  rw [show Nat.blt i nk=false from by
   cases h:Nat.blt i nk with
   | false=>rfl
   | true=>exact absurd (of_blt h) (by omega)];rfl
 let G'':Gh:=⟨G'.F,fun q=>if σ.nk≤q then G'.b (q-σ.nk+nk) else G.b q,fun q=>if σ.nk≤q then G'.n (q-σ.nk+nk) else G.n q,fun q=>if σ.nk≤q then G'.h (q-σ.nk+nk) else G.h q,
  fun q=>if σ.nk≤q then G'.fp (q-σ.nk+nk) else match idx q ks with
   | some i=>G'.fp i
   | none=>G.fp q⟩
 have hGle:G.le G'' σ.nk:=⟨hF,fun q hq=>if_neg (by omega),fun q hq=>if_neg (by omega),fun q hq=>if_neg (by omega)⟩
 have hren:G'.le (G''.ren ρ) nk':=by
  refine ⟨fun _ _ h=>h,fun i hi=>?_,fun i hi=>?_,fun i hi=>?_⟩
  all_goals
   show (if σ.nk≤ρ i then _ else _)=_
   by_cases h:i<nk
   ·rw [rlo i h,if_neg (by have:=hlt i h;omega)]
    first
     |exact (by rw [(hpin i h).1];show _=G.b (ρ i);rw [rlo i h])
     |exact (by rw [(hpin i h).2.1];show _=G.n (ρ i);rw [rlo i h])
     |exact (by rw [(hpin i h).2.2];show _=G.h (ρ i);rw [rlo i h])
   ·rw [rhi i (by omega),if_pos (by omega),show σ.nk+(i-nk)-σ.nk+nk=i by omega]
 have hrfp:∀ i,i<nk'→(G''.ren ρ).fp i=G'.fp i:=fun i hi=>by
  show (if σ.nk≤ρ i then _ else _)=_
  by_cases h:i<nk
  ·rw [rlo i h,if_neg (by have:=hlt i h;omega)]
   show (match idx (ks.getD i 0) ks with
    | some i=>G'.fp i
    | none=>G.fp (ks.getD i 0))=_
   rw [idx_of hnod (hat i h)]
  ·rw [rhi i (by omega),if_pos (by omega),show σ.nk+(i-nk)-σ.nk+nk=i by omega]
 have hρlt:∀ i,i<nk'→ρ i<σ.nk+(nk'-nk):=fun i hi=>by
  by_cases h:i<nk
  ·rw [rlo i h];have:=hlt i h;omega
  ·rw [rhi i (by omega)];omega
 have hρinj:∀ i j,ρ i=ρ j→i<nk'→j<nk'→i=j:=fun i j e hi hj=>by
  by_cases h:i<nk<;>by_cases h':j<nk
  ·rw [rlo i h,rlo j h'] at e
   have h1:=idx_of hnod (hat i h)
   have h2:=idx_of hnod (hat j h')
   rw [e,h2] at h1
   exact (Option.some.inj h1).symm
  ·rw [rlo i h,rhi j (by omega)] at e;have:=hlt i h;omega
  ·rw [rhi i (by omega),rlo j h'] at e;have:=hlt j h';omega
  ·rw [rhi i (by omega),rhi j (by omega)] at e;omega
 have kin:∀ x∈M',x.1<nk':=fun x hx=>of_blt (List.all_eq_true.1 hkm x hx)
 have lookM:∀ k o,look k (renM ρ M'++remL ks σ.M)=some o→(∃ i ob,k=ρ i∧look i M'=some ob∧o=ob.ren ρ∧i<nk'∧ob.inn nk'=true)∨(¬ k∈ks∧look k σ.M=some o∧k<σ.nk):=fun k o h=>by
  rw [look_app_] at h
  cases h1:look k (renM ρ M') with
  | some o1 =>
   rw [h1] at h
   simp only [Option.some_or,Option.some.injEq] at h
   subst h
   obtain ⟨i,ob,e1,e2,e3⟩:=look_renM (fun x hx y hy e=>hρinj _ _ e (kin x hx) (kin y hy)) h1
   have hx:i∈M'.map (·.1):=look_mem e2
   obtain ⟨y,hy,hyi⟩:=List.mem_map.1 hx
   have hi:i<nk':=by rw [← hyi];exact kin y hy
   refine .inl ⟨i,ob,e1,e2,e3,hi,?_⟩
   have:∀ {l:List (Nat×AO)},look i l=some ob→∃ z∈l,z.2=ob:=fun {l}=>by
    induction l with
    | nil=>intro h;cases h
    | cons z r ih =>
     intro h
     by_cases e:i=z.1
     ·rw [e,show look z.1 (z::r)=some z.2 from look_set_same] at h
      cases h
      exact ⟨z,by simp,rfl⟩
     ·rw [show look i (z::r)=look i r from look_set_other e] at h
      obtain ⟨z',h1,h2⟩:=ih h
      exact ⟨z',by simp [h1],h2⟩
   obtain ⟨z,hz,hz2⟩:=this e2
   rw [← hz2];exact List.all_eq_true.1 hinn z hz
  | none =>
   rw [h1] at h
   simp only [Option.none_or] at h
   rw [look_remL] at h
   by_cases e:k∈ks
   ·rw [if_pos e] at h;cases h
   ·rw [if_neg e] at h
    exact .inr ⟨e,h,(ok.ob k o h).1⟩
 have fpOut:∀ k,¬ k∈ks→k<σ.nk→G''.fp k=G.fp k:=fun k h1 h2=>by
  show (if σ.nk≤k then _ else _)=_
  rw [if_neg (by omega)]
  cases h3:idx k ks with
  | none=>rfl
  | some i=>exact absurd (List.mem_of_getElem? (idx_some h3)) h1
 have outS:∀ k o x,¬ k∈ks→look k σ.M=some o→G.fp k x→¬ fpM (G.ren (rhoC ks nk σ.nk)) M x:=fun k o x h1 h2 h3 h4=>by
  obtain ⟨i,o2,hi,h5,h6⟩:=hMk x h4
  have:=ok.dj k o _ o2 x h2 h5 h3 h6
  exact h1 (this ▸ List.mem_of_getElem? (hat i hi))
 have fF:∀ p u,G.F p=some u→w'.heap[p.block]?=w.heap[p.block]?:=fun p u h=>hkept.block _ (cell_block (ok.fw p u h)) fun hx=>by
  obtain ⟨i,o2,hi,h5,h6⟩:=hMk _ hx
  exact ok.dF _ o2 _ p u h5 h6 h rfl
 have may_:∀ x,fpM (G.ren (rhoC ks nk σ.nk)) M x→C.may x∧x<w.heap.size:=fun x h=>by
  obtain ⟨i,o2,hi,h5,h6⟩:=hMk x h
  exact ok.my _ o2 x h5 h6
 have mayN:∀ x,w.heap.size≤x→C.may x:=fun x h=>.inl (Nat.le_trans ok.bel.size h)
 have fpN:∀ k o x,look k (renM ρ M'++remL ks σ.M)=some o→G''.fp k x→(∃ i ob,k=ρ i∧look i M'=some ob∧i<nk'∧G'.fp i x)∨(¬ k∈ks∧look k σ.M=some o∧k<σ.nk∧G.fp k x):=fun k o x h1 h2=>by
  rcases lookM k o h1 with⟨i,ob,e1,e2,e3,e4,e5⟩|⟨e1,e2,e3⟩
  ·refine .inl ⟨i,ob,e1,e2,e4,?_⟩
   have:=hrfp i e4
   rw [← this]
   show G''.fp (ρ i) x
   rw [← e1];exact h2
  ·rw [fpOut k e1 e3] at h2
   exact .inr ⟨e1,e2,e3,h2⟩
 refine ⟨G'',⟨ok.sz,⟨ok.df.1,Nat.le_trans ok.df.2.1 (Nat.le_add_right _ _),fun k hk=>?_⟩,fun i av x=>⟨(ok.tm i av x).1,(ok.tm i av x).2.1.mono (Nat.le_add_right _ _),(ok.tm i av x).2.2.mono hGle (ok.tm i av x).2.1⟩,
  ok.bel.on hkept fun x hx=>(may_ x hx).1,hO.fw,fun p u x=>hF p u (ok.f0 p u x),fun p u x=>?_,fun k o x=>?_,fun k o x h1 h2=>?_,fun k o k' o' x h1 h2 h3 h4=>?_,fun k o x p u h1 h2 h3=>?_⟩,fun av v hin hr=>?_⟩
 ·have hk2:=Nat.lt_of_lt_of_le hk ok.df.2.1
  rw [hGle.b k hk2,hGle.n k hk2,hGle.h k hk2];exact ok.df.2.2 k hk
 ·rcases hnew p u x with h|h|h
  ·exact ok.f1 p u h
  ·exact .inr (mayN _ h)
  ·exact .inr (may_ _ h).1
 ·rcases lookM k o x with⟨i,ob,rfl,e2,rfl,e4,e5⟩|⟨e1,e2,e3⟩
  ·have h1:=hO.ob i ob e2
   have h2:ObAt (G''.ren ρ) w' i ob:=h1.2.2.keep hren h1.1 h1.2.1 (hrfp i e4) fun _ _=>rfl
   exact ⟨hρlt i e4,AO.ren_bd e5 hρlt,h2.un e5⟩
  ·have h1:=ok.ob k o e2
   exact ⟨Nat.lt_of_lt_of_le e3 (Nat.le_add_right _ _),AO.bd_mono (Nat.le_add_right _ _) h1.2.1,h1.2.2.keep hGle h1.1 h1.2.1 (fpOut k e1 e3) fun y hy=>hkept.block y (ok.my k o y e2 hy).2 (outS k o y e1 e2 hy)⟩
 ·rcases fpN k o x h1 h2 with⟨i,ob,e1,e2,e4,e5⟩|⟨e1,e2,e3,e4⟩
  ·refine ⟨?_,hO.my i ob x e2 e5⟩
   rcases hmy i ob x e2 e5 with h|h
   ·exact mayN x h
   ·exact (may_ x h).1
  ·exact ⟨(ok.my k o x e2 e4).1,Nat.lt_of_lt_of_le (ok.my k o x e2 e4).2 hkept.size⟩
 ·have cross:∀ i ob k o,look i M'=some ob→G'.fp i x→¬ k∈ks→look k σ.M=some o→G.fp k x→False:=fun i ob k o e2 e5 f1 f2 f4=>by
   rcases hmy i ob x e2 e5 with h|h
   ·have:=(ok.my k o x f2 f4).2;omega
   ·exact outS k o x f1 f2 f4 h
  rcases fpN k o x h1 h3 with⟨i,ob,e1,e2,e4,e5⟩|⟨e1,e2,e3,e4⟩
  ·rcases fpN k' o' x h2 h4 with⟨j,ob',f1,f2,f4,f5⟩|⟨f1,f2,f3,f4⟩
   ·rw [e1,f1,hO.dj i ob j ob' x e2 f2 e5 f5]
   ·exact (cross i ob k' o' e2 e5 f1 f2 f4).elim
  ·rcases fpN k' o' x h2 h4 with⟨j,ob',f1,f2,f4,f5⟩|⟨f1,f2,f3,f4⟩
   ·exact (cross j ob' k o f2 f5 e1 e2 e4).elim
   ·exact ok.dj k o k' o' x e2 f2 e4 f4
 ·rcases fpN k o x h1 h2 with⟨i,ob,e1,e2,e4,e5⟩|⟨e1,e2,e3,e4⟩
  ·exact hO.dF i ob x p u e2 e5 h3
  ·rcases hnew p u h3 with h|h|h
   ·exact ok.dF k o x p u e2 e4 h
   ·have:=(ok.my k o x e2 e4).2;omega
   ·intro e
    rw [e] at h
    exact outS k o x e1 e2 e4 h
 ·exact R.un hin (hr.mono hren (inn_bd hin))
theorem Ok.ctoC (ok:Ok C σ G a w) (hB:Holds B gl C) {f:FuncId} {args args':List AV} {res res':AV} {M M':List (Nat×AO)} {nk nk':Nat} (ks:List Nat) {vs:List Value} (hl:vs.length=args'.length) (hR:∀ (i:Nat) av u,args'[i]?=some av→vs[i]?=some u→R G av u)
  (h:Cto B gl P f args M nk res M' nk') (hks:ksB ks nk σ.nk=true) (ha:args.map (AV.ren (rhoC ks nk σ.nk))=args') (hp:args.all (AV.inn nk)=true) (hM:TrM σ (rhoC ks nk σ.nk) nk M)
  (hle:Nat.ble nk nk'=true) (hinn:M'.all (fun x=>x.2.inn nk')=true) (hkm:M'.all (fun x=>Nat.blt x.1 nk')=true) (hri:res.inn nk'=true) (hr:res.ren (rhoC ks nk σ.nk)=res') :
  Calls P f vs.toArray w fun e w1=>∃ v G'',e=.returned v∧Ok C ⟨σ.t,renM (rhoC ks nk σ.nk) M'++remL ks σ.M,σ.nk+(nk'-nk)⟩ G'' a w1∧R G'' res' v∧Bd (σ.nk+(nk'-nk)) res':=by
 subst hr
 have hks2:=hks
 simp only [ksB,Bool.and_eq_true] at hks2
 obtain ⟨⟨⟨hk1,_⟩,hk3⟩,hk4⟩:=hks2
 have hlen:=Nat.eq_of_beq_eq_true hk1
 have hnod:=nod_of hk3
 have rlo:∀ i,i<nk→rhoC ks nk σ.nk i=ks.getD i 0:=fun i hi=>by
  show (bif Nat.blt i nk then _ else _)=_
  rw [show Nat.blt i nk=true from Nat.ble_eq_true_of_le hi];rfl
 have hat:∀ i,i<nk→ks[i]?=some (ks.getD i 0):=fun i hi=>by
  rw [List.getD_eq_getElem?_getD,List.getElem?_eq_getElem (by omega)];rfl
 have hMat:∀ k o,look k M=some o→look (ks.getD k 0) σ.M=some (o.ren (rhoC ks nk σ.nk))∧o.inn nk=true∧k<nk:=fun k o h=>by
  obtain ⟨h1,h2,h3⟩:=hM.at_ k o h
  rw [rlo k h3] at h1
  exact ⟨h1,h2,h3⟩
 have hMk:∀ x,fpM (G.ren (rhoC ks nk σ.nk)) M x→∃ k o,k<nk∧look (ks.getD k 0) σ.M=some o∧G.fp (ks.getD k 0) x:=fun x ⟨k,o,h1,h2⟩=>by
  obtain ⟨h3,_,h4⟩:=hMat k o h1
  have h2:G.fp (rhoC ks nk σ.nk k) x:=h2
  rw [rlo k h4] at h2
  exact ⟨k,_,h4,h3,h2⟩
 have hO:Obs (G.ren (rhoC ks nk σ.nk)) w M nk:=by
  refine ⟨ok.fw,fun k o h=>?_,fun k o x h1 h2=>?_,fun k o k' o' x h1 h2 h3 h4=>?_,fun k o x p u h1 h2 h3=>?_⟩
  ·obtain ⟨h1,h2,h3⟩:=hM.at_ k o h
   have g:=(ok.ob _ _ h1).2.2
   exact ⟨h3,(ObAt.ren h2 g).1,(ObAt.ren h2 g).2⟩
  ·obtain ⟨h3,_,_⟩:=hM.at_ k o h1
   exact (ok.my _ _ x h3 h2).2
  ·obtain ⟨f1,_,f2⟩:=hM.at_ k o h1
   obtain ⟨f3,_,f4⟩:=hM.at_ k' o' h2
   have:=ok.dj _ _ _ _ x f1 f3 h3 h4
   rw [rlo k f2,rlo k' f4] at this
   have g1:=idx_of hnod (hat k f2)
   have g2:=idx_of hnod (hat k' f4)
   rw [this,g2] at g1
   exact (Option.some.inj g1).symm
  ·obtain ⟨f1,_,_⟩:=hM.at_ k o h1
   exact ok.dF _ _ x p u f1 h2 h3
 have hcalls:=h w (G.ren (rhoC ks nk σ.nk)) vs (hB.1 w G.F ok.bel ok.f0) (fun x hx=>by
   obtain ⟨k,o,_,h1,h2⟩:=hMk x hx
   exact hB.2 x (ok.my _ o x h1 h2).1) hO (by rw [hl,← ha];simp) fun i av u p q=>by
  have:args'[i]?=some (av.ren (rhoC ks nk σ.nk)):=by rw [← ha,List.getElem?_map,p];rfl
  exact R.ren_ (List.all_eq_true.1 hp av (List.mem_of_getElem? p)) (hR i _ u this q)
 refine hcalls.mono fun e w1 ⟨v,G',he,q1,q2,q3,q4,q5,q6,q7,q8,q9⟩=>?_
 obtain ⟨G'',ok',hres⟩:=ok.cto (M:=M) (M':=M') hks (fun k o h=>⟨(hMat k o h).2.2,_,(hMat k o h).1⟩) hMk q1 q2 q3 q4 q5 q6 (Nat.le_of_ble_eq_true hle) hinn hkm
 refine ⟨v,G'',he,ok',hres res v hri q9,AV.ren_bd hri fun i hi=>?_⟩
 show rhoC ks nk σ.nk i<σ.nk+(nk'-nk)
 by_cases h:i<nk
 ·rw [rlo i h]
  have:ks.getD i 0<σ.nk:=by
   rw [List.getD_eq_getElem?_getD,List.getElem?_eq_getElem (by omega)]
   exact of_blt (List.all_eq_true.1 hk4 _ (List.getElem_mem _))
  omega
 ·show (bif Nat.blt i nk then _ else _)<_
  rw [show Nat.blt i nk=false from by
   cases h2:Nat.blt i nk with
   | false=>rfl
   | true=>exact absurd (of_blt h2) h]
  show σ.nk+(i-nk)<_
  omega
def fnOf:AV→Option (FuncId×List AV)
 | .fn f l=>some (f,l)
 | .sc (.func (.func f) ⟨[]⟩ ⟨[]⟩)=>some (f,[])
 | _=>none
theorem fnOf_of {av:AV} {f:FuncId} {caps:List AV} {v:Value} (h:fnOf av=some (f,caps))(r:R G av v):∃ cs:Array Value,v=.func (.func f) #[] cs∧cs.size=caps.length∧∀ (i:Nat) av u,caps[i]?=some av→cs[i]?=some u→R G av u:=by
 unfold fnOf at h
 split at h
 ·cases h
  exact r.fn_of
 ·cases h
  exact⟨#[],r.sc_eq,rfl,fun i av u x=>by simp at x⟩
 ·cases h
theorem call_wp {f:FuncId} {o:Oper} {y:Operand} {xs:Array Operand} {ts:Array TypeId} {cs:Array Value} {R':Ending→World→Prop} {N:Act→World→Prop} {Q':Exit→Act→World→Prop} (ho:o.op=.call { callee:=.value y,args:=xs,argTypes:=ts })(hc:∀ vs w,(callFunc f vs).run P w=.ok (.enter f vs) w)
  (ey:a.eval y=.func (.func f) #[] cs)(h:Calls P f (xs.toList.map a.eval++cs.toList).toArray w R')(hN:∀ e w1,R' e w1→∃ v,e=.returned v∧N (a.put o.dst v) w1):o.wp P a w N Q':=by
 unfold Oper.wp execOp
 have e3:(#[]++xs.map a.eval++cs:Array Value)=(xs.toList.map a.eval++cs.toList).toArray:=by apply Array.ext';simp
 simp only [ho,resolve,ey,Deferred.ofValue,invoke,Sem.run_bind,Sem.run_pure,Result.andThen_ok,hc,Oper.upon,e3]
 refine h.mono fun e w1 hr=>?_
 obtain⟨v,rfl,hn⟩:=hN e w1 hr
 exact hn
theorem Ok.evl2 (ok:Ok C σ G a w) {xs:Array Operand} {args0 caps args':List AV} {cs:Array Value} (hx:σ.evs xs.toList=some args0)(h1:cs.size=caps.length)(h2:∀ (i:Nat)av u,caps[i]?=some av→cs[i]?=some u→R G av u)(ha:args0++caps=args') :
  (xs.toList.map a.eval++cs.toList).length=args'.length∧∀ (i:Nat)av u,args'[i]?=some av→(xs.toList.map a.eval++cs.toList)[i]?=some u→R G av u:=by
 obtain⟨e1,e2⟩:=ok.evl hx
 subst ha
 refine⟨by rw [List.length_append,List.length_append,e1];simpa using h1,fun i av u p q=>?_⟩
 by_cases hi:i<args0.length
 ·rw [List.getElem?_append_left hi]at p
  rw [List.getElem?_append_left (by omega)]at q
  exact e2 i av u p q
 ·rw [List.getElem?_append_right (by omega)]at p
  rw [List.getElem?_append_right (by omega),e1]at q
  exact h2 _ av u p (by simpa using q)
theorem WO.cto (hB:Holds B gl C) {f:FuncId} {o:Oper} {y:Operand} {fv:AV} {xs:Array Operand} {ts:Array TypeId} {args args0 caps args':List AV} {res res':AV} {M M':List (Nat×AO)} {nk nk':Nat} (ks:List Nat)(ho:o.op=.call { callee:=.value y,args:=xs,argTypes:=ts })(hc:∀ vs w,(callFunc f vs).run P w=.ok (.enter f vs) w)
  (hy:σ.ev y=some fv)(hf:fnOf fv=some (f,caps))(hx:σ.evs xs.toList=some args0)(hcat:args0++caps=args')(h:Cto B gl P f args M nk res M' nk')(hks:ksB ks nk σ.nk=true)(ha:args.map (AV.ren (rhoC ks nk σ.nk))=args')(hp:args.all (AV.inn nk)=true)(hM:TrM σ (rhoC ks nk σ.nk) nk M)
  (hle:Nat.ble nk nk'=true)(hinn:M'.all (fun x=>x.2.inn nk')=true)(hkm:M'.all (fun x=>Nat.blt x.1 nk')=true)(hri:res.inn nk'=true)(hr:res.ren (rhoC ks nk σ.nk)=res')(hd:dstOk C.N o.dst=true) :
  WO P C o σ ((⟨σ.t,renM (rhoC ks nk σ.nk) M'++remL ks σ.M,σ.nk+(nk'-nk)⟩:St).set o.dst res'):=by
 intro G a w ok N Q' hN
 obtain⟨cs,ey,h1,h2⟩:=fnOf_of hf (ok.evr hy).2
 obtain⟨hl,hR⟩:=ok.evl2 hx h1 h2 hcat
 refine call_wp ho hc ey (ok.ctoC hB ks hl hR h hks ha hp hM hle hinn hkm hri hr) fun e w1⟨v,G'',he,ok',hr',hb⟩=>⟨v,he,hN _ _ _ (ok'.set hr' hb (dstOk_of hd))⟩
theorem WV.callV (hB:Holds B gl C) {f:FuncId} {o:Oper} {y:Operand} {fv:AV} {xs:Array Operand} {ts:Array TypeId} {args0 caps args':List AV} {res:AV} (ho:o.op=.call { callee:=.value y,args:=xs,argTypes:=ts }) (hc:∀ vs w,(callFunc f vs).run P w=.ok (.enter f vs) w)
  (hy:σ.ev y=some fv) (hf:fnOf fv=some (f,caps)) (hx:σ.evs xs.toList=some args0) (hcat:args0++caps=args') (hp:args'.all AV.pu2=true) (h:Ctg B P f args' res):WV P C o σ res:=by
 intro G a w ok N Q' hN
 obtain ⟨cs,ey,h1,h2⟩:=fnOf_of hf (ok.evr hy).2
 obtain ⟨hl,hR⟩:=ok.evl2 hx h1 h2 hcat
 refine call_wp ho hc ey (h w G.F _ (hB.1 w G.F ok.bel ok.f0) ok.fw ⟨hl,fun i av u p q=>(pu2_bd (List.all_eq_true.1 hp av (List.mem_of_getElem? p)) 0).rp (hR i av u p q)⟩) fun e w1 ⟨v,F',he,hb,q1,q2,q3,q4⟩=>?_
 exact ⟨v,he,hN v _ w1 (fun σ'' a'' ok''=>ok''.called hb q1 q2 q3) (.pu _ _ q4) (q4.bd _)⟩
theorem WV.mkf {f:FuncId} {o:Oper} {xs:Array Operand} {caps:List AV} (ho:o.op=.makeFunc (.func f) #[] xs)(hx:σ.evs xs.toList=some caps):WV P C o σ (.fn f caps) :=
 WV.val (fun G a w ok=>.fn f _ fun i x hx2=>by
  have:∀ {xs:List Operand} {l:List AV},σ.evs xs=some l→∀ (i:Nat) x,l[i]?=some x→Bd σ.nk x:=fun {xs}=>by
   induction xs with
   | nil=>intro l h i x hx;cases h;simp at hx
   | cons y r ih =>
    intro l h i x hx
    unfold St.evs at h
    cases h1:σ.ev y with
    | none=>simp [h1] at h
    | some av =>
     cases h2:σ.evs r with
     | none=>simp [h1,h2] at h
     | some l' =>
      simp [h1,h2] at h
      subst h
      cases i with
      | zero=>cases hx;exact (ok.evr h1).1
      | succ i=>exact ih h2 i x (by simpa using hx)
  exact this hx i x hx2) fun G a w ok=>by
  obtain⟨e1,e2⟩:=ok.evl hx
  refine⟨.func (.func f) #[] (xs.map a.eval),by unfold execOp;simp [ho,Instr.makeFunc],.fn f _ _ (by simpa using e1) fun i av u p q=>e2 i av u p (by rw [← q];simp)⟩
theorem WV.nch {o:Oper} {x:Operand} {k i j:Nat} (ho:o.op=.nilCheck x)(hx:σ.ev x=some (.pt k i j)):WV P C o σ (.pt k i j) :=
 WV.val (fun G a w ok=>(ok.evr hx).1) fun G a w ok=>by
  obtain⟨p,ep,p1,p2,p3⟩:=(ok.evr hx).2.pt_of
  exact⟨_,by unfold execOp;simp [ho,ep],.pt k i j p p1 p2 p3⟩
end
section
variable {B:World→View→Prop} {gl:Nat} {P:Program} {C:Cx} {ops:Array Oper} {o:Oper} {rest:List Oper} {Q:Exit→St→Prop} {d:Tmp}
def calE (σ:St):Op→Option (FuncId×List AV)
 | .call { callee:=.value y,args:=⟨xs⟩,argTypes:=_ } =>
  match σ.ev y,σ.evs xs with
  | some fv,some args0 =>
   match fnOf fv with
   | some (f,caps)=>some (f,args0++caps)
   | none=>none
  | _,_=>none
 | _=>none
theorem WL.cto (hB:Holds B gl C) {f:FuncId} {args args':List AV} {res res':AV} {M M' M2:List (Nat×AO)} {nk nk' n2:Nat} {t:List (Nat×AV)} {M0:List (Nat×AO)} {n0:Nat} (ks:List Nat) (hg:o.guard=none) (he:calE ⟨t,M0,n0⟩ o.op=some (f,args')) (hc:∀ vs w,(callFunc f vs).run P w=.ok (.enter f vs) w)
  (h:Cto B gl P f args M nk res M' nk') (hks:ksB ks nk n0=true) (ha:args.map (AV.ren (rhoC ks nk n0))=args') (hp:args.all (AV.inn nk)=true) (hM:TrM ⟨t,M0,n0⟩ (rhoC ks nk n0) nk M)
  (hq:(Nat.ble nk nk' && M'.all (fun x=>x.2.inn nk') && M'.all (fun x=>Nat.blt x.1 nk') && res.inn nk' && dstOk C.N o.dst)=true) (hr:res.ren (rhoC ks nk n0)=res') (hM2:renM (rhoC ks nk n0) M'++remL ks M0=M2) (hn2:n0+(nk' - nk)=n2)
  (k:WL P C ops rest ((⟨t,M2,n2⟩:St).set o.dst res') Q):WL P C ops (o::rest) ⟨t,M0,n0⟩ Q:=by
 subst hM2 hn2
 simp only [Bool.and_eq_true] at hq
 refine WL.op hg ?_ k
 unfold calE at he
 split at he
 ·rename_i y xs ts ho
  split at he
  ·rename_i fv args0 hy hx
   split at he
   ·rename_i f' caps hf
    cases he
    exact WO.cto (σ:=⟨t,M0,n0⟩) (xs:=⟨xs⟩) hB ks ho hc hy hf hx rfl h hks ha hp hM hq.1.1.1.1 hq.1.1.1.2 hq.1.1.2 hq.1.2 hr hq.2
   ·cases he
  ·cases he
 ·cases he
end
end
section
open Go.RowKit
def fretsOf (cs:List (Int×Int×Bool)) (c:Int):Int:=(cs.getD (c.toNat-1) (0,0,false)).2.1
def stopE(p:Pce)(i:Int)(s:Stp)(last:Int):Int :=
 if s.1<1∨(p.cs.length:Int)<s.1 then 12
 else if s.2.1<0∨fretsOf p.cs s.1<s.2.1 then 13
 else if s.1≤last then 22
 else if(s.2.2.1<0∨3<s.2.2.1)∨(s.2.2.2.1<0∨4<s.2.2.2.1)then 23
 else if(s.2.2.2.2<0∨(longestN p.evs i s.1:Int)<s.2.2.2.2)∨(0<s.2.2.2.2∧s.2.1=0)then 24
 else 0
def stopsE(p:Pce)(i:Int):Int→List Stp→Int
 | _,[]=>0
 | last,s::r=>if stopE p i s last≠0 then stopE p i s last else stopsE p i s.1 r
def evE(p:Pce)(i:Int)(e:Ev):Int :=
 if sgOk e.val e.dot e.three=false∨(i=0∧e.val=0)then 20
 else if e.tie=true∧(0<e.stops.length∨i=0)then 21
 else stopsE p i 0 e.stops
def evsE (p:Pce):Nat→List Ev→Int
 | _,[]=>0
 | i,e::r=>if evE p i e≠0 then evE p i e else evsE p (i+1) r
def pceE(p:Pce):Int:=if insE p.cs p.st≠0 then insE p.cs p.st else if 400<p.evs.length then 2 else evsE p 0 p.evs
theorem stopsE_at {p:Pce} {i last:Int} {l:List Stp} {k:Nat} (h:k<l.length):stopsE p i last (l.drop k)=if stopE p i l[k] last≠0 then stopE p i l[k] last else stopsE p i l[k].1 (l.drop (k+1)):=by
 rw [List.drop_eq_getElem_cons h];rfl
theorem evsE_at {p:Pce} {l:List Ev} {k:Nat} (h:k<l.length):evsE p k (l.drop k)=if evE p k l[k]≠0 then evE p k l[k]else evsE p (k+1) (l.drop (k+1)):=by
 rw [List.drop_eq_getElem_cons h];rfl
section
variable {p:Pce} {i last:Int} {s:Stp}
theorem stopE_crs(h:s.1<1∨(p.cs.length:Int)<s.1):stopE p i s last=12:=if_pos h
theorem stopE_fret(h:¬ (s.1<1∨(p.cs.length:Int)<s.1))(h1:s.2.1<0∨fretsOf p.cs s.1<s.2.1):stopE p i s last=13:=by unfold stopE;rw [if_neg h,if_pos h1]
theorem stopE_order(h:¬ (s.1<1∨(p.cs.length:Int)<s.1))(h1:¬ (s.2.1<0∨fretsOf p.cs s.1<s.2.1))(h2:s.1≤last):stopE p i s last=22:=by unfold stopE;rw [if_neg h,if_neg h1,if_pos h2]
theorem stopE_mark(h:¬ (s.1<1∨(p.cs.length:Int)<s.1))(h1:¬ (s.2.1<0∨fretsOf p.cs s.1<s.2.1))(h2:¬ s.1≤last)(h3:(s.2.2.1<0∨3<s.2.2.1)∨(s.2.2.2.1<0∨4<s.2.2.2.1)):stopE p i s last=23:=by unfold stopE;rw [if_neg h,if_neg h1,if_neg h2,if_pos h3]
theorem stopE_hold(h:¬ (s.1<1∨(p.cs.length:Int)<s.1))(h1:¬ (s.2.1<0∨fretsOf p.cs s.1<s.2.1))(h2:¬ s.1≤last)(h3:¬ ((s.2.2.1<0∨3<s.2.2.1)∨(s.2.2.2.1<0∨4<s.2.2.2.1)))
  (h4:(s.2.2.2.2<0∨(longestN p.evs i s.1:Int)<s.2.2.2.2)∨(0<s.2.2.2.2∧s.2.1=0)):stopE p i s last=24:=by unfold stopE;rw [if_neg h,if_neg h1,if_neg h2,if_neg h3,if_pos h4]
theorem stopE_ok(h:¬ (s.1<1∨(p.cs.length:Int)<s.1))(h1:¬ (s.2.1<0∨fretsOf p.cs s.1<s.2.1))(h2:¬ s.1≤last)(h3:¬ ((s.2.2.1<0∨3<s.2.2.1)∨(s.2.2.2.1<0∨4<s.2.2.2.1)))
  (h4:¬ ((s.2.2.2.2<0∨(longestN p.evs i s.1:Int)<s.2.2.2.2)∨(0<s.2.2.2.2∧s.2.1=0))):stopE p i s last=0:=by unfold stopE;rw [if_neg h,if_neg h1,if_neg h2,if_neg h3,if_neg h4]
end
theorem fretsOf_at {cs:List (Int×Int×Bool)} {q:Nat} (h:q<cs.length):fretsOf cs ((q:Int)+1)=cs[q].2.1:=by
 unfold fretsOf
 have:((q:Int)+1).toNat-1=q:=by omega
 rw [this,List.getD_eq_getElem?_getD,List.getElem?_eq_getElem h];rfl
end
end Go.Proofs.YtgelfflighgajaaGreatDoor
