/- strings.Join: its contract. (The tool does not lay it here, for its closure's table of numbers; the bodies are the same.) -/
import Derived.Test.YtgelfflighgajaaGreatDoorBdSq
import Derived.Test.YtgelfflighgajaaGreatDoorSpSq
set_option maxRecDepth 100000
set_option linter.unusedVariables false
set_option linter.unusedSimpArgs false
namespace Go.Proofs.YtgelfflighgajaaGreatDoor
section
open Go.RowKit
theorem z26o {p:Prop} (h:p:=by omega):p:=h
def locK {α:Type} [DecidableEq α] (k:α):Nat→List (α×Value)→Option (Nat×Value)
 | _,[]=>none
 | i,x::r=>if k=x.1 then some (i,x.2) else locK k (i+1) r
def lookK {α:Type} [DecidableEq α] (z:Value)(k:α)(l:List (α×Value)):Value:=((locK k 0 l).map (·.2)).getD z
def updK {α:Type} [DecidableEq α] (k:α)(v:Value):List (α×Value)→List (α×Value)
 | []=>[(k,v)]
 | x::r=>if k=x.1 then (k,v)::r else x::updK k v r
structure KeyK (P:Program) (kt:TypeId) {α:Type} [DecidableEq α] (enc:α→Value):Prop where
 chk:∀ w b k,(Instr.checkKey b 10000 kt (enc k)).run P w=.ok () w
 fnd:∀ w k (es:List MapEntry) (l:List (α×Value)),es.map (fun e=>(e.key,e.val))=l.map (fun x=>(enc x.1,x.2))→(Instr.findKey kt (enc k) es).run P w=.ok (locK k 0 l) w
 bits:∀ k,Instr.sameBits 10000 (enc k) (enc k)=true
def mapIs {α:Type} (enc:α→Value)(l:List (α×Value))(w:World)(b:Nat):Prop :=
 ∃ es clock,w.heap[b]?=some (.map es clock)∧es.toList.map (fun e=>(e.key,e.val))=l.map fun x=>(enc x.1,x.2)
def mapQ {α:Type} (enc:α→Value)(l:List (α×Value)):Opq :=
 ⟨fun w b v φ=>v=.map (some b)∧φ b∧mapIs enc l w b,fun w w' b v φ h⟨h1,h2,es,c,h3,h4⟩=>⟨h1,h2,es,c,(h b h2).trans h3,h4⟩⟩
theorem locK_shift {α:Type} [DecidableEq α] (k:α):∀ (l:List (α×Value))(i n:Nat),locK k (i+n) l=(locK k i l).map fun x=>(x.1+n,x.2)
 | [],i,n=>rfl
 | x::r,i,n=>by
  unfold locK
  split
  ·rfl
  ·rw [show i+n+1=(i+1)+n by omega];exact locK_shift k r (i+1) n
theorem upd_none {α:Type} [DecidableEq α] (k:α)(v:Value):∀ (l:List (α×Value))(i:Nat),locK k i l=none→updK k v l=l++[(k,v)]
 | [],i,_=>rfl
 | x::r,i,h=>by
  unfold locK at h
  split at h
  ·cases h
  ·rename_i hne
   unfold updK
   rw [if_neg hne,upd_none k v r (i+1) h];rfl
theorem upd_some {α:Type} [DecidableEq α] (enc:α→Value)(k:α)(v:Value):∀ (l:List (α×Value))(es:List MapEntry)(i:Nat)(u:Value),locK k 0 l=some (i,u)→es.map (fun e=>(e.key,e.val))=l.map (fun x=>(enc x.1,x.2)) →
  (es.modify i fun e=>{ e with key:=enc k,val:=v }).map (fun e=>(e.key,e.val))=(updK k v l).map (fun x=>(enc x.1,x.2))∧((es[i]?).map (·.key))=some (enc k)
 | [],es,i,u,h,_=>by cases h
 | x::r,[],i,u,_,he=>by cases he
 | x::r,e::es,i,u,h,he=>by
  simp only [List.map_cons,List.cons.injEq,Prod.mk.injEq]at he
  unfold locK at h
  unfold updK
  by_cases hk:k=x.1
  ·rw [if_pos hk]at h ⊢
   cases h
   simp [List.modify,he.2,he.1.1,hk]
  ·rw [if_neg hk]at h ⊢
   rw [show (0+1:Nat)=0+1 from rfl,locK_shift]at h
   cases hq:locK k 0 r with
   | none=>rw [hq]at h;cases h
   | some y =>
    rw [hq]at h
    simp only [Option.map_some,Option.some.injEq,Prod.mk.injEq]at h
    obtain⟨rfl,rfl⟩:=h
    obtain⟨h1,h2⟩:=upd_some enc k v r es y.1 y.2 hq he.2
    refine⟨?_,by simpa using h2⟩
    simp only [List.modify_succ_cons,List.map_cons,h1,he.1.1,he.1.2]
section
variable {P:Program} {C:Cx} {σ σ':St} {G G':Gh} {a:Act} {w w':World} {o:Oper} {d:Tmp} {ops:Array Oper} {rest:List Oper} {Q:Exit→St→Prop}
theorem Ok.writeG (ok:Ok C σ G a w) {k g:Nat} {ob ob':AO} (hk:look k σ.M=some ob) (hg:G.fp k g) (hkept:Kept (fun x=>x=g) w w') (hob:ObAt G w' k ob') (hbd:ob'.bd σ.nk) :
  Ok C (σ.upd k ob') G a w':=by
 have hl:∀ k' o,look k' (σ.upd k ob').M=some o→(k'=k∧o=ob')∨(k'≠k∧look k' σ.M=some o):=fun k' o hx=>by
  by_cases e:k'=k
  ·subst e
   rw [show look k' (σ.upd k' ob').M=some ob' from look_set_same] at hx
   cases hx
   exact .inl ⟨rfl,rfl⟩
  ·rw [show look k' (σ.upd k ob').M=look k' σ.M from look_set_other e] at hx
   exact .inr ⟨e,hx⟩
 have hne:∀ k' o x,k'≠k→look k' σ.M=some o→G.fp k' x→x≠g:=fun k' o x e h1 h2 h3=>by
  subst h3;exact e (ok.dj k' o k ob x h1 hk h2 hg)
 have some_:∀ k' o,look k' (σ.upd k ob').M=some o→∃ o',look k' σ.M=some o':=fun k' o h=>by
  rcases hl k' o h with⟨rfl,_⟩|⟨_,y⟩
  ·exact ⟨ob,hk⟩
  ·exact ⟨o,y⟩
 refine ⟨ok.sz,ok.df,ok.tm,ok.bel.on hkept (fun x hx=>by subst hx;exact (ok.my k ob x hk hg).1),fun p u h=>?_,ok.f0,ok.f1,?_,?_,?_,?_⟩
 ·rw [World.cell?_of_block (hkept.block p.block (cell_block (ok.fw p u h)) (ok.dF k ob g p u hk hg h))];exact ok.fw p u h
 ·intro k' o x
  rcases hl k' o x with⟨rfl,rfl⟩|⟨e,y⟩
  ·exact ⟨(ok.ob k' ob hk).1,hbd,hob⟩
  ·exact ⟨(ok.ob k' o y).1,(ok.ob k' o y).2.1,(ok.ob k' o y).2.2.keep (Gh.le.refl _ _) (ok.ob k' o y).1 (ok.ob k' o y).2.1 rfl fun x hx=>hkept.block x (ok.my k' o x y hx).2 (hne k' o x e y hx)⟩
 ·intro k' o x h1 h2
  obtain ⟨o',y⟩:=some_ k' o h1
  exact ⟨(ok.my k' o' x y h2).1,Nat.lt_of_lt_of_le (ok.my k' o' x y h2).2 hkept.size⟩
 ·intro k1 o1 k2 o2 x h1 h2 h3 h4
  obtain ⟨o1',y1⟩:=some_ k1 o1 h1
  obtain ⟨o2',y2⟩:=some_ k2 o2 h2
  exact ok.dj k1 o1' k2 o2' x y1 y2 h3 h4
 ·intro k1 o1 x p u h1 h2 h3
  obtain ⟨o1',y1⟩:=some_ k1 o1 h1
  exact ok.dF k1 o1' x p u y1 h2 h3
theorem WO.mkm {T:TypeId} {q:Nat} {α:Type} (enc:α→Value) (hd:dstB C.N o=some d) (ho:o.op=.makeMap T none) (hq:σ.nk=q):WO P C o σ ((σ.new (.opq (mapQ enc []))).put d (.sl q)):=by
 intro G a w ok N Q' hN
 obtain ⟨_,hds,hdb⟩:=dstB_of hd
 have hbl:∀ x,x<w.heap.size→(w.alloc (.map #[] 0)).heap[x]?=w.heap[x]?:=fun x hx=>Below.heap_alloc w _ x hx
 have ok':=ok.newObj (S:=fun _=>False) (w':=w.alloc (.map #[] 0)) (b:=w.heap.size) (n:=0) (h:=.map (some w.heap.size)) (φ:=fun x=>x=w.heap.size) (ob:=.opq (mapQ enc []))
  (Kept.below ((Below.refl _ _).alloc (Nat.le_refl _) _)) (fun _ h=>h.elim) (fun _ _ _ _ _ h=>h) (fun _ _ _ h=>h)
  (by
   show (mapQ enc []).Q _ _ _ _
   rw [with_b,with_h,with_f]
   exact ⟨rfl,rfl,#[],0,(MapKept.heap_alloc w _).1,rfl⟩) trivial (fun x hx=>by
   subst hx
   exact ⟨.inl ok.bel.size,by simp,fun k o h1 h2=>by have:=(ok.my k o _ h1 h2).2;omega,fun p u h1 h2=>by have:=cell_block (ok.fw p u h1);omega⟩)
 subst hq
 unfold Oper.wp execOp
 simp only [ho,Instr.makeMap,Option.map_none,Sem.run_bind,Sem.run_pure,run_newObj,Result.andThen_ok]
 show N (a.put o.dst _) _
 rw [hds]
 exact hN _ _ _ (ok'.set (d:=some d) (av:=.sl σ.nk) (with_sl rfl) (.sl _ (Nat.lt_succ_self _)) fun x hx=>by cases hx;exact of_blt hdb)
theorem WL.mkm {T:TypeId} {t:List (Nat×AV)} {M:List (Nat×AO)} {nk:Nat} {α:Type} (enc:α→Value) (hd:dstB C.N o=some d) (ho:o.op=.makeMap T none) (k:WL P C ops rest ⟨(d,.sl nk)::t,(nk,.opq (mapQ enc []))::M,nk+1⟩ Q):WL P C ops (o::rest) ⟨t,M,nk⟩ Q :=
 WL.op (dstB_of hd).1 (WO.mkm enc hd ho rfl) k
theorem map_at_ {α:Type} {enc:α→Value} {l:List (α×Value)} (ok:Ok C σ G a w) {q:Nat} {x:Operand} (hx:σ.ev x=some (.sl q)) (hq:look q σ.M=some (.opq (mapQ enc l))) :
  a.eval x=.map (some (G.b q))∧G.fp q (G.b q)∧mapIs enc l w (G.b q):=by
 obtain ⟨h1,h2,h3⟩:(mapQ enc l).Q w (G.b q) (G.h q) (G.fp q):=(ok.ob q _ hq).2.2
 exact ⟨(ok.evr hx).2.sl_of.1.trans h1,h2,h3⟩
theorem WV.mlk {α:Type} [DecidableEq α] {enc:α→Value} {T kt et:TypeId} {l:List (α×Value)} {q:Nat} {x y:Operand} {av:AV} {k:α} {z:Value} (K:KeyK P kt enc)(ho:o.op=.lookup T x y false)(hT:P.underlying T=some (.map kt et))(hz:(P.info? et).bind (·.zero)=some z)
  (hx:σ.ev x=some (.sl q))(hq:look q σ.M=some (.opq (mapQ enc l)))(hy:σ.ev y=some av)(hk:∀ G v,R G av v→v=enc k):WV P C o σ (.sc (lookK z k l)) :=
 WV.sc fun G a w ok=>by
  obtain⟨e1,e2,es,clock,e3,e4⟩:=map_at_ ok hx hq
  have e5:=hk G _ (ok.evr hy).2
  have e6:=K.fnd w k es.toList l e4
  unfold execOp
  simp only [ho,e1,e5,Instr.lookup,Sem.run_bind,run_underlying hT,Result.andThen_ok,Sem.run_pure,MapKept.run_getObj_map e3,K.chk,e6]
  unfold lookK
  cases hl:locK k 0 l with
  | none =>
   cases hi:P.info? et with
   | none=>simp [hi]at hz
   | some i =>
    simp [hi]at hz
    simp [zeroValue,typeInfo,hi,hz]
  | some r=>simp
theorem WO.mup {α:Type} [DecidableEq α] {enc:α→Value} {T kt et:TypeId} {l:List (α×Value)} {q:Nat} {x y z:Operand} {av:AV} {k:α} {u:Value} (K:KeyK P kt enc) (hds:o.dst=none) (ho:o.op=.mapUpdate T x y z) (hT:P.underlying T=some (.map kt et))
  (hx:σ.ev x=some (.sl q)) (hq:look q σ.M=some (.opq (mapQ enc l))) (hy:σ.ev y=some av) (hk:∀ G v,R G av v→v=enc k) (hu:σ.ev z=some (.sc u)):WO P C o σ (σ.upd q (.opq (mapQ enc (updK k u l)))):=by
 intro G a w ok N Q' hN
 obtain ⟨e1,e2,es,clock,e3,e4⟩:=map_at_ ok hx hq
 have e5:=hk G _ (ok.evr hy).2
 have e6:=K.fnd w k es.toList l e4
 have hlt:G.b q < w.heap.size:=(Array.getElem?_eq_some_iff.1 e3).1
 have fin:∀ (es':Array MapEntry) (c':Nat),es'.toList.map (fun e=>(e.key,e.val))=(updK k u l).map (fun x=>(enc x.1,x.2))→Ok C (σ.upd q (.opq (mapQ enc (updK k u l)))) G a { w with heap:=w.heap.setIfInBounds (G.b q) (.map es' c') }:=fun es' c' h =>
  ok.writeG hq e2 ⟨rfl,rfl,rfl,by simp,fun x _ hx=>Array.getElem?_setIfInBounds_ne (fun e=>hx e.symm)⟩ ⟨(ok.ob q _ hq).2.2.1,e2,es',c',(MapKept.heap_set e3).1,h⟩ trivial
 unfold Oper.wp execOp
 simp only [ho,e1,e5,ok.evs hu,Instr.mapUpdate,Sem.run_bind,run_underlying hT,Result.andThen_ok,Sem.run_pure,MapKept.run_getObj_map e3,K.chk,e6]
 cases hl:locK k 0 l with
 | none =>
  simp only [MapKept.run_setObj_map _ e3,Result.andThen_ok,Sem.run_bind,Sem.run_pure,Oper.upon]
  rw [hds]
  refine hN G a _ (fin _ _ ?_)
  rw [upd_none k u l 0 hl]
  simp [e4]
 | some r =>
  obtain ⟨i,v0⟩:=r
  obtain ⟨f1,f2⟩:=upd_some enc k u l es.toList i v0 hl e4
  have f3:(es[i]?).map (·.key)=some (enc k):=by rw [← Array.getElem?_toList];exact f2
  simp only [f3,Option.getD_some,Instr.keyThatStays,K.bits,if_true,Sem.run_pure,Result.andThen_ok,Sem.run_bind,MapKept.run_setObj_map _ e3,Oper.upon]
  rw [hds]
  refine hN G a _ (fin _ _ ?_)
  rw [Array.toList_modify]
  exact f1
theorem WL.mup {α:Type} [DecidableEq α] {enc:α→Value} {T kt et:TypeId} {l l':List (α×Value)} {q:Nat} {x y z:Operand} {av:AV} {k:α} {u:Value} {t:List (Nat×AV)} {M M':List (Nat×AO)} {nk:Nat} (K:KeyK P kt enc) (hg:o.guard=none) (hds:o.dst=none) (ho:o.op=.mapUpdate T x y z) (hT:P.underlying T=some (.map kt et))
  (hx:(⟨t,M,nk⟩:St).ev x=some (.sl q)) (hq:look q M=some (.opq (mapQ enc l))) (hy:(⟨t,M,nk⟩:St).ev y=some av) (hk:∀ G v,R G av v→v=enc k) (hu:(⟨t,M,nk⟩:St).ev z=some (.sc u)) (hM:remS q M=some M') (hl:updK k u l=l')
  (r:WL P C ops rest ⟨t,(q,.opq (mapQ enc l'))::M',nk⟩ Q):WL P C ops (o::rest) ⟨t,M,nk⟩ Q:=by
 subst hl
 rw [remS_eq hM] at r
 exact WL.op hg (wo_rem (WO.mup (σ:=⟨t,M,nk⟩) K hds ho hT hx hq hy hk hu)) r
theorem WO.mcl {α:Type} {enc:α→Value} {T kt et:TypeId} {l:List (α×Value)} {q:Nat} {x:Operand} (ho:o.op=.call { callee:=.builtin .clear,args:=#[x],argTypes:=#[T] }) (hT:P.underlying T=some (.map kt et))
  (hx:σ.ev x=some (.sl q)) (hq:look q σ.M=some (.opq (mapQ enc l))) (hd:dstOk C.N o.dst=true):WO P C o σ ((σ.upd q (.opq (mapQ enc []))).set o.dst (.tu [])):=by
 intro G a w ok N Q' hN
 obtain ⟨e1,e2,es,clock,e3,e4⟩:=map_at_ ok hx hq
 have hlt:G.b q<w.heap.size:=(Array.getElem?_eq_some_iff.1 e3).1
 have ok':Ok C (σ.upd q (.opq (mapQ enc []))) G a { w with heap:=w.heap.setIfInBounds (G.b q) (.map #[] clock) } :=
  ok.writeG hq e2 ⟨rfl,rfl,rfl,by simp,fun x _ hx=>Array.getElem?_setIfInBounds_ne (fun e=>hx e.symm)⟩ ⟨(ok.ob q _ hq).2.2.1,e2,#[],clock,(MapKept.heap_set e3).1,rfl⟩ trivial
 unfold Oper.wp execOp
 have hargs:(#[x]:Array Operand).map a.eval=#[.map (some (G.b q))]:=by simp [e1]
 simp only [ho,resolve,invoke,builtin,Sem.run_bind,Sem.run_pure,Result.andThen_ok,hargs]
 have hcl:(Builtin.clear_ #[T] o.type #[.map (some (G.b q))]).run P w=.ok (.tuple #[]) { w with heap:=w.heap.setIfInBounds (G.b q) (.map #[] clock) }:=by
  simp [Builtin.clear_,run_underlying hT,MapKept.run_getObj_map e3,MapKept.run_setObj_map _ e3]
 simp only [hcl,Result.andThen_ok,Sem.run_bind,Sem.run_pure,Oper.upon]
 exact hN G _ _ (ok'.set (av:=.tu []) (.tu _ _ rfl fun i av u h=>by simp at h) (.tu _ fun i x h=>by simp at h) (dstOk_of hd))
theorem WL.mcl {α:Type} {enc:α→Value} {T kt et:TypeId} {l:List (α×Value)} {q:Nat} {x:Operand} {t:List (Nat×AV)} {M M':List (Nat×AO)} {nk:Nat} (hg:o.guard=none) (ho:o.op=.call { callee:=.builtin .clear,args:=#[x],argTypes:=#[T] }) (hT:P.underlying T=some (.map kt et))
  (hx:(⟨t,M,nk⟩:St).ev x=some (.sl q)) (hq:look q M=some (.opq (mapQ enc l))) (hd:dstOk C.N o.dst=true) (hM:remS q M=some M') (r:WL P C ops rest ((⟨t,(q,.opq (mapQ enc []))::M',nk⟩:St).set o.dst (.tu [])) Q):WL P C ops (o::rest) ⟨t,M,nk⟩ Q:=by
 rw [remS_eq hM] at r
 refine WL.op hg ?_ r
 intro G a w ok N Q' hN
 refine WO.mcl (σ:=⟨t,M,nk⟩) (enc:=enc) ho hT hx hq hd G a w ok N Q' fun G' a' w' ok'=>hN G' a' w' ?_
 have hl:∀ i,look i ((q,AO.opq (mapQ enc []))::rem q M)=look i ((q,AO.opq (mapQ enc []))::M):=fun i=>by
  by_cases e:i=q
  ·subst e;rw [look_set_same,look_set_same]
  ·rw [look_set_other e,look_set_other e,look_rem,if_neg e]
 cases hdst:o.dst with
 | none =>
  rw [hdst] at ok'
  exact ⟨ok'.sz,ok'.df,ok'.tm,ok'.bel,ok'.fw,ok'.f0,ok'.f1,fun i x hx=>ok'.ob i x ((hl i).symm.trans hx),fun i x y hx=>ok'.my i x y ((hl i).symm.trans hx),fun i x i' x' y hx hx'=>ok'.dj i x i' x' y ((hl i).symm.trans hx) ((hl i').symm.trans hx'),fun i x y p u hx=>ok'.dF i x y p u ((hl i).symm.trans hx)⟩
 | some d =>
  rw [hdst] at ok'
  exact ⟨ok'.sz,ok'.df,ok'.tm,ok'.bel,ok'.fw,ok'.f0,ok'.f1,fun i x hx=>ok'.ob i x ((hl i).symm.trans hx),fun i x y hx=>ok'.my i x y ((hl i).symm.trans hx),fun i x i' x' y hx hx'=>ok'.dj i x i' x' y ((hl i).symm.trans hx) ((hl i').symm.trans hx'),fun i x y p u hx=>ok'.dF i x y p u ((hl i).symm.trans hx)⟩
end
end
section
open Go.RowKit
section
variable {P:Program} {C:Cx} {σ:St} {o:Oper} {d:Tmp} {ops:Array Oper} {rest:List Oper} {Q:Exit→St→Prop} {mem:List Bool} {Mc:List (Nat×AO)} {nk0 k:Nat}
theorem W.dmT2 {id:Nat} {L:List Oper} (k0:Nat)(mem:List Bool)(ms:List Nat)(hm:P.follows .mixedOrders=true)(hB:Region.lexB .any L.toArray=true)(hT:tailB L.toArray k0=true)(hB2:Region.lexB .any (L.take k0).toArray=true)
  (hch:chainB (L.take k0).toArray mem=true)(hMc:msSub (onlyM σ.M ms) σ.M)
  (h:DMK P C (L.take k0).toArray mem (onlyM σ.M ms) σ.nk 0 (L.take k0) σ (fun e s=>e=.normal∧WL P C L.toArray (L.drop k0) s Q)):W P C (.region id L.toArray true) σ Q :=
 W.drawT k0 hm hB hT (let⟨_,a,b⟩:=h;WA.drawM mem (onlyM σ.M ms) hB2 hch hMc a b)
theorem DMK.al {T:TypeId} {z:Value} {l:List AV} (hd:wrB mem C.N k o=some d) (ho:o.op=.alloc T) (hz:(P.info? T).bind (·.zero)=some z) (hl:z.cells.toList.map .sc=l) (hs:msSub Mc ((σ.nk,.box T l)::σ.M))
  (r:DMK P C ops mem Mc nk0 (k+1) rest ⟨(d,.pt σ.nk 0 0)::σ.t,(σ.nk,.box T l)::σ.M,σ.nk+1⟩ Q):DMK P C ops mem Mc nk0 k (o::rest) σ Q:=by
 obtain ⟨a,b,c,e⟩:=wrB_of hd
 exact DMK.wr a b (Nat.ble_eq_true_of_le (Nat.le_succ _)) hs ⟨c,fun t _=>WO.alloc (σ:=⟨t,σ.M,σ.nk⟩) ho hz b e hl rfl⟩ r
theorem Tr.nilR {t:Tmp} (n:Nat) (h:look t σ.t=some (.sc (.slice none 0 0))):Tr C σ (σ.put t (.ls n [])):=fun G a w ok =>
 ⟨G,ok.reslot h (.ls _ _) fun v hv=>by rw [hv.sc_eq];exact .pu _ _ (.ls n [] none 0 ⟨0,0,none⟩ (fun _ _=>undef) (by simp) (by simp) (by simp) (by simp) (by simp))⟩
def truB:World→View→Prop:=fun _ _=>True
theorem truS:Stab truB 0:=⟨fun _ _ _=>Nat.zero_le _,fun _ _ _ _ _ _ _=>trivial⟩
theorem truH(C:Cx):Holds truB 0 C:=⟨fun _ _ _ _=>trivial,fun _ _=>Nat.zero_le _⟩
end
end
section
open Go.RowKit
section
variable {P:Program} {C:Cx} {σ σ':St} {G G':Gh} {a:Act} {w w':World} {o:Oper} {d:Tmp} {ops:Array Oper} {rest:List Oper} {Q:Exit→St→Prop}
theorem flatten_take {α:Type} {n:Nat}:∀ (l:List (List α))(j:Nat),(∀ r∈l,r.length=n)→(l.take j).flatten=l.flatten.take (j*n)
 | [],j,_=>by simp
 | x::r,0,_=>by simp
 | x::r,j+1,h=>by
  have hx:=h x (by simp)
  have e1:x.take (j*n+n)=x:=List.take_of_length_le (by rw [hx];exact Nat.le_add_left _ _)
  rw [List.take_succ_cons,List.flatten_cons,List.flatten_cons,flatten_take r j fun y hy=>h y (by simp [hy]),Nat.succ_mul,List.take_append,hx,e1,Nat.add_sub_cancel]
theorem RowIs.pre {T n:Nat} {rows:List (List AV)} {A:Option Addr} {len cap:Nat} {φ:Nat→Prop} {X:Nat→Nat→(Nat→Prop)→AV→Value→Prop} (h:RowIs w T n rows (.slice A len cap) φ X) {j:Nat} (hj:j≤rows.length):RowIs w T n (rows.take j) (.slice A j cap) φ X:=by
 obtain ⟨hrl,vs,Φ,h4,h5,h7,hgf,hΦ,hΦd,h8,h6⟩:=h
 have hvl:∀ r∈vs,r.length=n:=by
  intro r' hr'
  obtain ⟨q,hq,rfl⟩:=List.getElem_of_mem hr'
  have:=h8 q rows[q] vs[q] (List.getElem?_eq_getElem (by omega)) (List.getElem?_eq_getElem hq)
  rw [this];exact hrl _ (List.getElem_mem _)
 have tk:∀ {α:Type} {l:List α} {i:Nat} {x:α},(l.take j)[i]?=some x→l[i]?=some x:=fun {α l i x} h=>by
  rw [List.getElem?_take] at h
  split at h
  ·exact h
  ·cases h
 have eo:(Value.slice A j cap).ownBlock=(Value.slice A len cap).ownBlock:=by cases A<;>rfl
 refine ⟨fun r hr=>hrl r (List.mem_of_mem_take hr),vs.take j,Φ,⟨?_,?_⟩,by simp [h5],fun r hr=>h7 r (List.mem_of_mem_take hr),by rw [eo];exact hgf,by rw [eo];exact hΦ,hΦd,fun i r r' a b=>h8 i r r' (tk a) (tk b),fun i r r' s av u a b=>h6 i r r' s av u (tk a) (tk b)⟩
 ·rw [flatten_len fun r hr=>hvl r (List.mem_of_mem_take hr)]
 ·have hl:(vs.take j).length=j:=by simp;omega
  rw [hl,flatten_take vs j hvl]
  rcases h4.2 with⟨e1,e2⟩|⟨g,cap',cur,e1,hb,hh,hnc,hcm,hcs,ht⟩
  ·cases e1
   refine .inl ⟨?_,by omega⟩
   rw [show j=0 by omega]
  ·cases e1
   refine .inr ⟨g,cap,cur,rfl,hb,hh,by omega,hcm,hcs,?_⟩
   rw [← ht,List.take_take]
   congr 1
   have:=Nat.mul_le_mul_right n (show j≤vs.length by omega)
   omega
theorem Tr.mv {t:Tmp} {q:Nat} {T':TypeId} {n:Nat} {rows:List (List AV)} (ht:look t σ.t=some (.sl q)) (hk:look q σ.M=some (.row T' n rows)):Tr C σ (((σ.drop q).new (.row T' n rows)).put t (.sl σ.nk)):=fun G a w ok=>by
 obtain ⟨hn',hg,hR⟩:=(ok.ob q _ hk).2.2
 have ok':=(ok.drop_ q).newObj (S:=fun _=>False) (w':=w) (b:=G.b q) (n:=n) (h:=G.h q) (φ:=G.fp q) (ob:=.row T' n rows)
  (Kept.refl _ w) (fun _ h=>h.elim) (fun _ _ _ _ _ h=>h) (fun _ _ _ h=>h)
  ⟨with_n,(fun g hgg=>by rw [with_h] at hgg;rw [with_b];exact hg g hgg),by rw [with_h,with_f];exact hR⟩ trivial (fun x hx=>⟨(ok.my q _ x hk hx).1,(ok.my q _ x hk hx).2,fun i oi hi h2=>(drop_look hi).1 (ok.dj i oi q _ x (drop_look hi).2 hk h2 hx),fun p u=>ok.dF q _ x p u hk hx⟩)
 refine ⟨_,ok'.reslot (av:=.sl q) ht (.sl _ (Nat.lt_succ_self _)) fun v hv=>?_⟩
 have hlt:q<σ.nk:=(ok.ob q _ hk).1
 have hv2:v=G.h q:=hv.sl_of.1.trans (if_neg (show ¬ q=σ.nk by omega))
 have h3:v.oneCell'=true:=hv.sl_of.2
 rw [hv2] at h3 ⊢
 exact with_sl h3
def opT:Op→Option TypeId
 | .slice T _ _ _ _=>some T
 | _=>none
def preV (P:Program)(σ:St):Op→Option (Nat×TypeId×Nat×List (List AV)×Int)
 | .slice T x none (some y) none =>
  match P.underlying T,σ.ev x,σ.ev y with
  | some (.slice e),some (.sl k),some (.sc (.int _ j)) =>
   match sizeB P e,look k σ.M with
   | some m,some (.row T' n rows)=>bif Nat.beq m n then some (k,T',n,rows,j) else none
   | _,_=>none
  | _,_,_=>none
 | _=>none
theorem WO.pre {q:Nat} {T':TypeId} {n:Nat} {rows:List (List AV)} {j:Int} (hd:dstB C.N o=some d) (h:preV P σ o.op=some (q,T',n,rows,j)) (hj:0≤j∧j≤rows.length):WO P C o σ (((σ.drop q).new (.row T' n (rows.take j.toNat))).put d (.sl σ.nk)):=by
 intro G a w ok N Q' hN
 obtain ⟨_,hds,hdb⟩:=dstB_of hd
 unfold preV at h
 split at h
 ·rename_i T x y ho
  split at h
  ·rename_i e k kj j' hT hx hy
   split at h
   ·rename_i m T2 n' rows' hm hk
    cases hb:Nat.beq m n' with
    | false=>rw [hb] at h;cases h
    | true =>
     rw [hb] at h
     cases h
     obtain rfl:=Nat.eq_of_beq_eq_true hb
     obtain ⟨hn',hg,hR⟩:=(ok.ob q _ hk).2.2
     obtain ⟨A,c,hv⟩:=hR.len
     have ex:a.eval x=.slice A rows.length c:=(ok.evr hx).2.sl_of.1.trans hv
     have hcap:rows.length≤c:=by
      obtain ⟨_,vs,Φ,h4,h5,_⟩:=hR
      rcases h4.2 with ⟨e1,e2⟩|⟨g,cap,cur,e1,_,_,hnc,_⟩
      ·omega
      ·rw [hv] at e1;injection e1 with a1 a2 a3;omega
     rw [hv] at hg hR
     have hR':=hR.pre (j:=j.toNat) z26o
     have hrun:=run_sliceS (P:=P) hT hm A rows.length c none (some (a.eval y)) 0 j w (.inr ⟨rfl,rfl⟩) (.inl ⟨kj,by rw [ok.evs hy]⟩) ⟨Int.le_refl 0,hj.1,hj.2⟩ hcap
     have hA:(if c=(0:Int).toNat then A else A.map (·.add ((0:Int).toNat*m)))=A:=by
      simp only [Int.toNat_zero,Nat.zero_mul,add_zero']
      split
      ·rfl
      ·cases A<;>rfl
     rw [hA] at hrun
     simp only [Int.toNat_zero,Nat.sub_zero] at hrun
     have ok':=(ok.drop_ q).newObj (S:=fun _=>False) (w':=w) (b:=G.b q) (n:=m) (h:=.slice A j.toNat c) (φ:=G.fp q) (ob:=.row T' m (rows.take j.toNat))
      (Kept.refl _ w) (fun _ h=>h.elim) (fun _ _ _ _ _ h=>h) (fun _ _ _ h=>h)
      ⟨with_n,(fun g hgg=>by
       rw [with_h] at hgg;rw [with_b]
       refine hg g ?_
       rw [show (Value.slice A rows.length c).ownBlock=(Value.slice A j.toNat c).ownBlock by cases A<;>rfl,hgg]),by rw [with_h,with_f];exact hR'⟩ trivial (fun x hx=>⟨(ok.my q _ x hk hx).1,(ok.my q _ x hk hx).2,fun i oi hi h2=>(drop_look hi).1 (ok.dj i oi q _ x (drop_look hi).2 hk h2 hx),fun p u=>ok.dF q _ x p u hk hx⟩)
     unfold Oper.wp execOp
     have hsa:(Instr.sliceAt T (.slice A rows.length c) none (some (a.eval y)) none).run P w=.ok (.slice A j.toNat c) w:=by
      unfold Instr.sliceAt
      rw [Sem.run_bind,run_underlying hT w];exact hrun
     simp only [ho,ex,Option.map_none,Option.map_some,Sem.run_bind,hsa,Sem.run_pure,Result.andThen_ok,Oper.upon]
     rw [hds]
     exact hN _ _ _ (ok'.set (d:=some d) (av:=.sl σ.nk) (with_sl rfl) (.sl _ (Nat.lt_succ_self _)) fun x hx=>by cases hx;exact of_blt hdb)
   ·cases h
  ·cases h
 ·cases h
theorem WL.pre {q:Nat} {T':TypeId} {n:Nat} {rows:List (List AV)} {j:Int} {t:List (Nat×AV)} {M M':List (Nat×AO)} {nk:Nat} (hd:dstB C.N o=some d) (h:preV P ⟨t,M,nk⟩ o.op=some (q,T',n,rows,j)) (hM:remS q M=some M') (hj:0≤j∧j≤rows.length)
  (k:WL P C ops rest ⟨(d,.sl nk)::t,(nk,.row T' n (rows.take j.toNat))::M',nk+1⟩ Q):WL P C ops (o::rest) ⟨t,M,nk⟩ Q:=by
 rw [remS_eq hM] at k
 exact WL.op (dstB_of hd).1 (WO.pre hd h hj) k
theorem Ok.putNo (h:Ok C σ G a w) {d:Tmp} (hd:look d σ.t=none)(v:Value):Ok C σ G (a.put (some d) v) w:=by
 refine⟨?_,h.df,?_,h.bel,h.fw,h.f0,h.f1,h.ob,h.my,h.dj,h.dF⟩
 ·show (a.tmps.setIfInBounds d v).size=C.N
  rw [Array.size_setIfInBounds];exact h.sz
 ·intro i x hx
  show i<C.N∧Bd σ.nk x∧R G x ((a.tmps.setIfInBounds d v).getD i undef)
  have hne:d≠i:=fun e=>by subst e;rw [hd] at hx;cases hx
  have e:(a.tmps.setIfInBounds d v).getD i undef=a.tmps.getD i undef:=by
   simp only [Array.getD_eq_getD_getElem?,Array.getElem?_setIfInBounds_ne hne]
  rw [e];exact h.tm i x hx
theorem zeroCells_one(z:Value)(n:Nat):(Builtin.zeroCells #[z] n).toList=List.replicate n z:=by
 apply List.ext_getElem?
 intro i
 by_cases h:i<n
 ·simp [Builtin.zeroCells,h,Nat.mod_one]
 ·simp [Builtin.zeroCells,h]
theorem RowIs.clr {T:Nat} {rows:List (List AV)} {F:View} {g cap:Nat} {φ:Nat→Prop} {z:Value} (hz:z.oneCell'=true) (h:RowIs w T 1 rows (.slice (some ⟨g,0,none⟩) rows.length cap) φ (XP F)) {i:Nat} (hi:i<rows.length) :
  ∃ cur,w.heap[g]?=some (.cells cur T (0,0))∧rows.length≤cur.size∧φ g ∧
   RowIs (w.setRow g (cur.toList.take i++List.replicate (rows.length-i) z++cur.toList.drop (i+(rows.length-i))).toArray) T 1 (rows.take i++List.replicate (rows.length-i) [.sc z]) (.slice (some ⟨g,0,none⟩) rows.length cap) φ (XP F):=by
 obtain ⟨hrl,vs,Φ,h4,h5,h7,hgf,hΦ,hΦd,h8,h6⟩:=h
 have hvl:∀ r∈vs,r.length=1:=by
  intro r' hr'
  obtain ⟨q,hq,rfl⟩:=List.getElem_of_mem hr'
  have:=h8 q rows[q] vs[q] (List.getElem?_eq_getElem (by omega)) (List.getElem?_eq_getElem hq)
  rw [this];exact hrl _ (List.getElem_mem _)
 rcases h4.2 with⟨e1,e2⟩|⟨g',cap',cur,e1,hb,hh,hnc,hcm,hcs,ht⟩
 ·cases e1
 ·injection e1 with a1 a2 a3
  injection a1 with a1
  injection a1 with a1
  subst a1 a3
  rw [Nat.mul_one] at hcs ht
  refine ⟨cur,hh,by omega,hgf g rfl,?_⟩
  have hfl:(vs.take i++List.replicate (rows.length-i) [z]).flatten=cur.toList.take i++List.replicate (rows.length-i) z:=by
   rw [List.flatten_append,flatten_take vs i hvl,Nat.mul_one,← ht,List.take_take,show min i vs.length=i by omega]
   congr 1
   have:∀ n:Nat,(List.replicate n [z]).flatten=List.replicate n z:=fun n=>by
    induction n with
    | zero=>rfl
    | succ n ih=>rw [List.replicate_succ,List.flatten_cons,ih,List.replicate_succ];rfl
   exact this _
  have hlen:(vs.take i++List.replicate (rows.length-i) [z]).length=rows.length:=by simp;omega
  have hlr:(rows.take i++List.replicate (rows.length-i) [AV.sc z]).length=rows.length:=by simp;omega
  have part:∀ {α:Type} {l:List α} {m:Nat} {y x:α} {q:Nat},i≤l.length→(l.take i++List.replicate m y)[q]?=some x→(q<i∧l[q]?=some x)∨(i≤q∧x=y):=fun {α l m y x q} hl hq=>by
   by_cases e:q<i
   ·rw [List.getElem?_append_left (by simp;omega),List.getElem?_take_of_lt e] at hq
    exact .inl ⟨e,hq⟩
   ·rw [List.getElem?_append_right (by simp;omega)] at hq
    exact .inr ⟨by omega,List.eq_of_mem_replicate (List.mem_of_getElem? hq)⟩
  refine ⟨fun r hr=>?_,vs.take i++List.replicate (rows.length-i) [z],fun q s x=>q<i∧Φ q s x,⟨?_,.inr ⟨g,cap,_,?_,hb,setRow_heap w _ _ _ _ _ hh,by omega,hcm,?_,?_⟩⟩,by rw [hlen,hlr],fun r hr u hu=>?_,hgf,fun q s x hx=>hΦ q s x hx.2,fun q s q' s' x h1 h2=>hΦd q s q' s' x h1.2 h2.2,fun q r r' a b=>?_,fun q r r' s av u a b c e=>?_⟩
  ·rcases List.mem_append.1 hr with hr|hr
   ·exact hrl r (List.mem_of_mem_take hr)
   ·rw [List.eq_of_mem_replicate hr];rfl
  ·rw [flatten_len (size:=1) fun r hr=>?_]
   rcases List.mem_append.1 hr with hr|hr
   ·exact hvl r (List.mem_of_mem_take hr)
   ·rw [List.eq_of_mem_replicate hr];rfl
  ·rw [hlen]
  ·simp;omega
  ·rw [hlen,Nat.mul_one,hfl]
   have hl2:(cur.toList.take i++List.replicate (rows.length-i) z).length=rows.length:=by simp;omega
   simp only []
   rw [List.take_append,hl2,List.take_of_length_le (by omega),Nat.sub_self,List.take_zero,List.append_nil]
  ·rcases List.mem_append.1 hr with hr|hr
   ·exact h7 r (List.mem_of_mem_take hr) u hu
   ·rw [List.eq_of_mem_replicate hr,List.mem_singleton] at hu;subst hu;exact hz
  ·rcases part z26o a with⟨a1,a2⟩|⟨a1,a2⟩
   ·rcases part z26o b with⟨b1,b2⟩|⟨b1,b2⟩
    ·exact h8 q r r' a2 b2
    ·omega
   ·rcases part z26o b with⟨b1,b2⟩|⟨b1,b2⟩
    ·omega
    ·subst a2 b2;rfl
  ·rcases part z26o a with⟨a1,a2⟩|⟨a1,a2⟩
   ·rcases part z26o b with⟨b1,b2⟩|⟨b1,b2⟩
    ·exact h6 q r r' s av u a2 b2 c e
    ·omega
   ·rcases part z26o b with⟨b1,b2⟩|⟨b1,b2⟩
    ·omega
    ·subst a2 b2
     cases s with
     | zero=>cases c;cases e;exact .sc _
     | succ s=>simp at c
def endV (P:Program)(σ:St):Op→Option (Nat×TypeId×List (List AV)×Int×Value)
 | .slice T x (some y) none none =>
  match P.underlying T,σ.ev x,σ.ev y with
  | some (.slice e),some (.sl k),some (.sc (.int _ j)) =>
   match sizeB P e,look k σ.M,(P.info? e).bind (·.zero) with
   | some 1,some (.row T' 1 rows),some z=>bif z.oneCell' then some (k,T',rows,j,z) else none
   | _,_,_=>none
  | _,_,_=>none
 | _=>none
theorem wo_rem_ok {σ:St} {k:Nat} {ob:AO} (ok':Ok C (σ.upd k ob) G a w):Ok C ⟨σ.t,(k,ob)::rem k σ.M,σ.nk⟩ G a w:=by
 have hl:∀ i,look i ((k,ob)::rem k σ.M)=look i ((k,ob)::σ.M):=fun i=>by
  by_cases e:i=k
  ·subst e;rw [look_set_same,look_set_same]
  ·rw [look_set_other e,look_set_other e,look_rem,if_neg e]
 exact ⟨ok'.sz,ok'.df,ok'.tm,ok'.bel,ok'.fw,ok'.f0,ok'.f1,fun i x hx=>ok'.ob i x ((hl i).symm.trans hx),fun i x y hx=>ok'.my i x y ((hl i).symm.trans hx),fun i x i' x' y hx hx'=>ok'.dj i x i' x' y ((hl i).symm.trans hx) ((hl i').symm.trans hx'),fun i x y p u hx=>ok'.dF i x y p u ((hl i).symm.trans hx)⟩
theorem WL.clr {o1 o2:Oper} {d:Tmp} {T:TypeId} {q:Nat} {T':TypeId} {rows:List (List AV)} {j:Int} {z:Value} {t:List (Nat×AV)} {M M':List (Nat×AO)} {nk:Nat} (hd:dstB C.N o1=some d) (h:endV P ⟨t,M,nk⟩ o1.op=some (q,T',rows,j,z)) (ho1:opT o1.op=some T) (hl:look d t=none)
  (hg2:o2.guard=none) (hd2:o2.dst=none) (ho2:o2.op=.call { callee:=.builtin .clear,args:=#[.tmp d],argTypes:=#[T] }) (hM:remS q M=some M') (hj:0≤j∧j≤rows.length)
  (k:WL P C ops rest ⟨t,(q,.row T' 1 (rows.take j.toNat++List.replicate (rows.length - j.toNat) [.sc z]))::M',nk⟩ Q):WL P C ops (o1::o2::rest) ⟨t,M,nk⟩ Q:=by
 rw [remS_eq hM] at k
 obtain ⟨hg1,hds,hdb⟩:=dstB_of hd
 intro G a w ok
 refine wpList_plain hg1 fun K hK=>?_
 unfold endV at h
 split at h
 ·rename_i T0 x y ho
  rw [ho] at ho1
  obtain rfl:T0=T:=Option.some.inj ho1
  split at h
  ·rename_i e k0 kj j' hT hx hy
   split at h
   ·rename_i T2 rows' z' hm hk hz
    cases hb:z'.oneCell' with
    | false=>rw [hb] at h;cases h
    | true =>
     rw [hb] at h
     cases h
     obtain ⟨hn',hg,hR⟩:=(ok.ob q _ hk).2.2
     obtain ⟨A,c,hv⟩:=hR.len
     have ex:a.eval x=.slice A rows.length c:=(ok.evr hx).2.sl_of.1.trans hv
     have hcap:rows.length≤c:=by
      obtain ⟨_,vs,Φ,h4,h5,_⟩:=hR
      rcases h4.2 with ⟨e1,e2⟩|⟨g,cap,cur,e1,_,_,hnc,_⟩
      ·omega
      ·rw [hv] at e1;injection e1 with a1 a2 a3;omega
     have hrun:=run_sliceS (P:=P) hT hm A rows.length c (some (a.eval y)) none j rows.length w (.inl ⟨kj,by rw [ok.evs hy]⟩) (.inr ⟨rfl,rfl⟩) ⟨hj.1,hj.2,Int.le_refl _⟩ hcap
     rw [Int.toNat_natCast,Nat.mul_one] at hrun
     have hsa:(Instr.sliceAt T0 (.slice A rows.length c) (some (a.eval y)) none none).run P w=.ok (.slice (if c=j.toNat then A else A.map (·.add j.toNat)) (rows.length - j.toNat) (c - j.toNat)) w:=by
      unfold Instr.sliceAt
      rw [Sem.run_bind,run_underlying hT w];exact hrun
     unfold Oper.wp execOp
     simp only [ho,ex,Option.map_none,Option.map_some,Sem.run_bind,hsa,Sem.run_pure,Result.andThen_ok,Oper.upon]
     rw [hds]
     refine hK _ _ ?_
     obtain ⟨v1,hv1⟩:∃ v1,(Value.slice (if c=j.toNat then A else A.map (·.add j.toNat)) (rows.length - j.toNat) (c - j.toNat))=v1:=⟨_,rfl⟩
     rw [hv1]
     have ok1:=ok.putNo (d:=d) hl v1
     have hev:(a.put (some d) v1).eval (.tmp d)=v1:=by
      show (a.tmps.setIfInBounds d v1).getD d undef=v1
      have hlt:d < a.tmps.size:=by rw [ok.sz];exact of_blt hdb
      simp [Array.getD_eq_getD_getElem?,hlt]
     refine wpList_plain hg2 fun K2 hK2=>?_
     have fin:∀ (w2:World) G2,Ok C ⟨t,(q,.row T' 1 (rows.take j.toNat++List.replicate (rows.length - j.toNat) [.sc z]))::rem q M,nk⟩ G2 (a.put (some d) v1) w2→(Builtin.clear_ #[T0] o2.type #[v1]).run P w=.ok (.tuple #[]) w2→o2.wp P (a.put (some d) v1) w K2 (Post C Q):=fun w2 G2 ok2 hr=>by
      unfold Oper.wp execOp
      have hargs:(#[Operand.tmp d]:Array Operand).map (a.put (some d) v1).eval=#[v1]:=by simp [hev]
      simp only [ho2,resolve,invoke,builtin,Sem.run_bind,Sem.run_pure,Result.andThen_ok,hargs,hr,Oper.upon]
      rw [hd2]
      exact hK2 _ _ (k G2 _ w2 ok2)
     by_cases hlt:j.toNat < rows.length
     ·obtain ⟨g,hgA⟩:∃ g,A=some ⟨g,0,none⟩:=by
       obtain ⟨_,vs,Φ,h4,h5,_⟩:=hR
       rcases h4.2 with ⟨e1,e2⟩|⟨g,cap,cur,e1,_⟩
       ·omega
       ·rw [hv] at e1;injection e1 with a1 a2 a3;exact ⟨g,a1⟩
      subst hgA
      rw [hv] at hR hg
      obtain ⟨cur,hh,hcs,hφ,hR2⟩:=hR.clr hb hlt
      have hgb:g=G.b q:=hg g rfl
      rw [if_neg (by omega)] at hv1
      have hadd:(Option.map (fun x:Addr=>x.add j.toNat) (some ⟨g,0,none⟩))=some (⟨g,j.toNat,none⟩:Addr):=by
       simp only [Option.map_some,add_flat,Nat.zero_add]
      rw [hadd] at hv1
      have hst:=run_storeCells_at P g j.toNat T' (List.replicate (rows.length - j.toNat) z) 0 cur w hh (by simp;omega) (fun v hv=>by rw [List.eq_of_mem_replicate hv];exact hb)
      rw [Nat.add_zero,List.length_replicate] at hst
      have hzz:∃ i,P.info? e=some i∧i.zero=some z:=by
       cases hi:P.info? e with
       | none=>simp [hi] at hz
       | some i=>exact ⟨i,rfl,by simpa [hi] using hz⟩
      obtain ⟨i0,hi0,hz0⟩:=hzz
      have hzc:z.cells=#[z]:=by cases z<;>first|rfl|cases hb
      obtain ⟨cs,hcs2⟩:∃ cs,(cur.toList.take j.toNat++List.replicate (rows.length - j.toNat) z++cur.toList.drop (j.toNat+(rows.length - j.toNat))).toArray=cs:=⟨_,rfl⟩
      rw [hcs2] at hst hR2
      refine fin (w.setRow g cs) G (wo_rem_ok (ok1.writeG (σ:=⟨t,M,nk⟩) (ob':=.row T' 1 (rows.take j.toNat++List.replicate (rows.length - j.toNat) [.sc z])) hk (by exact hφ) (kept_setRow w g cs) ⟨hn',?_,?_⟩ trivial)) ?_
      ·rw [hv];exact hg
      ·rw [hv];exact hR2
      ·subst hv1
       obtain ⟨m,hm0⟩:∃ m,rows.length - j.toNat=m+1:=⟨rows.length - j.toNat - 1,by omega⟩
       rw [hm0] at hst ⊢
       simp [Builtin.clear_,run_underlying hT,zeroValue,typeInfo,hi0,hz0,hzc,zeroCells_one,hst]
     ·have e0:rows.length - j.toNat=0:=by omega
      have et:rows.take j.toNat++List.replicate (rows.length - j.toNat) [AV.sc z]=rows:=by rw [e0,List.take_of_length_le (by omega)];simp
      refine fin w G ?_ ?_
      ·rw [et]
       exact wo_rem_ok (σ:=⟨t,M,nk⟩) (k:=q) (ob:=.row T' 1 rows) (ok1.reob hk ⟨(ok.ob q _ hk).1,trivial,hn',hg,hR⟩)
      ·rw [← hv1,e0]
       split<;>(cases A<;>simp [Builtin.clear_,run_underlying hT])
   ·cases h
  ·cases h
 ·cases h
end
end
section
open Go.RowKit
section
variable {B:World→View→Prop} {gl:Nat} {P:Program} {C:Cx} {σ:St} {o:Oper} {d:Tmp} {ops:Array Oper} {rest:List Oper} {Q:Exit→St→Prop} {mem:List Bool} {Mc:List (Nat×AO)} {nk0 k:Nat}
theorem trM_same {σ σ':St} (h:σ'.M=σ.M) {ρ:Nat→Nat} {nk:Nat}:∀ {M:List (Nat×AO)},TrM σ ρ nk M→TrM σ' ρ nk M
 | [],_=>trivial
 | x::r,⟨h1,h2⟩=>⟨by rw [h];exact h1,trM_same h h2⟩
theorem DMK.ct (hB:Holds B gl C) {f:FuncId} {args args':List AV} {res res':AV} {M M' M2:List (Nat×AO)} {nk nk' n2:Nat} (ks:List Nat) (hd:wrB mem C.N k o=some d) (he:calE σ o.op=some (f,args')) (hc:∀ vs w,(callFunc f vs).run P w=.ok (.enter f vs) w)
  (h:Cto B gl P f args M nk res M' nk') (hks:ksB ks nk σ.nk=true) (ha:args.map (AV.ren (rhoC ks nk σ.nk))=args') (hp:args.all (AV.inn nk)=true) (hM:TrM σ (rhoC ks nk σ.nk) nk M)
  (hq:(Nat.ble nk nk' && M'.all (fun x=>x.2.inn nk') && M'.all (fun x=>Nat.blt x.1 nk') && res.inn nk')=true) (hr:res.ren (rhoC ks nk σ.nk)=res') (hM2:renM (rhoC ks nk σ.nk) M'++remL ks σ.M=M2) (hn2:σ.nk+(nk'-nk)=n2) (hs:msSub Mc M2)
  (r:DMK P C ops mem Mc nk0 (k+1) rest ⟨(d,res')::σ.t,M2,n2⟩ Q):DMK P C ops mem Mc nk0 k (o::rest) σ Q:=by
 subst hM2 hn2
 obtain ⟨a,b,c,e⟩:=wrB_of hd
 simp only [Bool.and_eq_true] at hq
 unfold calE at he
 split at he
 ·rename_i y xs ts ho
  split at he
  ·rename_i fv args0 hy hx
   split at he
   ·rename_i f' caps hf
    cases he
    refine DMK.wr a b (Nat.ble_eq_true_of_le (Nat.le_add_right _ _)) hs ⟨c,fun t H=>?_⟩ r
    have hmem:∀ q∈y::xs,q∈o.op.operands.toList:=fun q hq=>by rw [ho];simp [Op.operands,Call.operands] at hq ⊢;exact hq
    have:=WO.cto (P:=P) (C:=C) (σ:=⟨t,σ.M,σ.nk⟩) (xs:=⟨xs⟩) hB ks ho hc ((ev_agree H (hmem y (by simp))).trans hy) hf ((evs_agree H fun q hq=>hmem q (List.mem_cons_of_mem _ hq)).trans hx) rfl h hks ha hp (trM_same (σ:=σ) (σ':=⟨t,σ.M,σ.nk⟩) (ρ:=rhoC ks nk σ.nk) rfl hM) hq.1.1.1 hq.1.1.2 hq.1.2 hq.2 hr (by rw [b];exact e)
    rw [b] at this
    exact this
   ·cases he
  ·cases he
 ·cases he
theorem W.dm3 {id:Nat} {l:List Oper} (mem:List Bool)(ms:List Nat)(hm:P.follows .mixedOrders=true)(hB:Region.lexB .any l.toArray=true)(hch:chainB l.toArray mem=true)(hMc:msSub (onlyM σ.M ms) σ.M)
  (h:DMK P C l.toArray mem (onlyM σ.M ms) σ.nk 0 l σ Q):W P C (.region id l.toArray true) σ Q:=W.drawMK mem (onlyM σ.M ms) hm hB hch hMc h
theorem DK.bt {φ:Prop} [i:Decidable φ] (hc:isCmp o.op=true)(h:stepD P C.N ops σ o=some (d,.sc (.bool (decide φ))))(hφ:φ)(k:DK P C ops rest (σ.put d (.sc (.bool true))) Q):DK P C ops (o::rest) σ Q:=by
 rw [decide_eq_true hφ] at h
 exact DK.st h k
theorem DK.bf {φ:Prop} [i:Decidable φ] (hc:isCmp o.op=true)(h:stepD P C.N ops σ o=some (d,.sc (.bool (decide φ))))(hφ:¬ φ)(k:DK P C ops rest (σ.put d (.sc (.bool false))) Q):DK P C ops (o::rest) σ Q:=by
 rw [decide_eq_false hφ] at h
 exact DK.st h k
end
end
section
open Go.RowKit
abbrev Sf:=Int×Int×Int×Int
abbrev Ln:=Int×Int
def lookA (k:Ln):List (Ln×Int)→Int
 | []=>0
 | x::r=>if k=x.1 then x.2 else lookA k r
def updA (k:Ln)(v:Int):List (Ln×Int)→List (Ln×Int)
 | []=>[(k,v)]
 | x::r=>if k=x.1 then (k,v)::r else x::updA k v r
theorem lookA_upd (k q:Ln)(v:Int):∀ l,lookA q (updA k v l)=if q=k then v else lookA q l
 | []=>by simp [updA,lookA]
 | x::r=>by
  unfold updA
  by_cases h:k=x.1
  ·rw [if_pos h]
   unfold lookA
   by_cases hq:q=k
   ·simp [hq]
   ·rw [if_neg hq,if_neg hq,if_neg (fun e=>hq (e.trans h.symm))]
  ·rw [if_neg h]
   unfold lookA
   by_cases hq:q=x.1
   ·rw [if_pos hq,if_pos hq,if_neg (fun e=>h (e.symm.trans hq))]
   ·rw [if_neg hq,if_neg hq,lookA_upd k q v r]
def valA (l:List (Ln×Int)):List (Ln×Value):=l.map fun x=>(x.1,.int .i64 x.2)
def encLn(k:Ln):Value:=.agg #[.int .i64 k.1,.int .i64 k.2]
theorem locK_valA (k:Ln):∀ (l:List (Ln×Int)) (i:Nat),((locK k i (valA l)).map (·.2)).getD (.int .i64 0)=.int .i64 (lookA k l)
 | [],i=>rfl
 | x::r,i=>by
  show ((if k=x.1 then some (i,Value.int .i64 x.2)else locK k (i+1) (valA r)).map (·.2)).getD _=_
  unfold lookA
  by_cases h:k=x.1
  ·rw [if_pos h,if_pos h];rfl
  ·rw [if_neg h,if_neg h];exact locK_valA k r (i+1)
theorem lookK_valA (k:Ln)(l:List (Ln×Int)):lookK (.int .i64 0) k (valA l)=.int .i64 (lookA k l):=locK_valA k l 0
theorem updK_valA (k:Ln) (v:Int):∀ l:List (Ln×Int),updK k (.int .i64 v) (valA l)=valA (updA k v l)
 | []=>rfl
 | x::r=>by
  show (if k=x.1 then (k,Value.int .i64 v)::valA r else (x.1,Value.int .i64 x.2)::updK k (.int .i64 v) (valA r))=valA (if k=x.1 then (k,v)::r else x::updA k v r)
  by_cases h:k=x.1
  ·rw [if_pos h,if_pos h];rfl
  ·rw [if_neg h,if_neg h,updK_valA k v r];rfl
def sigB(key:Int)(b:UInt8):Int :=
 if 0≤Lib.indexByte [3,0,4,1] b∧Lib.indexByte [3,0,4,1] b<key then 1 else if 0≤Lib.indexByte [6,2,5,1] b∧Lib.indexByte [6,2,5,1] b<0-key then -1 else 0
def byteOf(l:Int):UInt8:=(l % 256).toNat.toUInt8
def frcA (key:Int)(alt:List (Ln×Int))(k:Ln):Int:=if 0<lookA k alt then lookA k alt-2 else sigB key (byteOf k.1)
def accN(al:Int):Int:=if al=1 then 1 else if al=-1 then 2 else 3
def AltOk (alt:List (Ln×Int)):Prop:=∀ k,0≤lookA k alt∧lookA k alt≤3
theorem AltOk.nil:AltOk []:=fun k=>⟨Int.le_refl 0,by show(0:Int)≤3;decide⟩
theorem AltOk.upd {alt:List (Ln×Int)} (h:AltOk alt)(k:Ln) {v:Int} (hv:0≤v∧v≤3):AltOk (updA k v alt):=fun q=>by
 rw [lookA_upd]
 split
 ·exact hv
 ·exact h q
end
section
open Go.RowKit
def lendB (M:List (Nat×AO)):AV→AV
 | .sl k=>match look k M with
  | some (.row _ n rows)=>.ls n rows
  | _=>.sl k
 | av=>av
section
variable {B:World→View→Prop} {gl:Nat} {P:Program} {C:Cx} {ops:Array Oper} {rest:List Oper} {σ σ':St} {G G':Gh} {a:Act} {w w':World} {o:Oper} {d:Tmp} {Q:Exit→St→Prop}
theorem lend_rp (ok:Ok C σ G a w) {av:AV} {v:Value} (h:R G av v) (hp:(lendB σ.M av).pu2=true):RP (fun q=>w.cell? q) (lendB σ.M av) v:=by
 have hF:G.F.le fun q=>w.cell? q:=fun p u x=>ok.fw p u x
 have std:lendB σ.M av=av→RP (fun q=>w.cell? q) (lendB σ.M av) v:=fun e=>by
  rw [e] at hp ⊢
  exact RP.mono hF ((pu2_bd hp 0).rp h)
 cases av with
 | sl k =>
  cases hk:look k σ.M with
  | none=>exact std (by simp only [lendB,hk])
  | some ob =>
   cases ob with
   | row T n rows =>
    have e:lendB σ.M (.sl k)=.ls n rows:=by simp only [lendB,hk]
    rw [e,h.sl_of.1]
    obtain ⟨_,_,hob⟩:=ok.ob k _ hk
    have:=RowIs.fix (F':=fun q=>w.cell? q) id hob.2.2 (fun _ _=>rfl) fun i r j av u ψ _ _ _ x=>RP.mono hF x
    simpa using this
   | _=>exact std (by simp only [lendB,hk])
 | _=>exact std rfl
theorem truST:∀ w F F',View.le F F'→truB w F→truB w F':=fun _ _ _ _ h=>h
def sixV (P:Program) (σ:St):Op→Option (List UInt8×Int)
 | .index T x y =>
  match P.underlying T,σ.ev x,σ.ev y with
  | some .string,some (.sc (.string ⟨⟨s⟩⟩)),some (.sc (.int _ i))=>some (s,i)
  | _,_,_=>none
 | _=>none
theorem run_six {T:TypeId} {s:List UInt8} {k:IntKind} {i:Int} (hT:P.underlying T=some .string) (h0:0≤i) (h1:i<s.length) :
  (Instr.index T (.string (bs s)) (.int k i)).run P w=.ok (.int .u8 ((s.getD i.toNat 0).toNat:Int)) w:=by
 have hl:i.toNat<s.length:=by omega
 have e:(bs s)[i.toNat]?=some (s.getD i.toNat 0):=by
  rw [List.getD_eq_getElem?_getD,List.getElem?_eq_getElem hl]
  have hs:i.toNat<(bs s).size:=by rw [bs_size];exact hl
  rw [getElem?_pos (bs s) i.toNat hs]
  rfl
 simp [Instr.index,asIntOf,run_underlying hT,h0,e]
theorem sixV_of {s:List UInt8} {i:Int} (h:sixV P σ o.op=some (s,i)) (hb:0≤i∧i<s.length):WV P C o σ (.sc (.int .u8 ((s.getD i.toNat 0).toNat:Int))):=by
 unfold sixV at h
 split at h
 ·rename_i T x y ho
  split at h
  ·rename_i s' k i' hT hx hy
   cases h
   refine WV.sc fun G a w ok=>?_
   unfold execOp
   simp only [ho,ok.evs hx,ok.evs hy,Sem.run_bind]
   have h6:(Instr.index T (.string ⟨⟨s⟩⟩) (.int k i)).run P w=.ok (.int .u8 ((s.getD i.toNat 0).toNat:Int)) w:=run_six hT hb.1 hb.2
   rw [h6];rfl
  ·cases h
 ·cases h
theorem WL.six {s:List UInt8} {i:Int} (hd:dstB C.N o=some d)(h:sixV P σ o.op=some (s,i))(hb:0≤i∧i<s.length)(k:WL P C ops rest (σ.put d (.sc (.int .u8 ((s.getD i.toNat 0).toNat:Int)))) Q):WL P C ops (o::rest) σ Q :=
 WL.vl hd (sixV_of h hb) k
end
end
section
open Go.RowKit
section
variable {α:Type} (cm:α→α→Int)(en:α→Int)
structure CmOk:Prop where
 lg:∀ a b,cm a b<0↔0<cm b a
 tr:∀ a b c,cm a b≤0→cm b c≤0→cm a c≤0
 ts:∀ a b c,cm a b≤0→cm b c≤0→cm a c=0→cm a b=0∧cm b c=0
def leB (a b:α):Bool:=decide (cm a b<0∨(cm a b=0∧en a≤en b))
def srt (l:List α):List α:=l.mergeSort (leB cm en)
variable {cm en}
theorem leB_tot(h:CmOk cm)(a b:α):(leB cm en a b|| leB cm en b a)=true:=by
 have h1:=h.lg a b;have h2:=h.lg b a
 unfold leB
 rw [Bool.or_eq_true,decide_eq_true_eq,decide_eq_true_eq]
 omega
theorem leB_tr (h:CmOk cm) (a b c:α) (h1:leB cm en a b=true) (h2:leB cm en b c=true):leB cm en a c=true:=by
 unfold leB at *
 rw [decide_eq_true_eq]at *
 have t:=h.tr a b c z26o z26o
 have s:=h.ts a b c z26o z26o
 by_cases e:cm a c=0
 ·have:=s e;omega
 ·omega
theorem srt_perm(l:List α):(srt cm en l).Perm l:=List.mergeSort_perm l _
theorem srt_pw (h:CmOk cm) (l:List α):(srt cm en l).Pairwise (fun a b=>leB cm en a b=true):=List.pairwise_mergeSort (leB_tr h) (leB_tot h) l
theorem srt_len(l:List α):(srt cm en l).length=l.length:=(srt_perm l).length_eq
def Dis (en:α→Int)(l:List α):Prop:=l.Pairwise (fun a b=>en a≠en b)
theorem Dis.perm {l m:List α} (h:Dis en l)(p:m.Perm l):Dis en m:=(p.pairwise_iff (fun {a b} h=>Ne.symm h)).2 h
theorem Dis.inj {l:List α} (h:Dis en l) {a b:α} (ha:a∈l) (hb:b∈l) (e:en a=en b):a=b:=by
 induction l with
 | nil=>cases ha
 | cons x r ih =>
  obtain ⟨h1,h2⟩:=List.pairwise_cons.1 h
  rcases List.mem_cons.1 ha with e1|ha<;>rcases List.mem_cons.1 hb with e2|hb
  ·exact e1.trans e2.symm
  ·exact absurd (by rw [← e,e1]) (h1 b hb)
  ·exact absurd (by rw [e,e2]) (h1 a ha)
  ·exact ih h2 ha hb
theorem srt_uniq (h:CmOk cm) {l m:List α} (hd:Dis en l) (hp:m.Perm l) (hs:m.Pairwise (fun a b=>leB cm en a b=true)):m=srt cm en l:=by
 refine List.Perm.eq_of_pairwise (le:=fun a b=>leB cm en a b=true) (fun a b ha hb h1 h2=>?_) hs (srt_pw h l) (hp.trans (srt_perm l).symm)
 have ha':=hp.mem_iff.1 ha
 have hb':=(srt_perm l).mem_iff.1 hb
 refine hd.inj ha' hb' ?_
 unfold leB at h1 h2
 rw [decide_eq_true_eq] at h1 h2
 have:=h.lg a b;have:=h.lg b a;omega
abbrev Srd (cm:α→α→Int)(en:α→Int)(l:List α):Prop:=l.Pairwise (fun a b=>leB cm en a b=true)
theorem srt_own (h:CmOk cm) {l:List α} (hd:Dis en l)(hs:Srd cm en l):srt cm en l=l:=(srt_uniq h hd (List.Perm.refl l) hs).symm
theorem le_of {a b:α} (h:CmOk cm)(he:en a<en b)(hn:¬ cm b a<0):leB cm en a b=true:=by
 unfold leB;rw [decide_eq_true_eq];have:=h.lg a b;have:=h.lg b a;omega
theorem le_lt {a b:α} (h:cm a b<0):leB cm en a b=true:=by
 unfold leB;rw [decide_eq_true_eq];omega
theorem Srd.last {l:List α} (hs:Srd cm en l)(h:CmOk cm) {n:Nat} (hn:n<l.length) {x:α} (hx:leB cm en l[n] x=true):∀ y∈l.take (n+1),leB cm en y x=true:=fun y hy=>by
 obtain⟨i,hi,rfl⟩:=List.getElem_of_mem hy
 rw [List.length_take] at hi
 rw [List.getElem_take]
 by_cases e:i=n
 ·subst e;exact hx
 ·exact leB_tr h _ _ _ ((List.pairwise_iff_getElem.1 hs) i n (by omega) hn (by omega)) hx
theorem Srd.first {l:List α} (hs:Srd cm en l) (h:CmOk cm) {n:Nat} (hn:n<l.length) {x:α} (hx:leB cm en x l[n]=true):∀ y∈l.drop n,leB cm en x y=true:=fun y hy=>by
 obtain ⟨i,hi,rfl⟩:=List.getElem_of_mem hy
 rw [List.length_drop] at hi
 rw [List.getElem_drop]
 by_cases e:i=0
 ·subst e;simpa using hx
 ·exact leB_tr h _ _ _ hx ((List.pairwise_iff_getElem.1 hs) n (n+i) hn (by omega) (by omega))
theorem ins_end (h:CmOk cm) {L R:List α} {x:α} (hs:Srd cm en (L++R)) (hL:∀ n (hn:n<L.length),n+1=L.length→leB cm en L[n] x=true) (hR:∀ y∈R,leB cm en x y=true):Srd cm en (L++x::R):=by
 obtain ⟨h1,h2,h3⟩:=List.pairwise_append.1 hs
 refine List.pairwise_append.2 ⟨h1,List.pairwise_cons.2 ⟨hR,h2⟩,fun a ha b hb=>?_⟩
 rcases List.mem_cons.1 hb with rfl|hb
 ·cases hl:L.length with
  | zero=>rw [List.length_eq_zero_iff.1 hl] at ha;cases ha
  | succ n =>
   have:=Srd.last h1 h (n:=n) z26o (hL n z26o z26o)
   rw [← hl,List.take_length] at this
   exact this a ha
 ·exact h3 a ha b hb
theorem ins_perm {L R:List α} {x:α}:(L++x::R).Perm (L++R++[x]):=by
 have:(x::R).Perm (R++[x]):=(List.perm_append_singleton x R).symm
 rw [List.append_assoc]
 exact List.Perm.append_left L this
theorem mrg_eq (h:CmOk cm) {S1 S2 T1 T2:List α} (hd:Dis en (S1++S2++(T1++T2))) (hx:∀ a∈S1++T1,∀ b∈S2++T2,leB cm en a b=true) :
  srt cm en (S1++T1)++srt cm en (S2++T2)=srt cm en (S1++S2++(T1++T2)):=by
 refine srt_uniq h hd ?_ ?_
 ·refine ((srt_perm _).append (srt_perm _)).trans ?_
  rw [List.append_assoc,List.append_assoc]
  refine List.Perm.append_left S1 ?_
  rw [← List.append_assoc,← List.append_assoc]
  exact List.Perm.append_right T2 List.perm_append_comm
 ·refine List.pairwise_append.2 ⟨srt_pw h _,srt_pw h _,fun a ha b hb=>hx a ((srt_perm _).mem_iff.1 ha) b ((srt_perm _).mem_iff.1 hb)⟩
theorem cut_ok (h:CmOk cm) {S T:List α} {s e:Nat} (hS:Srd cm en S) (hT:Srd cm en T) (he:∀ a∈S,∀ b∈T,en a<en b) (hs:s≤S.length) (hE:e≤T.length)
  (h1:∀ (_:0<s) (q:e<T.length),¬ cm T[e] (S[s-1]' z26o)<0) (h2:∀ (q:s<S.length) (_:0<e),cm (T[e-1]' z26o) S[s]<0) :
  ∀ a∈S.take s++T.take e,∀ b∈S.drop s++T.drop e,leB cm en a b=true:=by
 have pS:=hS
 rw [← List.take_append_drop s S] at pS
 have pT:=hT
 rw [← List.take_append_drop e T] at pT
 have qS:=(List.pairwise_append.1 pS).2.2
 have qT:=(List.pairwise_append.1 pT).2.2
 intro a ha b hb
 rcases List.mem_append.1 ha with ha|ha<;>rcases List.mem_append.1 hb with hb|hb
 ·exact qS a ha b hb
 ·-- S1 before T2
  have hs0:0<s:=by
   rcases Nat.eq_zero_or_pos s with e0|e0
   ·subst e0;simp at ha
   ·exact e0
  have hq:e<T.length:=by
   rcases Nat.lt_or_ge e T.length with q|q
   ·exact q
   ·rw [List.drop_eq_nil_of_le q] at hb;cases hb
  have hl:leB cm en (S[s-1]'(by omega)) T[e]=true:=le_of h (he _ (List.getElem_mem _) _ (List.getElem_mem _)) (h1 hs0 hq)
  have ha2:=Srd.last hS h (n:=s-1) (by omega) hl a (by rw [show s-1+1=s by omega];exact ha)
  exact Srd.first hT h hq ha2 b hb
 ·-- T1 before S2
  have he0:0<e:=by
   rcases Nat.eq_zero_or_pos e with e0|e0
   ·subst e0;simp at ha
   ·exact e0
  have hq:s<S.length:=by
   rcases Nat.lt_or_ge s S.length with q|q
   ·exact q
   ·rw [List.drop_eq_nil_of_le q] at hb;cases hb
  have hl:leB cm en (T[e-1]' z26o) S[s]=true:=le_lt (h2 hq he0)
  have ha2:=Srd.last hT h (n:=e-1) (by omega) hl a (by rw [show e-1+1=e by omega];exact ha)
  exact Srd.first hS h hq ha2 b hb
 ·exact qT a ha b hb
theorem mrg_cut (h:CmOk cm) {S T:List α} {s e:Nat} (hd:Dis en (S++T)) (hS:Srd cm en S) (hT:Srd cm en T) (he:∀ a∈S,∀ b∈T,en a<en b) (hs:s≤S.length) (hE:e≤T.length)
  (h1:∀ (_:0<s) (q:e<T.length),¬ cm T[e] (S[s-1]' z26o)<0) (h2:∀ (q:s<S.length) (_:0<e),cm (T[e-1]' z26o) S[s]<0) :
  srt cm en (S.take s++T.take e)++srt cm en (S.drop s++T.drop e)=srt cm en (S++T):=by
 have e1:=mrg_eq (S1:=S.take s) (S2:=S.drop s) (T1:=T.take e) (T2:=T.drop e) h (by rw [List.take_append_drop,List.take_append_drop];exact hd) (cut_ok h hS hT he hs hE h1 h2)
 rw [List.take_append_drop,List.take_append_drop] at e1
 exact e1
end
theorem sw_0 {α:Type} {U V:List α} {y x:α} {n:Nat} (h:n=U.length):(U++y::x::V)[n]?=some y:=by subst h;simp
theorem sw_1 {α:Type} {U V:List α} {y x:α} {n:Nat} (h:n=U.length+1):(U++y::x::V)[n]?=some x:=by subst h;simp
theorem sw_s {α:Type} {U V:List α} {y x:α} {n m:Nat} (h:n=U.length+1)(hm:m=U.length):((U++y::x::V).set n y).set m x=U++x::y::V:=by
 subst h hm
 rw [List.set_append_right _ _ (by omega),List.set_append_right _ _ (by omega)]
 simp
theorem sw_2 {α:Type} {U V:List α} {y x:α} {n m:Nat} (h:n=U.length+1)(hm:m=U.length):((U++y::x::V).set n y)[m]?=some y:=by
 subst h hm
 rw [List.getElem?_set_ne (by omega)];simp
end
section
open Go.Shelf Go.RowKit
def joinRen:Go.Shelf.Ren:=⟨fun|156=>114|165=>174|166=>58|169=>59|240=>125|241=>213|276=>184|277=>235|n=>n,fun|0=>0|3=>3|4=>4|9=>9|20=>20|31=>65|37=>57|70=>107|72=>109|75=>112|76=>113|127=>202|164=>266|5=>5|80=>115|n=>n,fun|n=>n⟩
theorem joinLays:Go.Proofs.Lays.n156 Tryz.prog joinRen:={
 mixed:=by kernel_rfl
 f156:=Tryz.func114.trans (congrArg some (by kernel_rfl))
 f165:=Tryz.func174.trans (congrArg some (by kernel_rfl))
 f166:=Tryz.func58.trans (congrArg some (by kernel_rfl))
 f169:=Tryz.func59.trans (congrArg some (by kernel_rfl))
 f240:=Tryz.func125.trans (congrArg some (by kernel_rfl))
 f241:=Tryz.func213.trans (congrArg some (by kernel_rfl))
 f276:=Tryz.func184.trans (congrArg some (by kernel_rfl))
 f277:=Tryz.func235.trans (congrArg some (by kernel_rfl))
 t0:=Tryz.underlying0
 a0:=Tryz.isAgg0
 z0:=Tryz.sizeOf0
 v0:=Tryz.zeroValue0
 t3:=Tryz.underlying3
 a3:=Tryz.isAgg3
 z3:=Tryz.sizeOf3
 v3:=Tryz.zeroValue3
 t4:=Tryz.underlying4
 a4:=Tryz.isAgg4
 z4:=Tryz.sizeOf4
 v4:=Tryz.zeroValue4
 t9:=Tryz.underlying9
 a9:=Tryz.isAgg9
 z9:=Tryz.sizeOf9
 v9:=Tryz.zeroValue9
 t20:=Tryz.underlying20
 a20:=Tryz.isAgg20
 z20:=Tryz.sizeOf20
 v20:=Tryz.zeroValue20
 t31:=Tryz.underlying65
 a31:=Tryz.isAgg65
 z31:=Tryz.sizeOf65
 v31:=Tryz.zeroValue65
 t37:=Tryz.underlying57
 a37:=Tryz.isAgg57
 z37:=Tryz.sizeOf57
 v37:=Tryz.zeroValue57
 t70:=Tryz.underlying107
 a70:=Tryz.isAgg107
 z70:=Tryz.sizeOf107
 v70:=Tryz.zeroValue107
 t72:=Tryz.underlying109
 a72:=Tryz.isAgg109
 z72:=Tryz.sizeOf109
 v72:=Tryz.zeroValue109
 t75:=Tryz.underlying112
 a75:=Tryz.isAgg112
 z75:=Tryz.sizeOf112
 v75:=Tryz.zeroValue112
 t76:=Tryz.underlying113
 a76:=Tryz.isAgg113
 z76:=Tryz.sizeOf113
 v76:=Tryz.zeroValue113
 t127:=Tryz.underlying202
 a127:=Tryz.isAgg202
 z127:=Tryz.sizeOf202
 v127:=Tryz.zeroValue202
 t164:=Tryz.underlying266
 a164:=Tryz.isAgg266
 z164:=Tryz.sizeOf266
 v164:=Tryz.zeroValue266 }
theorem joinExtra:Builder.Extra Tryz.prog joinRen:={
 sizeBuilder:=by kernel_rfl
 liesBuilder:=by kernel_rfl
 t5:=Tryz.underlying5
 a5:=Tryz.isAgg5
 z5:=Tryz.sizeOf5
 v5:=Tryz.zeroValue5
 infoByte:=by kernel_rfl
 cellsByte:=by kernel_rfl
 sizeByte:=by kernel_rfl
 neB5:=by decide }
theorem strings_Join_none (a:Option Addr) (c:Nat) (sep:ByteArray) (w:World) :
  Calls Tryz.prog 114 #[.slice a 0 c,.string sep] w fun e w'=>e=.returned (.string ⟨#[]⟩)∧w'=w:=Any.strings_Join_none joinLays joinExtra a c sep w
theorem strings_Join (bk o c:Nat) (xs:List ByteArray) (sep:ByteArray) (w:World) (hcells:∀ (j:Nat) x,xs[j]?=some x→w.cell? ⟨bk,o+j,none⟩=some (.string x)) (hbk:bk<w.heap.size) (hN:xs.length≤140737488355328) (hcap:xs.length≤c) (hlen:(Lib.join (xs.map (·.data.toList)) sep.data.toList).length≤140737488355328) :
  Calls Tryz.prog 114 #[.slice (some ⟨bk,o,none⟩) xs.length c,.string sep] w fun e w'=>e=.returned (.string ⟨(Lib.join (xs.map (·.data.toList)) sep.data.toList).toArray⟩)∧Below w.heap.size w w':=Any.strings_Join joinLays joinExtra bk o c xs sep w hcells hbk hN hcap hlen
end
end Go.Proofs.YtgelfflighgajaaGreatDoor
