/- A walk that knows values as trees: what a function hands back, any number of results. -/
import Derived.Test.YtockempedekkkaaGreatDoorEVJq
set_option linter.unusedVariables false
set_option linter.unusedSimpArgs false
namespace Go.Proofs.YtockempedekkkaaGreatDoor
section
open Go.RowKit
theorem rd_of_rp {α:Type} {F:View} {w:World} {n:Nat} {l:List α} {e:α→List AV} {f:α→List Value} {v:Value} (hF:∀ p u,F p=some u→w.cell? p=some u) (h0:0<n) (hf:∀ x,(f x).length=n) (hef:∀ x (j:Nat) u,(f x)[j]?=some u→(e x)[j]?=some (.sc u))
  (r:RP F (.ls n (l.map e)) v):∃ A c,v=.slice A l.length c∧Rd w w.heap.size n A (l.map f)∧l.length≤c:=by
 obtain ⟨A,cap,ad,u,rfl,h1,h2,h3,h4,h5⟩:=r.ls_of
 have hcell:∀ (k:Nat) x,l[k]?=some x→∀ (j:Nat) y,(f x)[j]?=some y→w.cell? (ad.add (k*n+j))=some y:=fun k x hk j y hy=>by
  have a1:(l.map e)[k]?=some (e x):=by rw [List.getElem?_map,hk];rfl
  have:=h3 k _ j _ a1 (hef x j y hy)
  rw [hF _ _ this.1,(h4 k _ j _ a1 (hef x j y hy)).sc_eq]
 refine ⟨A,cap,by rw [List.length_map],fun hp=>⟨ad,h2 (by simpa using hp),?_,fun k r hr j y hy=>?_⟩,by simpa using h5⟩
 ·have hp:0<l.length:=by simpa using hp
  have hx:0<(f (l[0]'hp)).length:=by rw [hf];exact h0
  have:=cell_block (hcell 0 (l[0]'hp) (List.getElem?_eq_getElem hp) 0 _ (List.getElem?_eq_getElem hx))
  rwa [block_of_add] at this
 ·rw [List.getElem?_map] at hr
  cases hk:l[k]? with
  | none=>simp [hk] at hr
  | some x =>
   rw [hk] at hr
   obtain rfl:f x=r:=by simpa using hr
   exact hcell k x hk j y hy
theorem stps_of_rp {F:View} {w:World} {l:List Stp} {v:Value} (hF:∀ p u,F p=some u→w.cell? p=some u) (r:RP F (eStps l) v):∃ A c,v=.slice A l.length c∧StpsAt w w.heap.size A l∧l.length≤c :=
 rd_of_rp (n:=5) (f:=stpCells) hF zqo (fun _=>rfl) (fun x j u h=>by
  match j with
  | 0=>cases h;rfl
  | 1=>cases h;rfl
  | 2=>cases h;rfl
  | 3=>cases h;rfl
  | 4=>cases h;rfl
  | j+5=>simp [stpCells] at h) r
theorem evs_of_rp {F:View} {w:World} {l:List Ev} {v:Value} (hF:∀ p u,F p=some u→w.cell? p=some u) (r:RP F (.ls 6 (l.map eEv)) v):∃ A c,v=.slice A l.length c∧EvsAt w w.heap.size A l∧l.length≤c:=by
 obtain ⟨A,cap,ad,u,rfl,h1,h2,h3,h4,h5⟩:=r.ls_of
 obtain ⟨ms,hml,hmq⟩:=list_ofT (fun k (m:Option Addr×Nat)=>∀ x,l[k]?=some x→u k 5=.slice m.1 x.stops.length m.2∧StpsAt w w.heap.size m.1 x.stops) l.length fun k hk=>by
  have a1:(l.map eEv)[k]?=some (eEv l[k]):=by simp [hk]
  obtain ⟨A',c',e,hs,_⟩:=stps_of_rp hF (h4 k _ 5 _ a1 rfl)
  refine ⟨(A',c'),fun x hx=>?_⟩
  rw [List.getElem?_eq_getElem hk] at hx
  cases hx
  exact ⟨e,hs⟩
 have hcell:∀ (k:Nat) x m,l[k]?=some x→ms[k]?=some m→∀ (j:Nat) y,(evCells x m)[j]?=some y→w.cell? (ad.add (k*6+j))=some y:=fun k x m hk hm j y hy=>by
  have a1:(l.map eEv)[k]?=some (eEv x):=by rw [List.getElem?_map,hk];rfl
  have hj:j < 6:=(List.getElem?_eq_some_iff.1 hy).1
  have get:∀ av,(eEv x)[j]?=some av→w.cell? (ad.add (k*6+j))=some (u k j):=fun av hav=>hF _ _ (h3 k _ j _ a1 hav).1
  match j,hj with
  | 0,_=>cases hy;rw [get _ rfl,(h4 k _ 0 _ a1 rfl).sc_eq]
  | 1,_=>cases hy;rw [get _ rfl,(h4 k _ 1 _ a1 rfl).sc_eq]
  | 2,_=>cases hy;rw [get _ rfl,(h4 k _ 2 _ a1 rfl).sc_eq]
  | 3,_=>cases hy;rw [get _ rfl,(h4 k _ 3 _ a1 rfl).sc_eq]
  | 4,_=>cases hy;rw [get _ rfl,(h4 k _ 4 _ a1 rfl).sc_eq]
  | 5,_=>cases hy;rw [get _ rfl,(hmq k m hm x hk).1]
 refine ⟨A,cap,by rw [List.length_map],⟨ms,hml,fun hp=>⟨ad,h2 ?_,?_,fun k r hr j y hy=>?_⟩,fun k e m he hm=>(hmq k m hm e he).2⟩,by simpa using h5⟩
 ·simp [hml] at hp ⊢;omega
 ·have hp:0 < l.length:=by simp [hml] at hp;omega
  have:=cell_block (hcell 0 (l[0]'hp) (ms[0]'(by omega)) (List.getElem?_eq_getElem hp) (List.getElem?_eq_getElem (by omega)) 0 _ rfl)
  rwa [block_of_add] at this
 ·rw [List.getElem?_zipWith] at hr
  cases hk:l[k]? with
  | none=>simp [hk] at hr
  | some x =>
   cases hm:ms[k]? with
   | none=>simp [hk,hm] at hr
   | some m =>
    simp [hk,hm] at hr
    subst hr
    exact hcell k x m hk hm j y hy
theorem ins_of_rp {F:View} {w:World} {cs:List (Int×Int×Bool)} {st:List Int} {v1 v2:Value} (hF:∀ p u,F p=some u→w.cell? p=some u) (r1:RP F (.ls 3 (cs.map eCrs)) v1) (r2:RP F (.ls 1 (st.map eInt)) v2) :
  ∃ A1 c1 A2 c2,v1=.slice A1 cs.length c1∧v2=.slice A2 st.length c2∧InsAt w w.heap.size A1 A2 cs st:=by
 obtain ⟨A1,c1,e1,h1,_⟩:=rd_of_rp (n:=3) (f:=crsCells) hF zqo (fun _=>rfl) (fun x j u h=>by
  match j with
  | 0=>cases h;rfl
  | 1=>cases h;rfl
  | 2=>cases h;rfl
  | j+3=>simp [crsCells] at h) r1
 obtain ⟨A2,c2,e2,h2,_⟩:=rd_of_rp (n:=1) (f:=intCell) hF zqo (fun _=>rfl) (fun x j u h=>by
  match j with
  | 0=>cases h;rfl
  | j+1=>simp [intCell] at h) r2
 exact ⟨A1,c1,A2,c2,e1,e2,h1,h2⟩
theorem pc_of_rp {F:View} {w:World} {p:Pce} {v:Value} (hF:∀ p u,F p=some u→w.cell? p=some u) (r:RP F (ePce p) v):∃ M,v=pcValue M p∧PcAt w w.heap.size M p:=by
 obtain ⟨cs,rfl,h1,h2⟩:∃ cs:Array Value,v=.agg cs∧cs.size=3∧∀ (i:Nat) av u,[AV.ls 3 (p.cs.map eCrs),.ls 1 (p.st.map eInt),.ls 6 (p.evs.map eEv)][i]?=some av→cs[i]?=some u→RP F av u:=by
  cases r with|ag l cs a b=>exact ⟨cs,rfl,a,b⟩
 have g:∀ i (h:i<3),cs[i]?=some (cs[i]'(by omega)):=fun i h=>Array.getElem?_eq_getElem (by omega)
 obtain ⟨A1,c1,A2,c2,e1,e2,hI⟩:=ins_of_rp hF (h2 0 _ _ rfl (g 0 zqo)) (h2 1 _ _ rfl (g 1 zqo))
 obtain ⟨A3,c3,e3,hE,hc⟩:=evs_of_rp hF (h2 2 _ _ rfl (g 2 zqo))
 refine ⟨⟨A1,A2,A3,c1,c2,c3⟩,?_,hI,hE,hc⟩
 unfold pcValue
 congr 1
 apply Array.ext (by simp [h1])
 intro i hi hi2
 match i,(show i<3 by omega) with
 | 0,_=>exact e1
 | 1,_=>exact e2
 | 2,_=>exact e3
theorem Ctr.of_sc {P:Program} {f:FuncId} {args:List AV} {xs:List Value} {res:AV} {v:Value} (hs:scs args=some xs)(hv:∀ F,RP F res v)(h:∀ w,Calls P f xs.toArray w (Ret v w)):Ctr P f args res:=by
 intro w F vs hF hR
 have:vs=xs:=scs_of (G:=⟨F,fun _=>0,fun _=>0,fun _=>undef,fun _ _=>False⟩) hs hR.1 fun i av u a b=>.pu _ _ (hR.2 i av u a b)
 subst this
 exact (h w).mono fun e w'⟨he,hb⟩=>⟨v,F,he,hb,fun _ _ h=>h,fun p u x=>by rw [hb.cell (cell_block (hF p u x))];exact hF p u x,fun _ _ h=>.inl h,hv F⟩
theorem Ctr.of_pc {P:Program} {f:FuncId} {p:Pce} {pre post:List AV} {xs ys:List Value} {res:AV} {v:Value} (hs:scs pre=some xs) (hs2:scs post=some ys) (hv:∀ F,RP F res v)
  (h:∀ w M,PcAt w w.heap.size M p→Calls P f (xs++pcValue M p::ys).toArray w (Ret v w)):Ctr P f (pre++ePce p::post) res:=by
 intro w F vs hF hR
 have hG:∀ i av u,(pre++ePce p::post)[i]?=some av→vs[i]?=some u→R ⟨F,fun _=>0,fun _=>0,fun _=>undef,fun _ _=>False⟩ av u:=fun i av u a b=>.pu _ _ (hR.2 i av u a b)
 have hlen:vs.length=pre.length+(post.length+1):=by rw [hR.1];simp
 have e1:vs.take pre.length=xs:=scs_of hs (by simp;omega) fun i av u a b=>by
  have hi:i<pre.length:=(List.getElem?_eq_some_iff.1 a).1
  rw [List.getElem?_take_of_lt hi] at b
  exact hG i av u (by rw [List.getElem?_append_left hi];exact a) b
 have e2:vs.drop (pre.length+1)=ys:=scs_of hs2 (by simp;omega) fun i av u a b=>by
  rw [List.getElem?_drop] at b
  exact hG (pre.length+1+i) av u (by rw [List.getElem?_append_right (by omega),show pre.length+1+i-pre.length=i+1 by omega];exact a) b
 have hp:vs[pre.length]?=some (vs[pre.length]'(by omega)):=List.getElem?_eq_getElem (by omega)
 obtain ⟨M,eM,hM⟩:=pc_of_rp hF (hR.2 pre.length _ _ (by rw [List.getElem?_append_right (Nat.le_refl _),Nat.sub_self];rfl) hp)
 have ev:vs=xs++pcValue M p::ys:=by
  rw [← e1,← e2,← eM]
  conv=>lhs;rw [← List.take_append_drop pre.length vs]
  congr 1
  rw [List.drop_eq_getElem_cons (by omega)]
 rw [ev]
 exact (h w M hM).mono fun e w' ⟨he,hb⟩=>⟨v,F,he,hb,fun _ _ h=>h,fun p u x=>by rw [hb.cell (cell_block (hF p u x))];exact hF p u x,fun _ _ h=>.inl h,hv F⟩
end
section
open Go.RowKit
section
variable {P:Program} {C:Cx} {ops:Array Oper} {o:Oper} {rest:List Oper} {σ:St} {Q:Exit→St→Prop} {d:Tmp} {mem:List Bool} {Mc:List (Nat×AO)} {nk0 k:Nat}
def memB (N:Nat) (ops:Array Oper) (mem:List Bool) (Mc:List (Nat×AO)) (k nk:Nat) (t:List (Nat×AV)) (o:Oper):Option (Tmp×Bool) :=
 match o.dst with
 | some d =>
  bif !(mem.getD k false) && Nat.blt d N && msInn nk Mc && tsInn nk (onlyT t (o.looksAt ops))then
   match guardK ops o ⟨onlyT t (o.looksAt ops),Mc,nk⟩with
   | some b=>some (d,b)
   | none=>none
  else none
 | none=>none
theorem memB_of {nk:Nat} {t:List (Nat×AV)} {b:Bool} (h:memB C.N ops mem Mc k nk t o=some (d,b)):mem.getD k false=false∧o.dst=some d∧Nat.blt d C.N=true∧msInn nk Mc=true∧tsInn nk (onlyT t (o.looksAt ops))=true∧guardK ops o ⟨onlyT t (o.looksAt ops),Mc,nk⟩=some b:=by
 unfold memB at h
 split at h
 ·rename_i x hds
  cases hb:!(mem.getD k false) && Nat.blt x C.N && msInn nk Mc && tsInn nk (onlyT t (o.looksAt ops))with
  | false=>rw [hb]at h;cases h
  | true =>
   rw [hb]at h
   simp only [cond_true]at h
   simp only [Bool.and_eq_true,Bool.not_eq_true']at hb
   split at h
   ·rename_i b' hg
    cases h
    exact ⟨hb.1.1.1,hds,hb.1.1.2,hb.1.2,hb.2,hg⟩
   ·cases h
 ·cases h
def wrB(mem:List Bool)(N k:Nat)(o:Oper):Option Tmp :=
 match o.dst,o.guard with
 | some d,none=>bif mem.getD k false && Nat.blt d N then some d else none
 | _,_=>none
theorem wrB_of {N:Nat} (h:wrB mem N k o=some d):mem.getD k false=true∧o.dst=some d∧o.guard=none∧Nat.blt d N=true:=by
 unfold wrB at h
 split at h
 ·rename_i x h1 h2
  cases hb:mem.getD k false && Nat.blt x N with
  | false=>rw [hb]at h;cases h
  | true =>
   rw [hb]at h
   cases h
   simp only [Bool.and_eq_true]at hb
   exact⟨hb.1,h1,h2,hb.2⟩
 ·cases h
end
def onlyM (M:List (Nat×AO)):List Nat→List (Nat×AO)
 | []=>[]
 | x::r =>
  match look x M with
  | some o=>(x,o)::onlyM M r
  | none=>onlyM M r
def memOf(l:List Oper):List Bool:=l.map fun o =>
 match o.op with
 | .buildSlice _ _ _=>true
 | .call { callee:=.builtin .append,.. }=>true
 | _=>false
structure StoD where
 k:Nat
 i:Nat
 j:Nat
 T:TypeId
 n:Nat
 rows:List (List AV)
 l:List AV
def stoV (P:Program) (σ:St):Op→Option StoD
 | .store T x y =>
  match σ.ev x,σ.ev y with
  | some (.pt k i j),some av =>
   match sizeB P T,look k σ.M with
   | some m,some (.row T' n rows)=>bif av.cellB && Nat.beq av.cells.length m && av.cells.all AV.oneB && av.cells.all AV.pu0 then some ⟨k,i,j,T',n,rows,av.cells⟩else none
   | _,_=>none
  | _,_=>none
 | _=>none
section
variable {P:Program} {C:Cx} {ops:Array Oper} {o:Oper} {rest:List Oper} {σ:St} {Q:Exit→St→Prop} {d:Tmp}
theorem WL.sto {x:StoD} {r:List AV} {t:List (Nat×AV)} {M M':List (Nat×AO)} {nk:Nat} (hg:o.guard=none) (hds:o.dst=none) (h:stoV P ⟨t,M,nk⟩ o.op=some x) (hM:remS x.k M=some M') (hr:x.rows[x.i]?=some r) (hj:x.j+x.l.length≤r.length)
  (k:WL P C ops rest ⟨t,(x.k,.row x.T x.n (x.rows.set x.i (putL x.j x.l r)))::M',nk⟩ Q):WL P C ops (o::rest) ⟨t,M,nk⟩ Q:=by
 rw [remS_eq hM] at k
 clear hM
 refine WL.op hg ?_ k
 unfold stoV at h
 split at h
 ·rename_i T x y ho
  split at h
  ·rename_i k i j av hx hy
   split at h
   ·rename_i m T' n rows hm hk
    cases hb:av.cellB && Nat.beq av.cells.length m && av.cells.all AV.oneB && av.cells.all AV.pu0 with
    | false=>rw [hb] at h;cases h
    | true =>
     rw [hb] at h
     simp only [Bool.and_eq_true] at hb
     cases h
     refine wo_rem (WO.store (σ:=⟨t,M,nk⟩) ho hds hm hx hk hy hb.1.1.1 rfl (Nat.eq_of_beq_eq_true hb.1.1.2) hb.1.2 ?_)
     simp only at hr hj
     simp only [AO.put,hr]
     rw [if_pos ⟨hj,hb.2⟩]
   ·cases h
  ·cases h
 ·cases h
def mmV (σ:St):Op→Option (IntKind×Int)
 | .call { callee:=.builtin .min,args:=⟨[x,y]⟩,.. } =>
  match σ.ev x,σ.ev y with
  | some (.sc (.int k m)),some (.sc (.int _ n))=>some (k,if n<m then n else m)
  | _,_=>none
 | .call { callee:=.builtin .max,args:=⟨[x,y]⟩,.. } =>
  match σ.ev x,σ.ev y with
  | some (.sc (.int k m)),some (.sc (.int _ n))=>some (k,if n > m then n else m)
  | _,_=>none
 | _=>none
def isCmp:Op→Bool
 | .binOp .lss _ _ _ _=>true
 | .binOp .leq _ _ _ _=>true
 | .binOp .gtr _ _ _ _=>true
 | .binOp .geq _ _ _ _=>true
 | .binOp .eql _ _ _ _=>true
 | _=>false
def isNeq:Op→Bool
 | .binOp .neq _ _ _ _=>true
 | _=>false
theorem WL.bt {φ:Prop} [i:Decidable φ] (hc:isCmp o.op=true)(hd:dstB C.N o=some d)(h:stepV P σ o.op=some (.sc (.bool (decide φ))))(hφ:φ)(k:WL P C ops rest (σ.put d (.sc (.bool true))) Q):WL P C ops (o::rest) σ Q:=by
 rw [decide_eq_true hφ] at h
 exact WL.vl hd (stepV_of rfl h) k
theorem WL.bf {φ:Prop} [i:Decidable φ] (hc:isCmp o.op=true)(hd:dstB C.N o=some d)(h:stepV P σ o.op=some (.sc (.bool (decide φ))))(hφ:¬ φ)(k:WL P C ops rest (σ.put d (.sc (.bool false))) Q):WL P C ops (o::rest) σ Q:=by
 rw [decide_eq_false hφ] at h
 exact WL.vl hd (stepV_of rfl h) k
theorem WL.nt {φ:Prop} [i:Decidable φ] (hc:isNeq o.op=true)(hd:dstB C.N o=some d)(h:stepV P σ o.op=some (.sc (.bool (!decide φ))))(hφ:¬ φ)(k:WL P C ops rest (σ.put d (.sc (.bool true))) Q):WL P C ops (o::rest) σ Q:=by
 rw [decide_eq_false hφ] at h
 exact WL.vl hd (stepV_of rfl h) k
theorem WL.nf {φ:Prop} [i:Decidable φ] (hc:isNeq o.op=true)(hd:dstB C.N o=some d)(h:stepV P σ o.op=some (.sc (.bool (!decide φ))))(hφ:φ)(k:WL P C ops rest (σ.put d (.sc (.bool false))) Q):WL P C ops (o::rest) σ Q:=by
 rw [decide_eq_true hφ] at h
 exact WL.vl hd (stepV_of rfl h) k
theorem WL.e1 {t t':List (Nat×AV)} {M M':List (Nat×AO)} {nk nk':Nat} (h:opE P C.N t M nk o=some (t',M',nk')) (k:WL P C ops rest ⟨t',M',nk'⟩ Q):WL P C ops (o::rest) ⟨t,M,nk⟩ Q :=
 WL.op (opE_of h).1 (opE_of h).2 k
def cutV (P:Program) (σ:St):Op→Option (List UInt8×Int×Int)
 | .slice T x (some y) (some z) none =>
  match P.underlying T,σ.ev x,σ.ev y,σ.ev z with
  | some .string,some (.sc (.string ⟨⟨s⟩⟩)),some (.sc (.int _ i)),some (.sc (.int _ j))=>some (s,i,j)
  | _,_,_,_=>none
 | .slice T x none (some z) none =>
  match P.underlying T,σ.ev x,σ.ev z with
  | some .string,some (.sc (.string ⟨⟨s⟩⟩)),some (.sc (.int _ j))=>some (s,0,j)
  | _,_,_=>none
 | .slice T x (some y) none none =>
  match P.underlying T,σ.ev x,σ.ev y with
  | some .string,some (.sc (.string ⟨⟨s⟩⟩)),some (.sc (.int _ i))=>some (s,i,s.length)
  | _,_,_=>none
 | _=>none
theorem cut_run {w:World} {T:TypeId} {s t:List UInt8} {lo hi:Option Value} (hT:P.underlying T=some .string)(h:(Instr.slice T (.string (bs s)) lo hi none).run P w=.ok (.string (bs t)) w) :
  ((Instr.sliceAt T (.string (bs s)) lo hi none).run P w).andThen (fun a w'=>Sem.run P (pure (Next.value a)) w')=.ok (.value (.string (bs t))) w:=by
 have:(Instr.sliceAt T (.string (bs s)) lo hi none).run P w=(Instr.slice T (.string (bs s)) lo hi none).run P w:=by
  unfold Instr.sliceAt
  rw [Sem.run_bind,run_underlying hT w];rfl
 rw [this,h];rfl
theorem cutV_of {s:List UInt8} {i j:Int} (h:cutV P σ o.op=some (s,i,j))(hb:0≤i∧i≤j∧j≤s.length):WV P C o σ (.sc (.string (bs (cut s i j)))):=by
 unfold cutV at h
 split at h
 ·rename_i T x y z ho
  split at h
  ·rename_i s' k i' k' j' hT hx hy hz
   cases h
   refine WV.sc fun G a w ok=>?_
   unfold execOp
   simp only [ho,Option.map_some,Option.map_none,ok.evs hx,ok.evs hy,ok.evs hz,Sem.run_bind]
   have:=run_cut (P:=P) w T s k k' i j hT hb.1 hb.2.1 hb.2.2
   exact cut_run hT this
  ·cases h
 ·rename_i T x z ho
  split at h
  ·rename_i s' k' j' hT hx hz
   cases h
   refine WV.sc fun G a w ok=>?_
   unfold execOp
   simp only [ho,Option.map_some,Option.map_none,ok.evs hx,ok.evs hz,Sem.run_bind]
   have:=run_cut_to (P:=P) w T s k' j hT zqo hb.2.2
   exact cut_run hT this
  ·cases h
 ·rename_i T x y ho
  split at h
  ·rename_i s' k i' hT hx hy
   cases h
   refine WV.sc fun G a w ok=>?_
   unfold execOp
   simp only [ho,Option.map_some,Option.map_none,ok.evs hx,ok.evs hy,Sem.run_bind]
   have:=run_cut_from (P:=P) w T s k i hT hb.1 hb.2.1
   have e:cut s i s.length=s.drop i.toNat:=by unfold cut;rw [List.take_of_length_le (by simp)]
   rw [e]
   exact cut_run hT this
  ·cases h
 ·cases h
theorem WL.cut {s:List UInt8} {i j:Int} (hd:dstB C.N o=some d)(h:cutV P σ o.op=some (s,i,j))(hb:0≤i∧i≤j∧j≤s.length)(k:WL P C ops rest (σ.put d (.sc (.string (bs (cut s i j))))) Q):WL P C ops (o::rest) σ Q :=
 WL.vl hd (cutV_of h hb) k
end
end
section
open Go.RowKit
def BldRet (T e b:Nat)(φ:Nat→Prop)(l:List UInt8)(v:Value)(w:World):Ending→World→Prop:=fun r w' =>
 r=.returned v∧Kept φ w w'∧BldIs w' T e b (fun x=>φ x∨(w.heap.size≤x∧x<w'.heap.size)) l
def BldW (P:Program) (f:FuncId) (T e:TypeId):Prop:=∀ (w:World) (b:Nat) (φ:Nat→Prop) (l s:List UInt8),φ b→BldIs w T e b φ l→l.length+s.length≤1000000000 →
 Calls P f #[.pointer (some ⟨b,0,none⟩),.string (bs s)] w (BldRet T e b φ (l++s) (.tuple #[.int .i64 s.length,.nilIface]) w)
def BldS (P:Program) (f:FuncId) (T e:TypeId):Prop:=∀ (w:World) (b:Nat) (φ:Nat→Prop) (l:List UInt8),φ b→BldIs w T e b φ l→l≠[] →
 Calls P f #[.pointer (some ⟨b,0,none⟩)] w (BldRet T e b φ l (.string (bs l)) w)
def dstOk(N:Nat):Option Tmp→Bool
 | some d=>Nat.blt d N
 | none=>true
section
variable {P:Program} {C:Cx} {σ σ':St} {G G':Gh} {a:Act} {w w':World} {o:Oper} {d:Tmp}
theorem dstOk_of {N:Nat} {d:Option Tmp} (h:dstOk N d=true):∀ x,d=some x→x<N:=fun x hx=>by subst hx;exact of_blt h
theorem Ok.bldCall (ok:Ok C σ G a w) {k:Nat} {T e:TypeId} {l l':List UInt8} (hk:look k σ.M=some (.bld T e l)) (hkept:Kept (G.fp k) w w')
  (hb:BldIs w' T e (G.b k) (fun x=>G.fp k x∨(w.heap.size≤x∧x<w'.heap.size)) l'):∃ G',Ok C (σ.upd k (.bld T e l')) G' a w':=by
 have hob:=ok.ob k _ hk
 have hle:∀ nk,G.le { G with fp:=fun i x=>if i=k then G.fp k x∨(w.heap.size≤x∧x<w'.heap.size) else G.fp i x } nk:=fun nk=>⟨fun _ _ h=>h,fun _ _=>rfl,fun _ _=>rfl,fun _ _=>rfl⟩
 have hfo:∀ i,i≠k→({ G with fp:=fun i x=>if i=k then G.fp k x∨(w.heap.size≤x∧x<w'.heap.size) else G.fp i x }:Gh).fp i=G.fp i:=fun i hi=>by funext x;exact if_neg hi
 have hl:∀ k' o,look k' (σ.upd k (.bld T e l')).M=some o→(k'=k∧o=.bld T e l')∨(k'≠k∧look k' σ.M=some o):=fun k' o hx=>by
  by_cases e:k'=k
  ·subst e
   rw [show look k' (σ.upd k' (.bld T _ l')).M=some _ from look_set_same] at hx
   cases hx
   exact .inl ⟨rfl,rfl⟩
  ·rw [show look k' (σ.upd k (.bld T _ l')).M=look k' σ.M from look_set_other e] at hx
   exact .inr ⟨e,hx⟩
 have fpx:∀ k' o x,look k' (σ.upd k (.bld T e l')).M=some o→(if k'=k then G.fp k x∨(w.heap.size≤x∧x<w'.heap.size) else G.fp k' x)→(∃ o',look k' σ.M=some o'∧G.fp k' x)∨(k'=k∧w.heap.size≤x∧x<w'.heap.size):=fun k' o x h1 h2=>by
  rcases hl k' o h1 with⟨rfl,_⟩|⟨e,y⟩
  ·rw [if_pos rfl] at h2
   rcases h2 with h2|h2
   ·exact .inl ⟨_,hk,h2⟩
   ·exact .inr ⟨rfl,h2⟩
  ·rw [if_neg e] at h2
   exact .inl ⟨o,y,h2⟩
 have hF:∀ p u,G.F p=some u→w'.heap[p.block]?=w.heap[p.block]?:=fun p u h=>hkept.block _ (cell_block (ok.fw p u h)) fun hx=>ok.dF k _ _ p u hk hx h rfl
 refine ⟨{ G with fp:=fun i x=>if i=k then G.fp k x∨(w.heap.size≤x∧x<w'.heap.size) else G.fp i x },ok.sz,ok.df,fun i av x=>⟨(ok.tm i av x).1,(ok.tm i av x).2.1,(ok.tm i av x).2.2.mono (hle σ.nk) (ok.tm i av x).2.1⟩,ok.bel.on hkept fun x hx=>(ok.my k _ x hk hx).1,
  fun p u h=>(World.cell?_of_block (hF p u h)).trans (ok.fw p u h),ok.f0,ok.f1,?_,?_,?_,?_⟩
 ·intro k' o x
  rcases hl k' o x with⟨rfl,rfl⟩|⟨e,y⟩
  ·refine ⟨hob.1,trivial,?_⟩
   refine ⟨?_,?_⟩
   ·show (if k'=k' then G.fp k' (G.b k')∨_ else G.fp k' (G.b k'))
    rw [if_pos rfl];exact .inl hob.2.2.1
   ·show BldIs w' T _ (G.b k') (fun x=>if k'=k' then G.fp k' x∨(w.heap.size≤x∧x<w'.heap.size) else G.fp k' x) l'
    rw [show (fun x=>if k'=k' then G.fp k' x∨(w.heap.size≤x∧x<w'.heap.size) else G.fp k' x)=(fun x=>G.fp k' x∨(w.heap.size≤x∧x<w'.heap.size)) from funext fun x=>if_pos rfl]
    exact hb
  ·obtain ⟨h1,h2,h3⟩:=ok.ob k' o y
   exact ⟨h1,h2,h3.keep (hle σ.nk) h1 h2 (hfo k' e) fun x hx=>hkept.block x (ok.my k' o x y hx).2 fun hx2=>e (ok.dj k' o k _ x y hk hx hx2)⟩
 ·intro k' o x h1 h2
  rcases fpx k' o x h1 h2 with⟨o',y,h3⟩|⟨_,h3,h4⟩
  ·exact ⟨(ok.my k' o' x y h3).1,Nat.lt_of_lt_of_le (ok.my k' o' x y h3).2 hkept.size⟩
  ·exact ⟨.inl (Nat.le_trans ok.bel.size h3),h4⟩
 ·intro k1 o1 k2 o2 x h1 h2 h3 h4
  rcases fpx k1 o1 x h1 h3 with⟨o1',y1,h5⟩|⟨e1,h5,_⟩
  ·rcases fpx k2 o2 x h2 h4 with⟨o2',y2,h6⟩|⟨e2,h6,_⟩
   ·exact ok.dj k1 o1' k2 o2' x y1 y2 h5 h6
   ·have:=(ok.my k1 o1' x y1 h5).2;omega
  ·rcases fpx k2 o2 x h2 h4 with⟨o2',y2,h6⟩|⟨e2,h6,_⟩
   ·have:=(ok.my k2 o2' x y2 h6).2;omega
   ·rw [e1,e2]
 ·intro k1 o1 x p u h1 h2 h3
  rcases fpx k1 o1 x h1 h2 with⟨o1',y1,h5⟩|⟨_,h5,_⟩
  ·exact ok.dF k1 o1' x p u y1 h5 h3
  ·have:=cell_block (ok.fw p u h3);omega
theorem Tr.bld (k:Nat) {T:TypeId} (e:TypeId) (hk:look k σ.M=some (.box T [.sc (.pointer none),.sc (.slice none 0 0)])):Tr C σ (σ.upd k (.bld T e [])):=fun G a w ok=>by
 obtain ⟨g1,g2,g3,cs,Φ,g4,g5,g6,g7,g8⟩:=ok.ob k _ hk
 have hs:cs.size=2:=g5
 have e0:cs[0]=.pointer none:=((g8 0 _ _ rfl (Array.getElem?_eq_getElem (by omega))).r rfl).sc_eq
 have e1:cs[1]=.slice none 0 0:=((g8 1 _ _ rfl (Array.getElem?_eq_getElem (by omega))).r rfl).sc_eq
 have ecs:cs=#[.pointer none,.slice none 0 0]:=by
  apply Array.ext (by simp [hs])
  intro i h1 h2
  match i,(show i<2 by omega)with
  | 0,_=>exact e0
  | 1,_=>exact e1
 subst ecs
 exact ⟨G,ok.reob hk ⟨g1,trivial,g3,.pointer none,.slice none 0 0,.inl rfl,g4,World.ownsRowF_nil _ _ _ _,fun g hg=>by cases hg⟩⟩
theorem WO.bldW {f:FuncId} {k:Nat} {x y:Operand} {ts:Array TypeId} {T e:TypeId} {l s l':List UInt8} (ho:o.op=.call { callee:=.value (.func f),args:=#[x,y],argTypes:=ts }) (hc:∀ vs w,(callFunc f vs).run P w=.ok (.enter f vs) w)
  (hx:σ.ev x=some (.pt k 0 0)) (hk:look k σ.M=some (.bld T e l)) (hy:σ.ev y=some (.sc (.string (bs s)))) (hd:dstOk C.N o.dst=true) (h:BldW P f T e) (hl:l.length+s.length≤1000000000) (hl':l++s=l') :
  WO P C o σ ((σ.upd k (.bld T e l')).set o.dst (.tu [.sc (.int .i64 s.length),.sc .nilIface])):=by
 intro G a w ok N Q' hN
 subst hl'
 obtain ⟨p,ep,p1,p2,p3⟩:=(ok.evr hx).2.pt_of
 obtain ⟨h1,h2⟩:=(ok.ob k _ hk).2.2
 obtain rfl:=addr_eq p1 p2 p3
 rw [Nat.zero_mul] at ep
 unfold Oper.wp execOp
 have ev:a.eval (.func f)=.func (.func f) #[] #[]:=rfl
 have e3:(#[]++(#[x,y]:Array Operand).map a.eval++#[]:Array Value)=#[.pointer (some ⟨G.b k,0,none⟩),.string (bs s)]:=by simp [ep,ok.evs hy]
 simp only [ho,resolve,ev,Deferred.ofValue,invoke,Sem.run_bind,Sem.run_pure,Result.andThen_ok,hc,Oper.upon,e3]
 refine (h w (G.b k) (G.fp k) l s h1 h2 hl).mono fun r w1 ⟨he,hkept,hb⟩=>?_
 subst he
 obtain ⟨G',ok'⟩:=ok.bldCall hk hkept hb
 exact hN _ _ _ (ok'.set (.tu _ _ rfl fun i av u p q=>by
  match i with
  | 0=>cases p;cases q;exact .pu _ _ (.sc _)
  | 1=>cases p;cases q;exact .pu _ _ (.sc _)
  | i+2=>simp at p) (.tu _ fun i x hx=>by
  match i with
  | 0=>cases hx;exact .sc _
  | 1=>cases hx;exact .sc _
  | i+2=>simp at hx) (dstOk_of hd))
theorem WO.bldS {f:FuncId} {k:Nat} {x:Operand} {ts:Array TypeId} {T e:TypeId} {l:List UInt8} (ho:o.op=.call { callee:=.value (.func f),args:=#[x],argTypes:=ts }) (hc:∀ vs w,(callFunc f vs).run P w=.ok (.enter f vs) w)
  (hx:σ.ev x=some (.pt k 0 0)) (hk:look k σ.M=some (.bld T e l)) (hd:dstOk C.N o.dst=true) (h:BldS P f T e) (hl:l≠[]) :
  WO P C o σ ((σ.upd k (.bld T e l)).set o.dst (.sc (.string (bs l)))):=by
 intro G a w ok N Q' hN
 obtain ⟨p,ep,p1,p2,p3⟩:=(ok.evr hx).2.pt_of
 obtain ⟨h1,h2⟩:=(ok.ob k _ hk).2.2
 obtain rfl:=addr_eq p1 p2 p3
 rw [Nat.zero_mul] at ep
 unfold Oper.wp execOp
 have ev:a.eval (.func f)=.func (.func f) #[] #[]:=rfl
 have e3:(#[]++(#[x]:Array Operand).map a.eval++#[]:Array Value)=#[.pointer (some ⟨G.b k,0,none⟩)]:=by simp [ep]
 simp only [ho,resolve,ev,Deferred.ofValue,invoke,Sem.run_bind,Sem.run_pure,Result.andThen_ok,hc,Oper.upon,e3]
 refine (h w (G.b k) (G.fp k) l h1 h2 hl).mono fun r w1 ⟨he,hkept,hb⟩=>?_
 subst he
 obtain ⟨G',ok'⟩:=ok.bldCall hk hkept hb
 exact hN _ _ _ (ok'.set (.pu _ _ (.sc _)) (.sc _) (dstOk_of hd))
def bwV (σ:St) (f:FuncId):Op→Option (Nat×TypeId×TypeId×List UInt8×List UInt8)
 | .call { callee:=.value (.func g),args:=⟨[x,y]⟩,argTypes:=_ } =>
  match σ.ev x,σ.ev y with
  | some (.pt k 0 0),some (.sc (.string ⟨⟨s⟩⟩)) =>
   match look k σ.M with
   | some (.bld T e l)=>bif Nat.beq f g then some (k,T,e,l,s)else none
   | _=>none
  | _,_=>none
 | _=>none
def bsV (σ:St)(f:FuncId):Op→Option (Nat×TypeId×TypeId×List UInt8)
 | .call { callee:=.value (.func g),args:=⟨[x]⟩,argTypes:=_ } =>
  match σ.ev x with
  | some (.pt k 0 0) =>
   match look k σ.M with
   | some (.bld T e l)=>bif Nat.beq f g then some (k,T,e,l)else none
   | _=>none
  | _=>none
 | _=>none
variable {ops:Array Oper} {rest:List Oper} {Q:Exit→St→Prop}
theorem WL.bw {f:FuncId} {k:Nat} {T e:TypeId} {l s l':List UInt8} {t:List (Nat×AV)} {M M':List (Nat×AO)} {nk:Nat} (hd:dstB C.N o=some d) (hv:bwV ⟨t,M,nk⟩ f o.op=some (k,T,e,l,s)) (hM:remS k M=some M')
  (hc:∀ vs w,(callFunc f vs).run P w=.ok (.enter f vs) w) (h:BldW P f T e) (hl:l.length+s.length≤1000000000) (hl':l++s=l')
  (K:WL P C ops rest ⟨(d,.tu [.sc (.int .i64 s.length),.sc .nilIface])::t,(k,.bld T e l')::M',nk⟩ Q):WL P C ops (o::rest) ⟨t,M,nk⟩ Q:=by
 rw [remS_eq hM] at K
 clear hM
 obtain ⟨hg,hds,hdb⟩:=dstB_of hd
 refine WL.op hg ?_ K
 unfold bwV at hv
 split at hv
 ·rename_i g x y ts ho
  split at hv
  ·rename_i k' s' hx hy
   split at hv
   ·rename_i T' e' l2 hk
    cases hb:Nat.beq f g with
    | false=>rw [hb] at hv;cases hv
    | true =>
     rw [hb] at hv
     cases hv
     obtain rfl:=Nat.eq_of_beq_eq_true hb
     have:=WO.bldW (σ:=⟨t,M,nk⟩) (s:=s) ho hc hx hk hy (by rw [hds];exact hdb) h hl hl'
     rw [hds] at this
     exact wo_rem this
   ·cases hv
  ·cases hv
 ·cases hv
theorem WL.bs {f:FuncId} {k:Nat} {T e:TypeId} {l:List UInt8} {t:List (Nat×AV)} {M M':List (Nat×AO)} {nk:Nat} (hd:dstB C.N o=some d) (hv:bsV ⟨t,M,nk⟩ f o.op=some (k,T,e,l)) (hM:remS k M=some M')
  (hc:∀ vs w,(callFunc f vs).run P w=.ok (.enter f vs) w) (h:BldS P f T e) (hl:l≠[])
  (K:WL P C ops rest ⟨(d,.sc (.string (bs l)))::t,(k,.bld T e l)::M',nk⟩ Q):WL P C ops (o::rest) ⟨t,M,nk⟩ Q:=by
 rw [remS_eq hM] at K
 clear hM
 obtain ⟨hg,hds,hdb⟩:=dstB_of hd
 refine WL.op hg ?_ K
 unfold bsV at hv
 split at hv
 ·rename_i g x ts ho
  split at hv
  ·rename_i k' hx
   split at hv
   ·rename_i T' e' l2 hk
    cases hb:Nat.beq f g with
    | false=>rw [hb] at hv;cases hv
    | true =>
     rw [hb] at hv
     cases hv
     obtain rfl:=Nat.eq_of_beq_eq_true hb
     have:=WO.bldS (σ:=⟨t,M,nk⟩) ho hc hx hk (by rw [hds];exact hdb) h hl
     rw [hds] at this
     exact wo_rem this
   ·cases hv
  ·cases hv
 ·cases hv
end
end
section
open Go.RowKit
def Ctg(B:World→View→Prop)(P:Program)(f:FuncId)(args:List AV)(res:AV):Prop :=
 ∀ (w:World)(F:View)(vs:List Value),B w F→(∀ p u,F p=some u→w.cell? p=some u)→RL F args vs →
  Calls P f vs.toArray w fun e w'=>∃ v F',e=.returned v∧Below w.heap.size w w'∧View.le F F'∧(∀ p u,F' p=some u→w'.cell? p=some u)∧(∀ p u,F' p=some u→F p=some u∨w.heap.size≤p.block)∧RP F' res v
def Stab(B:World→View→Prop)(g:Nat):Prop:=(∀ w F,B w F→g≤w.heap.size)∧∀ w w' F F',(∀ i,i<g→w'.heap[i]?=w.heap[i]?)→View.le F F'→B w F→B w' F'
def Holds(B:World→View→Prop)(g:Nat)(C:Cx):Prop:=(∀ w F,Kept C.fp C.w0 w→C.F0.le F→B w F)∧∀ x,C.may x→g≤x
theorem Ctr.g {B:World→View→Prop} {P:Program} {f:FuncId} {args:List AV} {res:AV} (h:Ctr P f args res):Ctg B P f args res:=fun w F vs _ hF hR=>h w F vs hF hR
theorem Ctg.intro {B:World→View→Prop} {g:Nat} (hS:Stab B g) {P:Program} {f:FuncId} {fn:Func} {c:Code} {args:List AV} {res:AV} (hf:P.funcs[f]?=some fn) (hb:fn.body=some c) {N:Nat} (hN:fn.ntmps=N) (hn:args.length≤N) (hp:∀ (i:Nat) av,args[i]?=some av→Bd 0 av)
  (h:∀ w0 F0,Holds B g ⟨w0,F0,N,fun _=>False,0,G0,[]⟩→W P ⟨w0,F0,N,fun _=>False,0,G0,[]⟩ c (St.init args) (QFin P fn ⟨w0,F0,N,fun _=>False,0,G0,[]⟩ res)):Ctg B P f args res:=by
 intro w F vs hB hF hR
 subst hN
 refine calls_of_wp hf hb ?_
 have hsz:vs.toArray.size=args.length:=by simpa using hR.1
 have h1:=h w F ⟨fun w2 F2 k1 k2=>hS.2 w w2 F F2 (fun i hi=>k1.block i (Nat.lt_of_lt_of_le hi (hS.1 w F hB)) fun h=>h) k2 hB,fun x hx=>hx.elim (fun h=>Nat.le_trans (hS.1 w F hB) h) fun h=>h.elim⟩ ⟨F,fun _=>0,fun _=>0,fun _=>undef,fun _ _=>False⟩ { tmps:=vs.toArray++Array.replicate (fn.ntmps - vs.toArray.size) undef,defers:=[] } w
  ⟨by simp;have:=hR.1;omega,⟨rfl,Nat.le_refl _,fun k hk=>absurd hk (Nat.not_lt_zero k)⟩,fun i av hx=>by
   obtain ⟨_,h2⟩:=look_number args 0 i av hx
   simp only [Nat.sub_zero] at h2
   have hi:i < args.length:=(List.getElem?_eq_some_iff.1 h2).1
   have hv:i < vs.length:=by rw [hR.1];exact hi
   refine ⟨by show i < fn.ntmps;omega,hp i av h2,.pu _ _ (hR.2 i av _ h2 ?_)⟩
   simp [Array.getD_eq_getD_getElem?,Array.getElem?_append_left,hv],
   Kept.refl _ _,hF,fun _ _ h=>h,fun _ _ h=>.inl h,(fun k o h=>by cases h),(fun k o x h=>by cases h),(fun k o k' o' x h=>by cases h),(fun k o x p u h=>by cases h)⟩
 refine wp_mono h1 fun e a w' ⟨σ,G,⟨he,hfin⟩,ok⟩=>?_
 obtain ⟨v,F',hr,hle,hfw,hnew,hres⟩:=hfin G a w' ok
 rcases he with rfl|rfl
 ·exact ⟨ok.df.1,v,hr,v,F',rfl,ok.bel.to_below (fun _ h=>h),fun p u x=>hle p u (ok.f0 p u x),hfw,fun p u x=>(hnew p u x).elim (fun y=>(ok.f1 p u y).elim .inl fun z=>.inr (z.elim id fun h=>h.elim)) fun z=>.inr (z.elim id fun h=>h.elim),hres⟩
 ·exact ⟨ok.df.1,v,hr,v,F',rfl,ok.bel.to_below (fun _ h=>h),fun p u x=>hle p u (ok.f0 p u x),hfw,fun p u x=>(hnew p u x).elim (fun y=>(ok.f1 p u y).elim .inl fun z=>.inr (z.elim id fun h=>h.elim)) fun z=>.inr (z.elim id fun h=>h.elim),hres⟩
section
variable {B:World→View→Prop} {gl:Nat} {P:Program} {C:Cx} {ops:Array Oper} {rest:List Oper} {σ σ':St} {G G':Gh} {a:Act} {w w':World} {o:Oper} {d:Tmp} {Q:Exit→St→Prop}
theorem WV.callG (hB:Holds B gl C) {f:FuncId} {xs:Array Operand} {ts:Array TypeId} {args:List AV} {res:AV} (ho:o.op=.call { callee:=.value (.func f),args:=xs,argTypes:=ts }) (hc:∀ vs w,(callFunc f vs).run P w=.ok (.enter f vs) w)
  (hx:σ.evs xs.toList=some args) (hp:args.all AV.pu2=true) (h:Ctg B P f args res):WV P C o σ res:=by
 intro G a w ok N Q' hN
 obtain ⟨e1,e2⟩:=ok.evl hx
 have hcalls:=h w G.F (xs.toList.map a.eval) (hB.1 w G.F ok.bel ok.f0) ok.fw ⟨e1,fun i av u p q=>(pu2_bd (List.all_eq_true.1 hp av (List.mem_of_getElem? p)) 0).rp (e2 i av u p q)⟩
 unfold Oper.wp execOp
 have ev:a.eval (.func f)=.func (.func f) #[] #[]:=rfl
 have e3:(#[]++xs.map a.eval++#[]:Array Value)=(xs.toList.map a.eval).toArray:=by apply Array.ext';simp
 simp only [ho,resolve,ev,Deferred.ofValue,invoke,Sem.run_bind,Sem.run_pure,Result.andThen_ok,hc,Oper.upon,e3]
 refine hcalls.mono fun e w1 ⟨v,F',he,hb,h1,h2,h3,h4⟩=>?_
 subst he
 exact hN v _ w1 (fun σ'' a'' ok''=>ok''.called hb h1 h2 h3) (.pu _ _ h4) (h4.bd _)
def divV (σ:St):Op→Option (Prop×Int)
 | .binOp .quo _ x y _ =>
  match σ.ev x,σ.ev y with
  | some (.sc (.int .i64 m)),some (.sc (.int .i64 n))=>some ((0≤m∧m≤9223372036854775807)∧0<n,m/n)
  | _,_=>none
 | .binOp .rem _ x y _ =>
  match σ.ev x,σ.ev y with
  | some (.sc (.int .i64 m)),some (.sc (.int .i64 n))=>some ((0≤m∧m≤9223372036854775807)∧0<n,m % n)
  | _,_=>none
 | _=>none
theorem divV_of {φ:Prop} {z:Int} (h:divV σ o.op=some (φ,z))(hφ:φ):WV P C o σ (.sc (.int .i64 z)):=by
 unfold divV at h
 split at h
 ·rename_i T x y Ty ho
  split at h
  ·rename_i m n h1 h2
   cases h
   obtain⟨⟨h3,h4⟩,h5⟩:=hφ
   have e:IntKind.i64.wrap (m/n)=m/n:=I64.wrap (by
    have:=Int.ediv_le_self n h3
    have:=Int.ediv_nonneg h3 (Int.le_of_lt h5)
    unfold I64;omega)
   exact WV.sc fun G a w ok=>by unfold execOp;simp [ho,ok.evs h1,ok.evs h2,eqGuard,binOp,Op.intDiv,Int.tdiv_eq_ediv_of_nonneg h3,show ¬ n=0 by omega,e]
  ·cases h
 ·rename_i T x y Ty ho
  split at h
  ·rename_i m n h1 h2
   cases h
   obtain⟨⟨h3,h4⟩,h5⟩:=hφ
   exact WV.sc fun G a w ok=>by unfold execOp;simp [ho,ok.evs h1,ok.evs h2,eqGuard,binOp,Op.intDiv,Int.tmod_eq_emod_of_nonneg h3,show ¬ n=0 by omega]
  ·cases h
 ·cases h
theorem WL.div {φ:Prop} {z:Int} (hd:dstB C.N o=some d)(h:divV σ o.op=some (φ,z))(hφ:φ)(k:WL P C ops rest (σ.put d (.sc (.int .i64 z))) Q):WL P C ops (o::rest) σ Q:=WL.vl hd (divV_of h hφ) k
end
end
section
open Go.RowKit
def resOne (tmps:Array Value):ResultVar→Sem Value
 | .tmp t=>pure (tmps.getD t undef)
 | .cell a t=>do loadVar t (← asAddr (tmps.getD a undef))
def resV (P:Program)(σ:St):ResultVar→Option AV
 | .tmp t=>look t σ.t
 | .cell t T =>
  match look t σ.t with
  | some (.pt k 0 0) =>
   match look k σ.M,aggB P T with
   | some (.box T' cells),some true =>
    match sizeB P T with
    | some n=>bif Nat.beq cells.length n then some (.ag cells)else none
    | none=>none
   | _,_=>none
  | _=>none
def resL (P:Program)(σ:St):List ResultVar→Option (List AV)
 | []=>some []
 | r::l =>
  match resV P σ r,resL P σ l with
  | some a,some b=>some (a::b)
  | _,_=>none
section
variable {P:Program} {C:Cx} {σ:St} {G:Gh} {a:Act} {w:World}
theorem resV_of (ok:Ok C σ G a w) {r:ResultVar} {av:AV} (h:resV P σ r=some av)(hp:av.pu2=true):∃ v,(resOne a.tmps r).run P w=.ok v w∧RP G.F av v:=by
 cases r with
 | tmp t=>exact⟨a.tmps.getD t undef,rfl,(pu2_bd hp 0).rp (ok.tm t _ h).2.2⟩
 | cell t T =>
  simp only [resV] at h
  split at h
  ·rename_i k ht
   split at h
   ·rename_i T' cells hk hT
    split at h
    ·rename_i n hn
     cases hb:Nat.beq cells.length n with
     | false=>rw [hb] at h;cases h
     | true =>
      rw [hb] at h
      cases h
      obtain⟨p,ep,p1,p2,p3⟩:=(ok.tm t _ ht).2.2.pt_of
      obtain⟨_,_,g3,cs,Φ,g4,g5,_,_,g6⟩:=ok.ob k _ hk
      obtain rfl:=addr_eq p1 p2 p3
      rw [Nat.zero_mul,Nat.zero_add] at ep
      have hpc:cells.all AV.pu0=true:=hp
      refine⟨.agg cs,?_,.ag _ _ g5 fun i av u x y=>(pu0_bd (List.all_eq_true.1 hpc av (List.mem_of_getElem? x)) 0).rp ((g6 i av u x y).r (pu0_own (List.all_eq_true.1 hpc av (List.mem_of_getElem? x))))⟩
      unfold aggB at hT
      cases hu:P.underlying T with
      | none=>simp [hu] at hT
      | some d =>
       have hsz:sizeB P T=some cs.size:=by rw [hn,g5];exact congrArg some (Nat.eq_of_beq_eq_true hb).symm
       have:=results_cell_row (fn:={ (default:Func) with results:=#[.cell t T] }) rfl a.tmps w (G.b k) T' cs (0,0) d ep g4 hu (by rw [hu] at hT;cases d<;>simp_all) hsz
       have e:(results { (default:Func) with results:=#[.cell t T] } a.tmps).run P w=(resOne a.tmps (.cell t T)).run P w:=by
        unfold results resOne
        first|(simp;done)|(simp;rfl)
       rw [← e];exact this
    ·cases h
   ·cases h
  ·cases h
theorem resL_of (ok:Ok C σ G a w):∀ {l:List ResultVar} {avs:List AV},resL P σ l=some avs→avs.all AV.pu2=true→∃ vs:List Value,(l.mapM (resOne a.tmps)).run P w=.ok vs w∧vs.length=avs.length∧∀ (i:Nat)av u,avs[i]?=some av→vs[i]?=some u→RP G.F av u
 | [],avs,h,_=>by cases h;exact ⟨[],rfl,rfl,fun i av u x=>by simp at x⟩
 | r::l,avs,h,hp=>by
  cases h1:resV P σ r with
  | none=>simp only [resL,h1]at h;cases h
  | some x =>
  cases h2:resL P σ l with
  | none=>simp only [resL,h1,h2]at h;cases h
  | some y =>
   simp only [resL,h1,h2,Option.some.injEq]at h
   subst h
   simp only [List.all_cons,Bool.and_eq_true]at hp
   obtain ⟨v,e1,e2⟩:=resV_of ok h1 hp.1
   obtain ⟨vs,f1,f2,f3⟩:=resL_of ok h2 hp.2
   refine ⟨v::vs,by simp [List.mapM_cons,Sem.run_bind,e1,f1,Result.andThen],by simp [f2],fun i av u p q=>?_⟩
   cases i with
   | zero=>cases p;cases q;exact e2
   | succ i=>exact f3 i av u (by simpa using p) (by simpa using q)
theorem finN {fn:Func} {avs:List AV} {res:AV} (h:resL P σ fn.results.toList=some avs)(hp:avs.all AV.pu2=true)(hl:Nat.beq avs.length 1=false)(e:.tu avs=res):QFin P fn C res .ret σ:=by
 refine⟨.inr rfl,fun G a w ok=>?_⟩
 subst e
 obtain⟨vs,e1,e2,e3⟩:=resL_of ok h hp
 refine⟨.tuple vs.toArray,G.F,?_,fun _ _ h=>h,ok.fw,fun _ _ h=>.inl h,.tu _ _ (by simpa using e2) fun i av u x y=>e3 i av u x (by simpa using y)⟩
 have e:results fn a.tmps=(do let vs ← fn.results.mapM (resOne a.tmps);pure (if h:vs.size=1 then vs[0] else .tuple vs)):=rfl
 have hne:¬ vs.toArray.size=1:=by
  intro h1
  have:avs.length=1:=by rw [← e2];simpa using h1
  rw [this] at hl;cases hl
 rw [e,Array.mapM_eq_mapM_toList]
 simp only [Sem.run_bind,Sem.run_map,e1,Result.andThen]
 simp
 intro h1
 exact absurd (by simpa using h1) hne
end
end
end Go.Proofs.YtockempedekkkaaGreatDoor
