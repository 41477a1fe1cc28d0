/- A walk that knows values as trees: stores. -/
import Derived.Test.YtaeelcfjkhfpkaaGreatE3Pq
set_option linter.unusedVariables false
set_option linter.unusedSimpArgs false
namespace Go.Proofs.YtaeelcfjkhfpkaaGreat
section
open Go.RowKit
def fldB (P:Program)(T i:Nat):Option Nat :=
 match P.underlying T with
 | some (.struct fs) =>
  match fs[i]? with
  | some f=>if P.cellsOf f.type=0 then none else some f.offset
  | none=>none
 | _=>none
def aggB (P:Program)(T:TypeId):Option Bool :=
 match P.underlying T with
 | some (.struct _)|some (.array _ _)=>some true
 | some _=>some false
 | none=>none
def sizeB (P:Program)(T:TypeId):Option Nat:=(P.info? T).map (·.size)
section
variable {P:Program} {C:Cx} {σ σ':St} {o:Oper} {d:Tmp}
theorem run_sizeB {T n:Nat} (h:sizeB P T=some n)(w:World):(sizeOf T).run P w=.ok n w:=by
 unfold sizeB at h
 cases hi:P.info? T with
 | none=>simp [hi]at h
 | some i =>
  simp [hi]at h
  simp [sizeOf,typeInfo,hi,h]
theorem run_aggB {T:Nat} {b:Bool} (h:aggB P T=some b)(w:World):(isAgg T).run P w=.ok b w:=by
 unfold aggB at h
 cases hu:P.underlying T with
 | none=>simp [hu]at h
 | some u =>
  unfold isAgg
  rw [Sem.run_bind,run_underlying hu w]
  cases u<;>simp_all
theorem run_fld {T i off:Nat} (h:fldB P T i=some off)(p:Addr)(w:World):(Instr.fieldAt T (.pointer (some p)) i).run P w=.ok (.pointer (some (p.add off))) w:=by
 unfold fldB at h
 cases hu:P.underlying T with
 | none=>simp [hu] at h
 | some u =>
  cases u with
  | struct fs =>
   simp only [hu] at h
   cases hf:fs[i]? with
   | none=>simp [hf] at h
   | some f =>
    simp only [hf] at h
    by_cases h0:P.cellsOf f.type=0
    ·rw [if_pos h0] at h;cases h
    ·rw [if_neg h0] at h
     cases h
     cases hq:P.info? f.type with
     | none=>exact absurd (by unfold Program.cellsOf;rw [hq];rfl) h0
     | some q =>
      have hne:q.size≠0:=by
       intro e;apply h0;unfold Program.cellsOf;rw [hq];exact e
      simp [Instr.fieldAt,Instr.sureAddr,fieldPlace,run_underlying hu,hf,sizeOf,typeInfo,hq,hne]
  | _=>simp [hu] at h
theorem WV.fieldP {T:TypeId} {x:Operand} {i off k r j:Nat} (ho:o.op=.fieldAddr T x i)(hf:fldB P T i=some off)(hx:σ.ev x=some (.pt k r j)):WV P C o σ (.pt k r (j+off)) :=
 WV.val (fun G a w ok=>by cases (ok.evr hx).1 with|pt _ _ _ h=>exact .pt _ _ _ h) fun G a w ok=>by
  obtain⟨p,e,h1,h2,h3⟩:=(ok.evr hx).2.pt_of
  obtain⟨q1,q2,q3⟩:=add_ptr (j:=off) p h1 h3
  exact⟨_,by unfold execOp;simp [ho,e,run_fld hf],.pt k r (j+off) _ q1 (by omega) q3⟩
theorem WV.fieldR {T:TypeId} {x:Operand} {i off:Nat} {cells:List AV} (ho:o.op=.fieldAddr T x i) (hf:fldB P T i=some off) (hx:σ.ev x=some (.pr cells)):WV P C o σ (.pr (cells.drop off)) :=
 WV.val (fun _ _ _ _=>.pr _) fun G a w ok=>by
  obtain ⟨p,u,e,h1,h2⟩:=(ok.evr hx).2.pr_of.pr_of
  refine ⟨.pointer (some (p.add off)),by unfold execOp;simp [ho,e,run_fld hf],.pu _ _ (.pr _ _ (fun j=>u (off+j)) (fun j av h=>?_) fun j av h=>?_)⟩
  ·rw [List.getElem?_drop] at h
   rw [add_of_add]
   exact h1 _ av h
  ·rw [List.getElem?_drop] at h
   exact h2 _ av h
theorem run_index {T e n:Nat} (hT:P.underlying T=some (.slice e)) (hn:sizeB P e=some n) (ad:Addr) (len cap:Nat) (k:IntKind) (z:Int) (h0:0≤z) (h1:z<len) (w:World) :
  (Instr.indexAt T (.slice (some ad) len cap) (.int k z)).run P w=.ok (.pointer (some (ad.add (z.toNat*n)))) w:=by
 simp [Instr.indexAt,asIntOf,run_underlying hT,h0,h1,run_sizeB hn]
theorem WV.indexL {T e n:Nat} {x y:Operand} {rows:List (List AV)} {k:IntKind} {z:Int} {r:List AV} (ho:o.op=.indexAddr T x y) (hT:P.underlying T=some (.slice e)) (hn:sizeB P e=some n)
  (hx:σ.ev x=some (.ls n rows)) (hy:σ.ev y=some (.sc (.int k z))) (h0:0≤z) (hr:rows[z.toNat]?=some r):WV P C o σ (.pr r) :=
 WV.val (fun _ _ _ _=>.pr _) fun G a w ok=>by
  obtain ⟨A,cap,ad,u,e1,h1,h2,h3,h4,_⟩:=(ok.evr hx).2.pu_of.ls_of
  have hlt:z.toNat<rows.length:=(List.getElem?_eq_some_iff.1 hr).1
  obtain rfl:=h2 zqo
  refine ⟨.pointer (some (ad.add (z.toNat*n))),by unfold execOp;simp [ho,e1,ok.evs hy,run_index hT hn ad rows.length cap k z h0 (by omega)],.pu _ _ (.pr _ _ (fun j=>u z.toNat j) (fun j av h=>?_) fun j av h=>?_)⟩
  ·rw [add_of_add];exact h3 _ r j av hr h
  ·exact h4 _ r j av hr h
theorem RowIs.base {w:World} {T n:Nat} {rows:List (List AV)} {v:Value} {φ:Nat→Prop} {b:Nat} {X:Nat→Nat→(Nat→Prop)→AV→Value→Prop} (h:RowIs w T n rows v φ X) (hg:∀ g,v.ownBlock=some g→g=b) (hp:0<rows.length):∃ c,v=.slice (some ⟨b,0,none⟩) rows.length c:=by
 obtain ⟨_,vs,Φ,h4,h5,_⟩:=h
 rcases h4.2 with⟨e,e2⟩|⟨g,cap,cur,e,_⟩
 ·omega
 ·have:=hg g (by rw [e];rfl)
  exact ⟨cap,by rw [e,h5,this]⟩
def AO.n?:AO→Option Nat
 | .row _ n _=>some n
 | .rwn _ n _=>some n
 | .rof _ n _ _ _ _=>some n
 | .rwo _ n _ _ _ _=>some n
 | _=>none
theorem ObAt.base {G:Gh} {w:World} {k n:Nat} {ob:AO} {rows:List (List AV)} (h:ObAt G w k ob) (hr:ob.rows?=some rows) (hn:ob.n?=some n) (hp:0<rows.length):G.n k=n∧∃ c,G.h k=.slice (some ⟨G.b k,0,none⟩) rows.length c:=by
 cases ob with
 | row T n rs=>cases hr;cases hn;exact ⟨h.1,h.2.2.base h.2.1 hp⟩
 | rwn T n rs=>cases hr;cases hn;exact ⟨h.1,h.2.2.base h.2.1 hp⟩
 | rof T n rs hi hj y=>cases hr;cases hn;exact ⟨h.1,h.2.2.base h.2.1 hp⟩
 | rwo T n rs hi hj y=>cases hr;cases hn;exact ⟨h.1,h.2.2.base h.2.1 hp⟩
 | _=>cases hr
theorem WV.indexS {T e n k:Nat} {ob:AO} {x y:Operand} {rows:List (List AV)} {q:IntKind} {z:Int} (ho:o.op=.indexAddr T x y) (hT:P.underlying T=some (.slice e)) (hn:sizeB P e=some n)
  (hx:σ.ev x=some (.sl k)) (hy:σ.ev y=some (.sc (.int q z))) (hk:look k σ.M=some ob) (hr:ob.rows?=some rows) (hn2:ob.n?=some n) (h0:0≤z) (h1:z < rows.length):WV P C o σ (.pt k z.toNat 0) :=
 WV.val (fun G a w ok=>.pt _ _ _ (ok.ob k _ hk).1) fun G a w ok=>by
  have e1:=(ok.evr hx).2.sl_of.1
  obtain ⟨hn3,c,e2⟩:=(ok.ob k _ hk).2.2.base hr hn2 zqo
  rw [e2] at e1
  obtain ⟨q1,q2,q3⟩:=add_ptr (j:=z.toNat*n) (⟨G.b k,0,none⟩:Addr) rfl rfl
  refine ⟨_,by unfold execOp;simp [ho,e1,ok.evs hy,run_index hT hn _ rows.length c q z h0 h1],.pt k z.toNat 0 _ q1 ?_ q3⟩
  rw [q2,hn3];simp
theorem RP.bd {F:View} {av:AV} {v:Value} (r:RP F av v)(nk:Nat):Bd nk av:=by
 induction r with
 | sc v=>exact .sc v
 | ls n rows A cap ad u _ _ _ _ _ _=>exact .ls n rows
 | pr cells p u _ _ _=>exact .pr cells
 | ag l cs h1 _ ih =>
  refine .ag l fun i x hx=>?_
  have hlt:i<cs.size:=by rw [h1];exact (List.getElem?_eq_some_iff.1 hx).1
  exact ih i x cs[i] hx (Array.getElem?_eq_getElem hlt)
 | tu l cs h1 _ ih =>
  refine .tu l fun i x hx=>?_
  have hlt:i<cs.size:=by rw [h1];exact (List.getElem?_eq_some_iff.1 hx).1
  exact ih i x cs[i] hx (Array.getElem?_eq_getElem hlt)
 | fn f l cs h1 _ ih =>
  refine .fn f l fun i x hx=>?_
  have hlt:i<cs.size:=by rw [h1];exact (List.getElem?_eq_some_iff.1 hx).1
  exact ih i x cs[i] hx (Array.getElem?_eq_getElem hlt)
def AO.from_:AO→Nat→Nat→Option (List AV)
 | .box _ cells,0,j=>some (cells.drop j)
 | .box _ _,_+1,_=>none
 | .row _ _ rows,i,j=>(rows[i]?).map (·.drop j)
 | .rwn _ _ rows,i,j=>(rows[i]?).map (·.drop j)
 | .rof _ _ _ _ _ _,_,_=>none
 | .rwo _ _ _ _ _ _,_,_=>none
 | .bld _ _ _,_,_=>none
 | .opq _,_,_=>none
theorem addr_eq {p:Addr} {b f:Nat} (h1:p.block=b)(h2:p.off=f)(h3:p.spot=none):p =⟨b,f,none⟩:=by
 cases p;simp_all
theorem add_flat(b f j:Nat):(⟨b,f,none⟩:Addr).add j =⟨b,f+j,none⟩:=by
 unfold Addr.add
 by_cases e:j=0<;>simp [e]
theorem RowIs.cell_at {w:World} {T n:Nat} {rows:List (List AV)} {v:Value} {φ:Nat→Prop} {b:Nat} {X:Nat→Nat→(Nat→Prop)→AV→Value→Prop} (h:RowIs w T n rows v φ X) (hg:∀ g,v.ownBlock=some g→g=b) {i j:Nat} {r:List AV} {av:AV} (hr:rows[i]?=some r) (hm:r[j]?=some av) :
  ∃ u,w.cell? ⟨b,i*n+j,none⟩=some u∧∃ ψ,X i j ψ av u:=by
 have hb:=h.base hg (by have:=(List.getElem?_eq_some_iff.1 hr).1;omega)
 obtain ⟨hrl,vs,Φ,h4,h5,h7,_,_,_,h8,h6⟩:=h
 have hi:i<rows.length:=(List.getElem?_eq_some_iff.1 hr).1
 have hv:vs[i]?=some vs[i]:=List.getElem?_eq_getElem (by omega)
 have e1:=h8 i r _ hr hv
 have hj:j<vs[i].length:=by rw [e1];exact (List.getElem?_eq_some_iff.1 hm).1
 have hvl:∀ r∈vs,r.length=n:=by
  intro r' hr'
  obtain ⟨q,hq,rfl⟩:=List.getElem_of_mem hr'
  have:=h8 q rows[q] vs[q] (List.getElem?_eq_getElem (by omega)) (List.getElem?_eq_getElem hq)
  rw [this];exact hrl _ (List.getElem_mem _)
 obtain ⟨A,c,hA,hrd,hat,_⟩:=rd_of_own h4 hvl rfl rfl
 obtain ⟨c2,hb2⟩:=hb
 rw [hb2] at hA
 injection hA with hA _ _
 subst hA
 obtain ⟨ad,had,_,hc⟩:=Rd.at_ (k:=i) hrd zqo
 injection had with had
 subst had
 refine ⟨_,?_,Φ i j,h6 i r _ j av _ hr hv hm (List.getElem?_eq_getElem hj)⟩
 have:=hc j _ (List.getElem?_eq_getElem hj)
 rw [add_flat,Nat.zero_add] at this
 exact this
theorem Ok.cell {G:Gh} {a:Act} {w:World} (ok:Ok C σ G a w) {k i j m:Nat} {ob:AO} {l:List AV} {av:AV} {p:Addr} (hk:look k σ.M=some ob)(hf:ob.from_ i j=some l)(hm:l[m]?=some av)
  (h1:p.block=G.b k)(h2:p.off=i*G.n k+j)(h3:p.spot=none)(ho:av.own=false):∃ u,w.cell? (p.add m)=some u∧R G av u∧Bd σ.nk av:=by
 obtain rfl:=addr_eq h1 h2 h3
 have h:=ok.ob k ob hk
 cases ob with
 | box T cells =>
  cases i with
  | succ i=>simp [AO.from_]at hf
  | zero =>
   simp only [AO.from_,Option.some.injEq]at hf
   subst hf
   rw [List.getElem?_drop]at hm
   obtain⟨_,cs,Φ,hb,hs,_,_,hc⟩:=h.2.2
   have hlt:j+m<cs.size:=by rw [hs];exact (List.getElem?_eq_some_iff.1 hm).1
   refine⟨cs[j+m],?_,(hc _ _ _ hm (Array.getElem?_eq_getElem hlt)).r ho,h.2.1 _ _ hm⟩
   rw [add_flat,Nat.zero_mul,Nat.zero_add,hb.cell]
   exact Array.getElem?_eq_getElem hlt
 | row T n rows =>
  simp only [AO.from_]at hf
  cases hr:rows[i]? with
  | none=>simp [hr]at hf
  | some r =>
   simp [hr]at hf
   subst hf
   rw [List.getElem?_drop]at hm
   obtain⟨hn,hg,hR⟩:=h.2.2
   obtain⟨u,hu,Ψ,hX⟩:=hR.cell_at hg hr hm
   have hp:RP G.F av u:=hX
   refine⟨u,?_,.pu _ _ hp,hp.bd _⟩
   rw [add_flat,hn,Nat.add_assoc];exact hu
 | rwn T n rows =>
  simp only [AO.from_]at hf
  cases hr:rows[i]? with
  | none=>simp [hr]at hf
  | some r =>
   simp [hr]at hf
   subst hf
   rw [List.getElem?_drop]at hm
   obtain⟨hn,hg,hR⟩:=h.2.2
   obtain⟨u,hu,Ψ,hX⟩:=hR.cell_at hg hr hm
   have hp:=OW.p hX ho
   refine⟨u,?_,.pu _ _ hp,hp.bd _⟩
   rw [add_flat,hn,Nat.add_assoc];exact hu
 | rof T n rows hi hj y=>cases hf
 | rwo T n rows hi hj y=>cases hf
 | bld T e l=>cases hf
 | opq q=>cases hf
theorem run_load1 {T:TypeId} {p:Addr} {u:Value} {w:World} (hT:aggB P T=some false)(h:w.cell? p=some u):(Instr.loadAt T (.pointer (some p))).run P w=.ok u w:=by
 simp [Instr.loadAt,Instr.sureAddr,loadVar,run_aggB hT,h]
theorem run_loadN {T n:Nat} {p:Addr} {cs:List Value} {w:World} (hT:aggB P T=some true)(hn:sizeB P T=some n)(hl:cs.length=n)(h:∀ j v,cs[j]?=some v→w.cell? (p.add j)=some v):(Instr.loadAt T (.pointer (some p))).run P w=.ok (.agg cs.toArray) w:=by
 have:=run_loadCells_list (P:=P) w p cs h
 rw [hl] at this
 simp [Instr.loadAt,Instr.sureAddr,loadVar,run_aggB hT,run_sizeB hn,this]
theorem add_zero'(p:Addr):p.add 0=p:=by simp [Addr.add]
theorem WV.load1 {T:TypeId} {x:Operand} {k i j:Nat} {ob:AO} {l:List AV} {av:AV} (ho:o.op=.load T x)(hT:aggB P T=some false)
  (hx:σ.ev x=some (.pt k i j))(hk:look k σ.M=some ob)(hf:ob.from_ i j=some l)(hm:l[0]?=some av)(hw:av.own=false):WV P C o σ av :=
 WV.val (fun G a w ok=>by
  obtain⟨p,e,h1,h2,h3⟩:=(ok.evr hx).2.pt_of
  obtain⟨u,_,_,hb⟩:=ok.cell hk hf hm h1 h2 h3 hw
  exact hb) fun G a w ok=>by
  obtain⟨p,e,h1,h2,h3⟩:=(ok.evr hx).2.pt_of
  obtain⟨u,hu,hr,_⟩:=ok.cell hk hf hm h1 h2 h3 hw
  rw [add_zero'] at hu
  exact⟨u,by unfold execOp;simp [ho,e,run_load1 hT hu],hr⟩
theorem WV.load1R {T:TypeId} {x:Operand} {cells:List AV} {av:AV} (ho:o.op=.load T x)(hT:aggB P T=some false)
  (hx:σ.ev x=some (.pr cells))(hm:cells[0]?=some av):WV P C o σ av :=
 WV.val (fun G a w ok=>by
  obtain⟨p,u,e,h1,h2⟩:=(ok.evr hx).2.pr_of.pr_of
  exact (h2 0 av hm).bd _) fun G a w ok=>by
  obtain⟨p,u,e,h1,h2⟩:=(ok.evr hx).2.pr_of.pr_of
  have hu:=ok.fw _ _ (h1 0 av hm).1
  rw [add_zero'] at hu
  exact⟨u 0,by unfold execOp;simp [ho,e,run_load1 hT hu],.pu _ _ (h2 0 av hm)⟩
theorem list_ofT {α:Type} (Q:Nat→α→Prop):∀ (n:Nat),(∀ j,j<n→∃ u,Q j u)→∃ l:List α,l.length=n∧∀ j u,l[j]?=some u→Q j u:=by
 intro n
 induction n with
 | zero=>intro _;exact⟨[],rfl,fun j u h=>by simp at h⟩
 | succ n ih =>
  intro h
  obtain⟨l,hl,hq⟩:=ih fun j hj=>h j zqo
  obtain⟨u,hu⟩:=h n zqo
  refine⟨l++[u],by simp [hl],fun j v hv=>?_⟩
  by_cases e:j<n
  ·rw [List.getElem?_append_left (by omega)]at hv;exact hq j v hv
  ·rw [List.getElem?_append_right (by omega)]at hv
   have hj:j-l.length<[u].length:=(List.getElem?_eq_some_iff.1 hv).1
   have:j=n:=by simp at hj;omega
   subst this
   simp [hl]at hv
   rw [← hv];exact hu
theorem WV.loadN {T n:Nat} {x:Operand} {k i j:Nat} {ob:AO} {l l':List AV} (ho:o.op=.load T x)(hT:aggB P T=some true)(hn:sizeB P T=some n)
  (hx:σ.ev x=some (.pt k i j))(hk:look k σ.M=some ob)(hf:ob.from_ i j=some l)(hl:l.take n=l')(hlen:l'.length=n)(hw:l'.all (fun av=>!av.own)=true):WV P C o σ (.ag l') :=
 have hw':∀ (m:Nat) av,l'[m]?=some av→av.own=false:=fun m av h=>by simpa using List.all_eq_true.1 hw av (List.mem_of_getElem? h)
 have hle:n≤l.length:=by rw [← hl,List.length_take] at hlen;omega
 have hat:∀ m av,l'[m]?=some av→l[m]?=some av:=fun m av h=>by
  have hlt:m<n:=by rw [← hlen];exact (List.getElem?_eq_some_iff.1 h).1
  rw [← hl,List.getElem?_take_of_lt hlt] at h;exact h
 WV.val (fun G a w ok=>by
  obtain⟨p,e,h1,h2,h3⟩:=(ok.evr hx).2.pt_of
  refine .ag _ fun m av hm=>?_
  obtain⟨u,_,_,hb⟩:=ok.cell hk hf (hat m av hm) h1 h2 h3 (hw' m av hm)
  exact hb) fun G a w ok=>by
  obtain⟨p,e,h1,h2,h3⟩:=(ok.evr hx).2.pt_of
  obtain⟨cs,hcl,hcq⟩:=list_ofT (fun m u=>w.cell? (p.add m)=some u∧∀ av,l'[m]?=some av→R G av u) n fun m hm=>by
   have hg:l'[m]?=some l'[m]:=List.getElem?_eq_getElem (by omega)
   obtain⟨u,hu,hr,_⟩:=ok.cell hk hf (hat m _ hg) h1 h2 h3 (hw' m _ hg)
   exact⟨u,hu,fun av h=>by rw [hg] at h;cases h;exact hr⟩
  refine⟨.agg cs.toArray,by unfold execOp;simp [ho,e,run_loadN hT hn hcl fun j v h=>(hcq j v h).1],.ag _ _ (by simp [hcl,hlen]) fun m av u hm hu=>(hcq m u (by simpa using hu)).2 av hm⟩
theorem WV.loadNR {T n:Nat} {x:Operand} {l l':List AV} (ho:o.op=.load T x)(hT:aggB P T=some true)(hn:sizeB P T=some n)
  (hx:σ.ev x=some (.pr l))(hl:l.take n=l')(hlen:l'.length=n):WV P C o σ (.ag l') :=
 have hat:∀ m av,l'[m]?=some av→l[m]?=some av:=fun m av h=>by
  have hlt:m<n:=by rw [← hlen];exact (List.getElem?_eq_some_iff.1 h).1
  rw [← hl,List.getElem?_take_of_lt hlt] at h;exact h
 WV.val (fun G a w ok=>by
  obtain⟨p,u,e,h1,h2⟩:=(ok.evr hx).2.pr_of.pr_of
  exact .ag _ fun m av hm=>(h2 m av (hat m av hm)).bd _) fun G a w ok=>by
  obtain⟨p,u,e,h1,h2⟩:=(ok.evr hx).2.pr_of.pr_of
  have hh:∀ (j:Nat) v,((List.range n).map u)[j]?=some v→w.cell? (p.add j)=some v:=fun j v h=>by
   have hj:j<n:=by simpa using(List.getElem?_eq_some_iff.1 h).1
   simp [hj] at h
   have hg:l'[j]?=some l'[j]:=List.getElem?_eq_getElem (by omega)
   rw [← h];exact ok.fw _ _ (h1 j _ (hat j _ hg)).1
  refine⟨.agg ((List.range n).map u).toArray,by unfold execOp;simp only [ho,e];rw [Sem.run_bind,run_loadN hT hn (by simp) hh];rfl,.ag _ _ (by simp [hlen]) fun m av v hm hv=>?_⟩
  have hj:m<n:=by rw [← hlen];exact (List.getElem?_eq_some_iff.1 hm).1
  simp [hj] at hv
  rw [← hv];exact .pu _ _ (h2 m av (hat m av hm))
end
end
section
open Go.RowKit
def St.new(σ:St)(ob:AO):St:={ σ with M:=(σ.nk,ob)::σ.M,nk:=σ.nk+1 }
def St.upd(σ:St)(k:Nat)(ob:AO):St:={ σ with M:=(k,ob)::σ.M }
def AV.cells:AV→List AV
 | .ag l=>l
 | av=>[av]
def AV.cellB:AV→Bool
 | .sc v=>v.oneCell'
 | .tu _=>false
 | .ow _ _ _=>false
 | _=>true
def AV.oneB:AV→Bool
 | .sc v=>v.oneCell'
 | .tu _=>false
 | .ag _=>false
 | .ow _ _ _=>false
 | _=>true
section
variable {P:Program} {C:Cx} {σ σ':St} {G G':Gh} {a:Act} {w w':World} {o:Oper} {d:Tmp}
theorem AO.bd_mono {nk nk':Nat} (h:nk≤nk') {ob:AO} (b:ob.bd nk):ob.bd nk':=by
 cases ob with
 | box T cells=>exact fun i av x=>(b i av x).mono h
 | row T n rows=>trivial
 | rwn T n rows=>trivial
 | rof T n rows hi hj y=>exact Bd.mono h b
 | rwo T n rows hi hj y=>exact Bd.mono h b
 | bld T e l=>trivial
 | opq q=>trivial
theorem Ok.add (ok:Ok C σ G a w) {ob:AO} (h:ObAt G w σ.nk ob) (hbd:ob.bd (σ.nk+1))
  (hown:∀ x,G.fp σ.nk x→C.may x∧x<w.heap.size∧(∀ k o,look k σ.M=some o→¬ G.fp k x)∧∀ p u,G.F p=some u→p.block≠x):Ok C (σ.new ob) G a w:=by
 have hl:∀ k o,look k (σ.new ob).M=some o→(k=σ.nk∧o=ob)∨(k≠σ.nk∧look k σ.M=some o):=fun k o hx=>by
  by_cases e:k=σ.nk
  ·subst e
   rw [show look σ.nk (σ.new ob).M=some ob from look_set_same] at hx
   cases hx
   exact .inl ⟨rfl,rfl⟩
  ·rw [show look k (σ.new ob).M=look k σ.M from look_set_other e] at hx
   exact .inr ⟨e,hx⟩
 refine ⟨ok.sz,⟨ok.df.1,Nat.le_succ_of_le ok.df.2.1,ok.df.2.2⟩,fun i av x=>⟨(ok.tm i av x).1,(ok.tm i av x).2.1.mono (Nat.le_succ _),(ok.tm i av x).2.2⟩,ok.bel,ok.fw,ok.f0,ok.f1,?_,?_,?_,?_⟩
 ·intro k o x
  rcases hl k o x with⟨rfl,rfl⟩|⟨e,y⟩
  ·exact ⟨Nat.lt_succ_self _,hbd,h⟩
  ·exact ⟨Nat.lt_succ_of_lt (ok.ob k o y).1,AO.bd_mono (Nat.le_succ _) (ok.ob k o y).2.1,(ok.ob k o y).2.2⟩
 ·intro k o x h1 h2
  rcases hl k o h1 with⟨rfl,rfl⟩|⟨e,y⟩
  ·exact ⟨(hown x h2).1,(hown x h2).2.1⟩
  ·exact ok.my k o x y h2
 ·intro k o k' o' x h1 h2 h3 h4
  rcases hl k o h1 with⟨rfl,rfl⟩|⟨e,y⟩
  ·rcases hl k' o' h2 with⟨rfl,rfl⟩|⟨e',y'⟩
   ·rfl
   ·exact absurd h4 ((hown x h3).2.2.1 k' o' y')
  ·rcases hl k' o' h2 with⟨rfl,rfl⟩|⟨e',y'⟩
   ·exact absurd h3 ((hown x h4).2.2.1 k o y)
   ·exact ok.dj k o k' o' x y y' h3 h4
 ·intro k o x p u h1 h2 h3
  rcases hl k o h1 with⟨rfl,rfl⟩|⟨e,y⟩
  ·exact (hown x h2).2.2.2 p u h3
  ·exact ok.dF k o x p u y h2 h3
def Gh.with(G:Gh)(k:Nat)(b n:Nat)(h:Value)(φ:Nat→Prop):Gh :=
 ⟨G.F,fun q=>if q=k then b else G.b q,fun q=>if q=k then n else G.n q,fun q=>if q=k then h else G.h q,fun q=>if q=k then φ else G.fp q⟩
theorem Gh.with_le (G:Gh)(k:Nat)(b n:Nat)(h:Value)(φ:Nat→Prop):G.le (G.with k b n h φ) k:=⟨fun _ _ h=>h,fun q hq=>if_neg (by omega),fun q hq=>if_neg (by omega),fun q hq=>if_neg (by omega)⟩
theorem Gh.with_fp (G:Gh)(k:Nat)(b n:Nat)(h:Value)(φ:Nat→Prop):∀ q,q<k→(G.with k b n h φ).fp q=G.fp q:=fun q hq=>if_neg (by omega)
theorem Ok.newBox (ok:Ok C σ G a w) {cells:List AV} {cs:Array Value} (T:TypeId) (hs:cs.size=cells.length) (hc:∀ (i:Nat) av u,cells[i]?=some av→cs[i]?=some u→R G av u) (hb:∀ (i:Nat) av,cells[i]?=some av→Bd σ.nk av) :
  ∃ G',G.le G' σ.nk∧G'.b σ.nk=w.heap.size∧Ok C (σ.new (.box T cells)) G' a (w.alloc (.cells cs T)):=by
 have hle:=G.with_le σ.nk w.heap.size 0 undef (fun x=>x=w.heap.size)
 have hfp:=G.with_fp σ.nk w.heap.size 0 undef (fun x=>x=w.heap.size)
 have hbl:∀ x,x<w.heap.size→(w.alloc (.cells cs T)).heap[x]?=w.heap[x]?:=fun x hx=>Below.heap_alloc w _ x hx
 have ok1:Ok C σ (G.with σ.nk w.heap.size 0 undef (fun x=>x=w.heap.size)) a (w.alloc (.cells cs T)) :=
  ok.world (S:=fun _=>False) hle hfp (Kept.below ((Below.refl _ _).alloc (Nat.le_refl _) _)) (fun _ h=>h.elim) (fun k o x h1 h2=>hbl x (ok.my k o x h1 h2).2)
   (fun p u h=>(World.cell?_of_block (hbl _ (cell_block (ok.fw p u h)))).trans (ok.fw p u h)) (fun _ _ h=>.inl h)
 have e1:(G.with σ.nk w.heap.size 0 undef (fun x=>x=w.heap.size)).b σ.nk=w.heap.size:=if_pos rfl
 have e2:(G.with σ.nk w.heap.size 0 undef (fun x=>x=w.heap.size)).fp σ.nk=fun x=>x=w.heap.size:=if_pos rfl
 refine ⟨_,hle,e1,ok1.add ⟨by rw [e1,e2],cs,fun _ _=>False,?_,hs,fun _ _ h=>h.elim,fun _ _ _ h=>h.elim,fun i av u x y=>.inl ((hc i av u x y).mono hle (hb i av x))⟩ (fun i av x=>(hb i av x).mono (Nat.le_succ _)) ?_⟩
 ·rw [e1];exact Blk.new w T cs
 ·intro x hx
  rw [e2] at hx
  obtain rfl:x=w.heap.size:=hx
  refine ⟨.inl ok.bel.size,by simp,fun k o h1 h2=>?_,fun p u h=>?_⟩
  ·rw [hfp k (ok.ob k o h1).1] at h2
   have:=(ok.my k o _ h1 h2).2
   omega
  ·have:=cell_block (ok.fw p u h)
   omega
theorem cells_of {av:AV} {v:Value} (r:R G av v)(hB:av.cellB=true):v.cells.size=av.cells.length∧∀ (i:Nat)x u,av.cells[i]?=some x→v.cells[i]?=some u→R G x u:=by
 have one:∀ (av:AV)(v:Value),R G av v→v.oneCell'=true→v.cells.size=[av].length∧∀ (i:Nat)x u,[av][i]?=some x→v.cells[i]?=some u→R G x u:=fun av v r h=>by
  have hv:v.cells=#[v]:=by cases v<;>first|rfl|cases h
  rw [hv]
  refine⟨rfl,fun i x u a b=>?_⟩
  cases i with
  | zero=>cases a;cases b;exact r
  | succ i=>simp at a
 cases av with
 | sc x =>
  have:=r.sc_eq
  subst this
  exact one _ _ r hB
 | ag l =>
  obtain⟨cs,rfl,h1,h2⟩:=r.ag_of
  exact⟨h1,h2⟩
 | tu l=>cases hB
 | ls n rows=>obtain⟨A,cap,ad,u,rfl,_⟩:=r.pu_of.ls_of;exact one _ _ r rfl
 | pr cells=>obtain⟨p,u,rfl,_⟩:=r.pr_of.pr_of;exact one _ _ r rfl
 | pt k i j=>obtain⟨p,rfl,_⟩:=r.pt_of;exact one _ _ r rfl
 | sl k=>exact one _ _ r r.sl_of.2
 | ow T n rows=>cases hB
 | fn f l=>obtain⟨cs,rfl,_⟩:=r.fn_of;exact one _ _ r rfl
theorem cells_bd {nk:Nat} {av:AV} (b:Bd nk av):∀ (i:Nat)x,av.cells[i]?=some x→Bd nk x:=by
 have one:∀ av:AV,Bd nk av→∀ (i:Nat)x,[av][i]?=some x→Bd nk x:=fun av b i x h=>by
  cases i with
  | zero=>cases h;exact b
  | succ i=>simp at h
 cases av with
 | ag l=>cases b with|ag _ h=>exact h
 | _=>exact one _ b
theorem WO.box {T:TypeId} {x:Operand} {av:AV} {l:List AV} {n:Nat} (ho:o.op=.box T x) (hds:o.dst=some d) (hd:Nat.blt d C.N=true) (hx:σ.ev x=some av) (hB:av.cellB=true) (hl:av.cells=l) (hn:σ.nk=n):WO P C o σ ((σ.new (.box T l)).put d (.pt n 0 0)):=by
 intro G a w ok N Q' hN
 obtain ⟨hb,hr⟩:=ok.evr hx
 obtain ⟨h1,h2⟩:=cells_of hr hB
 obtain ⟨G',hle,hbb,ok'⟩:=ok.newBox T h1 h2 (cells_bd hb)
 unfold Oper.wp execOp
 simp only [ho,Instr.box,newVar,newRow,Sem.run_bind,Sem.run_pure,run_newObj,Result.andThen_ok]
 show N (a.put o.dst _) _
 rw [hds]
 subst hl hn
 exact hN G' _ _ (ok'.set (d:=some d) (.pt σ.nk 0 0 _ hbb.symm (by simp) rfl) (.pt _ _ _ (Nat.lt_succ_self _)) fun x hx=>by cases hx;exact of_blt hd)
theorem WO.alloc {T:TypeId} {z:Value} {l:List AV} {n:Nat} (ho:o.op=.alloc T) (hz:(P.info? T).bind (·.zero)=some z) (hds:o.dst=some d) (hd:Nat.blt d C.N=true) (hl:z.cells.toList.map .sc=l) (hn:σ.nk=n):WO P C o σ ((σ.new (.box T l)).put d (.pt n 0 0)):=by
 intro G a w ok N Q' hN
 have hc:∀ (i:Nat) av u,l[i]?=some av→z.cells[i]?=some u→R G av u:=fun i av u x y=>by
  rw [← hl,List.getElem?_map] at x
  rw [show z.cells.toList[i]?=z.cells[i]? by simp,y] at x
  cases x
  exact .pu _ _ (.sc _)
 have hb:∀ (i:Nat) av,l[i]?=some av→Bd σ.nk av:=fun i av x=>by
  rw [← hl,List.getElem?_map] at x
  cases hq:z.cells.toList[i]? with
  | none=>simp [hq] at x
  | some u=>simp [hq] at x;rw [← x];exact .sc _
 obtain ⟨G',hle,hbb,ok'⟩:=ok.newBox (cells:=l) (cs:=z.cells) T (by rw [← hl];simp) hc hb
 cases hi:P.info? T with
 | none=>simp [hi] at hz
 | some i =>
  simp [hi] at hz
  unfold Oper.wp execOp
  simp only [ho,Instr.alloc,zeroValue,typeInfo,newVar,newRow,Sem.run_bind,Sem.run_pure,run_newObj,Result.andThen_ok,run_program,hi,hz]
  show N (a.put o.dst _) _
  rw [hds]
  subst hn
  exact hN G' _ _ (ok'.set (d:=some d) (.pt σ.nk 0 0 _ hbb.symm (by simp) rfl) (.pt _ _ _ (Nat.lt_succ_self _)) fun x hx=>by cases hx;exact of_blt hd)
end
end
section
open Go.RowKit
def putL {α:Type}:Nat→List α→List α→List α
 | 0,[],cs=>cs
 | 0,x::l,_::cs=>x::putL 0 l cs
 | j+1,l,c::cs=>c::putL j l cs
 | _,_,[]=>[]
theorem putL_eq {α:Type}:∀ (j:Nat)(l cs:List α),j+l.length≤cs.length→putL j l cs=cs.take j++l++cs.drop (j+l.length)
 | 0,[],cs,_=>by simp [putL]
 | 0,x::l,[],h=>by simp at h
 | 0,x::l,c::cs,h=>by
  have:=putL_eq 0 l cs (by simp at h ⊢;omega)
  simp [putL,this]
 | j+1,l,[],h=>by simp at h
 | j+1,l,c::cs,h=>by
  have:=putL_eq j l cs (by simp at h;omega)
  simp [putL,this,Nat.add_right_comm]
theorem putL_len {α:Type} {j:Nat} {l cs:List α} (h:j+l.length≤cs.length):(putL j l cs).length=cs.length:=by
 rw [putL_eq j l cs h];simp;omega
theorem putL_at {α:Type} {j:Nat} {l cs:List α} (h:j+l.length≤cs.length)(i:Nat):(putL j l cs)[i]?=if j≤i∧i<j+l.length then l[i-j]? else cs[i]?:=by
 rw [putL_eq j l cs h]
 by_cases h1:i<j
 ·rw [if_neg (by omega),List.append_assoc,List.getElem?_append_left (by simp;omega),List.getElem?_take_of_lt h1]
 ·by_cases h2:i<j+l.length
  ·rw [if_pos (by omega),List.getElem?_append_left (by simp;omega),List.getElem?_append_right (by simp;omega)]
   simp [Nat.min_eq_left (show j≤cs.length by omega)]
  ·rw [if_neg (by omega),List.getElem?_append_right (by simp;omega),List.getElem?_drop]
   congr 1;simp;omega
theorem putL_rel {α β:Type} (Q:α→β→Prop) {j:Nat} {l cs:List α} {m ds:List β} (h:j+l.length≤cs.length)(hm:m.length=l.length)(hd:ds.length=cs.length)
  (h1:∀ (i:Nat)x y,l[i]?=some x→m[i]?=some y→Q x y)(h2:∀ (i:Nat)x y,cs[i]?=some x→ds[i]?=some y→Q x y):∀ (i:Nat)x y,(putL j l cs)[i]?=some x→(putL j m ds)[i]?=some y→Q x y:=by
 intro i x y hx hy
 rw [putL_at h]at hx
 rw [putL_at (by omega)]at hy
 rw [hm]at hy
 by_cases e:j≤i∧i<j+l.length
 ·rw [if_pos e]at hx hy;exact h1 _ _ _ hx hy
 ·rw [if_neg e]at hx hy;exact h2 _ _ _ hx hy
theorem flat_put {n:Nat}:∀ (vs:List (List Value)),(∀ r∈vs,r.length=n)→∀ (i j:Nat) (r l:List Value),vs[i]?=some r→j+l.length≤n→(vs.set i (putL j l r)).flatten=putL (i*n+j) l vs.flatten:=by
 intro vs
 induction vs with
 | nil=>intro _ i j r l h;simp at h
 | cons v t ih =>
  intro hn i j r l h hj
  have hv:v.length=n:=hn v (by simp)
  cases i with
  | zero =>
   obtain rfl:v=r:=by simpa using h
   have hf:j+l.length≤(v++t.flatten).length:=by simp;omega
   rw [List.set_cons_zero,List.flatten_cons,List.flatten_cons,Nat.zero_mul,Nat.zero_add,putL_eq j l v (by omega),putL_eq j l _ hf]
   simp only [List.append_assoc]
   rw [List.take_append_of_le_length (by omega),List.drop_append_of_le_length (by omega)]
  | succ i =>
   have ht:∀ r∈t,r.length=n:=fun r hr=>hn r (by simp [hr])
   have h':t[i]?=some r:=by simpa using h
   have hi:i<t.length:=(List.getElem?_eq_some_iff.1 h').1
   have hfl:t.flatten.length=t.length*n:=flatten_len ht
   have hle:i*n+n≤t.length*n:=by
    have:(i+1)*n≤t.length*n:=Nat.mul_le_mul_right n hi
    rw [Nat.succ_mul] at this;exact this
   rw [List.set_cons_succ,List.flatten_cons,List.flatten_cons,ih ht i j r l h' hj,Nat.succ_mul,
    putL_eq _ l t.flatten (by rw [hfl];omega),putL_eq _ l (v++t.flatten) (by simp only [List.length_append];rw [hfl];omega)]
   have e1:List.take (i*n+n+j) v=v:=List.take_of_length_le zqo
   have e2:List.drop (i*n+n+j+l.length) v=[]:=List.drop_eq_nil_of_le zqo
   rw [List.take_append,List.drop_append,e1,e2]
   rw [show i*n+n+j-v.length=i*n+j by omega,show i*n+n+j+l.length-v.length=i*n+j+l.length by omega]
   simp
def AV.pu00:AV→Bool
 | .sc _=>true
 | .ls _ _=>true
 | .pr _=>true
 | _=>false
def AV.pu0:AV→Bool
 | .fn _ l=>l.all AV.pu00
 | av=>av.pu00
theorem pu00_bd {av:AV} (h:av.pu00=true)(nk:Nat):Bd nk av:=by
 cases av<;>first|exact .sc _|exact .ls _ _|exact .pr _|cases h
theorem pu0_own {av:AV} (h:av.pu0=true):av.own=false:=by cases av<;>first|rfl|cases h
theorem pu0_bd {av:AV} (h:av.pu0=true)(nk:Nat):Bd nk av:=by
 cases av with
 | fn f l=>exact .fn f l fun i x hx=>pu00_bd (List.all_eq_true.1 h x (List.mem_of_getElem? hx)) nk
 | sc v=>exact .sc v
 | ls n rows=>exact .ls n rows
 | pr cells=>exact .pr cells
 | _=>cases h
def AO.put:AO→Nat→Nat→List AV→Option AO
 | .box T cells,0,j,l=>bif Nat.ble (j+l.length) cells.length then some (.box T (putL j l cells)) else none
 | .box _ _,_+1,_,_=>none
 | .row T n rows,i,j,l =>
  match rows[i]? with
  | some r=>if j+l.length≤r.length∧l.all AV.pu0=true then some (.row T n (rows.set i (putL j l r))) else none
  | none=>none
 | .rwn T n rows,i,j,l =>
  match rows[i]? with
  | some r=>if j+l.length≤r.length∧l.all AV.pu0=true then some (.rwn T n (rows.set i (putL j l r))) else none
  | none=>none
 | .rof _ _ _ _ _ _,_,_,_=>none
 | .rwo _ _ _ _ _ _,_,_,_=>none
 | .bld _ _ _,_,_,_=>none
 | .opq _,_,_,_=>none
section
variable {P:Program} {C:Cx} {σ σ':St} {G G':Gh} {a:Act} {w w':World} {o:Oper} {d:Tmp}
theorem kept_setRow (w:World)(g:Nat)(cur:Array Value):Kept (fun x=>x=g) w (w.setRow g cur) :=
 ⟨rfl,rfl,rfl,by simp,fun k _ hk=>setRow_other w g k cur hk⟩
theorem Ok.write (ok:Ok C σ G a w) {k g:Nat} {ob ob':AO} (cur:Array Value) (hk:look k σ.M=some ob) (hg:G.fp k g) (hob:ObAt G (w.setRow g cur) k ob') (hbd:ob'.bd σ.nk) :
  Ok C (σ.upd k ob') G a (w.setRow g cur):=by
 have hl:∀ k' o,look k' (σ.upd k ob').M=some o→(k'=k∧o=ob')∨(k'≠k∧look k' σ.M=some o):=fun k' o hx=>by
  by_cases e:k'=k
  ·subst e
   rw [show look k' (σ.upd k' ob').M=some ob' from look_set_same] at hx
   cases hx
   exact .inl ⟨rfl,rfl⟩
  ·rw [show look k' (σ.upd k ob').M=look k' σ.M from look_set_other e] at hx
   exact .inr ⟨e,hx⟩
 have hne:∀ k' o x,k'≠k→look k' σ.M=some o→G.fp k' x→x≠g:=fun k' o x e h1 h2 h3=>by
  subst h3;exact e (ok.dj k' o k ob x h1 hk h2 hg)
 have hsz:(w.setRow g cur).heap.size=w.heap.size:=by simp
 have some_:∀ k' o,look k' (σ.upd k ob').M=some o→∃ o',look k' σ.M=some o':=fun k' o h=>by
  rcases hl k' o h with⟨rfl,_⟩|⟨_,y⟩
  ·exact ⟨ob,hk⟩
  ·exact ⟨o,y⟩
 refine ⟨ok.sz,ok.df,ok.tm,ok.bel.on (kept_setRow w g cur) (fun x hx=>by subst hx;exact (ok.my k ob x hk hg).1),fun p u h=>?_,ok.f0,ok.f1,?_,?_,?_,?_⟩
 ·rw [World.cell?_of_block (setRow_other w g p.block cur (ok.dF k ob g p u hk hg h))];exact ok.fw p u h
 ·intro k' o x
  rcases hl k' o x with⟨rfl,rfl⟩|⟨e,y⟩
  ·exact ⟨(ok.ob k' ob hk).1,hbd,hob⟩
  ·exact ⟨(ok.ob k' o y).1,(ok.ob k' o y).2.1,(ok.ob k' o y).2.2.keep (Gh.le.refl _ _) (ok.ob k' o y).1 (ok.ob k' o y).2.1 rfl fun x hx=>setRow_other w g x cur (hne k' o x e y hx)⟩
 ·intro k' o x h1 h2
  obtain ⟨o',y⟩:=some_ k' o h1
  rw [hsz]
  exact ok.my k' o' x y h2
 ·intro k1 o1 k2 o2 x h1 h2 h3 h4
  obtain ⟨o1',y1⟩:=some_ k1 o1 h1
  obtain ⟨o2',y2⟩:=some_ k2 o2 h2
  exact ok.dj k1 o1' k2 o2' x y1 y2 h3 h4
 ·intro k1 o1 x p u h1 h2 h3
  obtain ⟨o1',y1⟩:=some_ k1 o1 h1
  exact ok.dF k1 o1' x p u y1 h2 h3
theorem oneB_of {av:AV} {v:Value} (r:R G av v)(h:av.oneB=true):v.oneCell'=true:=by
 cases av with
 | sc x=>rw [r.sc_eq];exact h
 | ag l=>cases h
 | tu l=>cases h
 | ls n rows=>obtain⟨A,cap,ad,u,rfl,_⟩:=r.pu_of.ls_of;rfl
 | ow T n rows=>cases h
 | pr cells=>obtain⟨p,u,rfl,_⟩:=r.pr_of.pr_of;rfl
 | pt k i j=>obtain⟨p,rfl,_⟩:=r.pt_of;rfl
 | sl k=>exact r.sl_of.2
 | fn f l=>obtain⟨cs,rfl,_⟩:=r.fn_of;rfl
theorem take_put {cur:List Value} {K off:Nat} {l:List Value} (h:off+l.length≤K)(hK:K≤cur.length):(putL off l cur).take K=putL off l (cur.take K):=by
 apply List.ext_getElem?
 intro i
 have hl:off+l.length≤(cur.take K).length:=by simp;omega
 rw [putL_at hl]
 by_cases e:i<K
 ·rw [List.getElem?_take_of_lt e,putL_at (by omega)]
  by_cases e2:off≤i∧i<off+l.length
  ·rw [if_pos e2,if_pos e2]
  ·rw [if_neg e2,if_neg e2,List.getElem?_take_of_lt e]
 ·rw [if_neg (by omega),List.getElem?_eq_none (by simp;omega),List.getElem?_eq_none (by simp;omega)]
theorem RowIs.put {T n:Nat} {rows:List (List AV)} {v:Value} {φ:Nat→Prop} {X X':Nat→Nat→(Nat→Prop)→AV→Value→Prop} (h:RowIs w T n rows v φ X) {i j:Nat} {r l:List AV} {us:List Value} (hr':rows[i]?=some r) (hle:j+l.length≤r.length) (hcl:us.length=l.length)
  (hone:∀ u∈us,u.oneCell'=true) {g:Nat} {cur:Array Value} {t:TypeId} (hh:w.heap[g]?=some (.cells cur t (0,0))) (hvg:v.ownBlock=some g)
  (hnew:∀ (s:Nat) x u ψ,l[s]?=some x→us[s]?=some u→X' i (j+s) ψ x u)
  (hold:∀ (q s:Nat) ψ x u,(∀ z,ψ z→z≠g)→¬ (q=i∧j≤s∧s<j+l.length)→X q s ψ x u→X' q s ψ x u) :
  i*n+j+us.length≤cur.size∧RowIs (w.setRow g (putL (i*n+j) us cur.toList).toArray) T n (rows.set i (putL j l r)) v φ X':=by
 obtain ⟨hrl,vs,Φ,h4,h5,h7,hgf,hΦ,hΦd,h8,h6⟩:=h
 have hi:i<rows.length:=(List.getElem?_eq_some_iff.1 hr').1
 have hv':vs[i]?=some vs[i]:=List.getElem?_eq_getElem (by omega)
 have e1:=h8 i r _ hr' hv'
 have hvl:∀ r∈vs,r.length=n:=by
  intro r' hr'
  obtain ⟨q,hq,rfl⟩:=List.getElem_of_mem hr'
  have:=h8 q rows[q] vs[q] (List.getElem?_eq_getElem (by omega)) (List.getElem?_eq_getElem hq)
  rw [this];exact hrl _ (List.getElem_mem _)
 have hrn:r.length=n:=hrl r (List.mem_of_getElem? hr')
 rcases h4.2 with⟨_,e0⟩|⟨g',cap,cur',e,hbase,hh',hnc,hcm,hcs,ht⟩
 ·omega
 ·obtain rfl:g'=g:=by rw [e] at hvg;exact Option.some.inj hvg
  obtain ⟨rfl,rfl⟩:cur'=cur∧T=t:=by rw [hh] at hh';cases hh';exact ⟨rfl,rfl⟩
  have hin:i*n+n≤vs.length*n:=by
   have:(i+1)*n≤vs.length*n:=Nat.mul_le_mul_right n zqo
   rw [Nat.succ_mul] at this;exact this
  have hcap:vs.length*n≤cap*n:=Nat.mul_le_mul_right n hnc
  have hfp:=flat_put vs hvl i j vs[i] us hv' zqo
  have hvl':∀ r∈vs.set i (putL j us vs[i]),r.length=n:=by
   intro q hq
   rcases List.mem_or_eq_of_mem_set hq with hq|rfl
   ·exact hvl q hq
   ·rw [putL_len (by omega)];omega
  refine ⟨by rw [hcs];omega,?_,vs.set i (putL j us vs[i]),fun q s x=>¬ (q=i∧j≤s∧s<j+l.length)∧Φ q s x,⟨?_,.inr ⟨g',cap,_,?_,hbase,setRow_heap w _ _ _ _ _ hh,?_,hcm,?_,?_⟩⟩,by simp [h5],?_,hgf,fun q s x hx=>hΦ q s x hx.2,fun q s q' s' x h1 h2=>hΦd q s q' s' x h1.2 h2.2,?_,?_⟩
  ·intro q hq
   rcases List.mem_or_eq_of_mem_set hq with hq|rfl
   ·exact hrl q hq
   ·rw [putL_len (by omega)];exact hrn
  ·rw [flatten_len hvl']
  ·rw [e];simp
  ·simpa using hnc
  ·rw [List.size_toArray,putL_len (by rw [hcl];simp [hcs];omega)];simpa using hcs
  ·rw [hfp,List.length_set,take_put (by omega) (by simp [hcs];omega),ht]
  ·intro q hq u hu
   rcases List.mem_or_eq_of_mem_set hq with hq|rfl
   ·exact h7 q hq u hu
   ·obtain ⟨s,hs,rfl⟩:=List.getElem_of_mem hu
    have:=putL_at (j:=j) (l:=us) (cs:=vs[i]) zqo s
    rw [List.getElem?_eq_getElem hs] at this
    split at this
    ·exact hone _ (List.mem_of_getElem? this.symm)
    ·exact h7 _ (List.getElem_mem _) _ (List.mem_of_getElem? this.symm)
  ·intro q r1 r2 hq1 hq2
   by_cases eq:q=i
   ·subst eq
    rw [List.getElem?_set_self (by omega)] at hq1 hq2
    cases hq1;cases hq2
    rw [putL_len (by omega),putL_len hle];exact e1
   ·rw [List.getElem?_set_ne (fun h=>eq h.symm)] at hq1 hq2
    exact h8 q r1 r2 hq1 hq2
  ·intro q r1 r2 s x u hq1 hq2 hs hu
   have hne:∀ z,(¬ (q=i∧j≤s∧s<j+l.length)∧Φ q s z)→z≠g':=fun z hz h=>(hΦ q s z hz.2).2 (by rw [e,h];rfl)
   by_cases eq:q=i
   ·subst eq
    rw [List.getElem?_set_self (by omega)] at hq1 hq2
    cases hq1;cases hq2
    rw [putL_at hle] at hs
    rw [putL_at (by omega),hcl] at hu
    by_cases e3:j≤s∧s<j+l.length
    ·rw [if_pos e3] at hs hu
     have:=hnew (s-j) x u (fun z=>¬ (q=q∧j≤s∧s<j+l.length)∧Φ q s z) hs hu
     rwa [show j+(s-j)=s by omega] at this
    ·rw [if_neg e3] at hs hu
     have h61:=h6 q r _ s x u hr' hv' hs hu
     have:(fun z=>¬ (q=q∧j≤s∧s<j+l.length)∧Φ q s z)=Φ q s:=by
      funext z
      exact propext ⟨fun h=>h.2,fun h=>⟨fun h'=>e3 h'.2,h⟩⟩
     show X' q s (fun z=>¬ (q=q∧j≤s∧s<j+l.length)∧Φ q s z) x u
     rw [this]
     exact hold q s (Φ q s) x u (fun z hz=>hne z ⟨fun h'=>e3 h'.2,hz⟩) (fun h'=>e3 h'.2) h61
   ·rw [List.getElem?_set_ne (fun h=>eq h.symm)] at hq1 hq2
    have h61:=h6 q r1 r2 s x u hq1 hq2 hs hu
    have:(fun z=>¬ (q=i∧j≤s∧s<j+l.length)∧Φ q s z)=Φ q s:=by
     funext z
     exact propext ⟨fun h=>h.2,fun h=>⟨fun h'=>eq h'.1,h⟩⟩
    show X' q s (fun z=>¬ (q=i∧j≤s∧s<j+l.length)∧Φ q s z) x u
    rw [this]
    exact hold q s (Φ q s) x u (fun z hz=>hne z ⟨fun h'=>eq h'.1,hz⟩) (fun h'=>eq h'.1) h61
theorem RowIs.blk {T n:Nat} {rows:List (List AV)} {v:Value} {φ:Nat→Prop} {X:Nat→Nat→(Nat→Prop)→AV→Value→Prop} (h:RowIs w T n rows v φ X)(hp:0<rows.length):∃ g cur,v.ownBlock=some g∧φ g∧w.heap[g]?=some (.cells cur T (0,0)):=by
 obtain⟨hrl,vs,Φ,h4,h5,h7,hgf,_⟩:=h
 rcases h4.2 with⟨_,e0⟩|⟨g,cap,cur,e,_,hh,_⟩
 ·omega
 ·have:v.ownBlock=some g:=by rw [e];rfl
  exact⟨g,cur,this,hgf g this,hh⟩
theorem WO.store {T m:Nat} {x y:Operand} {k i j:Nat} {ob ob':AO} {av:AV} {l:List AV} (ho:o.op=.store T x y) (hds:o.dst=none) (hn:sizeB P T=some m) (hx:σ.ev x=some (.pt k i j)) (hk:look k σ.M=some ob) (hy:σ.ev y=some av)
  (hB:av.cellB=true) (hl:av.cells=l) (hm:l.length=m) (h1:l.all AV.oneB=true) (hp:ob.put i j l=some ob'):WO P C o σ (σ.upd k ob'):=by
 intro G a w ok N Q' hN
 obtain ⟨p,ep,p1,p2,p3⟩:=(ok.evr hx).2.pt_of
 obtain ⟨hb,hr⟩:=ok.evr hy
 obtain ⟨c1,c2⟩:=cells_of hr hB
 have cb:=cells_bd hb
 rw [hl] at c1 c2 cb
 obtain ⟨v,hv⟩:∃ v,a.eval y=v:=⟨_,rfl⟩
 rw [hv] at c1 c2
 have hone:∀ u∈v.cells.toList,u.oneCell'=true:=fun u hu=>by
  obtain ⟨q,hq,rfl⟩:=List.getElem_of_mem hu
  have hq':q<l.length:=by simpa [c1] using hq
  exact oneB_of (c2 q l[q] _ (List.getElem?_eq_getElem hq') (by simp at hq;simp [hq])) (List.all_eq_true.1 h1 _ (List.getElem_mem hq'))
 obtain rfl:=addr_eq p1 p2 p3
 have fin:∀ (g:Nat) (cur:Array Value) (t:TypeId),w.heap[g]?=some (.cells cur t (0,0))→g=G.b k→i*G.n k+j+l.length≤cur.size→G.fp k g→ob'.bd σ.nk →
   (ObAt G (w.setRow g (putL (i*G.n k+j) v.cells.toList cur.toList).toArray) k ob')→o.wp P a w N Q':=fun g cur t hg hgb hle hown hbd hob=>by
  have hst:=run_storeCells_at P g (i*G.n k+j) t v.cells.toList 0 cur w hg (by simp [c1];omega) hone
  rw [Nat.add_zero,← putL_eq _ _ _ (by simp [c1];omega)] at hst
  unfold Oper.wp execOp
  simp only [ho,ep,hv,Instr.storeAt,Instr.sureAddr,storeVar,Sem.run_bind,Sem.run_pure,Result.andThen_ok,run_sizeB hn,← hgb,hst]
  rw [if_neg (by rw [c1,hm];simp)]
  simp only [Sem.run_bind,Sem.run_pure,Result.andThen_ok,hst,Oper.upon]
  rw [hds]
  exact hN G _ _ (ok.write _ hk hown hob hbd)
 have hobk:=ok.ob k ob hk
 cases ob with
 | box T' cells =>
  cases i with
  | succ i=>simp [AO.put] at hp
  | zero =>
   simp only [AO.put] at hp
   cases hle:Nat.ble (j+l.length) cells.length with
   | false=>simp [hle] at hp
   | true =>
    simp [hle] at hp
    subst hp
    have hle:=Nat.le_of_ble_eq_true hle
    obtain ⟨hf,cs,Φ,hbk,hs,hΦ,hΦd,hc⟩:=hobk.2.2
    refine fin (G.b k) cs T' hbk rfl (by rw [hs];simpa using hle) hf (fun q x hx=>?_) ⟨hf,_,fun q x=>¬ (j≤q∧q<j+l.length)∧Φ q x,setRow_heap w _ _ _ _ _ hbk,?_,fun q x hx=>hΦ q x hx.2,fun q q' x h1 h2=>hΦd q q' x h1.2 h2.2,?_⟩
    ·rw [putL_at hle] at hx
     split at hx
     ·exact cb _ x hx
     ·exact hobk.2.1 _ x hx
    ·simp only [Nat.zero_mul,Nat.zero_add,List.size_toArray]
     rw [putL_len (by simp [c1,hs];exact hle),putL_len hle];simpa using hs
    ·intro q x u hx hu
     simp only [Nat.zero_mul,Nat.zero_add,List.getElem?_toArray] at hu
     rw [putL_at hle] at hx
     rw [putL_at (by simp [c1,hs];exact hle)] at hu
     simp only [Array.length_toList,c1] at hu
     by_cases e:j≤q∧q<j+l.length
     ·rw [if_pos e] at hx hu
      exact .inl (c2 _ x u hx (by simpa using hu))
     ·rw [if_neg e] at hx hu
      refine ((hc q x u hx (by simpa using hu)).keep (Gh.le.refl _ σ.nk) (hobk.2.1 q x hx) fun z hz=>setRow_other w _ z _ (hΦ q z hz).2).wide fun z hz=>⟨e,hz⟩
 | row T' n rows =>
  simp only [AO.put] at hp
  cases hr':rows[i]? with
  | none=>simp [hr'] at hp
  | some r =>
   simp only [hr'] at hp
   by_cases hcond:j+l.length≤r.length∧l.all AV.pu0=true
   ·rw [if_pos hcond] at hp
    cases hp
    obtain ⟨hle,hpu⟩:=hcond
    obtain ⟨hn',hg,hR⟩:=hobk.2.2
    obtain ⟨g,cur,hvg,hφg,hh⟩:=hR.blk (by have:=(List.getElem?_eq_some_iff.1 hr').1;omega)
    have hgb:=hg g hvg
    obtain ⟨q1,q2⟩:=hR.put (X':=XP G.F) hr' hle (us:=v.cells.toList) (by simpa using c1) hone hh hvg (fun s x u ψ hs hu=>(pu0_bd (List.all_eq_true.1 hpu x (List.mem_of_getElem? hs)) 0).rp (c2 s x u hs (by simpa using hu))) (fun q s ψ x u _ _ h=>h)
    refine fin g cur T' hh hgb (by rw [hn'];simpa [c1] using q1) hφg trivial ⟨hn',hg,?_⟩
    rw [hn'];exact q2
   ·rw [if_neg hcond] at hp;cases hp
 | rwn T' n rows =>
  simp only [AO.put] at hp
  cases hr':rows[i]? with
  | none=>simp [hr'] at hp
  | some r =>
   simp only [hr'] at hp
   by_cases hcond:j+l.length≤r.length∧l.all AV.pu0=true
   ·rw [if_pos hcond] at hp
    cases hp
    obtain ⟨hle,hpu⟩:=hcond
    obtain ⟨hn',hg,hR⟩:=hobk.2.2
    obtain ⟨g,cur,hvg,hφg,hh⟩:=hR.blk (by have:=(List.getElem?_eq_some_iff.1 hr').1;omega)
    have hgb:=hg g hvg
    obtain ⟨q1,q2⟩:=hR.put (X':=XO G.F (w.setRow g (putL (i*n+j) v.cells.toList cur.toList).toArray)) hr' hle (us:=v.cells.toList) (by simpa using c1) hone hh hvg (fun s x u ψ hs hu=>.pu _ _ _ ((pu0_bd (List.all_eq_true.1 hpu x (List.mem_of_getElem? hs)) 0).rp (c2 s x u hs (by simpa using hu))))
     (fun q s ψ x u hne _ h=>OW.keep (fun _ _ h=>h) h fun z hz=>setRow_other w _ z _ (hne z hz))
    refine fin g cur T' hh hgb (by rw [hn'];simpa [c1] using q1) hφg trivial ⟨hn',hg,?_⟩
    rw [hn'];exact q2
   ·rw [if_neg hcond] at hp;cases hp
 | rof T' n rows hi hj y=>cases hp
 | rwo T' n rows hi hj y=>cases hp
 | bld T' e l'=>cases hp
 | opq q=>cases hp
end
end
end Go.Proofs.YtaeelcfjkhfpkaaGreat
