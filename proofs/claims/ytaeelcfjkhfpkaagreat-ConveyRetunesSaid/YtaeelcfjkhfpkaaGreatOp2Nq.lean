/- Arguments opened: pieces. -/
import Derived.Test.YtaeelcfjkhfpkaaGreatBwNq
set_option maxHeartbeats 8000000
set_option maxRecDepth 100000
set_option linter.unusedVariables false
set_option linter.unusedSimpArgs false
namespace Go.Proofs.YtaeelcfjkhfpkaaGreat
section
open Go.RowKit Go.WideShapes Go.ChangeShapes Go.Joins Go.Deep
theorem list_of {α:Type} {Q:Nat→α→Prop}:∀ (n:Nat),(∀ i,i<n→∃ x,Q i x)→∃ l:List α,l.length=n∧∀ i (h:i<l.length),Q i l[i]:=by
 intro n
 induction n with
 | zero=>intro _;exact⟨[],rfl,fun i h=>absurd h (by simp)⟩
 | succ n ih =>
  intro h
  obtain⟨l,hl,hq⟩:=ih fun i hi=>h i zqo
  obtain⟨x,hx⟩:=h n zqo
  refine⟨l++[x],by simp [hl],fun i hi=>?_⟩
  by_cases e:i<l.length
  ·rw [List.getElem_append_left e];exact hq i e
  ·have:i=n:=by simp at hi;omega
   subst this
   rw [List.getElem_append_right (by omega)]
   simpa [hl]using hx
section
variable {H:Type} {enc:TypeId×Value→H} {P:Program} {w w':World} {base:Nat} {spare:Nat→Bool} {held:Bool}
theorem trodAll_carry:∀ {ts:List TypeId} {vs:List Value} {ds:List (DataW H)} {ps:List MemPlace},DataW.TrodAll enc P w base spare held ts vs ds ps→(∀ p∈ps,w.sameAt w' p)→DataW.TrodAll enc P w' base spare held ts vs ds ps
 | [],[],[],_,h,_=>h
 | _::_,_::_,_::_,_,⟨p,q,⟨n,h1⟩,h2,e⟩,hs=>⟨p,q,⟨n,DataW.trod_carry n _ _ _ h1 (fun x hx=>hs x (by rw [e];exact List.mem_append_left _ hx))⟩,trodAll_carry h2 (fun x hx=>hs x (by rw [e];exact List.mem_append_right _ hx)),e⟩
theorem args_keep {W W':World} {T:TypeId→Prop} {sp:Nat→Bool} (K:Kids P T)(hz:∀ t e,T t→P.underlying t=some (.slice e)→0<P.cellsOf e) {ts:List TypeId} {vs:List Value} {ds:List (DataW H)} {ps:List MemPlace} (hT:∀ t∈ts,T t)
  (h:DataW.TrodAll enc P W 0 (fun _=>true) true ts vs ds ps)(hb:Below W.heap.size W W')(hlt:∀ p∈ps,p.block<W.heap.size)(hs:∀ p∈ps,sp p.block=true):DataW.TrodAll enc P W' 0 sp true ts vs ds ps :=
 DataW.TrodAll.respare K hz hT (trodAll_carry h fun p hp=>hb.same (hlt p hp)) hs
end
theorem typesKids:Kids Tryz.prog (·<Tryz.prog.types.size):=kids_rows (by kernel_rfl) (by kernel_rfl)
theorem slicesFull:∀ t e,t<Tryz.prog.types.size→Tryz.prog.underlying t=some (.slice e)→0<Tryz.prog.cellsOf e:=slices_full_of Tryz.prog (by kernel_rfl)
section
variable {H:Type} {enc:TypeId×Value→H} {w:World} {base:Nat} {spare:Nat→Bool} {held:Bool}
theorem cellsCourse:Tryz.prog.cellsOf 70=3:=by kernel_rfl
theorem cellsInt:Tryz.prog.cellsOf 3=1:=by kernel_rfl
theorem cellsBool:Tryz.prog.cellsOf 4=1:=by kernel_rfl
theorem cellsCourses:Tryz.prog.cellsOf 23=1:=by kernel_rfl
theorem cellsInts:Tryz.prog.cellsOf 24=1:=by kernel_rfl
theorem cellsInstrument:Tryz.prog.cellsOf 26=2:=by kernel_rfl
theorem open_courses {n:Nat} {v:Value} {x:DataW H×List MemPlace} (h:DataW.trod enc Tryz.prog w base spare held n 23 [v]=some x) :
    ∃ (A:Option Addr)(c:Nat)(cs:List (Int×Int×Bool)),v=.slice A cs.length c∧cs.length≤maxLen∧Rd w w.heap.size 3 A (cs.map crsCells):=by
  rcases open_slice (P:=Tryz.prog) Tryz.underlying23 h with⟨h0,_⟩|⟨a,len,cap,m,n',D,Pl,hcs,hb,hl,hm,hmm,_,hi⟩
  · obtain rfl:v=.slice none 0 0:=by simpa using h0
    exact⟨none,0,[],rfl,by simp,Rd.none_⟩
  · obtain rfl:v=.slice (some a) len cap:=by simpa using hcs
    have hlm:len≤m:=by rw [hmm];split <;> omega
    obtain⟨cs,hlen,hq⟩:=list_of (Q:=fun i (x:Int×Int×Bool) => w.cell? (a.add (i*3))=some (.int .i64 x.1)∧w.cell? (a.add (i*3+1))=some (.int .i64 x.2.1)∧w.cell? (a.add (i*3+2))=some (.bool x.2.2)) len (fun i hil => by
      obtain⟨cs',hc,ht'⟩:=hi i zqo
      rw [cellsCourse] at hc
      obtain⟨ys,n2,_,_,hlen,_,hf⟩:=DataW.trod_struct Tryz.underlying70 ht'
      obtain⟨_,hcl,hat⟩:=World.cells?_some hc
      match cs',hcl with
      | [u0,u1,u2],_ =>
        have f0:DataW.trod enc Tryz.prog w base spare held n2 3 [u0]=ys[0]?:=by simpa [cellsInt] using hf 0 _ rfl
        have f1:DataW.trod enc Tryz.prog w base spare held n2 3 [u1]=ys[1]?:=by simpa [cellsInt] using hf 1 _ rfl
        have f2:DataW.trod enc Tryz.prog w base spare held n2 4 [u2]=ys[2]?:=by simpa [cellsBool] using hf 2 _ rfl
        have g0:=hat 0 zqo
        have g1:=hat 1 zqo
        have g2:=hat 2 zqo
        simp only [add_of_add,Nat.add_zero,List.getElem?_cons_zero,List.getElem?_cons_succ] at g0 g1 g2
        obtain⟨y0,hy0⟩:∃ y,ys[0]?=some y :=⟨_,List.getElem?_eq_getElem (by rw [‹ys.length=_›];decide)⟩
        obtain⟨y1,hy1⟩:∃ y,ys[1]?=some y :=⟨_,List.getElem?_eq_getElem (by rw [‹ys.length=_›];decide)⟩
        obtain⟨y2,hy2⟩:∃ y,ys[2]?=some y :=⟨_,List.getElem?_eq_getElem (by rw [‹ys.length=_›];decide)⟩
        rw [hy0] at f0;rw [hy1] at f1;rw [hy2] at f2
        obtain⟨a0,e0,_,_⟩:=DataW.trod_int Tryz.underlying3 f0
        obtain⟨a1,e1,_,_⟩:=DataW.trod_int Tryz.underlying3 f1
        obtain⟨a2,e2,_⟩:=DataW.trod_bool Tryz.underlying4 f2
        simp only [List.cons.injEq,and_true] at e0 e1 e2
        subst e0 e1 e2
        exact⟨(a0,a1,a2),g0,g1,g2⟩)
    refine⟨some a,cap,cs,by rw [hlen],by omega,fun hpos =>⟨a,rfl,?_,?_⟩⟩
    · have hpos':0<cs.length:=by simpa using hpos
      have:=(hq 0 hpos').1
      have:=World.block_lt_of_cell? w _ this
      rwa [block_of_add] at this
    · intro k r hr j u hu
      rw [List.getElem?_map] at hr
      cases hk:cs[k]? with
      | none => rw [hk] at hr;cases hr
      | some x =>
        rw [hk] at hr
        obtain rfl:crsCells x=r:=by simpa using hr
        obtain⟨hkl,hkx⟩:=List.getElem?_eq_some_iff.1 hk
        have q:=hq k hkl
        rw [hkx] at q
        match j with
        | 0 => obtain rfl:Value.int .i64 x.1=u:=by simpa [crsCells] using hu
               simpa using q.1
        | 1 => obtain rfl:Value.int .i64 x.2.1=u:=by simpa [crsCells] using hu
               exact q.2.1
        | 2 => obtain rfl:Value.bool x.2.2=u:=by simpa [crsCells] using hu
               exact q.2.2
        | j+3 => simp [crsCells] at hu
theorem open_ints {n:Nat} {v:Value} {x:DataW H×List MemPlace} (h:DataW.trod enc Tryz.prog w base spare held n 24 [v]=some x) :
    ∃ (A:Option Addr)(c:Nat)(st:List Int),v=.slice A st.length c∧st.length≤maxLen∧Rd w w.heap.size 1 A (st.map intCell):=by
  rcases open_slice1 (P:=Tryz.prog) Tryz.underlying24 cellsInt h with⟨h0,_⟩|⟨a,len,cap,m,n',V,D,Pl,hcs,hb,hl,hm,hmm,_,hi⟩
  · obtain rfl:v=.slice none 0 0:=by simpa using h0
    exact⟨none,0,[],rfl,by simp,Rd.none_⟩
  · obtain rfl:v=.slice (some a) len cap:=by simpa using hcs
    have hlm:len≤m:=by rw [hmm];split <;> omega
    obtain⟨st,hlen,hq⟩:=list_of (Q:=fun i (x:Int) => w.cell? (a.add i)=some (.int .i64 x)) len (fun i hil => by
      obtain⟨hc,ht'⟩:=hi i zqo
      obtain⟨a0,e0,_,_⟩:=DataW.trod_int Tryz.underlying3 ht'
      simp only [List.cons.injEq,and_true] at e0
      exact⟨a0,by rw [hc,e0]⟩)
    refine⟨some a,cap,st,by rw [hlen],by omega,fun hpos =>⟨a,rfl,?_,?_⟩⟩
    · have hpos':0<st.length:=by simpa using hpos
      have:=World.block_lt_of_cell? w _ (hq 0 hpos')
      rwa [block_of_add] at this
    · intro k r hr j u hu
      rw [List.getElem?_map] at hr
      cases hk:st[k]? with
      | none => rw [hk] at hr;cases hr
      | some x =>
        rw [hk] at hr
        obtain rfl:intCell x=r:=by simpa using hr
        obtain⟨hkl,hkx⟩:=List.getElem?_eq_some_iff.1 hk
        have q:=hq k hkl
        rw [hkx] at q
        match j with
        | 0 => obtain rfl:Value.int .i64 x=u:=by simpa [intCell] using hu
               simpa using q
        | j+1 => simp [intCell] at hu
theorem open_ins {n:Nat} {v0 v1:Value} {x:DataW H×List MemPlace} (h:DataW.trod enc Tryz.prog w base spare held n 26 [v0,v1]=some x) :
  ∃ (A1 A2:Option Addr)(c1 c2:Nat)(cs:List (Int×Int×Bool))(st:List Int),v0=.slice A1 cs.length c1∧v1=.slice A2 st.length c2∧cs.length≤maxLen∧st.length≤maxLen∧InsAt w w.heap.size A1 A2 cs st:=by
 obtain⟨ys,n2,_,_,_,hys,hf⟩:=DataW.trod_struct Tryz.underlying26 h
 have f0:DataW.trod enc Tryz.prog w base spare held n2 23 [v0]=ys[0]?:=by simpa [cellsCourses]using hf 0 _ rfl
 have f1:DataW.trod enc Tryz.prog w base spare held n2 24 [v1]=ys[1]?:=by simpa [cellsInts]using hf 1 _ rfl
 obtain⟨y0,hy0⟩:∃ y,ys[0]?=some y:=⟨_,List.getElem?_eq_getElem (by rw [hys];decide)⟩
 obtain⟨y1,hy1⟩:∃ y,ys[1]?=some y:=⟨_,List.getElem?_eq_getElem (by rw [hys];decide)⟩
 rw [hy0]at f0;rw [hy1]at f1
 obtain⟨A1,c1,cs,e1,l1,r1⟩:=open_courses f0
 obtain⟨A2,c2,st,e2,l2,r2⟩:=open_ints f1
 exact⟨A1,A2,c1,c2,cs,st,e1,e2,l1,l2,r1,r2⟩
end
end
section
open Go.RowKit
structure StpOk(p:Pce)(k:Nat)(x:Stp):Prop where
 crs:1≤x.1∧x.1≤p.cs.length
 c14:x.1≤14
 fret:0≤x.2.1∧x.2.1≤fretsOf p.cs x.1
 f18:x.2.1≤18
 hold:0≤x.2.2.2.2∧x.2.2.2.2≤longestN p.evs k x.1
 h0:0<x.2.2.2.2→x.2.1≠0
theorem stpOk_of {p:Pce} {i:Nat} {last:Int} {s:Stp} (hI:insE p.cs p.st=0)(h:stopE p i s last=0):StpOk p i s∧last<s.1:=by
 have hb:=stopE_bd hI h
 unfold stopE at h
 by_cases h1:s.1<1∨(p.cs.length:Int)<s.1
 ·rw [if_pos h1]at h;cases h
 ·rw [if_neg h1]at h
  by_cases h2:s.2.1<0∨fretsOf p.cs s.1<s.2.1
  ·rw [if_pos h2]at h;cases h
  ·rw [if_neg h2]at h
   by_cases h3:s.1≤last
   ·rw [if_pos h3]at h;cases h
   ·rw [if_neg h3]at h
    by_cases h4:(s.2.2.1<0∨3<s.2.2.1)∨(s.2.2.2.1<0∨4<s.2.2.2.1)
    ·rw [if_pos h4]at h;cases h
    ·rw [if_neg h4]at h
     by_cases h5:(s.2.2.2.2<0∨(longestN p.evs i s.1:Int)<s.2.2.2.2)∨(0<s.2.2.2.2∧s.2.1=0)
     ·rw [if_pos h5]at h;cases h
     ·exact⟨⟨by omega,by omega,by omega,by omega,by omega,by omega⟩,by omega⟩
theorem stopsE_ok {p:Pce} {i:Nat} (hI:insE p.cs p.st=0):∀ {l:List Stp} {last:Int},stopsE p i last l=0→(∀ x∈l,StpOk p i x∧last<x.1)∧l.Pairwise fun x y=>x.1<y.1:=by
 intro l
 induction l with
 | nil=>intro _ _;exact⟨fun x hx=>(by cases hx),.nil⟩
 | cons x r ih =>
  intro last h
  unfold stopsE at h
  by_cases h1:stopE p i x last≠0
  ·rw [if_pos h1] at h;exact absurd h h1
  ·rw [if_neg h1] at h
   have hx:=stpOk_of hI (by simpa using h1:stopE p i x last=0)
   obtain⟨q1,q2⟩:=ih h
   refine⟨fun y hy=>?_,.cons (fun y hy=>(q1 y hy).2) q2⟩
   rcases List.mem_cons.1 hy with rfl|hy
   ·exact hx
   ·exact⟨(q1 y hy).1,by have:=(q1 y hy).2;omega⟩
structure EvOk(p:Pce)(k:Nat)(e:Ev):Prop where
 sg:sgOk e.val e.dot e.three=true
 first:¬ ((k:Int)=0∧e.val=0)
 tie:e.tie=true→e.stops=[]∧0<k
 stops:∀ x∈e.stops,StpOk p k x
 asc:e.stops.Pairwise fun x y=>x.1<y.1
theorem evOk_of {p:Pce} (h:pceE p=0) {k:Nat} (hk:k<p.evs.length):EvOk p k p.evs[k]:=by
 obtain ⟨h1,h2,h3⟩:=pceE_zero h
 obtain ⟨a,b,c,d⟩:=evE_zero (h3 k hk)
 obtain ⟨q1,q2⟩:=stopsE_ok h1 d
 refine ⟨a,b,fun ht=>?_,fun x hx=>(q1 x hx).1,q2⟩
 have:¬ (0<p.evs[k].stops.length∨(k:Int)=0):=fun hh=>c ⟨ht,hh⟩
 exact ⟨List.eq_nil_of_length_eq_zero zqo,by omega⟩
end
section
open Go.RowKit
section
variable {P:Program} {C:Cx} {σ σ':St} {G G':Gh} {a:Act} {w w':World} {ops:Array Oper} {Q:Exit→St→Prop}
def DoesS (P:Program) (C:Cx) (ops:Array Oper) (o:Oper) (σ:St) (av:AV) (M':List (Nat×AO)) (nk':Nat):Prop :=
 o.guard=none∧∀ t,(∀ q∈o.looksAt ops,look q t=look q σ.t)→WO P C o ⟨t,σ.M,σ.nk⟩ ⟨ent1 o.dst true av++t,M',nk'⟩
inductive DS (P:Program) (C:Cx) (ops:Array Oper) (mem:List Bool) (Mc:List (Nat×AO)) (nk0:Nat):Nat→List Oper→St→St→Prop
 | nil (k:Nat) (σ:St):DS P C ops mem Mc nk0 k [] σ σ
 | val (k:Nat) (o:Oper) (rest:List Oper) (d:Tmp) (av:AV) (nk:Nat) (σ σ':St):mem.getD k false=false→o.dst=some d→Nat.blt d C.N=true→(nk=nk0∨(nk=σ.nk∧behindB ops mem k=true))→DoesV P C ops o σ.t Mc nk av →
   DS P C ops mem Mc nk0 (k+1) rest (σ.put d av) σ'→DS P C ops mem Mc nk0 k (o::rest) σ σ'
 | mem (k:Nat) (o:Oper) (rest:List Oper) (av:AV) (M':List (Nat×AO)) (nk':Nat) (σ σ':St):mem.getD k false=true→Nat.ble σ.nk nk'=true→msSub Mc M'→DoesS P C ops o σ av M' nk' →
   DS P C ops mem Mc nk0 (k+1) rest ⟨ent1 o.dst true av++σ.t,M',nk'⟩ σ'→DS P C ops mem Mc nk0 k (o::rest) σ σ'
theorem DS.data {mem:List Bool} {Mc:List (Nat×AO)} {nk0 k:Nat} {l:List Oper} {σ σ':St} (h:DS P C ops mem Mc nk0 k l σ σ'):∃ (avs:Nat→AV) (ms:Nat→List (Nat×AO)) (nks:Nat→Nat),ms 0=σ.M∧nks 0=σ.nk ∧
  σ'=⟨ents l.toArray avs (fun _=>true) l.length++σ.t,ms l.length,nks l.length⟩ ∧
  ∀ (j:Nat) (oj:Oper),l[j]?=some oj →
   ((mem.getD (k+j) false=false∧(∃ d,oj.dst=some d∧d<C.N)∧ms (j+1)=ms j∧nks (j+1)=nks j∧∃ nk,(nk=nk0∨(nk=nks j∧behindB ops mem (k+j)=true))∧DoesV P C ops oj (ents l.toArray avs (fun _=>true) j++σ.t) Mc nk (avs j)) ∨
    (mem.getD (k+j) false=true∧nks j≤nks (j+1)∧msSub Mc (ms (j+1))∧DoesS P C ops oj ⟨ents l.toArray avs (fun _=>true) j++σ.t,ms j,nks j⟩ (avs j) (ms (j+1)) (nks (j+1)))):=by
 have key:∀ (o:Oper) (rest:List Oper) (av:AV) (avs:Nat→AV),∀ m,m≤rest.length→ents (o::rest).toArray (fun j=>if j=0 then av else avs (j-1)) (fun _=>true) (m+1)=ents rest.toArray avs (fun _=>true) m++ent1 o.dst true av:=by
  intro o rest av avs m
  induction m with
  | zero=>intro _;simp [ents]
  | succ m ihm =>
   intro hm
   rw [ents,ihm (by omega),ents]
   simp
 induction h with
 | nil k σ=>exact ⟨fun _=>.sc undef,fun _=>σ.M,fun _=>σ.nk,rfl,rfl,rfl,fun j oj h=>by simp at h⟩
 | val k o rest d av nk σ σ' hm hd hN hq hdo _ ih =>
  obtain ⟨avs,ms,nks,m0,n0,e1,e2⟩:=ih
  have hent:ent1 o.dst true av=[(d,av)]:=by rw [hd];rfl
  refine ⟨fun j=>if j=0 then av else avs (j-1),fun j=>if j=0 then σ.M else ms (j-1),fun j=>if j=0 then σ.nk else nks (j-1),rfl,rfl,?_,fun j oj hj=>?_⟩
  ·rw [e1,List.length_cons,key o rest av avs _ (Nat.le_refl _),hent]
   simp [St.put]
  ·cases j with
   | zero =>
    cases hj
    exact .inl ⟨hm,⟨d,hd,of_blt hN⟩,m0,n0,nk,hq,by simpa [ents] using hdo⟩
   | succ j =>
    have hj':rest[j]?=some oj:=by simpa using hj
    have q2:=e2 j oj hj'
    rw [key o rest av avs j (by have:=(List.getElem?_eq_some_iff.1 hj').1;omega),hent]
    simpa [St.put,Nat.add_assoc,Nat.add_comm 1 j] using q2
 | mem k o rest av M' nk' σ σ' hm hn hsub hdo _ ih =>
  obtain ⟨avs,ms,nks,m0,n0,e1,e2⟩:=ih
  refine ⟨fun j=>if j=0 then av else avs (j-1),fun j=>if j=0 then σ.M else ms (j-1),fun j=>if j=0 then σ.nk else nks (j-1),rfl,rfl,?_,fun j oj hj=>?_⟩
  ·rw [e1,List.length_cons,key o rest av avs _ (Nat.le_refl _)]
   simp
  ·cases j with
   | zero =>
    cases hj
    refine .inr ⟨hm,?_,?_,?_⟩
    ·show σ.nk≤nks 0
     rw [n0];exact Nat.le_of_ble_eq_true hn
    ·show msSub Mc (ms 0)
     rw [m0];exact hsub
    ·show DoesS P C ops o _ av (ms 0) (nks 0)
     rw [m0,n0];simpa [ents] using hdo
   | succ j =>
    have hj':rest[j]?=some oj:=by simpa using hj
    have q2:=e2 j oj hj'
    rw [key o rest av avs j (by have:=(List.getElem?_eq_some_iff.1 hj').1;omega)]
    simpa [Nat.add_assoc,Nat.add_comm 1 j] using q2
theorem WA.drawS {l:List Oper} (mem:List Bool) (Mc:List (Nat×AO)) (hB:Region.lexB .any l.toArray=true) (hch:chainB l.toArray mem=true) (hMc:msSub Mc σ.M) (h:DS P C l.toArray mem Mc σ.nk 0 l σ σ') (k:Q .normal σ'):WA P C l.toArray σ Q:=by
 intro G a w ok
 obtain ⟨avs,ms,nks,m0,n0,e1,e2⟩:=h.data
 simp only [Nat.zero_add] at e2
 simp only [Region.lexB,Bool.and_eq_true] at hB
 obtain ⟨FA,FB⟩:=lex_facts (ops:=l.toArray) l.toArray.size 0 (Array.replicate l.toArray.size false) (by simp) (by simp) (fun i hi=>by simp [Array.getD_eq_getD_getElem?,hi] at hi ⊢;simp [hi]) hB.2
 have sz:l.toArray.size=l.length:=by simp
 have mconst:∀ i,i < l.length→mem.getD i false=false→ms (i+1)=ms i∧nks (i+1)=nks i:=fun i hi hf=>by
  have q:=e2 i l[i] (List.getElem?_eq_getElem hi)
  rcases q with ⟨_,_,a,b,_⟩|⟨a,_⟩
  ·exact ⟨a,b⟩
  ·rw [hf] at a;cases a
 have mmono:∀ i,i < l.length→nks i≤nks (i+1):=fun i hi=>by
  have q:=e2 i l[i] (List.getElem?_eq_getElem hi)
  rcases q with ⟨_,_,_,b,_⟩|⟨_,b,_⟩
  ·rw [b];exact Nat.le_refl _
  ·exact b
 have hnp0:C.np≤nks 0:=by rw [n0];exact ok.df.2.1
 have hnpj:∀ i,i≤l.length→C.np≤nks i:=fun i=>by
  induction i with
  | zero=>exact fun _=>hnp0
  | succ i ih=>exact fun h=>Nat.le_trans (ih zqo) (mmono i zqo)
 have msub:∀ i,i≤l.length→msSub Mc (ms i):=fun i=>by
  induction i with
  | zero=>intro _;rw [m0];exact hMc
  | succ i ih =>
   intro hi
   have q:=e2 i l[i] (List.getElem?_eq_getElem (by omega))
   rcases q with ⟨_,_,a,_⟩|⟨_,_,a,_⟩
   ·rw [a];exact ih (by omega)
   ·exact a
 have hchj:∀ j,j < l.length→mem.getD j false=true→behindB l.toArray mem j=true:=fun j hj hmj=>by
  have h1:(!(mem.getD j false)|| behindB l.toArray mem j)=true:=List.all_eq_true.1 hch j (by simpa using hj)
  rw [hmj] at h1;exact h1
 have hbeh:∀ i j,i < j→behindB l.toArray mem j=true→mem.getD i false=true→needs l.toArray i l.toArray.size j=true:=fun i j hij hb hmi=>by
  have h1:(!(mem.getD i false)|| needs l.toArray i l.toArray.size j)=true:=List.all_eq_true.1 hb i (List.mem_range.2 hij)
  rw [hmi] at h1;exact h1
 let cu:Array Bool→Nat:=fun listed=>cur (fun i=>mem.getD i false) (fun i=>listed.getD i false) l.length
 let KS:Array Bool→St:=fun listed=>⟨ents l.toArray avs (fun i=>listed.getD i false) l.length++σ.t,ms (cu listed),nks (cu listed)⟩
 have key:∀ (fuel:Nat) (listed:Array Bool) (G:Gh) (a:Act) (w:World),listed.size=l.length→(∀ j oj,l.toArray[j]?=some oj→listed.getD j false=true→∀ e∈oj.after,Region.binds .any e=true→listed.getD e.on false=true) →
   (List.range l.length).countP (fun i=>!listed.getD i false)≤fuel→Ok C (KS listed) G a w→wpAny P .any l.toArray (Post C Q) fuel listed a w:=by
  intro fuel
  have done:∀ (listed:Array Bool) (G:Gh) (a:Act) (w:World),listed.size=l.length→Region.ready .any l.toArray listed=[]→Ok C (KS listed) G a w→Post C Q .normal a w:=by
   intro listed G a w hsz hr ok
   have hall:∀ n i,i < n→i < l.length→listed.getD i false=true:=by
    intro n
    induction n with
    | zero=>intro i h;omega
    | succ n ih =>
     intro i hi hlt
     by_cases e:i < n
     ·exact ih i e hlt
     ·have hin:i=n:=by omega
      subst hin
      cases hli:listed.getD i false with
      | true=>rfl
      | false =>
       have hoi:l.toArray[i]?=some l[i]:=by simp [hlt]
       have:i∈Region.ready .any l.toArray listed:=mem_ready.2 ⟨by
        have:listed.getD i true=listed.getD i false:=by simp [Array.getD_eq_getD_getElem?,hsz,hlt]
        rw [this];exact hli,l[i],hoi,fun e he hb=>ih e.on (FA i l[i] (Nat.zero_le _) hoi e he hb) (by have:=FA i l[i] (Nat.zero_le _) hoi e he hb;omega)⟩
       rw [hr] at this;cases this
   have hcu:ms (cu listed)=ms l.length∧nks (cu listed)=nks l.length:=by
    have hs:∀ i,i < l.length→(fun i=>mem.getD i false) i=true→(fun i=>listed.getD i false) i=decide (i < l.length):=fun i hi _=>by
     show listed.getD i false=_
     rw [hall (i+1) i (by omega) hi,decide_eq_true hi]
    have h1:=cur_at (f:=ms) (fun i hi hf=>(mconst i hi hf).1) hs l.length (Nat.le_refl _)
    have h2:=cur_at (f:=nks) (fun i hi hf=>(mconst i hi hf).2) hs l.length (Nat.le_refl _)
    rw [Nat.min_self] at h1 h2
    exact ⟨h1,h2⟩
   refine ⟨σ',G,k,ok.congr_ (fun t=>?_) (by rw [e1];exact hcu.1.symm) (by rw [e1];exact hcu.2.symm)⟩
   rw [e1]
   show look t (_++_)=look t (_++_)
   rw [look_app,look_app,ents_agree (s':=fun i=>listed.getD i false) fun i hi _=>(hall (i+1) i (by omega) hi).symm]
  induction fuel with
  | zero =>
   intro listed G a w hsz hcl hf ok
   have hr:Region.ready .any l.toArray listed=[]:=by
    apply List.eq_nil_iff_forall_not_mem.2
    intro j hj
    obtain ⟨h1,oj,h2,_⟩:=mem_ready.1 hj
    have hlt:j < l.length:=by have:=(Array.getElem?_eq_some_iff.1 h2).1;omega
    have h3:listed.getD j false=false:=by
     have:listed.getD j false=listed.getD j true:=by simp [Array.getD_eq_getD_getElem?,hsz,hlt]
     rw [this];exact h1
    have:=List.countP_eq_zero.1 (Nat.le_zero.1 hf) j (List.mem_range.2 hlt)
    simp [h3] at this
   exact ⟨hr,done listed G a w hsz hr ok⟩
  | succ fuel ih =>
   intro listed G a w hsz hcl hf ok
   refine ⟨fun hr=>done listed G a w hsz hr ok,fun j hj=>?_⟩
   obtain ⟨h1,oj,h2,h4⟩:=mem_ready.1 hj
   have hlt:j < l.length:=by have:=(Array.getElem?_eq_some_iff.1 h2).1;omega
   have h3:listed.getD j false=false:=by
    have:listed.getD j false=listed.getD j true:=by simp [Array.getD_eq_getD_getElem?,hsz,hlt]
    rw [this];exact h1
   have hlj:l[j]?=some oj:=by simpa using h2
   have hdoes:=e2 j oj hlj
   have hlook:∀ t∈oj.looksAt l.toArray,∀ i,i < l.length→(l.toArray[i]?).bind (·.dst)=some t→listed.getD i false=decide (i < j):=by
    intro t ht i hi hdi
    have hoi:l.toArray[i]?=some l[i]:=by simp [hi]
    rw [hoi] at hdi
    have hdi:l[i].dst=some t:=hdi
    rcases Nat.lt_trichotomy i j with hij|hij|hij
    ·rw [decide_eq_true hij]
     by_cases hno:∃ e,e∈oj.after∧Region.binds .any e=true∧e.on=i
     ·obtain ⟨e,he,hb,rfl⟩:=hno
      exact h4 e he hb
     ·exact absurd ht ((Oper.apart_spec (FB i j _ _ (Nat.zero_le _) hij hoi h2 fun e he hb h=>hno ⟨e,he,hb,h⟩)).1 t hdi)
    ·subst hij;rw [h3];simp
    ·rw [decide_eq_false (by omega)]
     cases hli:listed.getD i false with
     | false=>rfl
     | true =>
      by_cases hno:∃ e,e∈(l[i]).after∧Region.binds .any e=true∧e.on=j
      ·obtain ⟨e,he,hb,he2⟩:=hno
       have:=hcl i _ hoi hli e he hb
       rw [he2,h3] at this;cases this
      ·exact absurd ht ((Oper.apart_spec (FB j i _ _ (Nat.zero_le _) hij h2 hoi fun e he hb h=>hno ⟨e,he,hb,h⟩)).2.2 t hdi)
   have hents:∀ t,look t (ents l.toArray avs (fun _=>true) j)=look t (ents l.toArray avs (fun i=>decide (i < j)) l.length):=by
    intro t
    have:∀ m,j≤m→look t (ents l.toArray avs (fun i=>decide (i < j)) m)=look t (ents l.toArray avs (fun i=>decide (i < j)) j):=by
     intro m
     induction m with
     | zero=>intro h;rw [Nat.le_zero.1 h]
     | succ m ihm =>
      intro h
      by_cases e:j=m+1
      ·rw [e]
      ·rw [ents,look_app,look_ent1,if_neg (fun x=>by have:=of_decide_eq_true x.1;omega),ihm (by omega)];rfl
    rw [this l.length (by omega)]
    exact ents_agree fun i hi _=>(decide_eq_true hi).symm
   have hlooks:∀ t∈oj.looksAt l.toArray,look t (KS listed).t=look t (ents l.toArray avs (fun _=>true) j++σ.t):=fun t ht=>by
    show look t (_++_)=look t (_++_)
    rw [look_app,look_app,hents t,ents_agree fun i hi hdi=>(hlook t ht i hi hdi)]
   have hslots:∀ t,look t (ents l.toArray avs (fun i=>(listed.setIfInBounds j true).getD i false) l.length++σ.t)=look t (ent1 oj.dst true (avs j)++(KS listed).t):=by
    intro t
    by_cases et:oj.dst=some t
    ·have hR:look t (ent1 oj.dst true (avs j)++(KS listed).t)=some (avs j):=by
      rw [look_app,look_ent1,if_pos ⟨rfl,et⟩];rfl
     rw [hR,look_app,ents_top (j:=j) hlt (by rw [h2];exact et) (by simp [Array.getD_eq_getD_getElem?,hsz,hlt]) fun i hij hi hdi=>?_]
     ·rfl
     ·have hoi:l.toArray[i]?=some l[i]:=by simp [hi]
      rw [hoi] at hdi
      have hdi:l[i].dst=some t:=hdi
      have hne:j≠i:=by omega
      cases hli:listed.getD i false with
      | false=>simpa [Array.getD_eq_getD_getElem?,Array.getElem?_setIfInBounds_ne hne] using hli
      | true =>
       by_cases hno:∃ e,e∈(l[i]).after∧Region.binds .any e=true∧e.on=j
       ·obtain ⟨e,he,hb,he2⟩:=hno
        have:=hcl i _ hoi hli e he hb
        rw [he2,h3] at this;cases this
       ·exact absurd hdi ((Oper.apart_spec (FB j i _ _ (Nat.zero_le _) hij h2 hoi fun e he hb h=>hno ⟨e,he,hb,h⟩)).2.1 t et)
    ·have hR:look t (ent1 oj.dst true (avs j)++(KS listed).t)=look t (KS listed).t:=by
      rw [look_app,look_ent1,if_neg (fun x=>et x.2)];rfl
     rw [hR]
     show _=look t (_++_)
     rw [look_app,look_app]
     congr 1
     refine ents_agree fun i hi hdi=>?_
     by_cases e2:j=i
     ·subst e2
      rw [h2] at hdi
      exact absurd hdi et
     ·simp [Array.getD_eq_getD_getElem?,Array.getElem?_setIfInBounds_ne e2]
   have hset:∀ i,j≠i→(listed.setIfInBounds j true).getD i false=listed.getD i false:=fun i e=>by simp [Array.getD_eq_getD_getElem?,Array.getElem?_setIfInBounds_ne e]
   have hsetj:(listed.setIfInBounds j true).getD j false=true:=by simp [Array.getD_eq_getD_getElem?,hsz,hlt]
   have hclose:∀ i oi,l.toArray[i]?=some oi→(listed.setIfInBounds j true).getD i false=true→∀ e∈oi.after,Region.binds .any e=true→(listed.setIfInBounds j true).getD e.on false=true:=by
    intro i oi hi hli e he hb
    have mono:∀ q,listed.getD q false=true→(listed.setIfInBounds j true).getD q false=true:=fun q hq=>by
     by_cases e:j=q
     ·subst e;rw [hq] at h3;cases h3
     ·rw [hset q e];exact hq
    by_cases e2:j=i
    ·subst e2
     rw [h2] at hi;cases hi
     exact mono _ (h4 e he hb)
    ·refine mono _ (hcl i oi hi ?_ e he hb)
     rw [← hset i e2];exact hli
   have hcount:(List.range l.length).countP (fun i=>!(listed.setIfInBounds j true).getD i false)≤fuel:=by
    have:=countP_lt (p:=fun i=>!listed.getD i false) (q:=fun i=>!(listed.setIfInBounds j true).getD i false) (fun i hi=>by
       by_cases e:j=i
       ·subst e;rw [hsetj] at hi;cases hi
       ·rw [hset i e] at hi;exact hi) hlt (by simp only [h3];rfl) (by simp only [hsetj];rfl)
    omega
   unfold wpOp
   simp only [h2]
   rcases hdoes with ⟨hmf,⟨d,hd,hdN⟩,hmc,hnc,nk,hnk,hmi,hti,hdo⟩|⟨hmt,hnle,hsub,hgd,hdo⟩
   ·-- memory stays
    have hot:onlyT (KS listed).t (oj.looksAt l.toArray)=onlyT (ents l.toArray avs (fun _=>true) j++σ.t) (oj.looksAt l.toArray):=onlyT_congr hlooks
    have hnkle:nk≤nks (cu listed):=by
     rcases hnk with rfl|⟨rfl,hbj⟩
     ·have:=cur_ge (f:=nks) (j:=0) (s:=fun i=>listed.getD i false) (mem:=fun i=>mem.getD i false) (fun i hi hf=>(mconst i hi hf).2) mmono (fun i _ h=>by omega) l.length (Nat.le_refl _)
      rw [Nat.min_zero,n0] at this
      exact this
     ·have:=cur_ge (f:=nks) (j:=j) (s:=fun i=>listed.getD i false) (mem:=fun i=>mem.getD i false) (fun i hi hf=>(mconst i hi hf).2) mmono (fun i hi hij hmi=>needs_ready hcl h2 h4 _ (hbeh i j hij hbj hmi)) l.length (Nat.le_refl _)
      rw [show min l.length j=j by omega] at this
      exact this
    have okO:Ok C ⟨onlyT (ents l.toArray avs (fun _=>true) j++σ.t) (oj.looksAt l.toArray),Mc,nk⟩ G a w :=
     ok.few (hnp:=by rcases hnk with h|⟨h,_⟩<;>rw [h]<;>first|exact hnpj j (by omega)|(rw [← n0];exact hnp0)) (ht:=fun i av hx=>⟨by rw [← hot] at hx;exact look_onlyT hx,tsInn_at hti i av hx⟩) (hM:=fun q o hx=>⟨msSub_at (msub _ (cur_le _)) q o hx,(msInn_at hmi q o hx).1,(msInn_at hmi q o hx).2⟩)
    have next:∀ (v:Value) (G':Gh) (w':World),Ok C (KS listed) G' a w'→R G' (avs j) v→Bd nk (avs j)→wpAny P .any l.toArray (Post C Q) fuel (listed.setIfInBounds j true) (a.put oj.dst v) w':=by
     intro v G' w' ok' hr hb
     have ok2:=ok'.set (d:=some d) hr (hb.mono hnkle) fun x hx=>by cases hx;exact hdN
     rw [hd]
     have hcu:cu (listed.setIfInBounds j true)=cu listed:=cur_congr fun i hi hmi=>by
      by_cases e:j=i
      ·subst e;rw [hmf] at hmi;cases hmi
      ·exact hset i e
     exact ih (listed.setIfInBounds j true) G' _ w' (by simpa using hsz) hclose hcount (ok2.congr_ (fun t=>by rw [hslots t,hd];rfl) (by show ms _=ms _;rw [hcu]) (by show nks _=nks _;rw [hcu]))
    rcases hdo with ⟨hg,hv⟩|⟨hg,hv⟩
    ·rw [if_pos (guardK_wanted okO hg)]
     exact .inl (hv G a w okO _ _ fun v G' w' hk hr hb=>next v G' w' (hk _ _ ok) hr hb)
    ·rw [if_neg (by rw [guardK_wanted okO hg];simp)]
     exact next undef G w ok (by rw [hv];exact .pu _ _ (.sc _)) (by rw [hv];exact .sc _)
   ·-- memory is written
    have hbj:=hchj j hlt hmt
    have hst:∀ i,i < l.length→mem.getD i false=true→listed.getD i false=decide (i < j):=fun i hi hmi=>by
     rcases Nat.lt_trichotomy i j with hij|hij|hij
     ·rw [decide_eq_true hij]
      exact needs_ready hcl h2 h4 _ (hbeh i j hij hbj hmi)
     ·subst hij;rw [h3];simp
     ·rw [decide_eq_false (by omega)]
      cases hli:listed.getD i false with
      | false=>rfl
      | true =>
       have:=needs_listed hcl _ _ (hbeh j i hij (hchj i hi hmi) hmt) hli
       rw [h3] at this;cases this
    have hM:ms (cu listed)=ms j∧nks (cu listed)=nks j:=by
     have h1:=cur_at (f:=ms) (fun i hi hf=>(mconst i hi hf).1) hst l.length (Nat.le_refl _)
     have h2:=cur_at (f:=nks) (fun i hi hf=>(mconst i hi hf).2) hst l.length (Nat.le_refl _)
     rw [show min l.length j=j by omega] at h1 h2
     exact ⟨h1,h2⟩
    have hst':∀ i,i < l.length→mem.getD i false=true→(listed.setIfInBounds j true).getD i false=decide (i < j+1):=fun i hi hmi=>by
     by_cases e:j=i
     ·subst e;rw [hsetj];simp
     ·rw [hset i e,hst i hi hmi]
      have:(i < j)↔(i < j+1):=by omega
      simp [this]
    have hM':ms (cu (listed.setIfInBounds j true))=ms (j+1)∧nks (cu (listed.setIfInBounds j true))=nks (j+1):=by
     have h1:=cur_at (f:=ms) (fun i hi hf=>(mconst i hi hf).1) hst' l.length (Nat.le_refl _)
     have h2:=cur_at (f:=nks) (fun i hi hf=>(mconst i hi hf).2) hst' l.length (Nat.le_refl _)
     rw [show min l.length (j+1)=j+1 by omega] at h1 h2
     exact ⟨h1,h2⟩
    rw [if_pos (by simp [Region.wanted,hgd])]
    have ok1:Ok C ⟨(KS listed).t,ms j,nks j⟩ G a w:=ok.congr_ (fun _=>rfl) (by exact hM.1.symm) (by exact hM.2.symm)
    refine .inl (hdo (KS listed).t hlooks G a w ok1 _ _ fun G' a' w' ok'=>?_)
    exact ih (listed.setIfInBounds j true) G' a' w' (by simpa using hsz) hclose hcount (ok'.congr_ hslots (by exact hM'.1) (by exact hM'.2))
 have hcu0:cu (Array.replicate l.toArray.size false)=0:=by
  have:∀ m,cur (fun i=>mem.getD i false) (fun i=>(Array.replicate l.toArray.size false).getD i false) m=0:=by
   intro m
   induction m with
   | zero=>rfl
   | succ m ih=>unfold cur;rw [if_neg (fun x=>by have:=x.2;rw [rep_getD] at this;cases this),ih]
  exact this _
 refine key _ (Array.replicate l.toArray.size false) G a _ (by simp) (fun j oj _ h=>?_) ?_ (ok.drew.congr_ (fun t=>?_) (by show ms _=_;rw [hcu0,m0]) (by show nks _=_;rw [hcu0,n0]))
 ·rw [rep_getD] at h;cases h
 ·rw [sz]
  exact Nat.le_trans List.countP_le_length (by simp)
 ·show look t (_++_)=_
  rw [look_app,ents_none fun i hi _=>?_]
  ·rfl
  ·exact rep_getD _ _
end
end
section
open Go.RowKit
section
variable {P:Program} {C:Cx} {σ:St} {o:Oper} {d:Tmp} {av:AV} {ops:Array Oper} {rest l:List Oper} {Q:Exit→St→Prop} {mem:List Bool} {Mc:List (Nat×AO)} {nk0 k:Nat}
def DSK (P:Program)(C:Cx)(ops:Array Oper)(mem:List Bool)(Mc:List (Nat×AO))(nk0 k:Nat)(l:List Oper)(σ:St)(Q:Exit→St→Prop):Prop:=∃ σ',DS P C ops mem Mc nk0 k l σ σ'∧Q .normal σ'
theorem DSK.nil(h:Q .normal σ):DSK P C ops mem Mc nk0 k [] σ Q:=⟨σ,.nil k σ,h⟩
theorem DSK.v0 (hd:memB C.N ops mem Mc k nk0 σ.t o=some (d,true)) (h:WV P C o ⟨onlyT σ.t (o.looksAt ops),Mc,nk0⟩ av) (r:DSK P C ops mem Mc nk0 (k+1) rest (σ.put d av) Q):DSK P C ops mem Mc nk0 k (o::rest) σ Q:=by
 obtain ⟨a,b,c,e,f,g⟩:=memB_of hd
 obtain ⟨s,x,y⟩:=r
 exact ⟨s,.val k o rest d av nk0 σ s a b c (.inl rfl) ⟨e,f,.inl ⟨g,h⟩⟩ x,y⟩
theorem DSK.wr {M':List (Nat×AO)} {nk':Nat} (av:AV) (hm:mem.getD k false=true) (hn:Nat.ble σ.nk nk'=true) (hs:msSub Mc M') (h:DoesS P C ops o σ av M' nk') (r:DSK P C ops mem Mc nk0 (k+1) rest ⟨ent1 o.dst true av++σ.t,M',nk'⟩ Q):DSK P C ops mem Mc nk0 k (o::rest) σ Q:=by
 obtain ⟨s,x,y⟩:=r
 exact ⟨s,.mem k o rest av M' nk' σ s hm hn hs h x,y⟩
theorem DSK.st (hd:memB C.N ops mem Mc k nk0 σ.t o=some (d,true)) (h:stepV P ⟨onlyT σ.t (o.looksAt ops),Mc,nk0⟩ o.op=some av) (r:DSK P C ops mem Mc nk0 (k+1) rest (σ.put d av) Q):DSK P C ops mem Mc nk0 k (o::rest) σ Q:=DSK.v0 hd (stepV_of rfl h) r
theorem DSK.idx {rows:List (List AV)} {z:Int} {x:List AV} (hd:memB C.N ops mem Mc k nk0 σ.t o=some (d,true)) (h:idxV P ⟨onlyT σ.t (o.looksAt ops),Mc,nk0⟩ o.op=some (rows,z)) (h0:0≤z) (hr:rows[z.toNat]?=some x) (r:DSK P C ops mem Mc nk0 (k+1) rest (σ.put d (.pr x)) Q):DSK P C ops mem Mc nk0 k (o::rest) σ Q:=DSK.v0 hd (idxV_of h h0 hr) r
theorem DSK.al {T:TypeId} {z:Value} {l:List AV} (hd:wrB mem C.N k o=some d) (ho:o.op=.alloc T) (hz:(P.info? T).bind (·.zero)=some z) (hl:z.cells.toList.map .sc=l) (hs:msSub Mc ((σ.nk,.box T l)::σ.M))
  (r:DSK P C ops mem Mc nk0 (k+1) rest ⟨(d,.pt σ.nk 0 0)::σ.t,(σ.nk,.box T l)::σ.M,σ.nk+1⟩ Q):DSK P C ops mem Mc nk0 k (o::rest) σ Q:=by
 obtain ⟨a,b,c,e⟩:=wrB_of hd
 have he:ent1 o.dst true (.pt σ.nk 0 0)=[(d,.pt σ.nk 0 0)]:=by rw [b];rfl
 refine DSK.wr (.pt σ.nk 0 0) a (Nat.ble_eq_true_of_le (Nat.le_succ _)) hs ⟨c,fun t _=>?_⟩ (by rw [he];exact r)
 rw [he]
 exact WO.alloc (σ:=⟨t,σ.M,σ.nk⟩) ho hz b e hl rfl
theorem DSK.sto {T m:Nat} {x y:Operand} {q i j:Nat} {ob ob':AO} {l:List AV} {M2:List (Nat×AO)} (hm:mem.getD k false=true) (hg:o.guard=none) (hds:o.dst=none) (ho:o.op=.store T x y) (hn:sizeB P T=some m) (hx:σ.ev x=some (.pt q i j)) (hk:look q σ.M=some ob) (hy:σ.ev y=some av)
  (hB:av.cellB=true) (hl:av.cells=l) (hlm:l.length=m) (h1:l.all AV.oneB=true) (hp:ob.put i j l=some ob') (hM:remS q σ.M=some M2) (hs:msSub Mc ((q,ob')::M2)) (r:DSK P C ops mem Mc nk0 (k+1) rest ⟨σ.t,(q,ob')::M2,σ.nk⟩ Q):DSK P C ops mem Mc nk0 k (o::rest) σ Q:=by
 have he:∀ av,ent1 o.dst true av=[]:=fun av=>by rw [hds];rfl
 refine DSK.wr (.sc undef) hm (Nat.ble_eq_true_of_le (Nat.le_refl _)) hs ⟨hg,fun t H=>?_⟩ (by rw [he];exact r)
 rw [he]
 have hmem:∀ z∈[x,y],z∈o.op.operands.toList:=fun z hz=>by rw [ho];simp [Op.operands] at hz ⊢;exact hz
 rw [remS_eq hM]
 exact wo_rem (WO.store (σ:=⟨t,σ.M,σ.nk⟩) ho hds hn ((ev_agree H (hmem x (by simp))).trans hx) hk ((ev_agree H (hmem y (by simp))).trans hy) hB hl hlm h1 hp)
theorem WA.ds (mem:List Bool)(ms:List Nat)(hB:Region.lexB .any l.toArray=true)(hch:chainB l.toArray mem=true)(hMc:msSub (onlyM σ.M ms) σ.M)
  (h:DSK P C l.toArray mem (onlyM σ.M ms) σ.nk 0 l σ Q):WA P C l.toArray σ Q:=let⟨_,a,b⟩:=h;WA.drawS mem (onlyM σ.M ms) hB hch hMc a b
end
end
section
open Go.RowKit
def sgF(evs:List Ev):Nat→Int×Bool×Bool
 | 0=>(0,false,false)
 | k+1=>match evs[k]? with
  | some e=>if e.val=0 then sgF evs k else(e.val,e.dot,e.three)
  | none=>sgF evs k
def eSig (x:Int×Bool×Bool):List AV:=[.sc (.int .i64 x.1),.sc (.bool x.2.1),.sc (.bool x.2.2)]
end
section
open Go.RowKit
section
variable {B:World→View→Prop} {gl:Nat} {P:Program} {C:Cx} {σ:St} {o:Oper} {d:Tmp} {ops:Array Oper} {rest:List Oper} {Q:Exit→St→Prop} {mem:List Bool} {Mc:List (Nat×AO)} {nk0 k:Nat}
def nlqV (P:Program)(σ:St):Op→Option (List (List AV))
 | .binOp .eql T x y _ =>
  match P.underlying T,σ.ev x,σ.ev y with
  | some (.slice _),some (.ls _ rows),some (.sc (.slice none _ _))=>some rows
  | _,_,_=>none
 | _=>none
theorem WL.nlq {rows:List (List AV)} (hd:dstB C.N o=some d) (h:nlqV P σ o.op=some rows) (hk:∀ b:Bool,(b=true→rows=[])→WL P C ops rest (σ.put d (.sc (.bool b))) Q):WL P C ops (o::rest) σ Q:=by
 intro G a w ok
 unfold nlqV at h
 split at h
 ·rename_i T x y Ty ho
  split at h
  ·rename_i e n rows' m c hT hx hy
   cases h
   obtain ⟨A,cap,ad,u,e1,h1,h2,h3,h4,h5⟩:=(ok.evr hx).2.pu_of.ls_of
   have ey:=ok.evs hy
   obtain ⟨q1,q2,q3⟩:=dstB_of hd
   refine wpList_plain q1 fun K hK=>?_
   unfold Oper.wp execOp
   have hrun:=Lib.run_eql_slice_nil (P:=P) w T e A rows.length cap m c hT
   simp only [ho,e1,ey,eqGuard,Sem.run_bind,Sem.run_pure,Result.andThen_ok,hrun]
   simp only [Bool.not_true,Bool.false_eq_true,if_false,Sem.run_bind,Sem.run_pure,Result.andThen_ok,hrun,Oper.upon]
   refine hK _ _ (hk A.isNone (fun hn=>?_) G _ w ?_)
   ·cases A with
    | some z=>cases hn
    | none =>
     rcases Nat.eq_zero_or_pos rows.length with h0|h0
     ·exact List.eq_nil_of_length_eq_zero h0
     ·exact absurd (h2 h0) (by simp)
   ·rw [q2]
    exact ok.set (d:=some d) (.pu _ _ (.sc _)) (.sc _) fun x hx=>by cases hx;exact of_blt q3
  ·cases h
 ·cases h
theorem Tr.nilC (k j n:Nat) {T:TypeId} {cells cells':List AV} (hk:look k σ.M=some (.box T cells)) (hj:cells[j]?=some (.sc (.slice none 0 0))) (he:cells.set j (.ls n [])=cells'):Tr C σ (σ.upd k (.box T cells')):=fun G a w ok=>by
 subst he
 obtain ⟨g1,g2,g3,cs,Φ,g4,g5,g6,g7,g8⟩:=ok.ob k _ hk
 have hjl:=(List.getElem?_eq_some_iff.1 hj).1
 refine ⟨G,ok.reob hk ⟨g1,fun i av hx=>?_,g3,cs,Φ,g4,by simpa using g5,g6,g7,fun i av u hx hu=>?_⟩⟩
 ·by_cases e:j=i
  ·subst e
   rw [List.getElem?_set_self hjl] at hx
   cases hx;exact .ls _ _
  ·rw [List.getElem?_set_ne e] at hx;exact g2 i av hx
 ·by_cases e:j=i
  ·subst e
   rw [List.getElem?_set_self hjl] at hx
   cases hx
   have:=(g8 j _ u hj hu).r rfl
   rw [this.sc_eq]
   exact .inl (.pu _ _ (.ls n [] none 0 ⟨0,0,none⟩ (fun _ _=>undef) (by simp) (by simp) (by simp) (by simp) (by simp)))
  ·rw [List.getElem?_set_ne e] at hx;exact g8 i av u hx hu
theorem DSK.ct (hB:Holds B gl C) {f:FuncId} {args args':List AV} {res res':AV} {M M' M2:List (Nat×AO)} {nk nk' n2:Nat} (ks:List Nat) (hd:wrB mem C.N k o=some d) (he:calE σ o.op=some (f,args')) (hc:∀ vs w,(callFunc f vs).run P w=.ok (.enter f vs) w)
  (h:Cto B gl P f args M nk res M' nk') (hks:ksB ks nk σ.nk=true) (ha:args.map (AV.ren (rhoC ks nk σ.nk))=args') (hp:args.all (AV.inn nk)=true) (hM:TrM σ (rhoC ks nk σ.nk) nk M)
  (hq:(Nat.ble nk nk' && M'.all (fun x=>x.2.inn nk') && M'.all (fun x=>Nat.blt x.1 nk') && res.inn nk')=true) (hr:res.ren (rhoC ks nk σ.nk)=res') (hM2:renM (rhoC ks nk σ.nk) M'++remL ks σ.M=M2) (hn2:σ.nk+(nk'-nk)=n2) (hs:msSub Mc M2)
  (r:DSK P C ops mem Mc nk0 (k+1) rest ⟨(d,res')::σ.t,M2,n2⟩ Q):DSK P C ops mem Mc nk0 k (o::rest) σ Q:=by
 subst hM2 hn2
 obtain ⟨a,b,c,e⟩:=wrB_of hd
 have hent:ent1 o.dst true res'=[(d,res')]:=by rw [b];rfl
 simp only [Bool.and_eq_true] at hq
 unfold calE at he
 split at he
 ·rename_i y xs ts ho
  split at he
  ·rename_i fv args0 hy hx
   split at he
   ·rename_i f' caps hf
    cases he
    refine DSK.wr res' a (Nat.ble_eq_true_of_le (Nat.le_add_right _ _)) hs ⟨c,fun t H=>?_⟩ (by rw [hent];exact r)
    rw [hent]
    have hmem:∀ q∈y::xs,q∈o.op.operands.toList:=fun q hq=>by rw [ho];simp [Op.operands,Call.operands] at hq ⊢;exact hq
    have:=WO.cto (P:=P) (C:=C) (σ:=⟨t,σ.M,σ.nk⟩) (xs:=⟨xs⟩) hB ks ho hc ((ev_agree H (hmem y (by simp))).trans hy) hf ((evs_agree H fun q hq=>hmem q (List.mem_cons_of_mem _ hq)).trans hx) rfl h hks ha hp (trM_same (σ:=σ) (σ':=⟨t,σ.M,σ.nk⟩) (ρ:=rhoC ks nk σ.nk) rfl hM) hq.1.1.1 hq.1.1.2 hq.1.2 hq.2 hr (by rw [b];exact e)
    rw [b] at this
    exact this
   ·cases he
  ·cases he
 ·cases he
end
end
section
open Go.RowKit
section
variable {P:Program} {C:Cx} {σ:St} {o:Oper} {d:Tmp} {ops:Array Oper} {rest:List Oper} {Q:Exit→St→Prop} {mem:List Bool} {Mc:List (Nat×AO)} {nk0 k:Nat}
theorem put_row {T n i j:Nat} {rows:List (List AV)} {r l:List AV} (hr:rows[i]?=some r) (hj:j+l.length≤r.length) (hp:l.all AV.pu0=true):(AO.row T n rows).put i j l=some (.row T n (rows.set i (putL j l r))):=by
 simp only [AO.put,hr]
 rw [if_pos ⟨hj,hp⟩]
end
end
section
open Go.RowKit
section
variable {P:Program} {C:Cx} {σ:St}
theorem Tr.nilA {t:Tmp} (j n:Nat) {l l':List AV} (h:look t σ.t=some (.ag l)) (hj:l[j]?=some (.sc (.slice none 0 0))) (he:l.set j (.ls n [])=l') (hl:l.all AV.pu00=true):Tr C σ (σ.put t (.ag l')):=fun G a w ok=>by
 subst he
 have hjl:=(List.getElem?_eq_some_iff.1 hj).1
 have hall:∀ (i:Nat) x,(l.set j (.ls n []))[i]?=some x→x.pu00=true:=fun i x hx=>by
  by_cases e:j=i
  ·subst e
   rw [List.getElem?_set_self hjl] at hx
   cases hx;rfl
  ·rw [List.getElem?_set_ne e] at hx
   exact List.all_eq_true.1 hl x (List.mem_of_getElem? hx)
 refine ⟨G,ok.reslot h (.ag _ fun i x hx=>pu00_bd (hall i x hx) _) fun v hv=>?_⟩
 obtain ⟨cs,rfl,h1,h2⟩:=hv.ag_of
 refine .ag _ cs (by simpa using h1) fun i av u x y=>?_
 by_cases e:j=i
 ·subst e
  rw [List.getElem?_set_self hjl] at x
  cases x
  rw [(h2 j _ u hj y).sc_eq]
  exact .pu _ _ (.ls n [] none 0 ⟨0,0,none⟩ (fun _ _=>undef) (by simp) (by simp) (by simp) (by simp) (by simp))
 ·rw [List.getElem?_set_ne e] at x
  exact h2 i av u x y
end
end
section
open Go.RowKit
theorem run_equalIn_fn {P:Program} (w:World)(d:Nat)(t:TypeId) {a b c} (f:Fn)(fs cs:Array Value)(h:P.underlying t=some (.func a b c)):(Op.equalIn (d+1) t (.func f fs cs) .nilFunc).run P w=.ok false w:=by
 simp [Op.equalIn,run_underlying h]
theorem run_equalIn_nn {P:Program} (w:World)(d:Nat)(t:TypeId) {a b c} (h:P.underlying t=some (.func a b c)):(Op.equalIn (d+1) t .nilFunc .nilFunc).run P w=.ok true w:=by
 simp [Op.equalIn,run_underlying h]
theorem run_neq_fn {P:Program} (w:World)(t:TypeId) {a b c} (f:Fn)(fs cs:Array Value)(h:P.underlying t=some (.func a b c)):(binOp .neq t (.func f fs cs) .nilFunc).run P w=.ok (.bool true) w:=by
 simp only [binOp]
 simp [Op.equal,Op.maxDepth,run_equalIn_fn w 9999 t f fs cs h]
theorem run_neq_nn {P:Program} (w:World)(t:TypeId) {a b c} (h:P.underlying t=some (.func a b c)):(binOp .neq t .nilFunc .nilFunc).run P w=.ok (.bool false) w:=by
 simp only [binOp]
 simp [Op.equal,Op.maxDepth,run_equalIn_nn w 9999 t h]
section
variable {P:Program} {C:Cx} {σ:St} {o:Oper}
def fnqV (P:Program)(σ:St):Op→Option Bool
 | .binOp .neq T x y _ =>
  match P.underlying T,σ.ev x,σ.ev y with
  | some (.func _ _ _),some (.fn _ _),some (.sc .nilFunc)=>some true
  | some (.func _ _ _),some (.sc .nilFunc),some (.sc .nilFunc)=>some false
  | _,_,_=>none
 | _=>none
theorem fnqV_of {b:Bool} (h:fnqV P σ o.op=some b):WV P C o σ (.sc (.bool b)):=by
 unfold fnqV at h
 split at h
 ·rename_i T x y Ty ho
  split at h
  ·rename_i a1 a2 a3 f caps hT hx hy
   cases h
   refine WV.val (fun G a w ok=>.sc _) fun G a w ok=>?_
   obtain⟨cs,e1,_,_⟩:=(ok.evr hx).2.fn_of
   have e2:=ok.evs hy
   have hrun:=run_neq_fn (P:=P) w T (.func f) #[] cs hT
   refine⟨.bool true,?_,.pu _ _ (.sc _)⟩
   unfold execOp
   simp only [ho,e1,e2,eqGuard,Sem.run_bind,Sem.run_pure,Result.andThen_ok,hrun]
   simp only [Bool.not_true,Bool.false_eq_true,if_false,Sem.run_bind,Sem.run_pure,Result.andThen_ok,hrun]
  ·rename_i a1 a2 a3 hT hx hy
   cases h
   refine WV.val (fun G a w ok=>.sc _) fun G a w ok=>?_
   have e1:=ok.evs hx
   have e2:=ok.evs hy
   have hrun:=run_neq_nn (P:=P) w T hT
   refine⟨.bool false,?_,.pu _ _ (.sc _)⟩
   unfold execOp
   simp only [ho,e1,e2,eqGuard,Sem.run_bind,Sem.run_pure,Result.andThen_ok,hrun]
   simp only [Bool.not_true,Bool.false_eq_true,if_false,Sem.run_bind,Sem.run_pure,Result.andThen_ok,hrun]
  ·cases h
 ·cases h
end
end
section
open Go.RowKit Go.WideShapes Go.ChangeShapes Go.Joins Go.Deep
section
variable {H:Type} {enc:TypeId×Value→H} {w:World} {base:Nat} {spare:Nat→Bool} {held:Bool}
theorem cellsStop':Tryz.prog.cellsOf 48=5:=by kernel_rfl
theorem cellsEvent:Tryz.prog.cellsOf 45=6:=by kernel_rfl
theorem cellsSign':Tryz.prog.cellsOf 42=3:=by kernel_rfl
theorem cellsStops:Tryz.prog.cellsOf 43=1:=by kernel_rfl
theorem cellsEvents:Tryz.prog.cellsOf 27=1:=by kernel_rfl
theorem cellsPiece:Tryz.prog.cellsOf 29=3:=by kernel_rfl
theorem open_stops {n:Nat} {v:Value} {x:DataW H×List MemPlace} (h:DataW.trod enc Tryz.prog w base spare held n 43 [v]=some x) :
  ∃ (A:Option Addr)(c:Nat)(l:List Stp),v=.slice A l.length c∧l.length≤c∧c≤maxLen∧StpsAt w w.heap.size A l:=by
 rcases open_slice (P:=Tryz.prog) Tryz.underlying43 h with⟨h0,_⟩|⟨a,len,cap,m,n',D,Pl,hcs,hb,hl,hm,hmm,_,hi⟩
 ·obtain rfl:v=.slice none 0 0:=by simpa using h0
  exact⟨none,0,[],rfl,by simp,by simp,Rd.none_⟩
 ·obtain rfl:v=.slice (some a) len cap:=by simpa using hcs
  have hlm:len≤m:=by rw [hmm];split<;>omega
  obtain⟨l,hlen,hq⟩:=list_of (Q:=fun i (x:Stp)=>∀ j u,(stpCells x)[j]?=some u→w.cell? (a.add (i*5+j))=some u) len (fun i hil=>by
   obtain⟨cs',hc,ht'⟩:=hi i zqo
   rw [cellsStop'] at hc
   obtain⟨ys,n2,_,_,hlen,hys,hf⟩:=DataW.trod_struct Tryz.underlying48 ht'
   obtain⟨_,hcl,hat⟩:=World.cells?_some hc
   match cs',hcl with
   | [u0,u1,u2,u3,u4],_ =>
    have f0:DataW.trod enc Tryz.prog w base spare held n2 3 [u0]=ys[0]?:=by simpa [cellsInt] using hf 0 _ rfl
    have f1:DataW.trod enc Tryz.prog w base spare held n2 3 [u1]=ys[1]?:=by simpa [cellsInt] using hf 1 _ rfl
    have f2:DataW.trod enc Tryz.prog w base spare held n2 3 [u2]=ys[2]?:=by simpa [cellsInt] using hf 2 _ rfl
    have f3:DataW.trod enc Tryz.prog w base spare held n2 3 [u3]=ys[3]?:=by simpa [cellsInt] using hf 3 _ rfl
    have f4:DataW.trod enc Tryz.prog w base spare held n2 3 [u4]=ys[4]?:=by simpa [cellsInt] using hf 4 _ rfl
    have gy:∀ j,j<5→∃ y,ys[j]?=some y:=fun j hj=>⟨_,List.getElem?_eq_getElem (by rw [hys];exact hj)⟩
    obtain⟨y0,hy0⟩:=gy 0 zqo
    obtain⟨y1,hy1⟩:=gy 1 zqo
    obtain⟨y2,hy2⟩:=gy 2 zqo
    obtain⟨y3,hy3⟩:=gy 3 zqo
    obtain⟨y4,hy4⟩:=gy 4 zqo
    rw [hy0] at f0;rw [hy1] at f1;rw [hy2] at f2;rw [hy3] at f3;rw [hy4] at f4
    obtain⟨a0,e0,_,_⟩:=DataW.trod_int Tryz.underlying3 f0
    obtain⟨a1,e1,_,_⟩:=DataW.trod_int Tryz.underlying3 f1
    obtain⟨a2,e2,_,_⟩:=DataW.trod_int Tryz.underlying3 f2
    obtain⟨a3,e3,_,_⟩:=DataW.trod_int Tryz.underlying3 f3
    obtain⟨a4,e4,_,_⟩:=DataW.trod_int Tryz.underlying3 f4
    simp only [List.cons.injEq,and_true] at e0 e1 e2 e3 e4
    subst e0 e1 e2 e3 e4
    refine⟨(a0,a1,a2,a3,a4),fun j u hu=>?_⟩
    have hj:j<5:=(List.getElem?_eq_some_iff.1 hu).1
    have:=hat j hj
    rw [add_of_add] at this
    rw [this]
    exact hu)
  refine⟨some a,cap,l,by rw [hlen],by omega,hm,fun hpos=>⟨a,rfl,?_,?_⟩⟩
  ·have hpos':0<l.length:=by simpa using hpos
   have:=World.block_lt_of_cell? w _ (hq 0 hpos' 0 _ rfl)
   rwa [block_of_add] at this
  ·intro k r hr j u hu
   rw [List.getElem?_map] at hr
   cases hk:l[k]? with
   | none=>rw [hk] at hr;cases hr
   | some x =>
    rw [hk] at hr
    obtain rfl:stpCells x=r:=by simpa using hr
    obtain⟨hkl,hkx⟩:=List.getElem?_eq_some_iff.1 hk
    have q:=hq k hkl
    rw [hkx] at q
    exact q j u hu
end
end
end Go.Proofs.YtaeelcfjkhfpkaaGreat
