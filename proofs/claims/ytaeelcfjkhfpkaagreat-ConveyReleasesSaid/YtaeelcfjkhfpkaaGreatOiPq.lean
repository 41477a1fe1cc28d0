/- An instrument among the arguments, as a tree. -/
import Derived.Test.YtaeelcfjkhfpkaaGreatU9Pq
set_option maxHeartbeats 8000000
set_option maxRecDepth 100000
set_option linter.unusedVariables false
set_option linter.unusedSimpArgs false
namespace Go.Proofs.YtaeelcfjkhfpkaaGreat
section
open Go.RowKit
section
variable {P:Program} {o:Oper} {a:Act} {w:World} {K K1 K2:Act→World→Prop} {Q:Exit→Act→World→Prop}
theorem run_v (s:Sem Value)(n:Next)(w':World)(h:(do pure (Next.value (← s)):Sem Next).run P w=.ok n w'):∃ x,n=.value x:=by
 rw [Sem.run_bind]at h
 cases hs:s.run P w with
 | ok x w1=>rw [hs]at h;simp only [Result.andThen,Sem.run_pure]at h;cases h;exact⟨x,rfl⟩
 | halt x w1=>rw [hs]at h;simp only [Result.andThen]at h;cases h
theorem run_u(s:Sem Unit)(n:Next)(w':World)(h:(do s;pure Next.skip:Sem Next).run P w=.ok n w'):n=.skip:=by
 rw [Sem.run_bind]at h
 cases hs:s.run P w with
 | ok x w1=>rw [hs]at h;simp only [Result.andThen,Sem.run_pure]at h;cases h;rfl
 | halt x w1=>rw [hs]at h;simp only [Result.andThen]at h;cases h
end
section
variable {P:Program} {ops A B:Array Oper} {π ρ π' ρ':Nat→Nat} {i j k:Nat} {L LA LB:Array Bool} {a:Act} {w:World} {K K1 K2:Act→World→Prop} {Q:Exit→Act→World→Prop}
theorem getD_tf {L:Array Bool} {p:Nat} (h:p<L.size):L.getD p true=L.getD p false:=by simp [Array.getD_eq_getD_getElem?,h]
theorem ready_lt(h:k∈Region.ready .any ops L):k<ops.size:=by
 obtain⟨_,o,ho,_⟩:=mem_ready.1 h
 exact(Array.getElem?_eq_some_iff.1 ho).1
end
end
section
open Go.RowKit
def aft (π:List Nat)(i j p:Nat)(o:Oper):List Edge:=((o.after.toList.filter (Region.binds .any)).map fun (e:Edge)=>(⟨π.getD e.on 0,.data⟩:Edge))++(bif Nat.beq p j then [(⟨π.getD i 0,.data⟩:Edge)]else [])
def reo (L:List Oper) (π ρ:List Nat) (i j:Nat):List Oper:=(List.range L.length).map fun q =>
 { L.getD (ρ.getD q 0) default with after:=(aft π i j (ρ.getD q 0) (L.getD (ρ.getD q 0) default)).toArray }
end
section
open Go.RowKit
section
variable {B:World→View→Prop} {gl:Nat} {P:Program} {C:Cx} {σ:St} {o:Oper} {d:Tmp} {av:AV} {ops:Array Oper} {rest l:List Oper} {Q:Exit→St→Prop} {mem:List Bool} {Mc McB:List (Nat×AO)} {e0 nk0 k:Nat}
theorem DTK.ixs {q:Nat} {rows:List (List AV)} {z:Int} (hd:memB C.N ops mem McB k nk0 σ.t o=some (d,true)) (hn:needs ops k ops.size e0=true) (h:ixsV P ⟨onlyT σ.t (o.looksAt ops),McB,nk0⟩ o.op=some (q,rows,z)) (h0:0≤z∧z<rows.length)
  (r:DTK P C ops mem Mc McB e0 nk0 (k+1) rest (σ.put d (.pt q z.toNat 0)) Q):DTK P C ops mem Mc McB e0 nk0 k (o::rest) σ Q:=DTK.vl hd hn (ixsV_of h h0.1 h0.2) r
theorem DTK.al {T:TypeId} {z:Value} {l:List AV} (hd:wrB mem C.N k o=some d) (ho:o.op=.alloc T) (hz:(P.info? T).bind (·.zero)=some z) (hl:z.cells.toList.map .sc=l) (hs:msSub Mc ((σ.nk,.box T l)::σ.M)) (hsB:Nat.blt k e0=true→msSub McB ((σ.nk,.box T l)::σ.M))
  (r:DTK P C ops mem Mc McB e0 nk0 (k+1) rest ⟨(d,.pt σ.nk 0 0)::σ.t,(σ.nk,.box T l)::σ.M,σ.nk+1⟩ Q):DTK P C ops mem Mc McB e0 nk0 k (o::rest) σ Q:=by
 obtain ⟨a,b,c,e⟩:=wrB_of hd
 have he:ent1 o.dst true (.pt σ.nk 0 0)=[(d,.pt σ.nk 0 0)]:=by rw [b];rfl
 refine DTK.wr (.pt σ.nk 0 0) a (Nat.ble_eq_true_of_le (Nat.le_succ _)) hs hsB ⟨c,fun t _=>?_⟩ (by rw [he];exact r)
 rw [he]
 exact WO.alloc (σ:=⟨t,σ.M,σ.nk⟩) ho hz b e hl rfl
end
end
section
open Go.RowKit
def sufQ (T off:Nat) (xs:List Value):Opq where
 Q w b h φ:=φ b∧∃ A cap,h=.slice A xs.length cap∧xs.length≤cap∧(0<xs.length→A=some ⟨b,off,none⟩∧∃ cur,w.heap[b]?=some (.cells cur T (0,0))∧∀ (i:Nat)u,xs[i]?=some u→cur[off+i]?=some u∧u.oneCell'=true)
 st w w' b v φ hw h:=by
  obtain ⟨hb,A,cap,e1,e2,e3⟩:=h
  refine ⟨hb,A,cap,e1,e2,fun hp=>?_⟩
  obtain ⟨e4,cur,e5,e6⟩:=e3 hp
  exact ⟨e4,cur,(hw b hb).trans e5,e6⟩
section
variable {P:Program} {C:Cx} {σ σ':St} {G G':Gh} {a:Act} {w w':World} {o:Oper} {d:Tmp} {ops:Array Oper} {rest:List Oper} {Q:Exit→St→Prop}
theorem suf_at (ok:Ok C σ G a w) {T off q:Nat} {xs:List Value} {x:Operand} (hx:σ.ev x=some (.sl q)) (hq:look q σ.M=some (.opq (sufQ T off xs))) :
  G.fp q (G.b q)∧∃ A cap,a.eval x=.slice A xs.length cap∧xs.length≤cap∧(0<xs.length→A=some ⟨G.b q,off,none⟩∧∃ cur,w.heap[G.b q]?=some (.cells cur T (0,0))∧∀ (i:Nat)u,xs[i]?=some u→cur[off+i]?=some u∧u.oneCell'=true):=by
 obtain ⟨hb,A,cap,e1,e2,e3⟩:(sufQ T off xs).Q w (G.b q) (G.h q) (G.fp q):=(ok.ob q _ hq).2.2
 exact ⟨hb,A,cap,(ok.evr hx).2.sl_of.1.trans e1,e2,e3⟩
theorem WV.sufLen {x:Operand} {T e T' off q:Nat} {xs:List Value} (ho:o.op=.call { callee:=.builtin .len,args:=#[x],argTypes:=#[T] })(hT:P.underlying T=some (.slice e))(hx:σ.ev x=some (.sl q))(hq:look q σ.M=some (.opq (sufQ T' off xs))):WV P C o σ (.sc (.int .i64 xs.length)) :=
 WV.sc fun G a w ok=>by
  obtain⟨_,A,c,e2,_⟩:=suf_at ok hx hq
  unfold execOp
  simp [ho,resolve,invoke,builtin,e2,Builtin.len_,run_underlying hT,goInt]
theorem WV.sufIdx {T e T' off k:Nat} {x y:Operand} {xs:List Value} {q:IntKind} {z:Int} (ho:o.op=.indexAddr T x y) (hT:P.underlying T=some (.slice e)) (hn:sizeB P e=some 1)
  (hx:σ.ev x=some (.sl k)) (hy:σ.ev y=some (.sc (.int q z))) (hk:look k σ.M=some (.opq (sufQ T' off xs))) (h0:0≤z∧z < xs.length) {m:Nat} (hm:off+z.toNat=m):WV P C o σ (.pt k 0 m) :=
 WV.val (fun G a w ok=>.pt _ _ _ (ok.ob k _ hk).1) fun G a w ok=>by
  obtain ⟨_,A,c,e1,_,e3⟩:=suf_at ok hx hk
  obtain ⟨e4,_⟩:=e3 zqo
  rw [e4] at e1
  obtain ⟨q1,q2,q3⟩:=add_ptr (j:=z.toNat*1) (⟨G.b k,off,none⟩:Addr) rfl rfl
  refine ⟨_,by unfold execOp;simp [ho,e1,ok.evs hy,run_index hT hn _ xs.length c q z h0.1 h0.2],.pt k 0 m _ q1 ?_ q3⟩
  rw [q2];simp;omega
theorem WV.sufLd {T T' off k m i:Nat} {x:Operand} {xs:List Value} {u:Value} (ho:o.op=.load T x) (hT:aggB P T=some false) (hx:σ.ev x=some (.pt k 0 m)) (hk:look k σ.M=some (.opq (sufQ T' off xs))) (hm:m=off+i) (hi:xs[i]?=some u):WV P C o σ (.sc u) :=
 WV.sc fun G a w ok=>by
  obtain ⟨p,ep,p1,p2,p3⟩:=(ok.evr hx).2.pt_of
  obtain ⟨_,A,c,_,_,e3⟩:(sufQ T' off xs).Q w (G.b k) (G.h k) (G.fp k):=(ok.ob k _ hk).2.2
  obtain ⟨_,cur,e5,e6⟩:=e3 (by have:=(List.getElem?_eq_some_iff.1 hi).1;omega)
  have hB:Blk w (G.b k) T' cur:=e5
  have hpe:p=⟨G.b k,off+i,none⟩:=by
   obtain ⟨b,o2,s⟩:=p
   dsimp only at p1 p2 p3
   subst p1 p3
   rw [Nat.zero_mul,Nat.zero_add] at p2
   rw [p2,hm]
  have hu:w.cell? p=some u:=by rw [hpe,hB.cell,(e6 i u hi).1]
  unfold execOp
  simp [ho,ep,run_load1 hT hu]
theorem set_toList_get {cur:Array Value} {i j:Nat} {u:Value} (h:i<cur.size):((cur.toList.take i++[u]++cur.toList.drop (i+1)).toArray)[j]?=if j=i then some u else cur[j]?:=by
 rw [List.getElem?_toArray]
 have hl:(cur.toList.take i).length=i:=by rw [List.length_take,Array.length_toList];omega
 by_cases e:j=i
 ·subst e
  rw [if_pos rfl,List.getElem?_append_left (by rw [List.length_append,hl];simp),List.getElem?_append_right (by omega),hl,Nat.sub_self];rfl
 ·rw [if_neg e]
  by_cases e2:j<i
  ·rw [List.getElem?_append_left (by rw [List.length_append,hl];simp;omega),List.getElem?_append_left (by omega),List.getElem?_take_of_lt e2,Array.getElem?_toList]
  ·rw [List.getElem?_append_right (by rw [List.length_append,hl];simp;omega),List.getElem?_drop,List.length_append,hl,Array.getElem?_toList]
   congr 1
   simp;omega
theorem WO.sufSt {T T' off k m i:Nat} {x y:Operand} {xs:List Value} {u:Value} (ho:o.op=.store T x y) (hds:o.dst=none) (hn:sizeB P T=some 1) (hx:σ.ev x=some (.pt k 0 m)) (hk:look k σ.M=some (.opq (sufQ T' off xs))) (hm:m=off+i) (hi:i < xs.length) (hy:σ.ev y=some (.sc u)) (hu:u.oneCell'=true) :
  WO P C o σ (σ.upd k (.opq (sufQ T' off (xs.set i u)))):=by
 intro G a w ok N Q' hN
 obtain ⟨p,ep,p1,p2,p3⟩:=(ok.evr hx).2.pt_of
 obtain ⟨hb,A,c,e1,e2,e3⟩:(sufQ T' off xs).Q w (G.b k) (G.h k) (G.fp k):=(ok.ob k _ hk).2.2
 obtain ⟨e4,cur,e5,e6⟩:=e3 zqo
 have hpe:p=⟨G.b k,off+i,none⟩:=by
  obtain ⟨b,o2,s⟩:=p
  dsimp only at p1 p2 p3
  subst p1 p3
  rw [Nat.zero_mul,Nat.zero_add] at p2
  rw [p2,hm]
 have hlt:off+i < cur.size:=by
  have:=(e6 i xs[i] (List.getElem?_eq_getElem hi)).1
  exact (Array.getElem?_eq_some_iff.1 this).1
 have huc:u.cells=#[u]:=by cases u<;>first|rfl|cases hu
 have hst:=run_storeCells_at P (G.b k) (off+i) T' [u] 0 cur w e5 (by simp;omega) (fun v hv=>by rw [List.mem_singleton] at hv;rw [hv];exact hu)
 rw [Nat.add_zero] at hst
 have hv:a.eval y=u:=ok.evs hy
 unfold Oper.wp execOp
 simp only [ho,ep,hpe,hv,Instr.storeAt,Instr.sureAddr,storeVar,Sem.run_bind,Sem.run_pure,Result.andThen_ok,run_sizeB hn,huc]
 rw [if_neg (by simp)]
 simp only [Sem.run_bind,Sem.run_pure,Result.andThen_ok,hst,Oper.upon]
 rw [hds]
 refine hN G _ _ (ok.write _ hk hb ?_ trivial)
 refine ⟨hb,A,c,by rw [List.length_set];exact e1,by rw [List.length_set];exact e2,fun _=>⟨e4,_,setRow_heap w _ _ _ _ _ e5,fun j v hj=>?_⟩⟩
 rw [show ([u]:List Value).length=1 from rfl,set_toList_get hlt]
 rw [List.getElem?_set] at hj
 by_cases e:i=j
 ·subst e
  rw [if_pos rfl,if_pos hi] at hj
  cases hj
  rw [if_pos rfl];exact ⟨rfl,hu⟩
 ·rw [if_neg e] at hj
  rw [if_neg (by omega)]
  exact e6 j v hj
def sufV (P:Program)(σ:St):Op→Option (Nat×TypeId×List (List AV)×Int)
 | .slice T x (some y) none none =>
  match P.underlying T,σ.ev x,σ.ev y with
  | some (.slice e),some (.sl k),some (.sc (.int _ j)) =>
   match sizeB P e,look k σ.M with
   | some 1,some (.row T' 1 rows)=>some (k,T',rows,j)
   | _,_=>none
  | _,_,_=>none
 | _=>none
theorem WO.suf {q:Nat} {T':TypeId} {rows:List (List AV)} {ys:List Value} {j:Int} (hd:dstB C.N o=some d) (h:sufV P σ o.op=some (q,T',rows,j)) (hr:rows=ys.map fun u=>[AV.sc u]) (hj:0≤j∧j≤rows.length) (hp:0<rows.length) :
  WO P C o σ (((σ.drop q).new (.opq (sufQ T' j.toNat (ys.drop j.toNat)))).put d (.sl σ.nk)):=by
 intro G a w ok N Q' hN
 obtain ⟨_,hds,hdb⟩:=dstB_of hd
 unfold sufV at h
 split at h
 ·rename_i T x y ho
  split at h
  ·rename_i e k kj j' hT hx hy
   split at h
   ·rename_i T2 rows' hm hk
    cases h
    obtain ⟨hn',hg,hR⟩:=(ok.ob q _ hk).2.2
    obtain ⟨A,c,hv⟩:=hR.len
    have ex:a.eval x=.slice A rows.length c:=(ok.evr hx).2.sl_of.1.trans hv
    obtain ⟨hrl,vs,Φ,h4,h5,h7,hgf,_,_,h8,h6⟩:=hR
    rcases h4.2 with⟨e1,e2⟩|⟨g,cap,cur,e1,_,hh,hnc,hcm,hcs,ht⟩
    ·omega
    rw [hv] at e1 hg hgf
    injection e1 with a1 a2 a3
    subst a1 a3
    have hgb:g=G.b q:=hg g rfl
    have hfg:G.fp q g:=hgf g rfl
    have hcap:rows.length≤c:=by omega
    have hrun:=run_sliceS (P:=P) hT hm (some ⟨g,0,none⟩) rows.length c (some (a.eval y)) none j rows.length w (.inl ⟨kj,by rw [ok.evs hy]⟩) (.inr ⟨rfl,rfl⟩) ⟨hj.1,hj.2,Int.le_refl _⟩ hcap
    rw [Int.toNat_natCast,Nat.mul_one] at hrun
    have hsa:(Instr.sliceAt T (.slice (some ⟨g,0,none⟩) rows.length c) (some (a.eval y)) none none).run P w=.ok (.slice (if c=j.toNat then some ⟨g,0,none⟩ else (some (⟨g,0,none⟩:Addr)).map (·.add j.toNat)) (rows.length-j.toNat) (c-j.toNat)) w:=by
     unfold Instr.sliceAt
     rw [Sem.run_bind,run_underlying hT w];exact hrun
    have hyl:ys.length=rows.length:=by rw [hr,List.length_map]
    have hvs:∀ (i:Nat) (u:Value),ys[i]?=some u→cur[i]?=some u∧u.oneCell'=true:=fun i u hu=>by
     have hi:i<ys.length:=(List.getElem?_eq_some_iff.1 hu).1
     have hri:rows[i]?=some [AV.sc u]:=by rw [hr,List.getElem?_map,hu];rfl
     have hvi:vs[i]?=some vs[i]:=List.getElem?_eq_getElem (by omega)
     have hl1:(vs[i]' zqo).length=1:=h8 i _ _ hri hvi
     have hx0:=h6 i _ _ 0 (.sc u) _ hri hvi rfl (List.getElem?_eq_getElem (by omega))
     have hx1:=RP.sc_eq hx0
     have hmem:u∈vs[i]'(by omega):=by rw [← hx1];exact List.getElem_mem _
     refine ⟨?_,h7 _ (List.getElem_mem _) u hmem⟩
     have hv1:(vs[i]' zqo)=[u]:=by
      apply List.ext_getElem hl1
      intro n n1 n2
      have:n=0:=by simp at n2;omega
      subst this
      exact hx1
     have hfl:∀ (l:List (List Value)) (i:Nat),(∀ r∈l,r.length=1)→l.flatten[i]?=(l[i]?).bind (·[0]?):=by
      intro l
      induction l with
      | nil=>intro i _;simp
      | cons x r ih =>
       intro i hl
       have h1:=hl x (by simp)
       obtain ⟨z,rfl⟩:∃ z,x=[z]:=by
        match x,h1 with
        | [z],_=>exact ⟨z,rfl⟩
       cases i with
       | zero=>rfl
       | succ i=>simpa using ih i fun r hr=>hl r (by simp [hr])
     have hall:∀ r∈vs,r.length=1:=fun r hr2=>by
      obtain ⟨n,hn2,rfl⟩:=List.getElem_of_mem hr2
      have:=h8 n _ _ (List.getElem?_eq_getElem (show n<rows.length by omega)) (List.getElem?_eq_getElem hn2)
      rw [this];exact hrl _ (List.getElem_mem _)
     have hf:=hfl vs i hall
     rw [← ht,Nat.mul_one,List.getElem?_take_of_lt (by omega),Array.getElem?_toList,hvi,hv1] at hf
     exact hf
    have ok':=(ok.drop_ q).newObj (S:=fun _=>False) (w':=w) (b:=G.b q) (n:=1) (h:=.slice (if c=j.toNat then some ⟨g,0,none⟩ else (some (⟨g,0,none⟩:Addr)).map (·.add j.toNat)) (rows.length-j.toNat) (c-j.toNat)) (φ:=G.fp q) (ob:=.opq (sufQ T' j.toNat (ys.drop j.toNat)))
     (Kept.refl _ w) (fun _ h=>h.elim) (fun _ _ _ _ _ h=>h) (fun _ _ _ h=>h)
     (by
      show (sufQ T' j.toNat (ys.drop j.toNat)).Q w _ _ _
      rw [with_b,with_h,with_f]
      refine ⟨by rw [← hgb];exact hfg,_,_,by rw [List.length_drop,hyl],by rw [List.length_drop];omega,fun hp2=>?_⟩
      rw [List.length_drop] at hp2
      rw [if_neg (by omega)]
      refine ⟨?_,cur,by rw [← hgb];exact hh,fun i u hu=>?_⟩
      ·simp only [Option.map_some,add_flat,Nat.zero_add]
       rw [hgb]
      ·rw [List.getElem?_drop] at hu
       exact hvs _ u hu)
     trivial (fun x hx=>⟨(ok.my q _ x hk hx).1,(ok.my q _ x hk hx).2,fun i oi hi h2=>(drop_look hi).1 (ok.dj i oi q _ x (drop_look hi).2 hk h2 hx),fun p u=>ok.dF q _ x p u hk hx⟩)
    unfold Oper.wp execOp
    simp only [ho,ex,Option.map_none,Option.map_some,Sem.run_bind,hsa,Sem.run_pure,Result.andThen_ok,Oper.upon]
    rw [hds]
    exact hN _ _ _ (ok'.set (d:=some d) (av:=.sl σ.nk) (with_sl rfl) (.sl _ (Nat.lt_succ_self _)) fun x hx=>by cases hx;exact of_blt hdb)
   ·cases h
  ·cases h
 ·cases h
theorem WL.suf {q:Nat} {T':TypeId} {rows:List (List AV)} {ys zs:List Value} {j:Int} {t:List (Nat×AV)} {M M':List (Nat×AO)} {nk f:Nat} (hd:dstB C.N o=some d) (h:sufV P ⟨t,M,nk⟩ o.op=some (q,T',rows,j)) (hM:remS q M=some M') (hr:rows=ys.map fun u=>[AV.sc u]) (hj:0≤j∧j≤rows.length) (hp:0<rows.length) (hf:j.toNat=f) (hz:ys.drop f=zs)
  (k:WL P C ops rest ⟨(d,.sl nk)::t,(nk,.opq (sufQ T' f zs))::M',nk+1⟩ Q):WL P C ops (o::rest) ⟨t,M,nk⟩ Q:=by
 subst hf hz
 rw [remS_eq hM] at k
 exact WL.op (dstB_of hd).1 (WO.suf hd h hr hj hp) k
theorem Tr.freezeS (k:Nat) {T off:Nat} {xs:List Value} {rows:List (List AV)} (hk:look k σ.M=some (.opq (sufQ T off xs))) (hr:(xs.map fun u=>[AV.sc u])=rows):Tr C σ (σ.freeze k 1 rows):=by
 subst hr
 refine Tr.freezeG k hk fun G w F' h hle hF=>?_
 obtain ⟨hb,A,c,e1,e2,e3⟩:(sufQ T off xs).Q w (G.b k) (G.h k) (G.fp k):=h
 rw [e1,show xs.length=(xs.map fun u=>[AV.sc u]).length from (List.length_map _).symm]
 refine .ls 1 _ A c ⟨G.b k,off,none⟩ (fun i _=>xs.getD i undef) (by rw [List.length_map];exact e2) (fun r hr=>?_) (fun hp=>(e3 (by rw [List.length_map] at hp;exact hp)).1) (fun i r j av h1 h2=>?_) fun i r j av h1 h2=>?_
 ·obtain ⟨u,_,rfl⟩:=List.mem_map.1 hr;rfl
 ·rw [List.getElem?_map] at h1
  cases hx:xs[i]? with
  | none=>rw [hx] at h1;cases h1
  | some u =>
   rw [hx] at h1
   cases h1
   obtain ⟨_,cur,e5,e6⟩:=e3 (by have:=(List.getElem?_eq_some_iff.1 hx).1;omega)
   have hB:Blk w (G.b k) T cur:=e5
   have hj:j=0:=by cases j with|zero=>rfl|succ j=>simp at h2
   subst hj
   have hadd:(⟨G.b k,off,none⟩:Addr).add (i*1+0)=⟨G.b k,off+i,none⟩:=by simp [Addr.add]
   rw [hadd,List.getD_eq_getElem?_getD,hx,hF _ hb,hB.cell,(e6 i u hx).1]
   exact ⟨rfl,(e6 i u hx).2⟩
 ·rw [List.getElem?_map] at h1
  cases hx:xs[i]? with
  | none=>rw [hx] at h1;cases h1
  | some u =>
   rw [hx] at h1
   cases h1
   have hj:j=0:=by cases j with|zero=>rfl|succ j=>simp at h2
   subst hj
   cases h2
   rw [List.getD_eq_getElem?_getD,hx]
   exact .sc _
end
section
variable {P:Program} {C:Cx} {σ:St} {o:Oper} {d:Tmp} {ops:Array Oper} {rest:List Oper} {Q:Exit→St→Prop} {mem:List Bool} {Mc McB:List (Nat×AO)} {e0 nk0 k:Nat}
theorem DTK.sufSt {T T' off q m i:Nat} {x y:Operand} {xs ys:List Value} {u:Value} {M2:List (Nat×AO)} (hm:mem.getD k false=true) (hg:o.guard=none) (hds:o.dst=none) (ho:o.op=.store T x y) (hn:sizeB P T=some 1) (hx:σ.ev x=some (.pt q 0 m)) (hk:look q σ.M=some (.opq (sufQ T' off xs))) (hme:m=off+i) (hi:i<xs.length) (hy:σ.ev y=some (.sc u)) (hu:u.oneCell'=true)
  (he:xs.set i u=ys) (hM:remS q σ.M=some M2) (hs:msSub Mc ((q,.opq (sufQ T' off ys))::M2)) (hsB:Nat.blt k e0=true→msSub McB ((q,.opq (sufQ T' off ys))::M2)) (r:DTK P C ops mem Mc McB e0 nk0 (k+1) rest ⟨σ.t,(q,.opq (sufQ T' off ys))::M2,σ.nk⟩ Q):DTK P C ops mem Mc McB e0 nk0 k (o::rest) σ Q:=by
 subst he
 have he:∀ av,ent1 o.dst true av=[]:=fun av=>by rw [hds];rfl
 refine DTK.wr (.sc undef) hm (Nat.ble_eq_true_of_le (Nat.le_refl _)) hs hsB ⟨hg,fun t H=>?_⟩ (by rw [he];exact r)
 rw [he]
 have hmem:∀ z∈[x,y],z∈o.op.operands.toList:=fun z hz=>by rw [ho];simp [Op.operands] at hz ⊢;exact hz
 rw [remS_eq hM]
 exact wo_rem (WO.sufSt (σ:=⟨t,σ.M,σ.nk⟩) ho hds hn ((ev_agree H (hmem x (by simp))).trans hx) hk hme hi ((ev_agree H (hmem y (by simp))).trans hy) hu)
end
end
section
open Go.RowKit
def rlX (p:Pce) (cs:List (Int×Int×Bool)) (st:List Int) (f:Int):Int:=if pceE p≠0 then pceE p else if cpX cs st f≠0 then cpX cs st f else if sameI (cpCs cs st f) (cpSt cs st f) p.cs p.st=true then 0 else 11
def rlP (p:Pce)(cs:List (Int×Int×Bool))(st:List Int)(f:Int):Pce:=if rlX p cs st f=0 then⟨cs,st,p.evs.map (gmE (shF cs f))⟩else noP
end
section
open Go.RowKit
theorem nch_val {P:Program} {w:World} {ev:Operand→Value} {o:Oper} {x:Operand} (ho:o.op=.nilCheck x)(n:Next)(w':World)(h:(execOp ev o).run P w=.ok n w'):∃ v,n=.value v:=by
 unfold execOp at h
 simp only [ho] at h
 generalize ev x=v at h
 split at h
 ·cases h
 ·cases h
 ·cases h
 ·split at h
  ·cases h
  ·rw [Sem.run_bind] at h
   generalize Sem.run P program w=r1 at h
   cases r1 with
   | ok a w1 =>
    simp only [Result.andThen] at h
    rw [Sem.run_bind] at h
    generalize Sem.run P (nilAhead _ _ _ _) w1=r2 at h
    cases r2 with
    | ok b w2 =>
     simp only [Result.andThen] at h
     split at h
     ·rw [Sem.run_bind] at h
      generalize Sem.run P (unsupported _) w2=r3 at h
      cases r3 with
      | ok c w3=>simp only [Result.andThen] at h;cases h;exact⟨_,rfl⟩
      | halt c w3=>simp only [Result.andThen] at h;cases h
     ·cases h;exact⟨_,rfl⟩
    | halt b w2=>simp only [Result.andThen] at h;cases h
   | halt a w1=>simp only [Result.andThen] at h;cases h
  ·cases h;exact⟨_,rfl⟩
 ·cases h;exact⟨_,rfl⟩
section
variable {P:Program} {o:Oper} {a:Act} {w:World} {K K1 K2:Act→World→Prop} {Q:Exit→Act→World→Prop}
theorem tame_app {ev:Operand→Value} {c:Call} {T:TypeId} (hc:c.callee=.builtin .append)(n:Next)(w':World)(h:(do let d ← resolve ev c T;invoke d.target d.args:Sem Next).run P w=.ok n w'):∃ x,n=.value x:=by
 unfold resolve at h
 simp only [hc,Sem.run_bind,Sem.run_pure,Result.andThen_ok,invoke,builtin]at h
 cases hs:(Builtin.append_ c.argTypes T (c.args.map ev)).run P w with
 | ok x w1=>rw [hs]at h;simp only [Result.andThen]at h;cases h;exact⟨x,rfl⟩
 | halt x w1=>rw [hs]at h;simp only [Result.andThen]at h;cases h
theorem tame_no2 {ev:Operand→Value} (ht:tame2 o.op=true) (n:Next) (w':World) (h:(execOp ev o).run P w=.ok n w'):(∃ x,n=.value x)∨n=.skip:=by
 by_cases hn:∃ x,o.op=.nilCheck x
 ·obtain ⟨x,hx⟩:=hn
  exact .inl (nch_val hx n w' h)
 unfold execOp at h
 cases ho:o.op<;>simp only [ho,tame2]at ht h<;>first
  | (cases ht;done)
  |exact .inl (run_v _ _ _ h)
  |exact .inr (run_u _ _ _ h)
  | (refine .inl (tame_app ?_ n w' h);revert ht;split<;>first|(intro _;assumption)|(intro ht;cases ht))
  | (cases h;exact .inl ⟨_,rfl⟩)
  | (exact (hn ⟨_,ho⟩).elim)
theorem wp_and2 (ht:tame2 o.op=true)(h1:o.wp P a w K1 Q)(h2:o.wp P a w K2 Q):o.wp P a w (fun a w=>K1 a w∧K2 a w) Q:=by
 unfold Oper.wp at *
 cases hr:(execOp a.eval o).run P w with
 | ok n w' =>
  rw [hr] at h1 h2
  rcases tame_no2 ht n w' hr with⟨x,rfl⟩|rfl
  ·exact⟨h1,h2⟩
  ·exact⟨h1,h2⟩
 | halt x w'=>rw [hr] at h1 h2;cases x<;>simp only [Oper.upon] at h1 h2 ⊢<;>exact h1
end
section
variable {P:Program} {ops A B:Array Oper} {π ρ π' ρ':Nat→Nat} {i j k:Nat} {L LA LB:Array Bool} {a:Act} {w:World} {K K1 K2:Act→World→Prop} {Q:Exit→Act→World→Prop}
theorem Agr2.put (hl:Laid2 ops A π ρ i j) (h:Agr2 ops.size π L LA) (hk:k<ops.size):Agr2 ops.size π (L.setIfInBounds k true) (LA.setIfInBounds (π k) true):=by
 refine ⟨by simp [h.s1],by simp [h.s2],fun p hp=>?_⟩
 by_cases e:k=p
 ·subst e
  have h1:k<L.size:=by rw [h.s1];exact hk
  have h2:π k<LA.size:=by rw [h.s2];exact hl.lt k hk
  simp [Array.getD_eq_getD_getElem?,h1,h2]
 ·have e2:π k≠π p:=fun x=>e (by rw [← hl.inv k hk,x,hl.inv p hp])
  have:=h.at_ p hp
  simp only [Array.getD_eq_getD_getElem?] at this ⊢
  rw [Array.getElem?_setIfInBounds_ne e,Array.getElem?_setIfInBounds_ne e2]
  exact this
theorem ready_to2 (hl:Laid2 ops A π ρ i j) (h:Agr2 ops.size π L LA) (hij:k=j→L.getD i false=true) (hk:k∈Region.ready .any ops L):π k∈Region.ready .any A LA:=by
 have hlt:=ready_lt hk
 obtain ⟨h1,o,ho,h2⟩:=mem_ready.1 hk
 obtain ⟨X,hX,hX1,_⟩:=hl.op k o ho
 refine mem_ready.2 ⟨?_,_,hX,fun e he hb=>?_⟩
 ·rw [getD_tf (by rw [h.s2];exact hl.lt k hlt),h.at_ k hlt,← getD_tf (by rw [h.s1];exact hlt)];exact h1
 ·rcases hX1 e he hb with⟨e',he',hb',heq⟩|⟨rfl,heq⟩
  ·rw [heq,h.at_ _ ((hl.tm k o ho).2.2 e' he')];exact h2 e' he' hb'
  ·rw [heq,h.at_ _ hl.hi];exact hij rfl
theorem ready_of2 (hl:Laid2 ops A π ρ i j) (h:Agr2 ops.size π L LA) {q:Nat} (hq:q∈Region.ready .any A LA):ρ q∈Region.ready .any ops L:=by
 have hlt:=ready_lt hq
 rw [hl.sz] at hlt
 obtain ⟨h1,o',ho',h2⟩:=mem_ready.1 hq
 have hr:=hl.ltr q hlt
 have ho:ops[ρ q]?=some ops[ρ q]:=Array.getElem?_eq_getElem hr
 obtain ⟨X,hX,_,hX2⟩:=hl.op (ρ q) _ ho
 rw [hl.inr q hlt,ho'] at hX
 cases hX
 refine mem_ready.2 ⟨?_,_,ho,fun e' he' hb'=>?_⟩
 ·rw [getD_tf (by rw [h.s1];exact hr),← h.at_ _ hr,hl.inr q hlt,← getD_tf (by rw [h.s2];exact hlt)];exact h1
 ·obtain ⟨e,he,hb,heq⟩:=hX2 e' he' hb'
  rw [← h.at_ _ ((hl.tm _ _ ho).2.2 e' he'),← heq]
  exact h2 e he hb
theorem ready_nil2(hl:Laid2 ops A π ρ i j)(h:Agr2 ops.size π L LA)(hr:Region.ready .any ops L=[]):Region.ready .any A LA=[] :=
 List.eq_nil_iff_forall_not_mem.2 fun q hq=>by have:=ready_of2 hl h hq;rw [hr]at this;cases this
theorem wpOp_to2 (hl:Laid2 ops A π ρ i j)(hk:k<ops.size)(h:wpOp P A Q (π k) K a w):wpOp P ops Q k K a w:=by
 have ho:ops[k]?=some ops[k]:=Array.getElem?_eq_getElem hk
 obtain⟨X,hX,_⟩:=hl.op k _ ho
 have hg:=(hl.tm k _ ho).2.1
 unfold wpOp at h ⊢
 rw [hX] at h
 rw [ho]
 simp only [Region.wanted,hg,if_true] at h ⊢
 exact h
theorem wpOp_and2 (hk:k<ops.size)(ht:tame2 ops[k].op=true)(hg:ops[k].guard=none)(h1:wpOp P ops Q k K1 a w)(h2:wpOp P ops Q k K2 a w):wpOp P ops Q k (fun a w=>K1 a w∧K2 a w) a w:=by
 have ho:ops[k]?=some ops[k]:=Array.getElem?_eq_getElem hk
 unfold wpOp at h1 h2 ⊢
 rw [ho] at h1 h2 ⊢
 simp only [Region.wanted,hg,if_true] at h1 h2 ⊢
 rcases h1 with h1|h1
 ·rcases h2 with h2|h2
  ·exact .inl (wp_and2 ht h1 h2)
  ·exact .inr h2
 ·exact .inr h1
theorem wpAny_one2 (hl:Laid2 ops A π ρ i j):∀ (fuel:Nat) (L LA:Array Bool) (a:Act) (w:World),Agr2 ops.size π L LA→(L.getD i false=true∨L.getD j false=true)→wpAny P .any A Q fuel LA a w→wpAny P .any ops Q fuel L a w:=by
 have cond:∀ {L:Array Bool} {k:Nat},L.size=ops.size→(L.getD i false=true∨L.getD j false=true)→k∈Region.ready .any ops L→k=j→L.getD i false=true:=by
  intro L k hs h hk e
  subst e
  rcases h with h|h
  ·exact h
  ·have:=(mem_ready.1 hk).1
   rw [getD_tf (by rw [hs];exact hl.hj),h] at this;cases this
 intro fuel
 induction fuel with
 | zero =>
  intro L LA a w h hor hw
  refine ⟨List.eq_nil_iff_forall_not_mem.2 fun k hk=>?_,hw.2⟩
  have:=ready_to2 hl h (cond h.s1 hor hk) hk
  rw [hw.1] at this;cases this
 | succ fuel ih =>
  intro L LA a w h hor hw
  refine ⟨fun hr=>hw.1 (ready_nil2 hl h hr),fun k hk=>?_⟩
  have hlt:=ready_lt hk
  refine wpOp_mono (fun a' w' hw'=>ih _ _ a' w' (h.put hl hlt) ?_ hw') (wpOp_to2 hl hlt (hw.2 _ (ready_to2 hl h (cond h.s1 hor hk) hk)))
  have mono:∀ q,L.getD q false=true→(L.setIfInBounds k true).getD q false=true:=fun q hq=>by
   by_cases e:k=q
   ·subst e;simp [Array.getD_eq_getD_getElem?,show k<L.size by rw [h.s1];exact hlt]
   ·simp only [Array.getD_eq_getD_getElem?] at hq ⊢
    rw [Array.getElem?_setIfInBounds_ne e];exact hq
  exact hor.imp (mono _) (mono _)
theorem wpAny_both2 (hA:Laid2 ops A π ρ i j) (hB:Laid2 ops B π' ρ' j i) (hne:i≠j):∀ (fuel:Nat) (L LA LB:Array Bool) (a:Act) (w:World),Agr2 ops.size π L LA→Agr2 ops.size π' L LB→L.getD i false=false→L.getD j false=false →
  wpAny P .any A Q fuel LA a w→wpAny P .any B Q fuel LB a w→wpAny P .any ops Q fuel L a w:=by
 intro fuel
 induction fuel with
 | zero =>
  intro L LA LB a w ha hb hi hj wa wb
  refine ⟨List.eq_nil_iff_forall_not_mem.2 fun k hk=>?_,wa.2⟩
  by_cases e:k=j
  ·have:=ready_to2 hB hb (fun e2=>absurd (e2.symm.trans e) hne) hk
   rw [wb.1] at this;cases this
  ·have:=ready_to2 hA ha (fun e2=>absurd e2 e) hk
   rw [wa.1] at this;cases this
 | succ fuel ih =>
  intro L LA LB a w ha hb hi hj wa wb
  refine ⟨fun hr=>wa.1 (ready_nil2 hA ha hr),fun k hk=>?_⟩
  have hlt:=ready_lt hk
  have hs:(L.setIfInBounds k true).getD k false=true:=by simp [Array.getD_eq_getD_getElem?,show k<L.size by rw [ha.s1];exact hlt]
  have hso:∀ q,k≠q→(L.setIfInBounds k true).getD q false=L.getD q false:=fun q e=>by
   simp only [Array.getD_eq_getD_getElem?]
   rw [Array.getElem?_setIfInBounds_ne e]
  by_cases e1:k=i
  ·subst e1
   exact wpOp_mono (fun a' w' hw'=>wpAny_one2 hA fuel _ _ a' w' (ha.put hA hlt) (.inl hs) hw') (wpOp_to2 hA hlt (wa.2 _ (ready_to2 hA ha (fun e=>absurd e hne) hk)))
  ·by_cases e2:k=j
   ·subst e2
    exact wpOp_mono (fun a' w' hw'=>wpAny_one2 hB fuel _ _ a' w' (hb.put hB hlt) (.inl hs) hw') (wpOp_to2 hB hlt (wb.2 _ (ready_to2 hB hb (fun e=>absurd e e1) hk)))
   ·have t:=hA.tm k _ (Array.getElem?_eq_getElem hlt)
    refine wpOp_mono (fun a' w' hw'=>ih _ _ _ a' w' (ha.put hA hlt) (hb.put hB hlt) ((hso i e1).trans hi) ((hso j e2).trans hj) hw'.1 hw'.2)
     (wpOp_and2 hlt t.1 t.2.1 (wpOp_to2 hA hlt (wa.2 _ (ready_to2 hA ha (fun e=>absurd e e2) hk))) (wpOp_to2 hB hlt (wb.2 _ (ready_to2 hB hb (fun e=>absurd e e1) hk))))
theorem WA.either2 {C:Cx} {σ:St} {Q:Exit→St→Prop} (hA:Laid2 ops A π ρ i j) (hB:Laid2 ops B π' ρ' j i) (hne:i≠j) (h1:WA P C A σ Q) (h2:WA P C B σ Q):WA P C ops σ Q:=by
 intro G a w ok
 have r:∀ (n p:Nat),(Array.replicate n false).getD p false=false:=fun n p=>by
  simp only [Array.getD_eq_getD_getElem?,Array.getElem?_replicate];split<;>rfl
 have ag:∀ (π:Nat→Nat),Agr2 ops.size π (Array.replicate ops.size false) (Array.replicate ops.size false):=fun π=>⟨by simp,by simp,fun p _=>by rw [r,r]⟩
 have x:=h1 G a w ok
 have y:=h2 G a w ok
 rw [hA.sz] at x
 rw [hB.sz] at y
 exact wpAny_both2 hA hB hne _ _ _ _ a _ (ag π) (ag π') (r _ _) (r _ _) x y
end
def reoB2 (L:List Oper)(π ρ:List Nat)(i j:Nat):Bool :=
 (List.range L.length).all (fun p=>Nat.blt (π.getD p 0) L.length && Nat.beq (ρ.getD (π.getD p 0) 0) p && Nat.blt (ρ.getD p 0) L.length && Nat.beq (π.getD (ρ.getD p 0) 0) p) && Nat.blt i L.length && Nat.blt j L.length &&
  L.all (fun o=>tame2 o.op && o.guard.isNone && o.after.toList.all fun e=>Nat.blt e.on L.length)
theorem laid_reo2 {L:List Oper} {π ρ:List Nat} {i j:Nat} (h:reoB2 L π ρ i j=true):Laid2 L.toArray (reo L π ρ i j).toArray (fun p=>π.getD p 0) (fun p=>ρ.getD p 0) i j:=by
 unfold reoB2 at h
 simp only [Bool.and_eq_true,List.all_eq_true,List.mem_range] at h
 obtain ⟨⟨⟨hp,hi⟩,hj⟩,ho⟩:=h
 refine ⟨by simp [reo],fun p hq=>?_,fun p hq=>?_,fun p hq=>?_,fun p hq=>?_,by simpa using of_blt hi,by simpa using of_blt hj,fun p o hpo=>?_,fun p o hpo=>?_⟩
 ·simpa using of_blt (hp p (by simpa using hq)).1.1.1
 ·exact Nat.eq_of_beq_eq_true (hp p (by simpa using hq)).1.1.2
 ·simpa using of_blt (hp p (by simpa using hq)).1.2
 ·exact Nat.eq_of_beq_eq_true (hp p (by simpa using hq)).2
 ·have hpo':L[p]?=some o:=by simpa using hpo
  have hlt:p<L.length:=(List.getElem?_eq_some_iff.1 hpo').1
  have h1:=(hp p hlt).1.1
  have hg:L.getD p default=o:=by rw [List.getD_eq_getElem?_getD,hpo'];rfl
  refine ⟨(aft π i j p o).toArray,?_,fun e he hb=>?_,fun e' he' hb'=>?_⟩
  ·have hr:ρ.getD (π.getD p 0) 0=p:=Nat.eq_of_beq_eq_true h1.2
   have h3:(reo L π ρ i j).toArray[π.getD p 0]?=some { L.getD (ρ.getD (π.getD p 0) 0) default with after:=(aft π i j (ρ.getD (π.getD p 0) 0) (L.getD (ρ.getD (π.getD p 0) 0) default)).toArray }:=by
    rw [List.getElem?_toArray]
    unfold reo
    rw [List.getElem?_map,List.getElem?_range (of_blt h1.1)]
    rfl
   rw [h3,hr,hg]
  ·have he1:=List.mem_toArray.1 he
   rcases List.mem_append.1 he1 with h4|h4
   ·obtain ⟨e',h5,rfl⟩:=List.mem_map.1 h4
    obtain ⟨h6,h7⟩:=List.mem_filter.1 h5
    exact .inl ⟨e',by simpa using h6,h7,rfl⟩
   ·cases hb2:Nat.beq p j with
    | false=>rw [hb2] at h4;cases h4
    | true =>
     rw [hb2] at h4
     have h5:e∈[(⟨π.getD i 0,.data⟩:Edge)]:=h4
     rw [List.mem_singleton] at h5
     subst h5
     exact .inr ⟨Nat.eq_of_beq_eq_true hb2,rfl⟩
  ·refine ⟨⟨π.getD e'.on 0,.data⟩,List.mem_toArray.2 (List.mem_append.2 (.inl (List.mem_map.2 ⟨e',List.mem_filter.2 ⟨by simpa using he',hb'⟩,rfl⟩))),rfl,rfl⟩
 ·have hpo':L[p]?=some o:=by simpa using hpo
  have:=ho o (List.mem_of_getElem? hpo')
  refine ⟨this.1.1,?_,fun e he=>?_⟩
  ·cases hgd:o.guard with
   | none=>rfl
   | some g=>have h8:=this.1.2;rw [hgd] at h8;cases h8
  ·simpa using of_blt (this.2 e (by simpa using he))
section
variable {P:Program} {C:Cx} {σ:St} {Q:Exit→St→Prop}
theorem WA.eitherL2 {L:List Oper} (π ρ π' ρ':List Nat) (i j:Nat) (hA:reoB2 L π ρ i j=true) (hB:reoB2 L π' ρ' j i=true) (hne:Nat.beq i j=false) (h1:WA P C (reo L π ρ i j).toArray σ Q) (h2:WA P C (reo L π' ρ' j i).toArray σ Q):WA P C L.toArray σ Q :=
 WA.either2 (laid_reo2 hA) (laid_reo2 hB) (fun e=>by rw [e,Nat.beq_refl] at hne;cases hne) h1 h2
end
end
section
open Go.RowKit Go.WideShapes Go.ChangeShapes Go.Joins Go.Deep
theorem open_ins_rp {H:Type} {enc:TypeId×Value→H} {w:World} {base:Nat} {spare:Nat→Bool} {held:Bool} {r:Reach} {b0:Nat} {v:Value} {d:DataW H} {p:List MemPlace} (hv:Value.okWide Tryz.prog w r b0 26 v) (h:DataW.Trod enc Tryz.prog w base spare held 26 v d p) :
  ∃ (cs:List (Int×Int×Bool)) (st:List Int),RP (fun q=>w.cell? q) (.ag (eIns cs st)) v:=by
 obtain ⟨cs,rfl,hsz⟩:=okWide_struct Tryz.underlying26 hv
 obtain ⟨l⟩:=cs
 match l,hsz.trans cellsInstrument with
 | [c0,c1],_ =>
  obtain ⟨fuel,hf⟩:=h
  have f0:DataW.trod enc Tryz.prog w base spare held fuel 26 [c0,c1]=some (d,p):=by simpa [Value.cells] using hf
  obtain ⟨zs,n3,_,_,_,hzs,hz⟩:=DataW.trod_struct Tryz.underlying26 f0
  have g0:DataW.trod enc Tryz.prog w base spare held n3 23 [c0]=zs[0]?:=by simpa [cellsCourses] using hz 0 _ rfl
  have g1:DataW.trod enc Tryz.prog w base spare held n3 24 [c1]=zs[1]?:=by simpa [cellsInts] using hz 1 _ rfl
  obtain ⟨z0,hz0⟩:∃ y,zs[0]?=some y:=⟨_,List.getElem?_eq_getElem (by rw [hzs];decide)⟩
  obtain ⟨z1,hz1⟩:∃ y,zs[1]?=some y:=⟨_,List.getElem?_eq_getElem (by rw [hzs];decide)⟩
  rw [hz0] at g0;rw [hz1] at g1
  obtain ⟨A1,A2,k1,k2,cs,st,rfl,rfl,l1,l2,hI⟩:=open_ins f0
  have hc1:=cap_of_trod Tryz.underlying23 g0
  have hc2:=cap_of_trod Tryz.underlying24 g1
  refine ⟨cs,st,.ag _ _ rfl fun i av u a b=>?_⟩
  match i with
  | 0=>cases a;cases b;exact rp_mem hI.1 hc1 (fun _=>rfl) eCrs_of
  | 1=>cases a;cases b;exact rp_mem hI.2 hc2 (fun _=>rfl) eInt_of
  | i+2=>cases (show (none:Option AV)=some av from a)
end
end Go.Proofs.YtaeelcfjkhfpkaaGreat
