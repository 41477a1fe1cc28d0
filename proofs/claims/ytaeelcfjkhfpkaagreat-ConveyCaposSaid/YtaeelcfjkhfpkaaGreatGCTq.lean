/- A walk that knows values as trees: the end of an own slice of single values, s[i:], written on. -/
import Derived.Test.YtaeelcfjkhfpkaaGreatFZTq
import Derived.Test.YtaeelcfjkhfpkaaGreatG8Tq
import Derived.Test.YtaeelcfjkhfpkaaGreatLngTq
set_option maxHeartbeats 8000000
set_option maxRecDepth 100000
set_option linter.unusedVariables false
set_option linter.unusedSimpArgs false
namespace Go.Proofs.YtaeelcfjkhfpkaaGreat
section
open Go.RowKit
theorem baA_nw {C:Cg} {ties:Bool} (hm:∀ y,C.mr y=y)(ht:∀ i e,C.tie i e=e.tie)(hb:∀ i,C.bare i=(decide (0<i) && ties))(evs:List Ev):baA C ties evs=nwL C evs:=by
 have hs:∀ l,pcS C l=nwS C l:=fun l=>by
  rw [nwS_pl]
  rw [List.map_congr_left (fun y _=>hm y),List.map_id']
 unfold baA nwL
 congr 1
 funext j e
 unfold baE nwE nwT
 rw [hs,ht,hb]
end
section
open Go.RowKit
section
variable {B:World→View→Prop} {gl:Nat} {P:Program} {C:Cx} {σ:St} {o:Oper} {d:Tmp} {av:AV} {ops:Array Oper} {rest l:List Oper} {Q:Exit→St→Prop} {mem:List Bool} {Mc McB:List (Nat×AO)} {e0 nk0 k:Nat}
theorem DTK.ixs {q:Nat} {rows:List (List AV)} {z:Int} (hd:memB C.N ops mem McB k nk0 σ.t o=some (d,true)) (hn:needs ops k ops.size e0=true) (h:ixsV P ⟨onlyT σ.t (o.looksAt ops),McB,nk0⟩ o.op=some (q,rows,z)) (h0:0≤z∧z<rows.length)
  (r:DTK P C ops mem Mc McB e0 nk0 (k+1) rest (σ.put d (.pt q z.toNat 0)) Q):DTK P C ops mem Mc McB e0 nk0 k (o::rest) σ Q:=DTK.vl hd hn (ixsV_of h h0.1 h0.2) r
end
end
section
open Go.RowKit
theorem capC_ls (cs:List (Int×Int×Bool))(f:Int):CgLs (capC cs f):=by
 refine⟨capC_crs,fun x y h=>?_⟩
 obtain⟨_,rfl⟩:=capC_mv h
 show []=(if x.2.2.1=x.2.2.1 then []else [2])++(if x.2.2.2.1=x.2.2.2.1 then []else [3])
 rw [if_pos rfl,if_pos rfl];rfl
theorem capC_ml (cs:List (Int×Int×Bool))(f:Int)(y:Stp):((capC cs f).ml y).length≤2:=Nat.zero_le _
end
section
open Go.RowKit
def hd1(s i:Int)(e:Ev):List Lck:=if s=4∧e.three=true then [(i,0,5)]else []
end
section
open Go.RowKit
def sufQ (T off:Nat) (xs:List Value):Opq where
 Q w b h φ:=φ b∧∃ A cap,h=.slice A xs.length cap∧xs.length≤cap∧(0<xs.length→A=some ⟨b,off,none⟩∧∃ cur,w.heap[b]?=some (.cells cur T (0,0))∧∀ (i:Nat)u,xs[i]?=some u→cur[off+i]?=some u∧u.oneCell'=true)
 st w w' b v φ hw h:=by
  obtain ⟨hb,A,cap,e1,e2,e3⟩:=h
  refine ⟨hb,A,cap,e1,e2,fun hp=>?_⟩
  obtain ⟨e4,cur,e5,e6⟩:=e3 hp
  exact ⟨e4,cur,(hw b hb).trans e5,e6⟩
section
variable {P:Program} {C:Cx} {σ σ':St} {G G':Gh} {a:Act} {w w':World} {o:Oper} {d:Tmp} {ops:Array Oper} {rest:List Oper} {Q:Exit→St→Prop}
theorem suf_at (ok:Ok C σ G a w) {T off q:Nat} {xs:List Value} {x:Operand} (hx:σ.ev x=some (.sl q)) (hq:look q σ.M=some (.opq (sufQ T off xs))) :
  G.fp q (G.b q)∧∃ A cap,a.eval x=.slice A xs.length cap∧xs.length≤cap∧(0<xs.length→A=some ⟨G.b q,off,none⟩∧∃ cur,w.heap[G.b q]?=some (.cells cur T (0,0))∧∀ (i:Nat)u,xs[i]?=some u→cur[off+i]?=some u∧u.oneCell'=true):=by
 obtain ⟨hb,A,cap,e1,e2,e3⟩:(sufQ T off xs).Q w (G.b q) (G.h q) (G.fp q):=(ok.ob q _ hq).2.2
 exact ⟨hb,A,cap,(ok.evr hx).2.sl_of.1.trans e1,e2,e3⟩
theorem WV.sufLen {x:Operand} {T e T' off q:Nat} {xs:List Value} (ho:o.op=.call { callee:=.builtin .len,args:=#[x],argTypes:=#[T] })(hT:P.underlying T=some (.slice e))(hx:σ.ev x=some (.sl q))(hq:look q σ.M=some (.opq (sufQ T' off xs))):WV P C o σ (.sc (.int .i64 xs.length)) :=
 WV.sc fun G a w ok=>by
  obtain⟨_,A,c,e2,_⟩:=suf_at ok hx hq
  unfold execOp
  simp [ho,resolve,invoke,builtin,e2,Builtin.len_,run_underlying hT,goInt]
theorem WV.sufIdx {T e T' off k:Nat} {x y:Operand} {xs:List Value} {q:IntKind} {z:Int} (ho:o.op=.indexAddr T x y) (hT:P.underlying T=some (.slice e)) (hn:sizeB P e=some 1)
  (hx:σ.ev x=some (.sl k)) (hy:σ.ev y=some (.sc (.int q z))) (hk:look k σ.M=some (.opq (sufQ T' off xs))) (h0:0≤z∧z < xs.length) {m:Nat} (hm:off+z.toNat=m):WV P C o σ (.pt k 0 m) :=
 WV.val (fun G a w ok=>.pt _ _ _ (ok.ob k _ hk).1) fun G a w ok=>by
  obtain ⟨_,A,c,e1,_,e3⟩:=suf_at ok hx hk
  obtain ⟨e4,_⟩:=e3 zqo
  rw [e4] at e1
  obtain ⟨q1,q2,q3⟩:=add_ptr (j:=z.toNat*1) (⟨G.b k,off,none⟩:Addr) rfl rfl
  refine ⟨_,by unfold execOp;simp [ho,e1,ok.evs hy,run_index hT hn _ xs.length c q z h0.1 h0.2],.pt k 0 m _ q1 ?_ q3⟩
  rw [q2];simp;omega
theorem WV.sufLd {T T' off k m i:Nat} {x:Operand} {xs:List Value} {u:Value} (ho:o.op=.load T x) (hT:aggB P T=some false) (hx:σ.ev x=some (.pt k 0 m)) (hk:look k σ.M=some (.opq (sufQ T' off xs))) (hm:m=off+i) (hi:xs[i]?=some u):WV P C o σ (.sc u) :=
 WV.sc fun G a w ok=>by
  obtain ⟨p,ep,p1,p2,p3⟩:=(ok.evr hx).2.pt_of
  obtain ⟨_,A,c,_,_,e3⟩:(sufQ T' off xs).Q w (G.b k) (G.h k) (G.fp k):=(ok.ob k _ hk).2.2
  obtain ⟨_,cur,e5,e6⟩:=e3 (by have:=(List.getElem?_eq_some_iff.1 hi).1;omega)
  have hB:Blk w (G.b k) T' cur:=e5
  have hpe:p=⟨G.b k,off+i,none⟩:=by
   obtain ⟨b,o2,s⟩:=p
   dsimp only at p1 p2 p3
   subst p1 p3
   rw [Nat.zero_mul,Nat.zero_add] at p2
   rw [p2,hm]
  have hu:w.cell? p=some u:=by rw [hpe,hB.cell,(e6 i u hi).1]
  unfold execOp
  simp [ho,ep,run_load1 hT hu]
theorem set_toList_get {cur:Array Value} {i j:Nat} {u:Value} (h:i<cur.size):((cur.toList.take i++[u]++cur.toList.drop (i+1)).toArray)[j]?=if j=i then some u else cur[j]?:=by
 rw [List.getElem?_toArray]
 have hl:(cur.toList.take i).length=i:=by rw [List.length_take,Array.length_toList];omega
 by_cases e:j=i
 ·subst e
  rw [if_pos rfl,List.getElem?_append_left (by rw [List.length_append,hl];simp),List.getElem?_append_right (by omega),hl,Nat.sub_self];rfl
 ·rw [if_neg e]
  by_cases e2:j<i
  ·rw [List.getElem?_append_left (by rw [List.length_append,hl];simp;omega),List.getElem?_append_left (by omega),List.getElem?_take_of_lt e2,Array.getElem?_toList]
  ·rw [List.getElem?_append_right (by rw [List.length_append,hl];simp;omega),List.getElem?_drop,List.length_append,hl,Array.getElem?_toList]
   congr 1
   simp;omega
theorem WO.sufSt {T T' off k m i:Nat} {x y:Operand} {xs:List Value} {u:Value} (ho:o.op=.store T x y) (hds:o.dst=none) (hn:sizeB P T=some 1) (hx:σ.ev x=some (.pt k 0 m)) (hk:look k σ.M=some (.opq (sufQ T' off xs))) (hm:m=off+i) (hi:i < xs.length) (hy:σ.ev y=some (.sc u)) (hu:u.oneCell'=true) :
  WO P C o σ (σ.upd k (.opq (sufQ T' off (xs.set i u)))):=by
 intro G a w ok N Q' hN
 obtain ⟨p,ep,p1,p2,p3⟩:=(ok.evr hx).2.pt_of
 obtain ⟨hb,A,c,e1,e2,e3⟩:(sufQ T' off xs).Q w (G.b k) (G.h k) (G.fp k):=(ok.ob k _ hk).2.2
 obtain ⟨e4,cur,e5,e6⟩:=e3 zqo
 have hpe:p=⟨G.b k,off+i,none⟩:=by
  obtain ⟨b,o2,s⟩:=p
  dsimp only at p1 p2 p3
  subst p1 p3
  rw [Nat.zero_mul,Nat.zero_add] at p2
  rw [p2,hm]
 have hlt:off+i < cur.size:=by
  have:=(e6 i xs[i] (List.getElem?_eq_getElem hi)).1
  exact (Array.getElem?_eq_some_iff.1 this).1
 have huc:u.cells=#[u]:=by cases u<;>first|rfl|cases hu
 have hst:=run_storeCells_at P (G.b k) (off+i) T' [u] 0 cur w e5 (by simp;omega) (fun v hv=>by rw [List.mem_singleton] at hv;rw [hv];exact hu)
 rw [Nat.add_zero] at hst
 have hv:a.eval y=u:=ok.evs hy
 unfold Oper.wp execOp
 simp only [ho,ep,hpe,hv,Instr.storeAt,Instr.sureAddr,storeVar,Sem.run_bind,Sem.run_pure,Result.andThen_ok,run_sizeB hn,huc]
 rw [if_neg (by simp)]
 simp only [Sem.run_bind,Sem.run_pure,Result.andThen_ok,hst,Oper.upon]
 rw [hds]
 refine hN G _ _ (ok.write _ hk hb ?_ trivial)
 refine ⟨hb,A,c,by rw [List.length_set];exact e1,by rw [List.length_set];exact e2,fun _=>⟨e4,_,setRow_heap w _ _ _ _ _ e5,fun j v hj=>?_⟩⟩
 rw [show ([u]:List Value).length=1 from rfl,set_toList_get hlt]
 rw [List.getElem?_set] at hj
 by_cases e:i=j
 ·subst e
  rw [if_pos rfl,if_pos hi] at hj
  cases hj
  rw [if_pos rfl];exact ⟨rfl,hu⟩
 ·rw [if_neg e] at hj
  rw [if_neg (by omega)]
  exact e6 j v hj
def sufV (P:Program)(σ:St):Op→Option (Nat×TypeId×List (List AV)×Int)
 | .slice T x (some y) none none =>
  match P.underlying T,σ.ev x,σ.ev y with
  | some (.slice e),some (.sl k),some (.sc (.int _ j)) =>
   match sizeB P e,look k σ.M with
   | some 1,some (.row T' 1 rows)=>some (k,T',rows,j)
   | _,_=>none
  | _,_,_=>none
 | _=>none
theorem WO.suf {q:Nat} {T':TypeId} {rows:List (List AV)} {ys:List Value} {j:Int} (hd:dstB C.N o=some d) (h:sufV P σ o.op=some (q,T',rows,j)) (hr:rows=ys.map fun u=>[AV.sc u]) (hj:0≤j∧j≤rows.length) (hp:0<rows.length) :
  WO P C o σ (((σ.drop q).new (.opq (sufQ T' j.toNat (ys.drop j.toNat)))).put d (.sl σ.nk)):=by
 intro G a w ok N Q' hN
 obtain ⟨_,hds,hdb⟩:=dstB_of hd
 unfold sufV at h
 split at h
 ·rename_i T x y ho
  split at h
  ·rename_i e k kj j' hT hx hy
   split at h
   ·rename_i T2 rows' hm hk
    cases h
    obtain ⟨hn',hg,hR⟩:=(ok.ob q _ hk).2.2
    obtain ⟨A,c,hv⟩:=hR.len
    have ex:a.eval x=.slice A rows.length c:=(ok.evr hx).2.sl_of.1.trans hv
    obtain ⟨hrl,vs,Φ,h4,h5,h7,hgf,_,_,h8,h6⟩:=hR
    rcases h4.2 with⟨e1,e2⟩|⟨g,cap,cur,e1,_,hh,hnc,hcm,hcs,ht⟩
    ·omega
    rw [hv] at e1 hg hgf
    injection e1 with a1 a2 a3
    subst a1 a3
    have hgb:g=G.b q:=hg g rfl
    have hfg:G.fp q g:=hgf g rfl
    have hcap:rows.length≤c:=by omega
    have hrun:=run_sliceS (P:=P) hT hm (some ⟨g,0,none⟩) rows.length c (some (a.eval y)) none j rows.length w (.inl ⟨kj,by rw [ok.evs hy]⟩) (.inr ⟨rfl,rfl⟩) ⟨hj.1,hj.2,Int.le_refl _⟩ hcap
    rw [Int.toNat_natCast,Nat.mul_one] at hrun
    have hsa:(Instr.sliceAt T (.slice (some ⟨g,0,none⟩) rows.length c) (some (a.eval y)) none none).run P w=.ok (.slice (if c=j.toNat then some ⟨g,0,none⟩ else (some (⟨g,0,none⟩:Addr)).map (·.add j.toNat)) (rows.length-j.toNat) (c-j.toNat)) w:=by
     unfold Instr.sliceAt
     rw [Sem.run_bind,run_underlying hT w];exact hrun
    have hyl:ys.length=rows.length:=by rw [hr,List.length_map]
    have hvs:∀ (i:Nat) (u:Value),ys[i]?=some u→cur[i]?=some u∧u.oneCell'=true:=fun i u hu=>by
     have hi:i<ys.length:=(List.getElem?_eq_some_iff.1 hu).1
     have hri:rows[i]?=some [AV.sc u]:=by rw [hr,List.getElem?_map,hu];rfl
     have hvi:vs[i]?=some vs[i]:=List.getElem?_eq_getElem (by omega)
     have hl1:(vs[i]' zqo).length=1:=h8 i _ _ hri hvi
     have hx0:=h6 i _ _ 0 (.sc u) _ hri hvi rfl (List.getElem?_eq_getElem (by omega))
     have hx1:=RP.sc_eq hx0
     have hmem:u∈vs[i]'(by omega):=by rw [← hx1];exact List.getElem_mem _
     refine ⟨?_,h7 _ (List.getElem_mem _) u hmem⟩
     have hv1:(vs[i]' zqo)=[u]:=by
      apply List.ext_getElem hl1
      intro n n1 n2
      have:n=0:=by simp at n2;omega
      subst this
      exact hx1
     have hfl:∀ (l:List (List Value)) (i:Nat),(∀ r∈l,r.length=1)→l.flatten[i]?=(l[i]?).bind (·[0]?):=by
      intro l
      induction l with
      | nil=>intro i _;simp
      | cons x r ih =>
       intro i hl
       have h1:=hl x (by simp)
       obtain ⟨z,rfl⟩:∃ z,x=[z]:=by
        match x,h1 with
        | [z],_=>exact ⟨z,rfl⟩
       cases i with
       | zero=>rfl
       | succ i=>simpa using ih i fun r hr=>hl r (by simp [hr])
     have hall:∀ r∈vs,r.length=1:=fun r hr2=>by
      obtain ⟨n,hn2,rfl⟩:=List.getElem_of_mem hr2
      have:=h8 n _ _ (List.getElem?_eq_getElem (show n<rows.length by omega)) (List.getElem?_eq_getElem hn2)
      rw [this];exact hrl _ (List.getElem_mem _)
     have hf:=hfl vs i hall
     rw [← ht,Nat.mul_one,List.getElem?_take_of_lt (by omega),Array.getElem?_toList,hvi,hv1] at hf
     exact hf
    have ok':=(ok.drop_ q).newObj (S:=fun _=>False) (w':=w) (b:=G.b q) (n:=1) (h:=.slice (if c=j.toNat then some ⟨g,0,none⟩ else (some (⟨g,0,none⟩:Addr)).map (·.add j.toNat)) (rows.length-j.toNat) (c-j.toNat)) (φ:=G.fp q) (ob:=.opq (sufQ T' j.toNat (ys.drop j.toNat)))
     (Kept.refl _ w) (fun _ h=>h.elim) (fun _ _ _ _ _ h=>h) (fun _ _ _ h=>h)
     (by
      show (sufQ T' j.toNat (ys.drop j.toNat)).Q w _ _ _
      rw [with_b,with_h,with_f]
      refine ⟨by rw [← hgb];exact hfg,_,_,by rw [List.length_drop,hyl],by rw [List.length_drop];omega,fun hp2=>?_⟩
      rw [List.length_drop] at hp2
      rw [if_neg (by omega)]
      refine ⟨?_,cur,by rw [← hgb];exact hh,fun i u hu=>?_⟩
      ·simp only [Option.map_some,add_flat,Nat.zero_add]
       rw [hgb]
      ·rw [List.getElem?_drop] at hu
       exact hvs _ u hu)
     trivial (fun x hx=>⟨(ok.my q _ x hk hx).1,(ok.my q _ x hk hx).2,fun i oi hi h2=>(drop_look hi).1 (ok.dj i oi q _ x (drop_look hi).2 hk h2 hx),fun p u=>ok.dF q _ x p u hk hx⟩)
    unfold Oper.wp execOp
    simp only [ho,ex,Option.map_none,Option.map_some,Sem.run_bind,hsa,Sem.run_pure,Result.andThen_ok,Oper.upon]
    rw [hds]
    exact hN _ _ _ (ok'.set (d:=some d) (av:=.sl σ.nk) (with_sl rfl) (.sl _ (Nat.lt_succ_self _)) fun x hx=>by cases hx;exact of_blt hdb)
   ·cases h
  ·cases h
 ·cases h
theorem WL.suf {q:Nat} {T':TypeId} {rows:List (List AV)} {ys zs:List Value} {j:Int} {t:List (Nat×AV)} {M M':List (Nat×AO)} {nk f:Nat} (hd:dstB C.N o=some d) (h:sufV P ⟨t,M,nk⟩ o.op=some (q,T',rows,j)) (hM:remS q M=some M') (hr:rows=ys.map fun u=>[AV.sc u]) (hj:0≤j∧j≤rows.length) (hp:0<rows.length) (hf:j.toNat=f) (hz:ys.drop f=zs)
  (k:WL P C ops rest ⟨(d,.sl nk)::t,(nk,.opq (sufQ T' f zs))::M',nk+1⟩ Q):WL P C ops (o::rest) ⟨t,M,nk⟩ Q:=by
 subst hf hz
 rw [remS_eq hM] at k
 exact WL.op (dstB_of hd).1 (WO.suf hd h hr hj hp) k
theorem Tr.freezeS (k:Nat) {T off:Nat} {xs:List Value} {rows:List (List AV)} (hk:look k σ.M=some (.opq (sufQ T off xs))) (hr:(xs.map fun u=>[AV.sc u])=rows):Tr C σ (σ.freeze k 1 rows):=by
 subst hr
 refine Tr.freezeG k hk fun G w F' h hle hF=>?_
 obtain ⟨hb,A,c,e1,e2,e3⟩:(sufQ T off xs).Q w (G.b k) (G.h k) (G.fp k):=h
 rw [e1,show xs.length=(xs.map fun u=>[AV.sc u]).length from (List.length_map _).symm]
 refine .ls 1 _ A c ⟨G.b k,off,none⟩ (fun i _=>xs.getD i undef) (by rw [List.length_map];exact e2) (fun r hr=>?_) (fun hp=>(e3 (by rw [List.length_map] at hp;exact hp)).1) (fun i r j av h1 h2=>?_) fun i r j av h1 h2=>?_
 ·obtain ⟨u,_,rfl⟩:=List.mem_map.1 hr;rfl
 ·rw [List.getElem?_map] at h1
  cases hx:xs[i]? with
  | none=>rw [hx] at h1;cases h1
  | some u =>
   rw [hx] at h1
   cases h1
   obtain ⟨_,cur,e5,e6⟩:=e3 (by have:=(List.getElem?_eq_some_iff.1 hx).1;omega)
   have hB:Blk w (G.b k) T cur:=e5
   have hj:j=0:=by cases j with|zero=>rfl|succ j=>simp at h2
   subst hj
   have hadd:(⟨G.b k,off,none⟩:Addr).add (i*1+0)=⟨G.b k,off+i,none⟩:=by simp [Addr.add]
   rw [hadd,List.getD_eq_getElem?_getD,hx,hF _ hb,hB.cell,(e6 i u hx).1]
   exact ⟨rfl,(e6 i u hx).2⟩
 ·rw [List.getElem?_map] at h1
  cases hx:xs[i]? with
  | none=>rw [hx] at h1;cases h1
  | some u =>
   rw [hx] at h1
   cases h1
   have hj:j=0:=by cases j with|zero=>rfl|succ j=>simp at h2
   subst hj
   cases h2
   rw [List.getD_eq_getElem?_getD,hx]
   exact .sc _
end
section
variable {P:Program} {C:Cx} {σ:St} {o:Oper} {d:Tmp} {ops:Array Oper} {rest:List Oper} {Q:Exit→St→Prop} {mem:List Bool} {Mc McB:List (Nat×AO)} {e0 nk0 k:Nat}
theorem DTK.sufSt {T T' off q m i:Nat} {x y:Operand} {xs ys:List Value} {u:Value} {M2:List (Nat×AO)} (hm:mem.getD k false=true) (hg:o.guard=none) (hds:o.dst=none) (ho:o.op=.store T x y) (hn:sizeB P T=some 1) (hx:σ.ev x=some (.pt q 0 m)) (hk:look q σ.M=some (.opq (sufQ T' off xs))) (hme:m=off+i) (hi:i<xs.length) (hy:σ.ev y=some (.sc u)) (hu:u.oneCell'=true)
  (he:xs.set i u=ys) (hM:remS q σ.M=some M2) (hs:msSub Mc ((q,.opq (sufQ T' off ys))::M2)) (hsB:Nat.blt k e0=true→msSub McB ((q,.opq (sufQ T' off ys))::M2)) (r:DTK P C ops mem Mc McB e0 nk0 (k+1) rest ⟨σ.t,(q,.opq (sufQ T' off ys))::M2,σ.nk⟩ Q):DTK P C ops mem Mc McB e0 nk0 k (o::rest) σ Q:=by
 subst he
 have he:∀ av,ent1 o.dst true av=[]:=fun av=>by rw [hds];rfl
 refine DTK.wr (.sc undef) hm (Nat.ble_eq_true_of_le (Nat.le_refl _)) hs hsB ⟨hg,fun t H=>?_⟩ (by rw [he];exact r)
 rw [he]
 have hmem:∀ z∈[x,y],z∈o.op.operands.toList:=fun z hz=>by rw [ho];simp [Op.operands] at hz ⊢;exact hz
 rw [remS_eq hM]
 exact wo_rem (WO.sufSt (σ:=⟨t,σ.M,σ.nk⟩) ho hds hn ((ev_agree H (hmem x (by simp))).trans hx) hk hme hi ((ev_agree H (hmem y (by simp))).trans hy) hu)
end
end
end Go.Proofs.YtaeelcfjkhfpkaaGreat
