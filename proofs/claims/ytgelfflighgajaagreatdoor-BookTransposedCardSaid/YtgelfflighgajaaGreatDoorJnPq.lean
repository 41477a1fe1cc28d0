/- strings.Join: its contract. (The tool does not lay it here, for its closure's table of numbers; the bodies are the same.) -/
import Derived.Test.YtgelfflighgajaaGreatDoorDlPPq
set_option maxRecDepth 100000
set_option linter.unusedVariables false
set_option linter.unusedSimpArgs false
namespace Go.Proofs.YtgelfflighgajaaGreatDoor
section
open Go.RowKit
theorem rd_of_rp {α:Type} {F:View} {w:World} {n:Nat} {l:List α} {e:α→List AV} {f:α→List Value} {v:Value} (hF:∀ p u,F p=some u→w.cell? p=some u) (h0:0<n) (hf:∀ x,(f x).length=n) (hef:∀ x (j:Nat) u,(f x)[j]?=some u→(e x)[j]?=some (.sc u))
  (r:RP F (.ls n (l.map e)) v):∃ A c,v=.slice A l.length c∧Rd w w.heap.size n A (l.map f)∧l.length≤c:=by
 obtain ⟨A,cap,ad,u,rfl,h1,h2,h3,h4,h5⟩:=r.ls_of
 have hcell:∀ (k:Nat) x,l[k]?=some x→∀ (j:Nat) y,(f x)[j]?=some y→w.cell? (ad.add (k*n+j))=some y:=fun k x hk j y hy=>by
  have a1:(l.map e)[k]?=some (e x):=by rw [List.getElem?_map,hk];rfl
  have:=h3 k _ j _ a1 (hef x j y hy)
  rw [hF _ _ this.1,(h4 k _ j _ a1 (hef x j y hy)).sc_eq]
 refine ⟨A,cap,by rw [List.length_map],fun hp=>⟨ad,h2 (by simpa using hp),?_,fun k r hr j y hy=>?_⟩,by simpa using h5⟩
 ·have hp:0<l.length:=by simpa using hp
  have hx:0<(f (l[0]'hp)).length:=by rw [hf];exact h0
  have:=cell_block (hcell 0 (l[0]'hp) (List.getElem?_eq_getElem hp) 0 _ (List.getElem?_eq_getElem hx))
  rwa [block_of_add] at this
 ·rw [List.getElem?_map] at hr
  cases hk:l[k]? with
  | none=>simp [hk] at hr
  | some x =>
   rw [hk] at hr
   obtain rfl:f x=r:=by simpa using hr
   exact hcell k x hk j y hy
theorem stps_of_rp {F:View} {w:World} {l:List Stp} {v:Value} (hF:∀ p u,F p=some u→w.cell? p=some u) (r:RP F (eStps l) v):∃ A c,v=.slice A l.length c∧StpsAt w w.heap.size A l∧l.length≤c :=
 rd_of_rp (n:=5) (f:=stpCells) hF (by omega) (fun _=>rfl) (fun x j u h=>by
  match j with
  | 0=>cases h;rfl
  | 1=>cases h;rfl
  | 2=>cases h;rfl
  | 3=>cases h;rfl
  | 4=>cases h;rfl
  | j+5=>simp [stpCells] at h) r
theorem evs_of_rp {F:View} {w:World} {l:List Ev} {v:Value} (hF:∀ p u,F p=some u→w.cell? p=some u) (r:RP F (.ls 6 (l.map eEv)) v):∃ A c,v=.slice A l.length c∧EvsAt w w.heap.size A l∧l.length≤c:=by
 obtain ⟨A,cap,ad,u,rfl,h1,h2,h3,h4,h5⟩:=r.ls_of
 obtain ⟨ms,hml,hmq⟩:=list_ofT (fun k (m:Option Addr×Nat)=>∀ x,l[k]?=some x→u k 5=.slice m.1 x.stops.length m.2∧StpsAt w w.heap.size m.1 x.stops) l.length fun k hk=>by
  have a1:(l.map eEv)[k]?=some (eEv l[k]):=by simp [hk]
  obtain ⟨A',c',e,hs,_⟩:=stps_of_rp hF (h4 k _ 5 _ a1 rfl)
  refine ⟨(A',c'),fun x hx=>?_⟩
  rw [List.getElem?_eq_getElem hk] at hx
  cases hx
  exact ⟨e,hs⟩
 have hcell:∀ (k:Nat) x m,l[k]?=some x→ms[k]?=some m→∀ (j:Nat) y,(evCells x m)[j]?=some y→w.cell? (ad.add (k*6+j))=some y:=fun k x m hk hm j y hy=>by
  have a1:(l.map eEv)[k]?=some (eEv x):=by rw [List.getElem?_map,hk];rfl
  have hj:j < 6:=(List.getElem?_eq_some_iff.1 hy).1
  have get:∀ av,(eEv x)[j]?=some av→w.cell? (ad.add (k*6+j))=some (u k j):=fun av hav=>hF _ _ (h3 k _ j _ a1 hav).1
  match j,hj with
  | 0,_=>cases hy;rw [get _ rfl,(h4 k _ 0 _ a1 rfl).sc_eq]
  | 1,_=>cases hy;rw [get _ rfl,(h4 k _ 1 _ a1 rfl).sc_eq]
  | 2,_=>cases hy;rw [get _ rfl,(h4 k _ 2 _ a1 rfl).sc_eq]
  | 3,_=>cases hy;rw [get _ rfl,(h4 k _ 3 _ a1 rfl).sc_eq]
  | 4,_=>cases hy;rw [get _ rfl,(h4 k _ 4 _ a1 rfl).sc_eq]
  | 5,_=>cases hy;rw [get _ rfl,(hmq k m hm x hk).1]
 refine ⟨A,cap,by rw [List.length_map],⟨ms,hml,fun hp=>⟨ad,h2 ?_,?_,fun k r hr j y hy=>?_⟩,fun k e m he hm=>(hmq k m hm e he).2⟩,by simpa using h5⟩
 ·simp [hml] at hp ⊢;omega
 ·have hp:0 < l.length:=by simp [hml] at hp;omega
  have:=cell_block (hcell 0 (l[0]'hp) (ms[0]'(by omega)) (List.getElem?_eq_getElem hp) (List.getElem?_eq_getElem (by omega)) 0 _ rfl)
  rwa [block_of_add] at this
 ·rw [List.getElem?_zipWith] at hr
  cases hk:l[k]? with
  | none=>simp [hk] at hr
  | some x =>
   cases hm:ms[k]? with
   | none=>simp [hk,hm] at hr
   | some m =>
    simp [hk,hm] at hr
    subst hr
    exact hcell k x m hk hm j y hy
theorem ins_of_rp {F:View} {w:World} {cs:List (Int×Int×Bool)} {st:List Int} {v1 v2:Value} (hF:∀ p u,F p=some u→w.cell? p=some u) (r1:RP F (.ls 3 (cs.map eCrs)) v1) (r2:RP F (.ls 1 (st.map eInt)) v2) :
  ∃ A1 c1 A2 c2,v1=.slice A1 cs.length c1∧v2=.slice A2 st.length c2∧InsAt w w.heap.size A1 A2 cs st:=by
 obtain ⟨A1,c1,e1,h1,_⟩:=rd_of_rp (n:=3) (f:=crsCells) hF (by omega) (fun _=>rfl) (fun x j u h=>by
  match j with
  | 0=>cases h;rfl
  | 1=>cases h;rfl
  | 2=>cases h;rfl
  | j+3=>simp [crsCells] at h) r1
 obtain ⟨A2,c2,e2,h2,_⟩:=rd_of_rp (n:=1) (f:=intCell) hF (by omega) (fun _=>rfl) (fun x j u h=>by
  match j with
  | 0=>cases h;rfl
  | j+1=>simp [intCell] at h) r2
 exact ⟨A1,c1,A2,c2,e1,e2,h1,h2⟩
theorem pc_of_rp {F:View} {w:World} {p:Pce} {v:Value} (hF:∀ p u,F p=some u→w.cell? p=some u) (r:RP F (ePce p) v):∃ M,v=pcValue M p∧PcAt w w.heap.size M p:=by
 obtain ⟨cs,rfl,h1,h2⟩:∃ cs:Array Value,v=.agg cs∧cs.size=3∧∀ (i:Nat) av u,[AV.ls 3 (p.cs.map eCrs),.ls 1 (p.st.map eInt),.ls 6 (p.evs.map eEv)][i]?=some av→cs[i]?=some u→RP F av u:=by
  cases r with|ag l cs a b=>exact ⟨cs,rfl,a,b⟩
 have g:∀ i (h:i<3),cs[i]?=some (cs[i]'(by omega)):=fun i h=>Array.getElem?_eq_getElem (by omega)
 obtain ⟨A1,c1,A2,c2,e1,e2,hI⟩:=ins_of_rp hF (h2 0 _ _ rfl (g 0 (by omega))) (h2 1 _ _ rfl (g 1 (by omega)))
 obtain ⟨A3,c3,e3,hE,hc⟩:=evs_of_rp hF (h2 2 _ _ rfl (g 2 (by omega)))
 refine ⟨⟨A1,A2,A3,c1,c2,c3⟩,?_,hI,hE,hc⟩
 unfold pcValue
 congr 1
 apply Array.ext (by simp [h1])
 intro i hi hi2
 match i,(show i<3 by omega) with
 | 0,_=>exact e1
 | 1,_=>exact e2
 | 2,_=>exact e3
theorem Ctr.of_sc {P:Program} {f:FuncId} {args:List AV} {xs:List Value} {res:AV} {v:Value} (hs:scs args=some xs)(hv:∀ F,RP F res v)(h:∀ w,Calls P f xs.toArray w (Ret v w)):Ctr P f args res:=by
 intro w F vs hF hR
 have:vs=xs:=scs_of (G:=⟨F,fun _=>0,fun _=>0,fun _=>undef,fun _ _=>False⟩) hs hR.1 fun i av u a b=>.pu _ _ (hR.2 i av u a b)
 subst this
 exact (h w).mono fun e w'⟨he,hb⟩=>⟨v,F,he,hb,fun _ _ h=>h,fun p u x=>by rw [hb.cell (cell_block (hF p u x))];exact hF p u x,fun _ _ h=>.inl h,hv F⟩
theorem Ctr.of_pc {P:Program} {f:FuncId} {p:Pce} {pre post:List AV} {xs ys:List Value} {res:AV} {v:Value} (hs:scs pre=some xs) (hs2:scs post=some ys) (hv:∀ F,RP F res v)
  (h:∀ w M,PcAt w w.heap.size M p→Calls P f (xs++pcValue M p::ys).toArray w (Ret v w)):Ctr P f (pre++ePce p::post) res:=by
 intro w F vs hF hR
 have hG:∀ i av u,(pre++ePce p::post)[i]?=some av→vs[i]?=some u→R ⟨F,fun _=>0,fun _=>0,fun _=>undef,fun _ _=>False⟩ av u:=fun i av u a b=>.pu _ _ (hR.2 i av u a b)
 have hlen:vs.length=pre.length+(post.length+1):=by rw [hR.1];simp
 have e1:vs.take pre.length=xs:=scs_of hs (by simp;omega) fun i av u a b=>by
  have hi:i<pre.length:=(List.getElem?_eq_some_iff.1 a).1
  rw [List.getElem?_take_of_lt hi] at b
  exact hG i av u (by rw [List.getElem?_append_left hi];exact a) b
 have e2:vs.drop (pre.length+1)=ys:=scs_of hs2 (by simp;omega) fun i av u a b=>by
  rw [List.getElem?_drop] at b
  exact hG (pre.length+1+i) av u (by rw [List.getElem?_append_right (by omega),show pre.length+1+i-pre.length=i+1 by omega];exact a) b
 have hp:vs[pre.length]?=some (vs[pre.length]'(by omega)):=List.getElem?_eq_getElem (by omega)
 obtain ⟨M,eM,hM⟩:=pc_of_rp hF (hR.2 pre.length _ _ (by rw [List.getElem?_append_right (Nat.le_refl _),Nat.sub_self];rfl) hp)
 have ev:vs=xs++pcValue M p::ys:=by
  rw [← e1,← e2,← eM]
  conv=>lhs;rw [← List.take_append_drop pre.length vs]
  congr 1
  rw [List.drop_eq_getElem_cons (by omega)]
 rw [ev]
 exact (h w M hM).mono fun e w' ⟨he,hb⟩=>⟨v,F,he,hb,fun _ _ h=>h,fun p u x=>by rw [hb.cell (cell_block (hF p u x))];exact hF p u x,fun _ _ h=>.inl h,hv F⟩
end
section
open Go.RowKit
section
variable {P:Program} {C:Cx} {σ σ':St} {o:Oper} {d:Tmp} {ops:Array Oper} {rest:List Oper} {Q:Exit→St→Prop}
structure MksD where
 e:TypeId
 z:Value
 m:Int
 n:Int
def mksV (P:Program) (σ:St):Op→Option MksD
 | .makeSlice T x y =>
  match P.underlying T,σ.ev x,σ.ev y with
  | some (.slice e),some (.sc (.int _ m)),some (.sc (.int _ n)) =>
   match P.info? e with
   | some i =>
    match i.zero with
    | some z=>bif z.oneCell' && Nat.beq i.size 1 && Nat.ble i.bytes 1000 then some ⟨e,z,m,n⟩else none
    | none=>none
   | none=>none
  | _,_,_=>none
 | _=>none
theorem WO.mks {x:MksD} {q:Nat} (hd:dstB C.N o=some d) (h:mksV P σ o.op=some x) (hmn:x.m=x.n) (hn:0≤x.n∧x.n≤1000000) (hq:σ.nk=q):WO P C o σ (((σ.new (.row x.e 1 (List.replicate x.n.toNat [.sc x.z]))).put d (.sl q))):=by
 intro G a w ok N Q' hN
 obtain ⟨_,hds,hdb⟩:=dstB_of hd
 unfold mksV at h
 split at h
 ·rename_i T x1 y1 ho
  split at h
  ·rename_i e k1 m k2 n hT hx hy
   split at h
   ·rename_i i hi
    split at h
    ·rename_i z hz
     cases hb:z.oneCell' && Nat.beq i.size 1 && Nat.ble i.bytes 1000 with
     | false=>rw [hb] at h;cases h
     | true =>
      rw [hb] at h
      cases h
      simp only [Bool.and_eq_true] at hb
      obtain ⟨⟨b1,b2⟩,b3⟩:=hb
      obtain rfl:m=n:=hmn
      obtain ⟨n,rfl⟩:∃ n:Nat,m=n:=⟨m.toNat,(Int.toNat_of_nonneg hn.1).symm⟩
      have hn2:n≤1000000:=by have:=hn.2;simp only at this;omega
      have hzc:z.cells=#[z]:=by cases z<;>first|rfl|cases b1
      have hby:i.bytes*n≤281474976710656:=by
       have:=Nat.mul_le_mul (Nat.le_of_ble_eq_true b3) hn2
       omega
      obtain ⟨w',hrun,hown,hgr⟩:=run_make_full (P:=P) w 0 T e i z 1 hT hi hz (Nat.eq_of_beq_eq_true b2) k1 k2 n hby (by unfold maxLen;omega) (Nat.zero_le _)
      rw [hzc,Nat.mul_one,toList_madeCells_one] at hown
      subst hq
      have hbl:w'.heap[w.heap.size]?≠none:=by
       rcases hown.2 with⟨e1,_⟩|⟨g,cap,cur,e1,_,hh,_⟩
       ·cases e1
       ·cases e1;rw [hh];simp
      have hlt:w.heap.size<w'.heap.size:=by
       rcases Nat.lt_or_ge w.heap.size w'.heap.size with h|h
       ·exact h
       ·exact absurd (Array.getElem?_eq_none h) hbl
      have ok':=ok.newObj (S:=fun _=>False) (w':=w') (b:=w.heap.size) (n:=1) (h:=.slice (some ⟨w.heap.size,0,none⟩) n n) (φ:=fun x=>x=w.heap.size) (ob:=.row e 1 (List.replicate n [.sc z]))
       ⟨hgr.os,hgr.tape,hgr.output,hgr.size,fun x h1 _=>hgr.block x h1 (by simp)⟩ (fun _ h=>h.elim) (fun _ _ _ _ _ h=>h) (fun _ _ _ h=>h)
       ⟨with_n,(fun g hg=>by rw [with_h] at hg;rw [with_b];exact (Option.some.inj hg).symm),by
        rw [with_h,with_f]
        refine ⟨fun r hr=>by rw [List.eq_of_mem_replicate hr];rfl,List.replicate n [z],fun _ _ _=>False,by simpa using hown,by simp,fun r hr u hu=>?_,fun g hg=>(Option.some.inj hg).symm,fun _ _ _ h=>h.elim,fun _ _ _ _ _ h=>h.elim,fun i r r' h1 h2=>?_,fun i r r' j av u h1 h2 h3 h4=>?_⟩
        ·rw [List.eq_of_mem_replicate hr,List.mem_singleton] at hu;rw [hu];exact b1
        ·rw [List.eq_of_mem_replicate (List.mem_of_getElem? h1),List.eq_of_mem_replicate (List.mem_of_getElem? h2)];rfl
        ·rw [List.eq_of_mem_replicate (List.mem_of_getElem? h1)] at h3
         rw [List.eq_of_mem_replicate (List.mem_of_getElem? h2)] at h4
         cases j with
         | zero=>cases h3;cases h4;exact .sc _
         | succ j=>simp at h3⟩ trivial (fun x hx=>by
        subst hx
        exact ⟨.inl ok.bel.size,hlt,fun k o h1 h2=>by have:=(ok.my k o _ h1 h2).2;omega,fun p u h1 h2=>by have:=cell_block (ok.fw p u h1);omega⟩)
      unfold Oper.wp execOp
      simp only [ho,ok.evs hx,ok.evs hy,Sem.run_bind,hrun,Sem.run_pure,Result.andThen_ok,Oper.upon]
      rw [hds]
      exact hN _ _ _ (ok'.set (d:=some d) (av:=.sl σ.nk) (with_sl rfl) (.sl _ (Nat.lt_succ_self _)) fun x hx=>by cases hx;exact of_blt hdb)
    ·cases h
   ·cases h
  ·cases h
 ·cases h
theorem WL.mks {x:MksD} {m:Nat} {t:List (Nat×AV)} {M:List (Nat×AO)} {nk:Nat} (hd:dstB C.N o=some d) (h:mksV P ⟨t,M,nk⟩ o.op=some x) (hmn:x.m=x.n) (hm:x.n.toNat=m) (hn:0≤x.n∧x.n≤1000000) (k:WL P C ops rest ⟨(d,.sl nk)::t,(nk,.row x.e 1 (List.replicate m [.sc x.z]))::M,nk+1⟩ Q):WL P C ops (o::rest) ⟨t,M,nk⟩ Q:=by
 subst hm
 exact WL.op (dstB_of hd).1 (WO.mks hd h hmn hn rfl) k
def partV (P:Program)(σ:St):Op→Option (Nat×List (List AV)×Int×Int)
 | .slice T x lo hi none =>
  match P.underlying T,σ.ev x with
  | some (.slice e),some (.ls n rows) =>
   match sizeB P e with
   | some m =>
    bif Nat.beq m n then
     match lo,hi with
     | none,none=>some (n,rows,0,rows.length)
     | some y,none =>
      match σ.ev y with
      | some (.sc (.int _ i))=>some (n,rows,i,rows.length)
      | _=>none
     | none,some z =>
      match σ.ev z with
      | some (.sc (.int _ j))=>some (n,rows,0,j)
      | _=>none
     | some y,some z =>
      match σ.ev y,σ.ev z with
      | some (.sc (.int _ i)),some (.sc (.int _ j))=>some (n,rows,i,j)
      | _,_=>none
    else none
   | none=>none
  | _,_=>none
 | _=>none
def prt {α:Type} (l:List α)(i j:Int):List α:=(l.take j.toNat).drop i.toNat
theorem run_sliceS {T e n:Nat} (hT:P.underlying T=some (.slice e)) (hn:sizeB P e=some n) (A:Option Addr) (len cap:Nat) (lo hi:Option Value) (i j:Int) (w:World)
  (hlo:(∃ k,lo=some (.int k i))∨(lo=none∧i=0)) (hhi:(∃ k,hi=some (.int k j))∨(hi=none∧j=len)) (hb:0≤i∧i≤j∧j≤len) (hc:len≤cap) :
  (Instr.slice T (.slice A len cap) lo hi none).run P w=.ok (.slice (if cap=i.toNat then A else A.map (·.add (i.toNat*n))) (j.toNat-i.toNat) (cap-i.toNat)) w:=by
 obtain ⟨i,rfl⟩:∃ q:Nat,i=q:=⟨i.toNat,by omega⟩
 obtain ⟨j,rfl⟩:∃ q:Nat,j=q:=⟨j.toNat,by omega⟩
 have h1:0≤(j:Int)∧(j:Int)≤(cap:Int):=by omega
 have h2:0≤(i:Int)∧(i:Int)≤(j:Int):=by omega
 rcases hlo with⟨k,rfl⟩|⟨rfl,hi⟩<;>rcases hhi with⟨k',rfl⟩|⟨rfl,hj⟩
 ·have h3:(i:Int)≤(j:Int):=by omega
  have h4:(j:Int)≤(cap:Int):=by omega
  simp [Instr.slice,run_underlying hT,Instr.sliceBounds,Instr.sliceBound,asIntOf,run_sizeB hn,show i≤j by omega,show j≤cap by omega]
 ·obtain rfl:j=len:=by omega
  simp [Instr.slice,run_underlying hT,Instr.sliceBounds,Instr.sliceBound,asIntOf,run_sizeB hn,show i≤j by omega]
 ·obtain rfl:i=0:=by omega
  simp [Instr.slice,run_underlying hT,Instr.sliceBounds,Instr.sliceBound,asIntOf,run_sizeB hn,show j≤cap by omega]
 ·obtain rfl:i=0:=by omega
  obtain rfl:j=len:=by omega
  simp [Instr.slice,run_underlying hT,Instr.sliceBounds,run_sizeB hn]
theorem partV_of {n:Nat} {rows:List (List AV)} {i j:Int} (h:partV P σ o.op=some (n,rows,i,j)) (hb:0≤i∧i≤j∧j≤rows.length):WV P C o σ (.ls n (prt rows i j)):=by
 unfold partV at h
 split at h
 ·rename_i T x lo hi ho
  split at h
  ·rename_i e n' rows' hT hx
   split at h
   ·rename_i m hm
    cases hbq:Nat.beq m n' with
    | false=>rw [hbq] at h;cases h
    | true =>
     rw [hbq] at h
     obtain rfl:=Nat.eq_of_beq_eq_true hbq
     simp only [cond_true] at h
     have key:(n=m∧rows=rows')∧∀ G a w,Ok C σ G a w→((∃ k,lo.map a.eval=some (.int k i))∨(lo.map a.eval=none∧i=0))∧((∃ k,hi.map a.eval=some (.int k j))∨(hi.map a.eval=none∧j=rows'.length)):=by
      split at h
      ·cases h;exact ⟨⟨rfl,rfl⟩,fun G a w ok=>⟨.inr ⟨rfl,rfl⟩,.inr ⟨rfl,rfl⟩⟩⟩
      ·split at h
       ·rename_i k i' hy;cases h;exact ⟨⟨rfl,rfl⟩,fun G a w ok=>⟨.inl ⟨k,by simp [ok.evs hy]⟩,.inr ⟨rfl,rfl⟩⟩⟩
       ·cases h
      ·split at h
       ·rename_i k i' hy;cases h;exact ⟨⟨rfl,rfl⟩,fun G a w ok=>⟨.inr ⟨rfl,rfl⟩,.inl ⟨k,by simp [ok.evs hy]⟩⟩⟩
       ·cases h
      ·split at h
       ·rename_i k i' k' j' hy hz;cases h;exact ⟨⟨rfl,rfl⟩,fun G a w ok=>⟨.inl ⟨k,by simp [ok.evs hy]⟩,.inl ⟨k',by simp [ok.evs hz]⟩⟩⟩
       ·cases h
     obtain ⟨⟨rfl,rfl⟩,hlh⟩:=key
     refine WV.val (fun _ _ _ _=>.ls _ _) fun G a w ok=>?_
     obtain ⟨A,cap,ad,u,e1,h1,h2,h3,h4,h5⟩:=(ok.evr hx).2.pu_of.ls_of
     obtain ⟨q1,q2⟩:=hlh G a w ok
     have hrun:=run_sliceS (P:=P) hT hm A rows.length cap (lo.map a.eval) (hi.map a.eval) i j w q1 q2 hb h5
     have hlen:(prt rows i j).length=j.toNat-i.toNat:=by unfold prt;simp;omega
     have hrow:∀ (q:Nat) r,(prt rows i j)[q]?=some r→rows[i.toNat+q]?=some r∧q<j.toNat-i.toNat:=fun q r hq=>by
      have hlt:=(List.getElem?_eq_some_iff.1 hq).1
      unfold prt at hq
      rw [List.getElem?_drop,List.getElem?_take] at hq
      split at hq
      ·exact ⟨hq,by omega⟩
      ·cases hq
     refine ⟨.slice (if cap=i.toNat then A else A.map (·.add (i.toNat*n))) (prt rows i j).length (cap-i.toNat),?_,.pu _ _ (.ls n _ _ _ (ad.add (i.toNat*n)) (fun q s=>u (i.toNat+q) s) (by rw [hlen];omega) (fun r hr=>?_) (fun hp=>?_) (fun q r s av a1 a2=>?_) fun q r s av a1 a2=>?_)⟩
     ·unfold execOp
      simp only [ho,e1,Option.map_none]
      rw [hlen]
      have hsa:∀ v,(Instr.sliceAt T (.slice A rows.length cap) (lo.map a.eval) (hi.map a.eval) none).run P w=.ok v w↔(Instr.slice T (.slice A rows.length cap) (lo.map a.eval) (hi.map a.eval) none).run P w=.ok v w:=fun v=>by
       unfold Instr.sliceAt
       rw [Sem.run_bind,run_underlying hT w];rfl
      rw [Sem.run_bind,(hsa _).2 hrun];rfl
     ·obtain ⟨q,hq,rfl⟩:=List.getElem_of_mem hr
      exact h1 _ (List.mem_of_getElem? (hrow q _ (List.getElem?_eq_getElem hq)).1)
     ·rw [hlen] at hp
      rw [if_neg (by omega),h2 (by omega)];rfl
     ·obtain ⟨b1,b2⟩:=hrow q r a1
      have:=h3 _ r s av b1 a2
      rw [add_of_add,← Nat.add_assoc,← Nat.add_mul];exact this
     ·exact h4 _ r s av (hrow q r a1).1 a2
   ·cases h
  ·cases h
 ·cases h
theorem WL.part_ {n:Nat} {rows rows':List (List AV)} {i j:Int} (hd:dstB C.N o=some d)(h:partV P σ o.op=some (n,rows,i,j))(hb:0≤i∧i≤j∧j≤rows.length)(he:prt rows i j=rows')(k:WL P C ops rest (σ.put d (.ls n rows')) Q):WL P C ops (o::rest) σ Q:=by
 subst he
 exact WL.vl hd (partV_of h hb) k
def cvtV (P:Program)(σ:St):Op→Option (IntKind×Int)
 | .convert S T x =>
  match P.underlying T,σ.ev x with
  | some (.int k),some (.sc (.int _ n))=>some (k,n)
  | _,_=>none
 | _=>none
theorem cvtV_of {k:IntKind} {n:Int} (h:cvtV P σ o.op=some (k,n))(hs:∀ S T x,o.op=.convert S T x→(P.underlying S).isSome=true):WV P C o σ (.sc (.int k (k.wrap n))):=by
 unfold cvtV at h
 split at h
 ·rename_i S T x ho
  split at h
  ·rename_i k' k2 n' hT hx
   cases h
   have:=hs S T x ho
   cases hS:P.underlying S with
   | none=>rw [hS]at this;cases this
   | some d=>exact WV.sc fun G a w ok=>by unfold execOp;simp [ho,ok.evs hx,convert,run_underlying hS,run_underlying hT,Conv.intToInt]
  ·cases h
 ·cases h
def cvtB(P:Program):Op→Bool
 | .convert S _ _=>(P.underlying S).isSome
 | _=>true
theorem WL.cvt {k:IntKind} {n m:Int} (hd:dstB C.N o=some d)(h:cvtV P σ o.op=some (k,n))(hs:cvtB P o.op=true)(hm:k.wrap n=m)(K:WL P C ops rest (σ.put d (.sc (.int k m))) Q):WL P C ops (o::rest) σ Q:=by
 subst hm
 exact WL.vl hd (cvtV_of h fun S T x e=>by rw [e] at hs;exact hs) K
theorem idaP_of {q i j len n:Nat} {z:Int} (h:idaV P σ o.op=some (.pt q i j,len,n,z))(h0:0≤z∧z<len):WV P C o σ (.pt q i (j+z.toNat*n)) :=
 idaV_run h h0 (fun nk b=>by cases b with|pt _ _ _ hk=>exact .pt _ _ _ hk) fun G a w ok v r=>by
  obtain⟨p,e,p1,p2,p3⟩:=r.pt_of
  obtain⟨q1,q2,q3⟩:=add_ptr (j:=z.toNat*n) p p1 p3
  exact⟨p,e,.pt q i _ _ q1 (by omega) q3⟩
theorem WL.idp {q i j len n m:Nat} {z:Int} (hd:dstB C.N o=some d)(h:idaV P σ o.op=some (.pt q i j,len,n,z))(h0:0≤z∧z<len)(hm:j+z.toNat*n=m)(k:WL P C ops rest (σ.put d (.pt q i m)) Q):WL P C ops (o::rest) σ Q:=by
 subst hm
 exact WL.vl hd (idaP_of h h0) k
def ldxV (P:Program)(σ:St):Op→Option (List AV×Nat)
 | .load T x =>
  match aggB P T,σ.ev x with
  | some false,some (.pt k 0 j) =>
   match look k σ.M with
   | some (.box _ cells)=>some (cells,j)
   | _=>none
  | _,_=>none
 | _=>none
theorem ldxV_of {cells:List AV} {j:Nat} {av:AV} (h:ldxV P σ o.op=some (cells,j))(hj:cells[j]?=some av)(ho2:av.own=false):WV P C o σ av:=by
 unfold ldxV at h
 split at h
 ·rename_i T x ho
  split at h
  ·rename_i k j' hT hx
   split at h
   ·rename_i T' cells' hk
    cases h
    exact WV.load1 ho hT hx hk (l:=cells.drop j) rfl (by simpa using hj) ho2
   ·cases h
  ·cases h
 ·cases h
theorem WL.ldx {cells:List AV} {j:Nat} {av:AV} (hd:dstB C.N o=some d)(h:ldxV P σ o.op=some (cells,j))(hj:cells[j]?=some av)(ho2:av.own=false)(k:WL P C ops rest (σ.put d av) Q):WL P C ops (o::rest) σ Q:=WL.vl hd (ldxV_of h hj ho2) k
def ldrV (P:Program)(σ:St):Op→Option (List (List AV)×Nat×Nat)
 | .load T x =>
  match aggB P T,σ.ev x with
  | some false,some (.pt k i j) =>
   match look k σ.M with
   | some (.row _ _ rows)=>some (rows,i,j)
   | _=>none
  | _,_=>none
 | _=>none
theorem ldrV_of {rows:List (List AV)} {i j:Nat} {r:List AV} {av:AV} (h:ldrV P σ o.op=some (rows,i,j)) (hi:rows[i]?=some r) (hj:r[j]?=some av) (ho2:av.own=false):WV P C o σ av:=by
 unfold ldrV at h
 split at h
 ·rename_i T x ho
  split at h
  ·rename_i k i' j' hT hx
   split at h
   ·rename_i T' n rows' hk
    cases h
    exact WV.load1 ho hT hx hk (l:=r.drop j) (by simp [AO.from_,hi]) (by simpa using hj) ho2
   ·cases h
  ·cases h
 ·cases h
theorem WL.ldr {rows:List (List AV)} {i j:Nat} {r:List AV} {av:AV} (hd:dstB C.N o=some d)(h:ldrV P σ o.op=some (rows,i,j))(hi:rows[i]?=some r)(hj:r[j]?=some av)(ho2:av.own=false)(k:WL P C ops rest (σ.put d av) Q):WL P C ops (o::rest) σ Q:=WL.vl hd (ldrV_of h hi hj ho2) k
theorem DK.ldr {rows:List (List AV)} {i j:Nat} {r:List AV} {av:AV} (hd:dstD C.N ops σ o=some d)(h:ldrV P (σ.only (o.looksAt ops)) o.op=some (rows,i,j))(hi:rows[i]?=some r)(hj:r[j]?=some av)(ho2:av.own=false)(k:DK P C ops rest (σ.put d av) Q):DK P C ops (o::rest) σ Q:=DK.vl hd (ldrV_of h hi hj ho2) k
def stxV (P:Program)(σ:St):Op→Option (Nat×TypeId×List AV×Nat×AV)
 | .store T x y =>
  match σ.ev x,σ.ev y with
  | some (.pt k 0 j),some av =>
   match sizeB P T,look k σ.M with
   | some 1,some (.box T' cells)=>bif av.oneB then some (k,T',cells,j,av)else none
   | _,_=>none
  | _,_=>none
 | _=>none
theorem oneB_cells {av:AV} (h:av.oneB=true):av.cellB=true∧av.cells=[av]:=by
 cases av<;>first|exact⟨rfl,rfl⟩|exact⟨h,rfl⟩|cases h
theorem putL_one (j:Nat)(av:AV):∀ cells:List AV,j<cells.length→putL j [av] cells=cells.set j av:=by
 intro cells h
 apply List.ext_getElem?
 intro i
 rw [putL_at (by simp;omega),List.getElem?_set]
 by_cases e:j=i
 ·subst e
  simp [h]
 ·rw [if_neg e,if_neg (by simp;omega)]
theorem WL.stx {q j:Nat} {T':TypeId} {cells:List AV} {av:AV} {t:List (Nat×AV)} {M M':List (Nat×AO)} {nk:Nat} (hg:o.guard=none) (hds:o.dst=none) (h:stxV P ⟨t,M,nk⟩ o.op=some (q,T',cells,j,av)) (hM:remS q M=some M') (hj:j < cells.length)
  (k:WL P C ops rest ⟨t,(q,.box T' (cells.set j av))::M',nk⟩ Q):WL P C ops (o::rest) ⟨t,M,nk⟩ Q:=by
 rw [remS_eq hM] at k
 clear hM
 refine WL.op hg ?_ k
 unfold stxV at h
 split at h
 ·rename_i T x y ho
  split at h
  ·rename_i k' j' av' hx hy
   split at h
   ·rename_i T2 cells' hm hk
    cases hb:av'.oneB with
    | false=>rw [hb] at h;cases h
    | true =>
     rw [hb] at h
     cases h
     obtain ⟨c1,c2⟩:=oneB_cells hb
     refine wo_rem (WO.store (σ:=⟨t,M,nk⟩) ho hds hm hx hk hy c1 c2 rfl (by simp [hb]) ?_)
     simp only [AO.put]
     have:Nat.ble (j+[av].length) cells.length=true:=Nat.ble_eq_true_of_le (by simp;omega)
     rw [this,putL_one j av cells hj];rfl
   ·cases h
  ·cases h
 ·cases h
end
end
section
open Go.RowKit
def locK {α:Type} [DecidableEq α] (k:α):Nat→List (α×Value)→Option (Nat×Value)
 | _,[]=>none
 | i,x::r=>if k=x.1 then some (i,x.2) else locK k (i+1) r
def lookK {α:Type} [DecidableEq α] (z:Value)(k:α)(l:List (α×Value)):Value:=((locK k 0 l).map (·.2)).getD z
def updK {α:Type} [DecidableEq α] (k:α)(v:Value):List (α×Value)→List (α×Value)
 | []=>[(k,v)]
 | x::r=>if k=x.1 then (k,v)::r else x::updK k v r
structure KeyK (P:Program) (kt:TypeId) {α:Type} [DecidableEq α] (enc:α→Value):Prop where
 chk:∀ w b k,(Instr.checkKey b 10000 kt (enc k)).run P w=.ok () w
 fnd:∀ w k (es:List MapEntry) (l:List (α×Value)),es.map (fun e=>(e.key,e.val))=l.map (fun x=>(enc x.1,x.2))→(Instr.findKey kt (enc k) es).run P w=.ok (locK k 0 l) w
 bits:∀ k,Instr.sameBits 10000 (enc k) (enc k)=true
def mapIs {α:Type} (enc:α→Value)(l:List (α×Value))(w:World)(b:Nat):Prop :=
 ∃ es clock,w.heap[b]?=some (.map es clock)∧es.toList.map (fun e=>(e.key,e.val))=l.map fun x=>(enc x.1,x.2)
def mapQ {α:Type} (enc:α→Value)(l:List (α×Value)):Opq :=
 ⟨fun w b v φ=>v=.map (some b)∧φ b∧mapIs enc l w b,fun w w' b v φ h⟨h1,h2,es,c,h3,h4⟩=>⟨h1,h2,es,c,(h b h2).trans h3,h4⟩⟩
theorem locK_shift {α:Type} [DecidableEq α] (k:α):∀ (l:List (α×Value))(i n:Nat),locK k (i+n) l=(locK k i l).map fun x=>(x.1+n,x.2)
 | [],i,n=>rfl
 | x::r,i,n=>by
  unfold locK
  split
  ·rfl
  ·rw [show i+n+1=(i+1)+n by omega];exact locK_shift k r (i+1) n
theorem upd_none {α:Type} [DecidableEq α] (k:α)(v:Value):∀ (l:List (α×Value))(i:Nat),locK k i l=none→updK k v l=l++[(k,v)]
 | [],i,_=>rfl
 | x::r,i,h=>by
  unfold locK at h
  split at h
  ·cases h
  ·rename_i hne
   unfold updK
   rw [if_neg hne,upd_none k v r (i+1) h];rfl
theorem upd_some {α:Type} [DecidableEq α] (enc:α→Value)(k:α)(v:Value):∀ (l:List (α×Value))(es:List MapEntry)(i:Nat)(u:Value),locK k 0 l=some (i,u)→es.map (fun e=>(e.key,e.val))=l.map (fun x=>(enc x.1,x.2)) →
  (es.modify i fun e=>{ e with key:=enc k,val:=v }).map (fun e=>(e.key,e.val))=(updK k v l).map (fun x=>(enc x.1,x.2))∧((es[i]?).map (·.key))=some (enc k)
 | [],es,i,u,h,_=>by cases h
 | x::r,[],i,u,_,he=>by cases he
 | x::r,e::es,i,u,h,he=>by
  simp only [List.map_cons,List.cons.injEq,Prod.mk.injEq]at he
  unfold locK at h
  unfold updK
  by_cases hk:k=x.1
  ·rw [if_pos hk]at h ⊢
   cases h
   simp [List.modify,he.2,he.1.1,hk]
  ·rw [if_neg hk]at h ⊢
   rw [show (0+1:Nat)=0+1 from rfl,locK_shift]at h
   cases hq:locK k 0 r with
   | none=>rw [hq]at h;cases h
   | some y =>
    rw [hq]at h
    simp only [Option.map_some,Option.some.injEq,Prod.mk.injEq]at h
    obtain⟨rfl,rfl⟩:=h
    obtain⟨h1,h2⟩:=upd_some enc k v r es y.1 y.2 hq he.2
    refine⟨?_,by simpa using h2⟩
    simp only [List.modify_succ_cons,List.map_cons,h1,he.1.1,he.1.2]
section
variable {P:Program} {C:Cx} {σ σ':St} {G G':Gh} {a:Act} {w w':World} {o:Oper} {d:Tmp} {ops:Array Oper} {rest:List Oper} {Q:Exit→St→Prop}
theorem Ok.writeG (ok:Ok C σ G a w) {k g:Nat} {ob ob':AO} (hk:look k σ.M=some ob) (hg:G.fp k g) (hkept:Kept (fun x=>x=g) w w') (hob:ObAt G w' k ob') (hbd:ob'.bd σ.nk) :
  Ok C (σ.upd k ob') G a w':=by
 have hl:∀ k' o,look k' (σ.upd k ob').M=some o→(k'=k∧o=ob')∨(k'≠k∧look k' σ.M=some o):=fun k' o hx=>by
  by_cases e:k'=k
  ·subst e
   rw [show look k' (σ.upd k' ob').M=some ob' from look_set_same] at hx
   cases hx
   exact .inl ⟨rfl,rfl⟩
  ·rw [show look k' (σ.upd k ob').M=look k' σ.M from look_set_other e] at hx
   exact .inr ⟨e,hx⟩
 have hne:∀ k' o x,k'≠k→look k' σ.M=some o→G.fp k' x→x≠g:=fun k' o x e h1 h2 h3=>by
  subst h3;exact e (ok.dj k' o k ob x h1 hk h2 hg)
 have some_:∀ k' o,look k' (σ.upd k ob').M=some o→∃ o',look k' σ.M=some o':=fun k' o h=>by
  rcases hl k' o h with⟨rfl,_⟩|⟨_,y⟩
  ·exact ⟨ob,hk⟩
  ·exact ⟨o,y⟩
 refine ⟨ok.sz,ok.df,ok.tm,ok.bel.on hkept (fun x hx=>by subst hx;exact (ok.my k ob x hk hg).1),fun p u h=>?_,ok.f0,ok.f1,?_,?_,?_,?_⟩
 ·rw [World.cell?_of_block (hkept.block p.block (cell_block (ok.fw p u h)) (ok.dF k ob g p u hk hg h))];exact ok.fw p u h
 ·intro k' o x
  rcases hl k' o x with⟨rfl,rfl⟩|⟨e,y⟩
  ·exact ⟨(ok.ob k' ob hk).1,hbd,hob⟩
  ·exact ⟨(ok.ob k' o y).1,(ok.ob k' o y).2.1,(ok.ob k' o y).2.2.keep (Gh.le.refl _ _) (ok.ob k' o y).1 (ok.ob k' o y).2.1 rfl fun x hx=>hkept.block x (ok.my k' o x y hx).2 (hne k' o x e y hx)⟩
 ·intro k' o x h1 h2
  obtain ⟨o',y⟩:=some_ k' o h1
  exact ⟨(ok.my k' o' x y h2).1,Nat.lt_of_lt_of_le (ok.my k' o' x y h2).2 hkept.size⟩
 ·intro k1 o1 k2 o2 x h1 h2 h3 h4
  obtain ⟨o1',y1⟩:=some_ k1 o1 h1
  obtain ⟨o2',y2⟩:=some_ k2 o2 h2
  exact ok.dj k1 o1' k2 o2' x y1 y2 h3 h4
 ·intro k1 o1 x p u h1 h2 h3
  obtain ⟨o1',y1⟩:=some_ k1 o1 h1
  exact ok.dF k1 o1' x p u y1 h2 h3
theorem WO.mkm {T:TypeId} {q:Nat} {α:Type} (enc:α→Value) (hd:dstB C.N o=some d) (ho:o.op=.makeMap T none) (hq:σ.nk=q):WO P C o σ ((σ.new (.opq (mapQ enc []))).put d (.sl q)):=by
 intro G a w ok N Q' hN
 obtain ⟨_,hds,hdb⟩:=dstB_of hd
 have hbl:∀ x,x<w.heap.size→(w.alloc (.map #[] 0)).heap[x]?=w.heap[x]?:=fun x hx=>Below.heap_alloc w _ x hx
 have ok':=ok.newObj (S:=fun _=>False) (w':=w.alloc (.map #[] 0)) (b:=w.heap.size) (n:=0) (h:=.map (some w.heap.size)) (φ:=fun x=>x=w.heap.size) (ob:=.opq (mapQ enc []))
  (Kept.below ((Below.refl _ _).alloc (Nat.le_refl _) _)) (fun _ h=>h.elim) (fun _ _ _ _ _ h=>h) (fun _ _ _ h=>h)
  (by
   show (mapQ enc []).Q _ _ _ _
   rw [with_b,with_h,with_f]
   exact ⟨rfl,rfl,#[],0,(MapKept.heap_alloc w _).1,rfl⟩) trivial (fun x hx=>by
   subst hx
   exact ⟨.inl ok.bel.size,by simp,fun k o h1 h2=>by have:=(ok.my k o _ h1 h2).2;omega,fun p u h1 h2=>by have:=cell_block (ok.fw p u h1);omega⟩)
 subst hq
 unfold Oper.wp execOp
 simp only [ho,Instr.makeMap,Option.map_none,Sem.run_bind,Sem.run_pure,run_newObj,Result.andThen_ok]
 show N (a.put o.dst _) _
 rw [hds]
 exact hN _ _ _ (ok'.set (d:=some d) (av:=.sl σ.nk) (with_sl rfl) (.sl _ (Nat.lt_succ_self _)) fun x hx=>by cases hx;exact of_blt hdb)
theorem WL.mkm {T:TypeId} {t:List (Nat×AV)} {M:List (Nat×AO)} {nk:Nat} {α:Type} (enc:α→Value) (hd:dstB C.N o=some d) (ho:o.op=.makeMap T none) (k:WL P C ops rest ⟨(d,.sl nk)::t,(nk,.opq (mapQ enc []))::M,nk+1⟩ Q):WL P C ops (o::rest) ⟨t,M,nk⟩ Q :=
 WL.op (dstB_of hd).1 (WO.mkm enc hd ho rfl) k
theorem map_at_ {α:Type} {enc:α→Value} {l:List (α×Value)} (ok:Ok C σ G a w) {q:Nat} {x:Operand} (hx:σ.ev x=some (.sl q)) (hq:look q σ.M=some (.opq (mapQ enc l))) :
  a.eval x=.map (some (G.b q))∧G.fp q (G.b q)∧mapIs enc l w (G.b q):=by
 obtain ⟨h1,h2,h3⟩:(mapQ enc l).Q w (G.b q) (G.h q) (G.fp q):=(ok.ob q _ hq).2.2
 exact ⟨(ok.evr hx).2.sl_of.1.trans h1,h2,h3⟩
theorem WV.mlk {α:Type} [DecidableEq α] {enc:α→Value} {T kt et:TypeId} {l:List (α×Value)} {q:Nat} {x y:Operand} {av:AV} {k:α} {z:Value} (K:KeyK P kt enc)(ho:o.op=.lookup T x y false)(hT:P.underlying T=some (.map kt et))(hz:(P.info? et).bind (·.zero)=some z)
  (hx:σ.ev x=some (.sl q))(hq:look q σ.M=some (.opq (mapQ enc l)))(hy:σ.ev y=some av)(hk:∀ G v,R G av v→v=enc k):WV P C o σ (.sc (lookK z k l)) :=
 WV.sc fun G a w ok=>by
  obtain⟨e1,e2,es,clock,e3,e4⟩:=map_at_ ok hx hq
  have e5:=hk G _ (ok.evr hy).2
  have e6:=K.fnd w k es.toList l e4
  unfold execOp
  simp only [ho,e1,e5,Instr.lookup,Sem.run_bind,run_underlying hT,Result.andThen_ok,Sem.run_pure,MapKept.run_getObj_map e3,K.chk,e6]
  unfold lookK
  cases hl:locK k 0 l with
  | none =>
   cases hi:P.info? et with
   | none=>simp [hi]at hz
   | some i =>
    simp [hi]at hz
    simp [zeroValue,typeInfo,hi,hz]
  | some r=>simp
theorem WO.mup {α:Type} [DecidableEq α] {enc:α→Value} {T kt et:TypeId} {l:List (α×Value)} {q:Nat} {x y z:Operand} {av:AV} {k:α} {u:Value} (K:KeyK P kt enc) (hds:o.dst=none) (ho:o.op=.mapUpdate T x y z) (hT:P.underlying T=some (.map kt et))
  (hx:σ.ev x=some (.sl q)) (hq:look q σ.M=some (.opq (mapQ enc l))) (hy:σ.ev y=some av) (hk:∀ G v,R G av v→v=enc k) (hu:σ.ev z=some (.sc u)):WO P C o σ (σ.upd q (.opq (mapQ enc (updK k u l)))):=by
 intro G a w ok N Q' hN
 obtain ⟨e1,e2,es,clock,e3,e4⟩:=map_at_ ok hx hq
 have e5:=hk G _ (ok.evr hy).2
 have e6:=K.fnd w k es.toList l e4
 have hlt:G.b q < w.heap.size:=(Array.getElem?_eq_some_iff.1 e3).1
 have fin:∀ (es':Array MapEntry) (c':Nat),es'.toList.map (fun e=>(e.key,e.val))=(updK k u l).map (fun x=>(enc x.1,x.2))→Ok C (σ.upd q (.opq (mapQ enc (updK k u l)))) G a { w with heap:=w.heap.setIfInBounds (G.b q) (.map es' c') }:=fun es' c' h =>
  ok.writeG hq e2 ⟨rfl,rfl,rfl,by simp,fun x _ hx=>Array.getElem?_setIfInBounds_ne (fun e=>hx e.symm)⟩ ⟨(ok.ob q _ hq).2.2.1,e2,es',c',(MapKept.heap_set e3).1,h⟩ trivial
 unfold Oper.wp execOp
 simp only [ho,e1,e5,ok.evs hu,Instr.mapUpdate,Sem.run_bind,run_underlying hT,Result.andThen_ok,Sem.run_pure,MapKept.run_getObj_map e3,K.chk,e6]
 cases hl:locK k 0 l with
 | none =>
  simp only [MapKept.run_setObj_map _ e3,Result.andThen_ok,Sem.run_bind,Sem.run_pure,Oper.upon]
  rw [hds]
  refine hN G a _ (fin _ _ ?_)
  rw [upd_none k u l 0 hl]
  simp [e4]
 | some r =>
  obtain ⟨i,v0⟩:=r
  obtain ⟨f1,f2⟩:=upd_some enc k u l es.toList i v0 hl e4
  have f3:(es[i]?).map (·.key)=some (enc k):=by rw [← Array.getElem?_toList];exact f2
  simp only [f3,Option.getD_some,Instr.keyThatStays,K.bits,if_true,Sem.run_pure,Result.andThen_ok,Sem.run_bind,MapKept.run_setObj_map _ e3,Oper.upon]
  rw [hds]
  refine hN G a _ (fin _ _ ?_)
  rw [Array.toList_modify]
  exact f1
theorem WL.mup {α:Type} [DecidableEq α] {enc:α→Value} {T kt et:TypeId} {l l':List (α×Value)} {q:Nat} {x y z:Operand} {av:AV} {k:α} {u:Value} {t:List (Nat×AV)} {M M':List (Nat×AO)} {nk:Nat} (K:KeyK P kt enc) (hg:o.guard=none) (hds:o.dst=none) (ho:o.op=.mapUpdate T x y z) (hT:P.underlying T=some (.map kt et))
  (hx:(⟨t,M,nk⟩:St).ev x=some (.sl q)) (hq:look q M=some (.opq (mapQ enc l))) (hy:(⟨t,M,nk⟩:St).ev y=some av) (hk:∀ G v,R G av v→v=enc k) (hu:(⟨t,M,nk⟩:St).ev z=some (.sc u)) (hM:remS q M=some M') (hl:updK k u l=l')
  (r:WL P C ops rest ⟨t,(q,.opq (mapQ enc l'))::M',nk⟩ Q):WL P C ops (o::rest) ⟨t,M,nk⟩ Q:=by
 subst hl
 rw [remS_eq hM] at r
 exact WL.op hg (wo_rem (WO.mup (σ:=⟨t,M,nk⟩) K hds ho hT hx hq hy hk hu)) r
theorem WO.mcl {α:Type} {enc:α→Value} {T kt et:TypeId} {l:List (α×Value)} {q:Nat} {x:Operand} (ho:o.op=.call { callee:=.builtin .clear,args:=#[x],argTypes:=#[T] }) (hT:P.underlying T=some (.map kt et))
  (hx:σ.ev x=some (.sl q)) (hq:look q σ.M=some (.opq (mapQ enc l))) (hd:dstOk C.N o.dst=true):WO P C o σ ((σ.upd q (.opq (mapQ enc []))).set o.dst (.tu [])):=by
 intro G a w ok N Q' hN
 obtain ⟨e1,e2,es,clock,e3,e4⟩:=map_at_ ok hx hq
 have hlt:G.b q<w.heap.size:=(Array.getElem?_eq_some_iff.1 e3).1
 have ok':Ok C (σ.upd q (.opq (mapQ enc []))) G a { w with heap:=w.heap.setIfInBounds (G.b q) (.map #[] clock) } :=
  ok.writeG hq e2 ⟨rfl,rfl,rfl,by simp,fun x _ hx=>Array.getElem?_setIfInBounds_ne (fun e=>hx e.symm)⟩ ⟨(ok.ob q _ hq).2.2.1,e2,#[],clock,(MapKept.heap_set e3).1,rfl⟩ trivial
 unfold Oper.wp execOp
 have hargs:(#[x]:Array Operand).map a.eval=#[.map (some (G.b q))]:=by simp [e1]
 simp only [ho,resolve,invoke,builtin,Sem.run_bind,Sem.run_pure,Result.andThen_ok,hargs]
 have hcl:(Builtin.clear_ #[T] o.type #[.map (some (G.b q))]).run P w=.ok (.tuple #[]) { w with heap:=w.heap.setIfInBounds (G.b q) (.map #[] clock) }:=by
  simp [Builtin.clear_,run_underlying hT,MapKept.run_getObj_map e3,MapKept.run_setObj_map _ e3]
 simp only [hcl,Result.andThen_ok,Sem.run_bind,Sem.run_pure,Oper.upon]
 exact hN G _ _ (ok'.set (av:=.tu []) (.tu _ _ rfl fun i av u h=>by simp at h) (.tu _ fun i x h=>by simp at h) (dstOk_of hd))
theorem WL.mcl {α:Type} {enc:α→Value} {T kt et:TypeId} {l:List (α×Value)} {q:Nat} {x:Operand} {t:List (Nat×AV)} {M M':List (Nat×AO)} {nk:Nat} (hg:o.guard=none) (ho:o.op=.call { callee:=.builtin .clear,args:=#[x],argTypes:=#[T] }) (hT:P.underlying T=some (.map kt et))
  (hx:(⟨t,M,nk⟩:St).ev x=some (.sl q)) (hq:look q M=some (.opq (mapQ enc l))) (hd:dstOk C.N o.dst=true) (hM:remS q M=some M') (r:WL P C ops rest ((⟨t,(q,.opq (mapQ enc []))::M',nk⟩:St).set o.dst (.tu [])) Q):WL P C ops (o::rest) ⟨t,M,nk⟩ Q:=by
 rw [remS_eq hM] at r
 refine WL.op hg ?_ r
 intro G a w ok N Q' hN
 refine WO.mcl (σ:=⟨t,M,nk⟩) (enc:=enc) ho hT hx hq hd G a w ok N Q' fun G' a' w' ok'=>hN G' a' w' ?_
 have hl:∀ i,look i ((q,AO.opq (mapQ enc []))::rem q M)=look i ((q,AO.opq (mapQ enc []))::M):=fun i=>by
  by_cases e:i=q
  ·subst e;rw [look_set_same,look_set_same]
  ·rw [look_set_other e,look_set_other e,look_rem,if_neg e]
 cases hdst:o.dst with
 | none =>
  rw [hdst] at ok'
  exact ⟨ok'.sz,ok'.df,ok'.tm,ok'.bel,ok'.fw,ok'.f0,ok'.f1,fun i x hx=>ok'.ob i x ((hl i).symm.trans hx),fun i x y hx=>ok'.my i x y ((hl i).symm.trans hx),fun i x i' x' y hx hx'=>ok'.dj i x i' x' y ((hl i).symm.trans hx) ((hl i').symm.trans hx'),fun i x y p u hx=>ok'.dF i x y p u ((hl i).symm.trans hx)⟩
 | some d =>
  rw [hdst] at ok'
  exact ⟨ok'.sz,ok'.df,ok'.tm,ok'.bel,ok'.fw,ok'.f0,ok'.f1,fun i x hx=>ok'.ob i x ((hl i).symm.trans hx),fun i x y hx=>ok'.my i x y ((hl i).symm.trans hx),fun i x i' x' y hx hx'=>ok'.dj i x i' x' y ((hl i).symm.trans hx) ((hl i').symm.trans hx'),fun i x y p u hx=>ok'.dF i x y p u ((hl i).symm.trans hx)⟩
end
end
section
open Go.RowKit
section
variable {P:Program} {C:Cx} {σ:St} {o:Oper} {d:Tmp} {ops:Array Oper} {rest:List Oper} {Q:Exit→St→Prop} {mem:List Bool} {Mc:List (Nat×AO)} {nk0 k:Nat}
theorem W.dmT2 {id:Nat} {L:List Oper} (k0:Nat)(mem:List Bool)(ms:List Nat)(hm:P.follows .mixedOrders=true)(hB:Region.lexB .any L.toArray=true)(hT:tailB L.toArray k0=true)(hB2:Region.lexB .any (L.take k0).toArray=true)
  (hch:chainB (L.take k0).toArray mem=true)(hMc:msSub (onlyM σ.M ms) σ.M)
  (h:DMK P C (L.take k0).toArray mem (onlyM σ.M ms) σ.nk 0 (L.take k0) σ (fun e s=>e=.normal∧WL P C L.toArray (L.drop k0) s Q)):W P C (.region id L.toArray true) σ Q :=
 W.drawT k0 hm hB hT (let⟨_,a,b⟩:=h;WA.drawM mem (onlyM σ.M ms) hB2 hch hMc a b)
theorem DMK.al {T:TypeId} {z:Value} {l:List AV} (hd:wrB mem C.N k o=some d) (ho:o.op=.alloc T) (hz:(P.info? T).bind (·.zero)=some z) (hl:z.cells.toList.map .sc=l) (hs:msSub Mc ((σ.nk,.box T l)::σ.M))
  (r:DMK P C ops mem Mc nk0 (k+1) rest ⟨(d,.pt σ.nk 0 0)::σ.t,(σ.nk,.box T l)::σ.M,σ.nk+1⟩ Q):DMK P C ops mem Mc nk0 k (o::rest) σ Q:=by
 obtain ⟨a,b,c,e⟩:=wrB_of hd
 exact DMK.wr a b (Nat.ble_eq_true_of_le (Nat.le_succ _)) hs ⟨c,fun t _=>WO.alloc (σ:=⟨t,σ.M,σ.nk⟩) ho hz b e hl rfl⟩ r
theorem Tr.nilR {t:Tmp} (n:Nat) (h:look t σ.t=some (.sc (.slice none 0 0))):Tr C σ (σ.put t (.ls n [])):=fun G a w ok =>
 ⟨G,ok.reslot h (.ls _ _) fun v hv=>by rw [hv.sc_eq];exact .pu _ _ (.ls n [] none 0 ⟨0,0,none⟩ (fun _ _=>undef) (by simp) (by simp) (by simp) (by simp) (by simp))⟩
def truB:World→View→Prop:=fun _ _=>True
theorem truS:Stab truB 0:=⟨fun _ _ _=>Nat.zero_le _,fun _ _ _ _ _ _ _=>trivial⟩
theorem truH(C:Cx):Holds truB 0 C:=⟨fun _ _ _ _=>trivial,fun _ _=>Nat.zero_le _⟩
end
end
section
open Go.Shelf Go.RowKit
def joinRen:Go.Shelf.Ren:=⟨fun|156=>114|165=>174|166=>58|169=>59|240=>125|241=>213|276=>184|277=>235|n=>n,fun|0=>0|3=>3|4=>4|9=>9|20=>20|31=>65|37=>57|70=>107|72=>109|75=>112|76=>113|127=>202|164=>266|5=>5|80=>115|n=>n,fun|n=>n⟩
theorem joinLays:Go.Proofs.Lays.n156 Tryz.prog joinRen:={
 mixed:=by kernel_rfl
 f156:=Tryz.func114.trans (congrArg some (by kernel_rfl))
 f165:=Tryz.func174.trans (congrArg some (by kernel_rfl))
 f166:=Tryz.func58.trans (congrArg some (by kernel_rfl))
 f169:=Tryz.func59.trans (congrArg some (by kernel_rfl))
 f240:=Tryz.func125.trans (congrArg some (by kernel_rfl))
 f241:=Tryz.func213.trans (congrArg some (by kernel_rfl))
 f276:=Tryz.func184.trans (congrArg some (by kernel_rfl))
 f277:=Tryz.func235.trans (congrArg some (by kernel_rfl))
 t0:=Tryz.underlying0
 a0:=Tryz.isAgg0
 z0:=Tryz.sizeOf0
 v0:=Tryz.zeroValue0
 t3:=Tryz.underlying3
 a3:=Tryz.isAgg3
 z3:=Tryz.sizeOf3
 v3:=Tryz.zeroValue3
 t4:=Tryz.underlying4
 a4:=Tryz.isAgg4
 z4:=Tryz.sizeOf4
 v4:=Tryz.zeroValue4
 t9:=Tryz.underlying9
 a9:=Tryz.isAgg9
 z9:=Tryz.sizeOf9
 v9:=Tryz.zeroValue9
 t20:=Tryz.underlying20
 a20:=Tryz.isAgg20
 z20:=Tryz.sizeOf20
 v20:=Tryz.zeroValue20
 t31:=Tryz.underlying65
 a31:=Tryz.isAgg65
 z31:=Tryz.sizeOf65
 v31:=Tryz.zeroValue65
 t37:=Tryz.underlying57
 a37:=Tryz.isAgg57
 z37:=Tryz.sizeOf57
 v37:=Tryz.zeroValue57
 t70:=Tryz.underlying107
 a70:=Tryz.isAgg107
 z70:=Tryz.sizeOf107
 v70:=Tryz.zeroValue107
 t72:=Tryz.underlying109
 a72:=Tryz.isAgg109
 z72:=Tryz.sizeOf109
 v72:=Tryz.zeroValue109
 t75:=Tryz.underlying112
 a75:=Tryz.isAgg112
 z75:=Tryz.sizeOf112
 v75:=Tryz.zeroValue112
 t76:=Tryz.underlying113
 a76:=Tryz.isAgg113
 z76:=Tryz.sizeOf113
 v76:=Tryz.zeroValue113
 t127:=Tryz.underlying202
 a127:=Tryz.isAgg202
 z127:=Tryz.sizeOf202
 v127:=Tryz.zeroValue202
 t164:=Tryz.underlying266
 a164:=Tryz.isAgg266
 z164:=Tryz.sizeOf266
 v164:=Tryz.zeroValue266 }
theorem joinExtra:Builder.Extra Tryz.prog joinRen:={
 sizeBuilder:=by kernel_rfl
 liesBuilder:=by kernel_rfl
 t5:=Tryz.underlying5
 a5:=Tryz.isAgg5
 z5:=Tryz.sizeOf5
 v5:=Tryz.zeroValue5
 infoByte:=by kernel_rfl
 cellsByte:=by kernel_rfl
 sizeByte:=by kernel_rfl
 neB5:=by decide }
theorem strings_Join_none (a:Option Addr) (c:Nat) (sep:ByteArray) (w:World) :
  Calls Tryz.prog 114 #[.slice a 0 c,.string sep] w fun e w'=>e=.returned (.string ⟨#[]⟩)∧w'=w:=Any.strings_Join_none joinLays joinExtra a c sep w
theorem strings_Join (bk o c:Nat) (xs:List ByteArray) (sep:ByteArray) (w:World) (hcells:∀ (j:Nat) x,xs[j]?=some x→w.cell? ⟨bk,o+j,none⟩=some (.string x)) (hbk:bk<w.heap.size) (hN:xs.length≤140737488355328) (hcap:xs.length≤c) (hlen:(Lib.join (xs.map (·.data.toList)) sep.data.toList).length≤140737488355328) :
  Calls Tryz.prog 114 #[.slice (some ⟨bk,o,none⟩) xs.length c,.string sep] w fun e w'=>e=.returned (.string ⟨(Lib.join (xs.map (·.data.toList)) sep.data.toList).toArray⟩)∧Below w.heap.size w w':=Any.strings_Join joinLays joinExtra bk o c xs sep w hcells hbk hN hcap hlen
end
end Go.Proofs.YtgelfflighgajaaGreatDoor
