/- Cells at one spot are read in one way: the plain law. -/
import Derived.Test.YthohlofpphjofaaGreatDoorInsGq
import Derived.Test.YthohlofpphjofaaGreatDoorFAGq
import Derived.Test.YthohlofpphjofaaGreatDoorLApartGq
set_option linter.unusedVariables false
set_option linter.unusedSimpArgs false
namespace Go.Proofs.YthohlofpphjofaaGreatDoor
theorem Js {p:Prop}(h:p:=by simpa using hq):p:=h
theorem adU {p:Prop}(h:p:=by
 unfold sG;rw [if_neg (fun k=>k hs),if_neg (by omega),if_neg (by omega),if_neg hne]):p:=h
theorem adM {p:Prop}(h:p:=by
 split at hx
 ·omega
 ·split at hx
  ·simp at hx;subst hx;decide
  ·cases hx):p:=h
theorem afg {p:Prop}(h:p:=by
 rw [hds]
 exact hN _ _ _ (ok'.set (d:=some d) (av:=.sl σ.nk) (with_sl rfl) (.sl _ (ou _)) fun x hx=>by cases hx;exact of_blt hdb)):p:=h
theorem afa {p:Prop}(h:p:=by
 exact ⟨ok'.sz,ok'.df,ok'.tm,ok'.bel,ok'.fw,ok'.f0,ok'.f1,fun i x hx=>ok'.ob i x ((hl i).symm.trans hx),fun i x y hx=>ok'.my i x y ((hl i).symm.trans hx),fun i x i' x' y hx hx'=>ok'.dj i x i' x' y ((hl i).symm.trans hx) ((hl i').symm.trans hx'),fun i x y p u hx=>ok'.dF i x y p u ((hl i).symm.trans hx)⟩):p:=h
section
open Go.RowKit
theorem W.dkT {P:Program} {C:Cx} {σ:St} {Q:Exit→St→Prop} {id:Nat} {L:List Oper} (k0:Nat)(hm:P.follows .mixedOrders=true)(hB:Region.lexB .any L.toArray=true)(hT:tailB L.toArray k0=true)(hB2:Region.lexB .any (L.take k0).toArray=true)
  (h:DK P C (L.take k0).toArray (L.take k0) σ (fun e s=>e=.normal∧WL P C L.toArray (L.drop k0) s Q)):W P C (.region id L.toArray true) σ Q :=
 W.drawT k0 hm hB hT (let⟨_,a,b⟩:=h;WA.draw hB2 a b)
section
variable {P:Program} {C:Cx} {σ σ':St} {o:Oper} {d:Tmp} {ops:Array Oper} {rest:List Oper} {Q:Exit→St→Prop}
structure MksD where
 e:TypeId
 z:Value
 m:Int
 n:Int
def mksV (P:Program) (σ:St):Op→Option MksD
 | .makeSlice T x y =>
  match P.underlying T,σ.ev x,σ.ev y with
  | some (.slice e),some (.sc (.int _ m)),some (.sc (.int _ n)) =>
   match P.info? e with
   | some i =>
    match i.zero with
    | some z=>bif z.oneCell' && Nat.beq i.size 1 && Nat.ble i.bytes 1000 then some ⟨e,z,m,n⟩else none
    | none=>none
   | none=>none
  | _,_,_=>none
 | _=>none
theorem WO.mks {x:MksD} {q:Nat} (hd:dstB C.N o=some d) (h:mksV P σ o.op=some x) (hmn:x.m=x.n) (hn:0≤x.n∧x.n≤1000000) (hq:σ.nk=q):WO P C o σ (((σ.new (.row x.e 1 (List.replicate x.n.toNat [.sc x.z]))).put d (.sl q))):=by
 intro G a w ok N Q' hN
 obtain ⟨_,hds,hdb⟩:=dstB_of hd
 unfold mksV at h
 split at h
 ·rename_i T x1 y1 ho
  split at h
  ·rename_i e k1 m k2 n hT hx hy
   split at h
   ·rename_i i hi
    split at h
    ·rename_i z hz
     cases hb:z.oneCell' && Nat.beq i.size 1 && Nat.ble i.bytes 1000 with
     | false=>rw [hb] at h;cases h
     | true =>
      rw [hb] at h
      cases h
      simp only [dw] at hb
      obtain ⟨⟨b1,b2⟩,b3⟩:=hb
      obtain rfl:m=n:=hmn
      obtain ⟨n,rfl⟩:∃ n:Nat,m=n:=⟨m.toNat,(Int.toNat_of_nonneg hn.1).symm⟩
      have hn2:n≤1000000:=by grind
      have hzc:z.cells=#[z]:=by cases z<;>first|rfl|cases b1
      have hby:i.bytes*n≤281474976710656:=by
       have:=LK (aP b3) hn2
       omega
      obtain ⟨w',hrun,hown,hgr⟩:=run_make_full (P:=P) w 0 T e i z 1 hT hi hz (dQ b2) k1 k2 n hby FC (dD _)
      rw [hzc,EZ,toList_madeCells_one] at hown
      subst hq
      have hbl:w'.heap[w.heap.size]?≠none:=by
       rcases hown.2 with⟨e1,_⟩|⟨g,cap,cur,e1,_,hh,_⟩
       all_goals simp_all
      have hlt:w.heap.size<w'.heap.size:=by
       simp_all
      have ok':=ok.newObj (S:=fun _=>False) (w':=w') (b:=w.heap.size) (n:=1) (h:=.slice (some ⟨w.heap.size,0,none⟩) n n) (φ:=fun x=>x=w.heap.size) (ob:=.row e 1 (List.replicate n [.sc z]))
       ⟨hgr.os,hgr.tape,hgr.output,hgr.size,fun x h1 _=>hgr.block x h1 (by simp)⟩ (fun _ h=>h.elim) (fun _ _ _ _ _ h=>h) (fun _ _ _ h=>h)
       ⟨with_n,(fun g hg=>by rw [with_h] at hg;rw [with_b];exact (Option.some.inj hg).symm),by
        rw [with_h,with_f]
        refine ⟨fun r hr=>by rw [oz hr];rfl,List.replicate n [z],fun _ _ _=>False,by simpa using hown,by simp,fun r hr u hu=>?_,fun g hg=>(Option.some.inj hg).symm,fun _ _ _ h=>h.elim,fun _ _ _ _ _ h=>h.elim,fun i r r' h1 h2=>?_,fun i r r' j av u h1 h2 h3 h4=>?_⟩
        ·rw [oz hr,vZ] at hu;rw [hu];exact b1
        ·exact adC
        ·rw [oz (aY h1)] at h3
         rw [oz (aY h2)] at h4
         cases j with
         | zero=>cases h3;cases h4;exact .sc _
         | succ j=>simp at h3⟩ trivial (fun x hx=>by
        subst hx
        exact ⟨.inl ok.bel.size,hlt,fun k o h1 h2=>by have:=(ok.my k o _ h1 h2).2;omega,fun p u h1 h2=>by have:=cell_block (ok.fw p u h1);omega⟩)
      refine fU ?_
      simp only [ho,ok.evs hx,ok.evs hy,Sem.run_bind,hrun,Sem.run_pure,Result.andThen_ok,Oper.upon]
      exact afg
    ·cases h
   ·cases h
  ·cases h
 ·cases h
theorem WL.mks {x:MksD} {m:Nat} {t:List (Nat×AV)} {M:List (Nat×AO)} {nk:Nat} (hd:dstB C.N o=some d) (h:mksV P ⟨t,M,nk⟩ o.op=some x) (hmn:x.m=x.n) (hm:x.n.toNat=m) (hn:0≤x.n∧x.n≤1000000) (k:WL P C ops rest ⟨(d,.sl nk)::t,(nk,.row x.e 1 (List.replicate m [.sc x.z]))::M,nk+1⟩ Q):WL P C ops (o::rest) ⟨t,M,nk⟩ Q:=by
 subst hm
 exact WL.op (dstB_of hd).1 (WO.mks hd h hmn hn rfl) k
def partV (P:Program)(σ:St):Op→Option (Nat×List (List AV)×Int×Int)
 | .slice T x lo hi none =>
  match P.underlying T,σ.ev x with
  | some (.slice e),some (.ls n rows) =>
   match sizeB P e with
   | some m =>
    bif Nat.beq m n then
     match lo,hi with
     | none,none=>some (n,rows,0,rows.length)
     | some y,none =>
      match σ.ev y with
      | some (.sc (.int _ i))=>some (n,rows,i,rows.length)
      | _=>none
     | none,some z =>
      match σ.ev z with
      | some (.sc (.int _ j))=>some (n,rows,0,j)
      | _=>none
     | some y,some z =>
      match σ.ev y,σ.ev z with
      | some (.sc (.int _ i)),some (.sc (.int _ j))=>some (n,rows,i,j)
      | _,_=>none
    else none
   | none=>none
  | _,_=>none
 | _=>none
def prt {α:Type} (l:List α)(i j:Int):List α:=(l.take j.toNat).drop i.toNat
theorem run_sliceS {T e n:Nat} (hT:P.underlying T=some (.slice e)) (hn:sizeB P e=some n) (A:Option Addr) (len cap:Nat) (lo hi:Option Value) (i j:Int) (w:World)
  (hlo:(∃ k,lo=some (.int k i))∨(lo=none∧i=0)) (hhi:(∃ k,hi=some (.int k j))∨(hi=none∧j=len)) (hb:0≤i∧i≤j∧j≤len) (hc:len≤cap) :
  (Instr.slice T (.slice A len cap) lo hi none).run P w=.ok (.slice (if cap=i.toNat then A else A.map (·.add (i.toNat*n))) (j.toNat-i.toNat) (cap-i.toNat)) w:=by
 obtain ⟨i,rfl⟩:∃ q:Nat,i=q:=⟨i.toNat,by omega⟩
 obtain ⟨j,rfl⟩:∃ q:Nat,j=q:=⟨j.toNat,by omega⟩
 have h1:0≤(j:Int)∧(j:Int)≤(cap:Int):=by omega
 have h2:0≤(i:Int)∧(i:Int)≤(j:Int):=by omega
 rcases hlo with⟨k,rfl⟩|⟨rfl,hi⟩<;>rcases hhi with⟨k',rfl⟩|⟨rfl,hj⟩
 ·simp_all[Instr.slice,run_underlying,Instr.sliceBounds,Instr.sliceBound,asIntOf,run_sizeB]
 ·obtain rfl:j=len:=by omega
  simp [Instr.slice,run_underlying hT,Instr.sliceBounds,Instr.sliceBound,asIntOf,run_sizeB hn,show i≤j by omega]
 ·obtain rfl:i=0:=by omega
  simp [Instr.slice,run_underlying hT,Instr.sliceBounds,Instr.sliceBound,asIntOf,run_sizeB hn,show j≤cap by omega]
 simp_all[Instr.slice,run_underlying,Instr.sliceBounds,run_sizeB]
theorem partV_of {n:Nat} {rows:List (List AV)} {i j:Int} (h:partV P σ o.op=some (n,rows,i,j)) (hb:0≤i∧i≤j∧j≤rows.length):WV P C o σ (.ls n (prt rows i j)):=by
 unfold partV at h
 split at h
 ·rename_i T x lo hi ho
  split at h
  ·rename_i e n' rows' hT hx
   split at h
   ·rename_i m hm
    cases hbq:Nat.beq m n' with
    | false=>simp_all
    | true =>
     rw [hbq] at h
     obtain rfl:=dQ hbq
     simp only [cond_true] at h
     have key:(n=m∧rows=rows')∧∀ G a w,Ok C σ G a w→((∃ k,lo.map a.eval=some (.int k i))∨(lo.map a.eval=none∧i=0))∧((∃ k,hi.map a.eval=some (.int k j))∨(hi.map a.eval=none∧j=rows'.length)):=by
      split at h
      ·cases h;exact ⟨⟨rfl,rfl⟩,fun G a w ok=>⟨.inr ⟨rfl,rfl⟩,.inr ⟨rfl,rfl⟩⟩⟩
      ·split at h
       ·rename_i k i' hy;cases h;exact ⟨⟨rfl,rfl⟩,fun G a w ok=>⟨.inl ⟨k,by simp [ok.evs hy]⟩,.inr ⟨rfl,rfl⟩⟩⟩
       ·cases h
      ·split at h
       ·rename_i k i' hy;cases h;exact ⟨⟨rfl,rfl⟩,fun G a w ok=>⟨.inr ⟨rfl,rfl⟩,.inl ⟨k,by simp [ok.evs hy]⟩⟩⟩
       ·cases h
      ·split at h
       ·rename_i k i' k' j' hy hz;cases h;exact ⟨⟨rfl,rfl⟩,fun G a w ok=>⟨.inl ⟨k,by simp [ok.evs hy]⟩,.inl ⟨k',by simp [ok.evs hz]⟩⟩⟩
       ·cases h
     obtain ⟨⟨rfl,rfl⟩,hlh⟩:=key
     refine WV.val (fun _ _ _ _=>.ls _ _) fun G a w ok=>?_
     obtain ⟨A,cap,ad,u,e1,h1,h2,h3,h4,h5⟩:=(ok.evr hx).2.pu_of.ls_of
     obtain ⟨q1,q2⟩:=hlh G a w ok
     have hrun:=run_sliceS (P:=P) hT hm A rows.length cap (lo.map a.eval) (hi.map a.eval) i j w q1 q2 hb h5
     have hlen:(prt rows i j).length=j.toNat-i.toNat:=by unfold prt;simp;omega
     have hrow:∀ (q:Nat) r,(prt rows i j)[q]?=some r→rows[i.toNat+q]?=some r∧q<j.toNat-i.toNat:=fun q r hq=>by
      have hlt:=(List.getElem?_eq_some_iff.1 hq).1
      unfold prt at hq
      rw [I7,List.getElem?_take] at hq
      split at hq
      ·exact ⟨hq,by omega⟩
      ·cases hq
     refine ⟨.slice (if cap=i.toNat then A else A.map (·.add (i.toNat*n))) (prt rows i j).length (cap-i.toNat),?_,.pu _ _ (.ls n _ _ _ (ad.add (i.toNat*n)) (fun q s=>u (i.toNat+q) s) (by rw [hlen];omega) (fun r hr=>?_) (fun hp=>?_) (fun q r s av a1 a2=>?_) fun q r s av a1 a2=>?_)⟩
     ·unfold execOp
      simp only [ho,e1,EX]
      rw [hlen]
      have hsa:∀ v,(Instr.sliceAt T (.slice A rows.length cap) (lo.map a.eval) (hi.map a.eval) none).run P w=.ok v w↔(Instr.slice T (.slice A rows.length cap) (lo.map a.eval) (hi.map a.eval) none).run P w=.ok v w:=fun v=>by
       unfold Instr.sliceAt
       rw [Sem.run_bind,run_underlying hT w];rfl
      rw [Sem.run_bind,(hsa _).2 hrun];rfl
     ·obtain ⟨q,hq,rfl⟩:=fZ hr
      exact h1 _ (aY (hrow q _ (aB hq)).1)
     all_goals grind[add_of_add]
   ·cases h
  ·cases h
 ·cases h
theorem WL.part_ {n:Nat} {rows rows':List (List AV)} {i j:Int} (hd:dstB C.N o=some d)(h:partV P σ o.op=some (n,rows,i,j))(hb:0≤i∧i≤j∧j≤rows.length)(he:prt rows i j=rows')(k:WL P C ops rest (σ.put d (.ls n rows')) Q):WL P C ops (o::rest) σ Q:=by
 subst he
 exact WL.vl hd (partV_of h hb) k
theorem DK.part_ {n:Nat} {rows rows':List (List AV)} {i j:Int} (hd:dstD C.N ops σ o=some d)(h:partV P (σ.only (o.looksAt ops)) o.op=some (n,rows,i,j))(hb:0≤i∧i≤j∧j≤rows.length)(he:prt rows i j=rows')(k:DK P C ops rest (σ.put d (.ls n rows')) Q):DK P C ops (o::rest) σ Q:=by
 subst he
 exact DK.vl hd (partV_of h hb) k
def cvtV (P:Program)(σ:St):Op→Option (IntKind×Int)
 | .convert S T x =>
  match P.underlying T,σ.ev x with
  | some (.int k),some (.sc (.int _ n))=>some (k,n)
  | _,_=>none
 | _=>none
theorem cvtV_of {k:IntKind} {n:Int} (h:cvtV P σ o.op=some (k,n))(hs:∀ S T x,o.op=.convert S T x→(P.underlying S).isSome=true):WV P C o σ (.sc (.int k (k.wrap n))):=by
 unfold cvtV at h
 split at h
 ·rename_i S T x ho
  split at h
  ·rename_i k' k2 n' hT hx
   cases h
   have:=hs S T x ho
   cases hS:P.underlying S with
   | none=>rw [hS]at this;cases this
   | some d=>exact WV.sc fun G a w ok=>by unfold execOp;simp [ho,ok.evs hx,convert,run_underlying hS,run_underlying hT,Conv.intToInt]
  ·cases h
 ·cases h
def cvtB(P:Program):Op→Bool
 | .convert S _ _=>(P.underlying S).isSome
 | _=>true
theorem WL.cvt {k:IntKind} {n m:Int} (hd:dstB C.N o=some d)(h:cvtV P σ o.op=some (k,n))(hs:cvtB P o.op=true)(hm:k.wrap n=m)(K:WL P C ops rest (σ.put d (.sc (.int k m))) Q):WL P C ops (o::rest) σ Q:=by
 subst hm
 exact WL.vl hd (cvtV_of h fun S T x e=>by rw [e] at hs;exact hs) K
theorem idaP_of {q i j len n:Nat} {z:Int} (h:idaV P σ o.op=some (.pt q i j,len,n,z))(h0:0≤z∧z<len):WV P C o σ (.pt q i (j+z.toNat*n)) :=
 idaV_run h h0 (fun nk b=>by cases b with|pt _ _ _ hk=>exact .pt _ _ _ hk) fun G a w ok v r=>by
  obtain⟨p,e,p1,p2,p3⟩:=r.pt_of
  obtain⟨q1,q2,q3⟩:=add_ptr (j:=z.toNat*n) p p1 p3
  exact⟨p,e,.pt q i _ _ q1 aj q3⟩
theorem WL.idp {q i j len n m:Nat} {z:Int} (hd:dstB C.N o=some d)(h:idaV P σ o.op=some (.pt q i j,len,n,z))(h0:0≤z∧z<len)(hm:j+z.toNat*n=m)(k:WL P C ops rest (σ.put d (.pt q i m)) Q):WL P C ops (o::rest) σ Q:=by
 subst hm
 exact WL.vl hd (idaP_of h h0) k
def ldxV (P:Program)(σ:St):Op→Option (List AV×Nat)
 | .load T x =>
  match aggB P T,σ.ev x with
  | some false,some (.pt k 0 j) =>
   match look k σ.M with
   | some (.box _ cells)=>some (cells,j)
   | _=>none
  | _,_=>none
 | _=>none
theorem ldxV_of {cells:List AV} {j:Nat} {av:AV} (h:ldxV P σ o.op=some (cells,j))(hj:cells[j]?=some av)(ho2:av.own=false):WV P C o σ av:=by
 unfold ldxV at h
 split at h
 ·rename_i T x ho
  split at h
  ·rename_i k j' hT hx
   split at h
   ·rename_i T' cells' hk
    cases h
    exact WV.load1 ho hT hx hk (l:=cells.drop j) rfl yR ho2
   ·cases h
  ·cases h
 ·cases h
theorem WL.ldx {cells:List AV} {j:Nat} {av:AV} (hd:dstB C.N o=some d)(h:ldxV P σ o.op=some (cells,j))(hj:cells[j]?=some av)(ho2:av.own=false)(k:WL P C ops rest (σ.put d av) Q):WL P C ops (o::rest) σ Q:=WL.vl hd (ldxV_of h hj ho2) k
def ldrV (P:Program)(σ:St):Op→Option (List (List AV)×Nat×Nat)
 | .load T x =>
  match aggB P T,σ.ev x with
  | some false,some (.pt k i j) =>
   match look k σ.M with
   | some (.row _ _ rows)=>some (rows,i,j)
   | _=>none
  | _,_=>none
 | _=>none
theorem ldrV_of {rows:List (List AV)} {i j:Nat} {r:List AV} {av:AV} (h:ldrV P σ o.op=some (rows,i,j))(hi:rows[i]?=some r)(hj:r[j]?=some av)(ho2:av.own=false):WV P C o σ av:=by
 unfold ldrV at h
 split at h
 all_goals grind[WV.load1,AO.from_]
theorem WL.ldr {rows:List (List AV)} {i j:Nat} {r:List AV} {av:AV} (hd:dstB C.N o=some d)(h:ldrV P σ o.op=some (rows,i,j))(hi:rows[i]?=some r)(hj:r[j]?=some av)(ho2:av.own=false)(k:WL P C ops rest (σ.put d av) Q):WL P C ops (o::rest) σ Q:=WL.vl hd (ldrV_of h hi hj ho2) k
theorem DK.ldr {rows:List (List AV)} {i j:Nat} {r:List AV} {av:AV} (hd:dstD C.N ops σ o=some d)(h:ldrV P (σ.only (o.looksAt ops)) o.op=some (rows,i,j))(hi:rows[i]?=some r)(hj:r[j]?=some av)(ho2:av.own=false)(k:DK P C ops rest (σ.put d av) Q):DK P C ops (o::rest) σ Q:=DK.vl hd (ldrV_of h hi hj ho2) k
def stxV (P:Program)(σ:St):Op→Option (Nat×TypeId×List AV×Nat×AV)
 | .store T x y =>
  match σ.ev x,σ.ev y with
  | some (.pt k 0 j),some av =>
   match sizeB P T,look k σ.M with
   | some 1,some (.box T' cells)=>bif av.oneB then some (k,T',cells,j,av)else none
   | _,_=>none
  | _,_=>none
 | _=>none
theorem oneB_cells {av:AV} (h:av.oneB=true):av.cellB=true∧av.cells=[av]:=by
 cases av<;>first|exact⟨rfl,rfl⟩|exact⟨h,rfl⟩|cases h
theorem putL_one(j:Nat)(av:AV):∀ cells:List AV,j<cells.length→putL j [av] cells=cells.set j av:=by
 intro cells h
 exact UO
theorem WL.stx {q j:Nat} {T':TypeId} {cells:List AV} {av:AV} {t:List (Nat×AV)} {M M':List (Nat×AO)} {nk:Nat} (hg:o.guard=none) (hds:o.dst=none) (h:stxV P ⟨t,M,nk⟩ o.op=some (q,T',cells,j,av)) (hM:remS q M=some M') (hj:j < cells.length)
  (k:WL P C ops rest ⟨t,(q,.box T' (cells.set j av))::M',nk⟩ Q):WL P C ops (o::rest) ⟨t,M,nk⟩ Q:=by
 rw [remS_eq hM] at k
 clear hM
 refine WL.op hg ?_ k
 unfold stxV at h
 split at h
 ·rename_i T x y ho
  split at h
  ·rename_i k' j' av' hx hy
   split at h
   ·rename_i T2 cells' hm hk
    cases hb:av'.oneB with
    | false=>rw [hb] at h;cases h
    | true =>
     rw [hb] at h
     cases h
     obtain ⟨c1,c2⟩:=oneB_cells hb
     refine wo_rem (WO.store (σ:=⟨t,M,nk⟩) ho hds hm hx hk hy c1 c2 rfl (by simp [hb]) ?_)
     grind[AO.put,nG,putL_one]
   ·cases h
  ·cases h
 ·cases h
end
def locK {α:Type} [DecidableEq α] (k:α):Nat→List (α×Value)→Option (Nat×Value)
 | _,[]=>none
 | i,x::r=>if k=x.1 then some (i,x.2) else locK k (i+1) r
def lookK {α:Type} [DecidableEq α] (z:Value)(k:α)(l:List (α×Value)):Value:=((locK k 0 l).map (·.2)).getD z
def updK {α:Type} [DecidableEq α] (k:α)(v:Value):List (α×Value)→List (α×Value)
 | []=>[(k,v)]
 | x::r=>if k=x.1 then (k,v)::r else x::updK k v r
structure KeyK (P:Program) (kt:TypeId) {α:Type} [DecidableEq α] (enc:α→Value):Prop where
 chk:∀ w b k,(Instr.checkKey b 10000 kt (enc k)).run P w=.ok () w
 fnd:∀ w k (es:List MapEntry) (l:List (α×Value)),es.map (fun e=>(e.key,e.val))=l.map (fun x=>(enc x.1,x.2))→(Instr.findKey kt (enc k) es).run P w=.ok (locK k 0 l) w
 bits:∀ k,Instr.sameBits 10000 (enc k) (enc k)=true
def mapIs {α:Type} (enc:α→Value)(l:List (α×Value))(w:World)(b:Nat):Prop :=
 ∃ es clock,w.heap[b]?=some (.map es clock)∧es.toList.map (fun e=>(e.key,e.val))=l.map fun x=>(enc x.1,x.2)
def mapQ {α:Type} (enc:α→Value)(l:List (α×Value)):Opq :=
 ⟨fun w b v φ=>v=.map (some b)∧φ b∧mapIs enc l w b,fun w w' b v φ h⟨h1,h2,es,c,h3,h4⟩=>⟨h1,h2,es,c,(h b h2).trans h3,h4⟩⟩
theorem locK_shift {α:Type} [DecidableEq α] (k:α):∀ (l:List (α×Value))(i n:Nat),locK k (i+n) l=(locK k i l).map fun x=>(x.1+n,x.2)
 | [],i,n=>rfl
 | x::r,i,n=>by
  unfold locK
  split
  ·rfl
  ·rw [show i+n+1=(i+1)+n by omega];exact locK_shift k r (i+1) n
theorem upd_none {α:Type} [DecidableEq α] (k:α)(v:Value):∀ (l:List (α×Value))(i:Nat),locK k i l=none→updK k v l=l++[(k,v)]
 | [],i,_=>rfl
 | x::r,i,h=>by
  unfold locK at h
  split at h
  ·cases h
  ·rename_i hne
   unfold updK
   rw [if_neg hne,upd_none k v r (i+1) h];rfl
theorem upd_some {α:Type} [DecidableEq α] (enc:α→Value)(k:α)(v:Value):∀ (l:List (α×Value))(es:List MapEntry)(i:Nat)(u:Value),locK k 0 l=some (i,u)→es.map (fun e=>(e.key,e.val))=l.map (fun x=>(enc x.1,x.2)) →
  (es.modify i fun e=>{ e with key:=enc k,val:=v }).map (fun e=>(e.key,e.val))=(updK k v l).map (fun x=>(enc x.1,x.2))∧((es[i]?).map (·.key))=some (enc k)
 | [],es,i,u,h,_=>by cases h
 | x::r,[],i,u,_,he=>by cases he
 | x::r,e::es,i,u,h,he=>by
  simp only [qM,List.cons.injEq,Prod.mk.injEq]at he
  unfold locK at h
  unfold updK
  by_cases hk:k=x.1
  ·grind
  ·rw [if_neg hk]at h ⊢
   rw [show (0+1:Nat)=0+1 from rfl,locK_shift]at h
   cases hq:locK k 0 r with
   | none=>rw [hq]at h;cases h
   | some y =>
    rw [hq]at h
    simp only [kG,Option.some.injEq,Prod.mk.injEq]at h
    obtain⟨rfl,rfl⟩:=h
    obtain⟨h1,h2⟩:=upd_some enc k v r es y.1 y.2 hq he.2
    simp_all
section
variable {P:Program} {C:Cx} {σ σ':St} {G G':Gh} {a:Act} {w w':World} {o:Oper} {d:Tmp} {ops:Array Oper} {rest:List Oper} {Q:Exit→St→Prop}
theorem Ok.writeG (ok:Ok C σ G a w) {k g:Nat} {ob ob':AO} (hk:look k σ.M=some ob) (hg:G.fp k g) (hkept:Kept (fun x=>x=g) w w') (hob:ObAt G w' k ob') (hbd:ob'.bd σ.nk) :
  Ok C (σ.upd k ob') G a w':=by
 have hl:∀ k' o,look k' (σ.upd k ob').M=some o→(k'=k∧o=ob')∨(k'≠k∧look k' σ.M=some o):=fun k' o hx=>by
  exact afe
 have hne:∀ k' o x,k'≠k→look k' σ.M=some o→G.fp k' x→x≠g:=fun k' o x e h1 h2 h3=>by
  subst h3;exact e (ok.dj k' o k ob x h1 hk h2 hg)
 have some_:∀ k' o,look k' (σ.upd k ob').M=some o→∃ o',look k' σ.M=some o':=fun k' o h=>by
  grind
 refine ⟨ok.sz,ok.df,ok.tm,ok.bel.on hkept (fun x hx=>by subst hx;exact (ok.my k ob x hk hg).1),fun p u h=>?_,ok.f0,ok.f1,?_,?_,?_,?_⟩
 ·rw [World.cell?_of_block (hkept.block p.block (cell_block (ok.fw p u h)) (ok.dF k ob g p u hk hg h))];exact ok.fw p u h
 ·intro k' o x
  rcases hl k' o x with⟨rfl,rfl⟩|⟨e,y⟩
  ·exact ⟨(ok.ob k' ob hk).1,hbd,hob⟩
  ·exact ⟨(ok.ob k' o y).1,(ok.ob k' o y).2.1,(ok.ob k' o y).2.2.keep (Gh.le.refl _ _) (ok.ob k' o y).1 (ok.ob k' o y).2.1 rfl fun x hx=>hkept.block x (ok.my k' o x y hx).2 (hne k' o x e y hx)⟩
 ·intro k' o x h1 h2
  obtain ⟨o',y⟩:=some_ k' o h1
  exact ⟨(ok.my k' o' x y h2).1,jr (ok.my k' o' x y h2).2 hkept.size⟩
 ·intro k1 o1 k2 o2 x h1 h2 h3 h4
  exact adA
 ·intro k1 o1 x p u h1 h2 h3
  exact aeg
theorem WO.mkm {T:TypeId} {q:Nat} {α:Type} (enc:α→Value) (hd:dstB C.N o=some d) (ho:o.op=.makeMap T none) (hq:σ.nk=q):WO P C o σ ((σ.new (.opq (mapQ enc []))).put d (.sl q)):=by
 intro G a w ok N Q' hN
 obtain ⟨_,hds,hdb⟩:=dstB_of hd
 have hbl:∀ x,x<w.heap.size→(w.alloc (.map #[] 0)).heap[x]?=w.heap[x]?:=fun x hx=>Below.heap_alloc w _ x hx
 have ok':=ok.newObj (S:=fun _=>False) (w':=w.alloc (.map #[] 0)) (b:=w.heap.size) (n:=0) (h:=.map (some w.heap.size)) (φ:=fun x=>x=w.heap.size) (ob:=.opq (mapQ enc []))
  (Kept.below ((Below.refl _ _).alloc (Nat.le_refl _) _)) (fun _ h=>h.elim) (fun _ _ _ _ _ h=>h) (fun _ _ _ h=>h)
  (by
   show (mapQ enc []).Q _ _ _ _
   rw [with_b,with_h,with_f]
   exact ⟨rfl,rfl,#[],0,(MapKept.heap_alloc w _).1,rfl⟩) trivial (fun x hx=>by
   subst hx
   exact ⟨.inl ok.bel.size,by simp,fun k o h1 h2=>by have:=(ok.my k o _ h1 h2).2;omega,fun p u h1 h2=>by have:=cell_block (ok.fw p u h1);omega⟩)
 subst hq
 refine fU ?_
 simp only [ho,Instr.makeMap,EX,Sem.run_bind,Sem.run_pure,run_newObj,Result.andThen_ok]
 show N (a.put o.dst _) _
 rw [hds]
 exact hN _ _ _ (ok'.set (d:=some d) (av:=.sl σ.nk) (with_sl rfl) (.sl _ (ou _)) fun x hx=>by simp_all)
theorem WL.mkm {T:TypeId} {t:List (Nat×AV)} {M:List (Nat×AO)} {nk:Nat} {α:Type} (enc:α→Value) (hd:dstB C.N o=some d) (ho:o.op=.makeMap T none) (k:WL P C ops rest ⟨(d,.sl nk)::t,(nk,.opq (mapQ enc []))::M,nk+1⟩ Q):WL P C ops (o::rest) ⟨t,M,nk⟩ Q :=
 WL.op (dstB_of hd).1 (WO.mkm enc hd ho rfl) k
theorem map_at_ {α:Type} {enc:α→Value} {l:List (α×Value)} (ok:Ok C σ G a w) {q:Nat} {x:Operand} (hx:σ.ev x=some (.sl q)) (hq:look q σ.M=some (.opq (mapQ enc l))) :
  a.eval x=.map (some (G.b q))∧G.fp q (G.b q)∧mapIs enc l w (G.b q):=by
 obtain ⟨h1,h2,h3⟩:(mapQ enc l).Q w (G.b q) (G.h q) (G.fp q):=(ok.ob q _ hq).2.2
 exact ⟨(ok.evr hx).2.sl_of.1.trans h1,h2,h3⟩
theorem WV.mlk {α:Type} [DecidableEq α] {enc:α→Value} {T kt et:TypeId} {l:List (α×Value)} {q:Nat} {x y:Operand} {av:AV} {k:α} {z:Value} (K:KeyK P kt enc)(ho:o.op=.lookup T x y false)(hT:P.underlying T=some (.map kt et))(hz:(P.info? et).bind (·.zero)=some z)
  (hx:σ.ev x=some (.sl q))(hq:look q σ.M=some (.opq (mapQ enc l)))(hy:σ.ev y=some av)(hk:∀ G v,R G av v→v=enc k):WV P C o σ (.sc (lookK z k l)) :=
 WV.sc fun G a w ok=>by
  obtain⟨e1,e2,es,clock,e3,e4⟩:=map_at_ ok hx hq
  have e5:=hk G _ (ok.evr hy).2
  have e6:=K.fnd w k es.toList l e4
  unfold execOp
  simp only [ho,e1,e5,Instr.lookup,Sem.run_bind,run_underlying hT,Result.andThen_ok,Sem.run_pure,MapKept.run_getObj_map e3,K.chk,e6]
  unfold lookK
  cases hl:locK k 0 l with
  | none =>
   cases hi:P.info? et<;>simp_all[zeroValue,typeInfo]
  | some r=>simp
theorem WO.mup {α:Type} [DecidableEq α] {enc:α→Value} {T kt et:TypeId} {l:List (α×Value)} {q:Nat} {x y z:Operand} {av:AV} {k:α} {u:Value} (K:KeyK P kt enc) (hds:o.dst=none) (ho:o.op=.mapUpdate T x y z) (hT:P.underlying T=some (.map kt et))
  (hx:σ.ev x=some (.sl q)) (hq:look q σ.M=some (.opq (mapQ enc l))) (hy:σ.ev y=some av) (hk:∀ G v,R G av v→v=enc k) (hu:σ.ev z=some (.sc u)):WO P C o σ (σ.upd q (.opq (mapQ enc (updK k u l)))):=by
 intro G a w ok N Q' hN
 obtain ⟨e1,e2,es,clock,e3,e4⟩:=map_at_ ok hx hq
 have e5:=hk G _ (ok.evr hy).2
 have e6:=K.fnd w k es.toList l e4
 have hlt:G.b q < w.heap.size:=(Array.getElem?_eq_some_iff.1 e3).1
 have fin:∀ (es':Array MapEntry) (c':Nat),es'.toList.map (fun e=>(e.key,e.val))=(updK k u l).map (fun x=>(enc x.1,x.2))→Ok C (σ.upd q (.opq (mapQ enc (updK k u l)))) G a { w with heap:=w.heap.setIfInBounds (G.b q) (.map es' c') }:=fun es' c' h =>
  ok.writeG hq e2 ⟨rfl,rfl,rfl,by simp,fun x _ hx=>nD (fun e=>hx e.symm)⟩ ⟨(ok.ob q _ hq).2.2.1,e2,es',c',(MapKept.heap_set e3).1,h⟩ trivial
 refine fU ?_
 simp only [ho,e1,e5,ok.evs hu,Instr.mapUpdate,Sem.run_bind,run_underlying hT,Result.andThen_ok,Sem.run_pure,MapKept.run_getObj_map e3,K.chk,e6]
 cases hl:locK k 0 l with
 | none =>
  simp only [MapKept.run_setObj_map _ e3,Result.andThen_ok,Sem.run_bind,Sem.run_pure,Oper.upon]
  rw [hds]
  refine hN G a _ (fin _ _ ?_)
  grind[upd_none]
 | some r =>
  obtain ⟨i,v0⟩:=r
  obtain ⟨f1,f2⟩:=upd_some enc k u l es.toList i v0 hl e4
  have f3:(es[i]?).map (·.key)=some (enc k):=by rw [← Array.getElem?_toList];exact f2
  simp only [f3,EO,Instr.keyThatStays,K.bits,if_true,Sem.run_pure,Result.andThen_ok,Sem.run_bind,MapKept.run_setObj_map _ e3,Oper.upon]
  rw [hds]
  refine hN G a _ (fin _ _ ?_)
  simp_all
theorem WL.mup {α:Type} [DecidableEq α] {enc:α→Value} {T kt et:TypeId} {l l':List (α×Value)} {q:Nat} {x y z:Operand} {av:AV} {k:α} {u:Value} {t:List (Nat×AV)} {M M':List (Nat×AO)} {nk:Nat} (K:KeyK P kt enc) (hg:o.guard=none) (hds:o.dst=none) (ho:o.op=.mapUpdate T x y z) (hT:P.underlying T=some (.map kt et))
  (hx:(⟨t,M,nk⟩:St).ev x=some (.sl q)) (hq:look q M=some (.opq (mapQ enc l))) (hy:(⟨t,M,nk⟩:St).ev y=some av) (hk:∀ G v,R G av v→v=enc k) (hu:(⟨t,M,nk⟩:St).ev z=some (.sc u)) (hM:remS q M=some M') (hl:updK k u l=l')
  (r:WL P C ops rest ⟨t,(q,.opq (mapQ enc l'))::M',nk⟩ Q):WL P C ops (o::rest) ⟨t,M,nk⟩ Q:=by
 subst hl
 rw [remS_eq hM] at r
 exact WL.op hg (wo_rem (WO.mup (σ:=⟨t,M,nk⟩) K hds ho hT hx hq hy hk hu)) r
theorem WO.mcl {α:Type} {enc:α→Value} {T kt et:TypeId} {l:List (α×Value)} {q:Nat} {x:Operand} (ho:o.op=.call { callee:=.builtin .clear,args:=#[x],argTypes:=#[T] }) (hT:P.underlying T=some (.map kt et))
  (hx:σ.ev x=some (.sl q)) (hq:look q σ.M=some (.opq (mapQ enc l))) (hd:dstOk C.N o.dst=true):WO P C o σ ((σ.upd q (.opq (mapQ enc []))).set o.dst (.tu [])):=by
 intro G a w ok N Q' hN
 obtain ⟨e1,e2,es,clock,e3,e4⟩:=map_at_ ok hx hq
 have hlt:G.b q<w.heap.size:=(Array.getElem?_eq_some_iff.1 e3).1
 have ok':Ok C (σ.upd q (.opq (mapQ enc []))) G a { w with heap:=w.heap.setIfInBounds (G.b q) (.map #[] clock) } :=
  ok.writeG hq e2 ⟨rfl,rfl,rfl,by simp,fun x _ hx=>nD (fun e=>hx e.symm)⟩ ⟨(ok.ob q _ hq).2.2.1,e2,#[],clock,(MapKept.heap_set e3).1,rfl⟩ trivial
 refine fU ?_
 have hargs:(#[x]:Array Operand).map a.eval=#[.map (some (G.b q))]:=by simp [e1]
 simp only [ho,resolve,invoke,builtin,Sem.run_bind,Sem.run_pure,Result.andThen_ok,hargs]
 have hcl:(Builtin.clear_ #[T] o.type #[.map (some (G.b q))]).run P w=.ok (.tuple #[]) { w with heap:=w.heap.setIfInBounds (G.b q) (.map #[] clock) }:=by
  simp [Builtin.clear_,run_underlying hT,MapKept.run_getObj_map e3,MapKept.run_setObj_map _ e3]
 simp only [hcl,Result.andThen_ok,Sem.run_bind,Sem.run_pure,Oper.upon]
 exact hN G _ _ (ok'.set (av:=.tu []) (.tu _ _ rfl fun i av u h=>by simp at h) (.tu _ fun i x h=>by simp at h) (dstOk_of hd))
theorem WL.mcl {α:Type} {enc:α→Value} {T kt et:TypeId} {l:List (α×Value)} {q:Nat} {x:Operand} {t:List (Nat×AV)} {M M':List (Nat×AO)} {nk:Nat} (hg:o.guard=none) (ho:o.op=.call { callee:=.builtin .clear,args:=#[x],argTypes:=#[T] }) (hT:P.underlying T=some (.map kt et))
  (hx:(⟨t,M,nk⟩:St).ev x=some (.sl q)) (hq:look q M=some (.opq (mapQ enc l))) (hd:dstOk C.N o.dst=true) (hM:remS q M=some M') (r:WL P C ops rest ((⟨t,(q,.opq (mapQ enc []))::M',nk⟩:St).set o.dst (.tu [])) Q):WL P C ops (o::rest) ⟨t,M,nk⟩ Q:=by
 rw [remS_eq hM] at r
 refine WL.op hg ?_ r
 intro G a w ok N Q' hN
 refine WO.mcl (σ:=⟨t,M,nk⟩) (enc:=enc) ho hT hx hq hd G a w ok N Q' fun G' a' w' ok'=>hN G' a' w' ?_
 have hl:∀ i,look i ((q,AO.opq (mapQ enc []))::rem q M)=look i ((q,AO.opq (mapQ enc []))::M):=fun i=>by
  grind[look_set_same,look_set_other,look_rem]
 cases hdst:o.dst with
 | none =>
  rw [hdst] at ok'
  exact afa
 | some d =>
  rw [hdst] at ok'
  exact afa
end
section
variable {P:Program} {C:Cx} {σ:St} {o:Oper} {d:Tmp} {ops:Array Oper} {rest:List Oper} {Q:Exit→St→Prop} {mem:List Bool} {Mc:List (Nat×AO)} {nk0 k:Nat}
theorem W.dmT2 {id:Nat} {L:List Oper} (k0:Nat)(mem:List Bool)(ms:List Nat)(hm:P.follows .mixedOrders=true)(hB:Region.lexB .any L.toArray=true)(hT:tailB L.toArray k0=true)(hB2:Region.lexB .any (L.take k0).toArray=true)
  (hch:chainB (L.take k0).toArray mem=true)(hMc:msSub (onlyM σ.M ms) σ.M)
  (h:DMK P C (L.take k0).toArray mem (onlyM σ.M ms) σ.nk 0 (L.take k0) σ (fun e s=>e=.normal∧WL P C L.toArray (L.drop k0) s Q)):W P C (.region id L.toArray true) σ Q :=
 W.drawT k0 hm hB hT (let⟨_,a,b⟩:=h;WA.drawM mem (onlyM σ.M ms) hB2 hch hMc a b)
theorem DMK.al {T:TypeId} {z:Value} {l:List AV} (hd:wrB mem C.N k o=some d) (ho:o.op=.alloc T) (hz:(P.info? T).bind (·.zero)=some z) (hl:z.cells.toList.map .sc=l) (hs:msSub Mc ((σ.nk,.box T l)::σ.M))
  (r:DMK P C ops mem Mc nk0 (k+1) rest ⟨(d,.pt σ.nk 0 0)::σ.t,(σ.nk,.box T l)::σ.M,σ.nk+1⟩ Q):DMK P C ops mem Mc nk0 k (o::rest) σ Q:=by
 obtain ⟨a,b,c,e⟩:=wrB_of hd
 exact DMK.wr a b (nG (uH _)) hs ⟨c,fun t _=>WO.alloc (σ:=⟨t,σ.M,σ.nk⟩) ho hz b e hl rfl⟩ r
theorem Tr.nilR {t:Tmp} (n:Nat) (h:look t σ.t=some (.sc (.slice none 0 0))):Tr C σ (σ.put t (.ls n [])):=fun G a w ok =>
 ⟨G,ok.reslot h (.ls _ _) fun v hv=>by rw [hv.sc_eq];exact .pu _ _ (.ls n [] none 0 ⟨0,0,none⟩ (fun _ _=>undef) (by simp) (by simp) (by simp) (by simp) (by simp))⟩
def truB:World→View→Prop:=fun _ _=>True
theorem truS:Stab truB 0:=⟨fun _ _ _=>dD _,fun _ _ _ _ _ _ _=>trivial⟩
theorem truH(C:Cx):Holds truB 0 C:=⟨fun _ _ _ _=>trivial,fun _ _=>dD _⟩
end
end
section
theorem zI(p:UInt8→Bool):∀ (a a' b b':List UInt8),(∀ x∈a,p x=true)→(∀ x∈a',p x=true)→(∀ x,b.head?=some x→p x=false)→(∀ x,b'.head?=some x→p x=false)→a++b=a'++b'→a=a'∧b=b':=by
 intro a
 induction a with
 | nil =>
  intro a' b b' _ ha' hb _ he
  cases a'<;>simp_all
 | cons x r ih =>
  intro a' b b' ha ha' hb hb' he
  cases a' with
  | nil =>
   have h1:b'.head?=some x:=by grind
   simp_all
  | cons y r' =>
   grind
def isR(b:UInt8):Bool:=b == 46|| b == 58|| b == 39
def isG(s:Int)(b:UInt8):Bool:=b == 35|| (s == 1 && (b == 44|| b == 94|| b == 40))|| (s == 2 && b == 116)
def isH(s:Int)(b:UInt8):Bool:=if s=1 then b == 95 else b == 42
def isM(s:Int)(b:UInt8):Bool:=isR b|| isG s b|| isH s b
theorem ZA:((List.range' 1 4).all fun s=>(List.range' 1 14).all fun c=>(List.range 19).all fun f=>(rS (s:Nat) (c:Nat) (f:Nat)).all fun b=>!isM (s:Nat) b)=true:=by decide +kernel
theorem Em (s c f:Int)(hs:1≤s∧s≤4)(hc:1≤c∧c≤14)(hf:0≤f∧f≤18):∀ x∈rS s c f,(!isM s x)=true:=by
 obtain⟨s,rfl⟩:=dP (show 0≤s by omega)
 obtain⟨c,rfl⟩:=dP (show 0≤c by omega)
 obtain⟨f,rfl⟩:=dP hf.1
 have h:=ZA
 exact aji
theorem Ti(s n:Int):∀ x∈rR s n,isR x=true:=by
 intro x hx
 unfold rR at hx
 split at hx
 ·simp at hx;subst hx;rfl
 ·split at hx
  ·simp at hx;subst hx;rfl
  ·split at hx
   ·simp at hx;subst hx;rfl
   ·simp at hx
theorem Tf(s n:Int)(hs:1≤s∧s≤4)(hn:0≤n∧n≤4):∀ x∈rG s n,isG s x=true∧isR x=false:=by
 have s4:s=1∨s=2∨s=3∨s=4:=by omega
 have n4:n=0∨n=1∨n=2∨n=3∨n=4:=by omega
 rcases s4 with rfl|rfl|rfl|rfl<;>rcases n4 with rfl|rfl|rfl|rfl|rfl<;>decide
theorem KJ(s n L:Int)(hs:1≤s∧s≤4):∀ x,(pH s n L).head?=some x→isH s x=true∧isG s x=false∧isR x=false:=by
 intro x hx
 have s4:s=1∨s=2∨s=3∨s=4:=by omega
 unfold pH rH at hx
 split at hx
 ·cases hx
 ·rcases s4 with rfl|rfl|rfl|rfl
  ·simp at hx;subst hx;decide
  ·exact adM
  ·simp at hx
  ·exact adM
theorem zJ(s g h L:Int)(hs:1≤s∧s≤4)(hg:0≤g∧g≤4):∀ x,(rG s g++pH s h L).head?=some x→isM s x=true∧isR x=false:=by
 intro x hx
 cases hq:rG s g<;>grind[KJ,isM,Tf]
theorem Dc(s r g h L:Int)(hs:1≤s∧s≤4)(hg:0≤g∧g≤4):∀ x,(rR s r++(rG s g++pH s h L)).head?=some x→(!isM s x)=false:=by
 grind[rR,zJ,Ti,isM]
theorem Og (s r g h r' g' h' L:Int) (hs:1≤s∧s≤4) (hg:0≤g∧g≤4) (hg':0≤g'∧g'≤4) (he:rR s r++(rG s g++pH s h L)=rR s r'++(rG s g'++pH s h' L)) :
  rR s r=rR s r'∧rG s g=rG s g'∧pH s h L=pH s h' L:=by
 obtain ⟨a,b⟩:=zI isR _ _ _ _ (Ti s r) (Ti s r') (fun x hx=>(zJ s g h L hs hg x hx).2) (fun x hx=>(zJ s g' h' L hs hg' x hx).2) he
 obtain ⟨c,d⟩:=zI (isG s) _ _ _ _ (fun x hx=>(Tf s g hs hg x hx).1) (fun x hx=>(Tf s g' hs hg' x hx).1) (fun x hx=>(KJ s h L hs x hx).2.1) (fun x hx=>(KJ s h' L hs x hx).2.1) b
 exact ⟨a,c,d⟩
theorem Y6(s r r':Int)(hs:1≤s∧s≤4)(hr:0≤r∧r≤3)(hr':0≤r'∧r'≤3)(h1:okR s r=true)(h2:okR s r'=true)(he:rR s r=rR s r'):r=r':=by
 have s4:s=1∨s=2∨s=3∨s=4:=by omega
 have n4:r=0∨r=1∨r=2∨r=3:=by omega
 have m4:r'=0∨r'=1∨r'=2∨r'=3:=by omega
 revert h1 h2 he
 rcases s4 with rfl|rfl|rfl|rfl<;>rcases n4 with rfl|rfl|rfl|rfl<;>rcases m4 with rfl|rfl|rfl|rfl<;>decide
theorem XJ(s r r':Int)(hs:1≤s∧s≤4)(hr:0≤r∧r≤4)(hr':0≤r'∧r'≤4)(h1:yt s r=true)(h2:yt s r'=true)(he:rG s r=rG s r'):r=r':=by
 have s4:s=1∨s=2∨s=3∨s=4:=by omega
 have n4:r=0∨r=1∨r=2∨r=3∨r=4:=by omega
 have m4:r'=0∨r'=1∨r'=2∨r'=3∨r'=4:=by omega
 revert h1 h2 he
 rcases s4 with rfl|rfl|rfl|rfl<;>rcases n4 with rfl|rfl|rfl|rfl|rfl<;>rcases m4 with rfl|rfl|rfl|rfl|rfl<;>decide
theorem aam:((List.range 16).all fun a=>(List.range 16).all fun b=>!(jX a == jX b)|| a == b)=true:=by decide +kernel
theorem aaK (s h h' L:Int)(hs:1≤s∧s≤4)(hh:0≤h∧h≤15)(hh':0≤h'∧h'≤15)(h1:qY s h L=true)(h2:qY s h' L=true)(he:pH s h L=pH s h' L):h=h':=by
 have ne:∀ k:Int,k≠0→qY s k L=true→pH s k L≠[]∧pH s k L=rH s k L:=by
  simp_all[pH,qY]
 by_cases z:h=0
 ·simp_all[pH]
 ·by_cases z':h'=0
  ·simp_all[pH]
  ·obtain⟨a1,a2⟩:=ne h z h1
   obtain⟨b1,b2⟩:=ne h' z' h2
   rw [a2,b2]at he
   rw [a2]at a1
   rw [b2]at b1
   unfold rH at he a1 b1
   by_cases s1:s=1
   ·rw [if_pos s1,if_pos s1,List.cons.injEq]at he
    have hd:=aam
    rw [jS]at hd
    have hd1:=hd h.toNat (List.mem_range.2 aj)
    grind
   simp_all
theorem Ld(s aQ c:Int)(hs:aC s aQ=0)(h:dU s aQ c=true):aQ=uz s c:=by
 grind[aC,dU,uz]
theorem aaf (s aQ c f r g h c' f' r' g' h' L:Int) (hsp:aC s aQ=0) (hc:1≤c∧c≤14) (hf:0≤f∧f≤18) (hr:0≤r∧r≤3) (hg:0≤g∧g≤4) (hh:0≤h∧h≤15)
  (hc':1≤c'∧c'≤14) (hf':0≤f'∧f'≤18) (hr':0≤r'∧r'≤3) (hg':0≤g'∧g'≤4) (hh':0≤h'∧h'≤15)
  (hst:dU s aQ c=true) (hst':dU s aQ c'=true) (ho:dZ s c f r g h L=true) (ho':dZ s c' f' r' g' h' L=true) (he:cellS s c f r g h L=cellS s c' f' r' g' h' L) :
  c=c'∧f=f'∧r=r'∧g=g'∧h=h':=by
 have hs:1≤s∧s≤4:=by
  by_cases k:1≤s∧s≤4
  ·exact k
  ·unfold aC at hsp;rw [if_pos k] at hsp;cases hsp
 simp only [dZ,dw] at ho ho'
 obtain ⟨l1,l2⟩:=lU s c f hs hc hf
 obtain ⟨m1,m2⟩:=lU s c' f' hs hc' hf'
 unfold cellS at he
 rw [l2 ho.1.1.1,m2 ho'.1.1.1,lD,lD,lD,lD] at he
 obtain ⟨a,b⟩:=zI (fun x=>!isM s x) _ _ _ _ (Em s c f hs hc hf) (Em s c' f' hs hc' hf') (Dc s r g h L hs hg) (Dc s r' g' h' L hs hg') he
 obtain ⟨x,y,z⟩:=Og s r g h r' g' h' L hs hg hg' b
 have e0:sG s c f=0:=by
  have hne:rS s c f≠[]:=by intro k;rw [k] at l1;rw [l1] at ho;simp at ho
  exact adU
 have e0':sG s c' f'=0:=by
  have hne:rS s c' f'≠[]:=by intro k;rw [k] at m1;rw [m1] at ho';simp at ho'
  exact adU
 have p1:=(yY s c f e0).2
 have p2:=(yY s c' f' e0').2
 rw [← Ld s aQ c hsp hst,a] at p1
 rw [← Ld s aQ c' hsp hst',p1] at p2
 grind[Y6,XJ,aaK]
end
end Go.Proofs.YthohlofpphjofaaGreatDoor
