/- sound: the notes of a piece. -/
import Derived.Test.YtgelfflighgajaaGreatDoorLngUq
import Derived.Test.YtgelfflighgajaaGreatDoorSndUq
import Derived.Test.YtgelfflighgajaaGreatDoorCoPUq
import Derived.Test.YtgelfflighgajaaGreatDoorMsPUq
set_option maxHeartbeats 8000000
set_option maxRecDepth 100000
set_option linter.unusedVariables false
set_option linter.unusedSimpArgs false
namespace Go.Proofs.YtgelfflighgajaaGreatDoor
open Go.RowKit
section
variable {B:World→View→Prop} {gl:Nat} {P:Program} {C:Cx} {σ:St} {o:Oper} {d:Tmp} {ops:Array Oper} {rest:List Oper} {Q:Exit→St→Prop}
theorem set_same_ {α:Type} {l:List α} {i:Nat} {x:α} (h:l[i]?=some x):l.set i x=l:=by
 obtain⟨hi,rfl⟩:=List.getElem?_eq_some_iff.1 h
 exact List.set_getElem_self hi
theorem WO.stO {T T' n:Nat} {x y:Operand} {k i j:Nat} {rows:List (List AV)} {r:List AV} {av:AV} (ho:o.op=.store T x y) (hds:o.dst=none) (hn:sizeB P T=some 1) (hx:σ.ev x=some (.pt k i j)) (hk:look k σ.M=some (.row T' n rows)) (hy:σ.ev y=some av)
  (h1:av.oneB=true) (hr:rows[i]?=some r) (hj:j < r.length):WO P C o σ (σ.upd k (.rof T' n rows i j av)):=by
 intro G a w ok N Q' hN
 obtain ⟨p,ep,p1,p2,p3⟩:=(ok.evr hx).2.pt_of
 obtain ⟨hb,hr2⟩:=ok.evr hy
 obtain ⟨hB,hcl⟩:=oneB_cells h1
 obtain ⟨c1,c2⟩:=cells_of hr2 hB
 rw [hcl] at c1 c2
 obtain ⟨v,hv⟩:∃ v,a.eval y=v:=⟨_,rfl⟩
 rw [hv] at c1 c2
 have c1':v.cells.size=1:=c1
 have hone:∀ u∈v.cells.toList,u.oneCell'=true:=fun u hu=>by
  obtain ⟨q,hq,rfl⟩:=List.getElem_of_mem hu
  have hq':q < v.cells.size:=by simpa using hq
  obtain rfl:q=0:=by omega
  exact oneB_of (c2 0 av _ rfl (by simp at hq;simp [hq])) h1
 obtain rfl:=addr_eq p1 p2 p3
 obtain ⟨hn',hg,hR⟩:=(ok.ob k _ hk).2.2
 obtain ⟨g,cur,hvg,hφg,hh⟩:=hR.blk (by have:=(List.getElem?_eq_some_iff.1 hr).1;omega)
 have hgb:=hg g hvg
 have hpu:putL j [r[j]] r=r:=by rw [putL_one _ _ _ hj];exact set_same_ (List.getElem?_eq_getElem hj)
 obtain ⟨q1,q2⟩:=hR.put (X':=XH G i j av) hr (j:=j) (l:=[r[j]]) (by simp;omega) (us:=v.cells.toList) (by simpa using c1') hone hh hvg (fun s x u ψ hs hu=>by
  have hs0:s < 1:=by simpa using (List.getElem?_eq_some_iff.1 hs).1
  obtain rfl:s=0:=by omega
  unfold XH
  rw [if_pos ⟨rfl,Nat.add_zero j⟩]
  exact c2 0 av u rfl (by simpa using hu)) (fun q s ψ x u _ hne h=>by
  have hn:¬ (q=i∧s=j):=fun e=>hne ⟨e.1,Nat.le_of_eq e.2.symm,by rw [e.2];exact Nat.lt_succ_self j⟩
  unfold XH
  rw [if_neg hn]
  exact h)
 rw [hpu,set_same_ hr] at q2
 have hle:i*G.n k+j+v.cells.toList.length≤cur.size:=by rw [hn'];exact q1
 have hst:=run_storeCells_at P g (i*G.n k+j) T' v.cells.toList 0 cur w hh (by simpa using hle) hone
 rw [Nat.add_zero,← putL_eq _ _ _ (by simpa using hle)] at hst
 unfold Oper.wp execOp
 simp only [ho,ep,hv,Instr.storeAt,Instr.sureAddr,storeVar,Sem.run_bind,Sem.run_pure,Result.andThen_ok,run_sizeB hn,← hgb,hst]
 rw [if_neg (by rw [c1'];simp)]
 simp only [Sem.run_bind,Sem.run_pure,Result.andThen_ok,hst,Oper.upon]
 rw [hds]
 refine hN G _ _ (ok.write _ hk hφg ?_ hb)
 exact ⟨hn',hg,by rw [hn'];exact q2⟩
def stOV (P:Program)(σ:St):Op→Option (Nat×TypeId×Nat×List (List AV)×Nat×Nat×AV)
 | .store T x y =>
  match σ.ev x,σ.ev y with
  | some (.pt k i j),some av =>
   match sizeB P T,look k σ.M with
   | some 1,some (.row T' n rows)=>bif av.oneB then some (k,T',n,rows,i,j,av)else none
   | _,_=>none
  | _,_=>none
 | _=>none
theorem WL.stO {q n i j:Nat} {T':TypeId} {rows:List (List AV)} {r:List AV} {av:AV} {t:List (Nat×AV)} {M M':List (Nat×AO)} {nk:Nat} (hg:o.guard=none) (hds:o.dst=none) (h:stOV P ⟨t,M,nk⟩ o.op=some (q,T',n,rows,i,j,av)) (hM:remS q M=some M') (hr:rows[i]?=some r) (hj:j < r.length)
  (k:WL P C ops rest ⟨t,(q,.rof T' n rows i j av)::M',nk⟩ Q):WL P C ops (o::rest) ⟨t,M,nk⟩ Q:=by
 rw [remS_eq hM] at k
 clear hM
 refine WL.op hg ?_ k
 unfold stOV at h
 split at h
 ·rename_i T x y ho
  split at h
  ·rename_i k' i' j' av' hx hy
   split at h
   ·rename_i T2 n' rows' hm hk
    cases hb:av'.oneB with
    | false=>rw [hb] at h;cases h
    | true =>
     rw [hb] at h
     cases h
     exact wo_rem (WO.stO (σ:=⟨t,M,nk⟩) ho hds hm hx hk hy hb hr hj)
   ·cases h
  ·cases h
 ·cases h
theorem WV.ldO {T T' n:Nat} {x:Operand} {k i j:Nat} {rows:List (List AV)} {r:List AV} {av:AV} (ho:o.op=.load T x) (hT:aggB P T=some false) (hx:σ.ev x=some (.pt k i j)) (hk:look k σ.M=some (.rof T' n rows i j av)) (hr:rows[i]?=some r) (hj:j<r.length):WV P C o σ av :=
 WV.val (fun G a w ok=>(ok.ob k _ hk).2.1) fun G a w ok=>by
  obtain ⟨p,e,h1,h2,h3⟩:=(ok.evr hx).2.pt_of
  obtain rfl:=addr_eq h1 h2 h3
  obtain ⟨hn,hg,hR⟩:=(ok.ob k _ hk).2.2
  obtain ⟨u,hu,ψ,hX⟩:=hR.cell_at hg hr (List.getElem?_eq_getElem hj)
  unfold XH at hX
  rw [if_pos ⟨rfl,rfl⟩] at hX
  rw [← hn] at hu
  exact ⟨u,by unfold execOp;simp [ho,e,run_load1 hT hu],hX⟩
theorem WV.ldN {T T' n:Nat} {x:Operand} {k i j hi hj:Nat} {rows:List (List AV)} {r:List AV} {y av:AV} (ho:o.op=.load T x) (hT:aggB P T=some false) (hx:σ.ev x=some (.pt k i j)) (hk:look k σ.M=some (.rof T' n rows hi hj y)) (hne:i≠hi) (hr:rows[i]?=some r) (hjr:r[j]?=some av):WV P C o σ av:=by
 have key:∀ G a w,Ok C σ G a w→∃ u,w.cell? ⟨G.b k,i*G.n k+j,none⟩=some u∧RP G.F av u:=fun G a w ok=>by
  obtain ⟨hn,hg,hR⟩:=(ok.ob k _ hk).2.2
  obtain ⟨u,hu,ψ,hX⟩:=hR.cell_at hg hr hjr
  unfold XH at hX
  rw [if_neg (fun e=>hne e.1)] at hX
  rw [← hn] at hu
  exact ⟨u,hu,hX⟩
 refine WV.val (fun G a w ok=>?_) fun G a w ok=>?_
 ·obtain ⟨u,_,hX⟩:=key G a w ok
  exact hX.bd _
 ·obtain ⟨u,hu,hX⟩:=key G a w ok
  obtain ⟨p,e,h1,h2,h3⟩:=(ok.evr hx).2.pt_of
  obtain rfl:=addr_eq h1 h2 h3
  exact ⟨u,by unfold execOp;simp [ho,e,run_load1 hT hu],.pu _ _ hX⟩
def ldoV (P:Program)(σ:St):Op→Option (List (List AV)×Nat×Nat×Nat×Nat×AV)
 | .load T x =>
  match aggB P T,σ.ev x with
  | some false,some (.pt k i j) =>
   match look k σ.M with
   | some (.rof _ _ rows hi hj av)=>some (rows,i,j,hi,hj,av)
   | _=>none
  | _,_=>none
 | _=>none
theorem ldoV_O {rows:List (List AV)} {i j hi hj:Nat} {r:List AV} {av:AV} (h:ldoV P σ o.op=some (rows,i,j,hi,hj,av))(e1:i=hi)(e2:j=hj)(hr:rows[i]?=some r)(hjr:j<r.length):WV P C o σ av:=by
 subst e1 e2
 unfold ldoV at h
 split at h
 ·rename_i T x ho
  split at h
  ·rename_i k i' j' hT hx
   split at h
   ·rename_i T' n rows' hi' hj' av' hk
    cases h
    exact WV.ldO ho hT hx hk hr hjr
   ·cases h
  ·cases h
 ·cases h
theorem ldoV_N {rows:List (List AV)} {i j hi hj:Nat} {r:List AV} {av y:AV} (h:ldoV P σ o.op=some (rows,i,j,hi,hj,y))(hne:i≠hi)(hr:rows[i]?=some r)(hjr:r[j]?=some av):WV P C o σ av:=by
 unfold ldoV at h
 split at h
 ·rename_i T x ho
  split at h
  ·rename_i k i' j' hT hx
   split at h
   ·rename_i T' n rows' hi' hj' av' hk
    cases h
    exact WV.ldN ho hT hx hk hne hr hjr
   ·cases h
  ·cases h
 ·cases h
theorem DK.ldO {rows:List (List AV)} {i j hi hj:Nat} {r:List AV} {av:AV} (hd:dstD C.N ops σ o=some d)(h:ldoV P (σ.only (o.looksAt ops)) o.op=some (rows,i,j,hi,hj,av))(e1:i=hi)(e2:j=hj)(hr:rows[i]?=some r)(hjr:j<r.length)(k:DK P C ops rest (σ.put d av) Q):DK P C ops (o::rest) σ Q:=DK.vl hd (ldoV_O h e1 e2 hr hjr) k
theorem Tr.shut (k:Nat) {T n:Nat} {rows rows':List (List AV)} {i j:Nat} {r:List AV} {av:AV} (hk:look k σ.M=some (.rof T n rows i j av)) (hr:rows[i]?=some r) (hj:j<r.length) (hp:av.pu0=true) (he:rows.set i (r.set j av)=rows'):Tr C σ (σ.upd k (.row T n rows')):=fun G a w ok=>by
 subst he
 obtain ⟨g1,g2,g3,g4,g5⟩:=ok.ob k _ hk
 refine ⟨G,ok.reob hk ⟨g1,trivial,g3,g4,?_⟩⟩
 obtain ⟨h1,vs,Φ,h2,h3,h4,h5,h6,h7,h8,h9⟩:=g5
 have hi:i<rows.length:=(List.getElem?_eq_some_iff.1 hr).1
 refine ⟨fun q hq=>?_,vs,Φ,h2,by simpa using h3,h4,h5,h6,h7,fun q r1 r2 a1 a2=>?_,fun q r1 r2 s x u a1 a2 a3 a4=>?_⟩
 ·rcases List.mem_or_eq_of_mem_set hq with hq|rfl
  ·exact h1 q hq
  ·rw [List.length_set];exact h1 r (List.mem_of_getElem? hr)
 ·by_cases e:i=q
  ·subst e
   rw [List.getElem?_set_self hi] at a1
   cases a1
   rw [List.length_set];exact h8 i r r2 hr a2
  ·rw [List.getElem?_set_ne e] at a1
   exact h8 q r1 r2 a1 a2
 ·by_cases e:i=q
  ·subst e
   rw [List.getElem?_set_self hi] at a1
   cases a1
   by_cases e2:j=s
   ·subst e2
    rw [List.getElem?_set_self hj] at a3
    cases a3
    have:=h9 i r r2 j r[j] u hr a2 (List.getElem?_eq_getElem hj) a4
    unfold XH at this
    rw [if_pos ⟨rfl,rfl⟩] at this
    exact (pu0_bd hp 0).rp this
   ·rw [List.getElem?_set_ne e2] at a3
    have:=h9 i r r2 s x u hr a2 a3 a4
    unfold XH at this
    rw [if_neg (fun h=>e2 h.2.symm)] at this
    exact this
  ·rw [List.getElem?_set_ne e] at a1
   have:=h9 q r1 r2 s x u a1 a2 a3 a4
   unfold XH at this
   rw [if_neg (fun h=>e h.1.symm)] at this
   exact this
end
end Go.Proofs.YtgelfflighgajaaGreatDoor
namespace Go.Proofs.YtgelfflighgajaaGreatDoor
open Go.RowKit
section
variable {B:World→View→Prop} {gl:Nat} {P:Program} {C:Cx} {σ:St} {o:Oper} {d:Tmp} {ops:Array Oper} {rest:List Oper} {Q:Exit→St→Prop} {mem:List Bool} {Mc:List (Nat×AO)} {nk0 k:Nat}
def nlqV (P:Program)(σ:St):Op→Option (List (List AV))
 | .binOp .eql T x y _ =>
  match P.underlying T,σ.ev x,σ.ev y with
  | some (.slice _),some (.ls _ rows),some (.sc (.slice none _ _))=>some rows
  | _,_,_=>none
 | _=>none
theorem WL.nlq {rows:List (List AV)} (hd:dstB C.N o=some d) (h:nlqV P σ o.op=some rows) (hk:∀ b:Bool,(b=true→rows=[])→WL P C ops rest (σ.put d (.sc (.bool b))) Q):WL P C ops (o::rest) σ Q:=by
 intro G a w ok
 unfold nlqV at h
 split at h
 ·rename_i T x y Ty ho
  split at h
  ·rename_i e n rows' m c hT hx hy
   cases h
   obtain ⟨A,cap,ad,u,e1,h1,h2,h3,h4,h5⟩:=(ok.evr hx).2.pu_of.ls_of
   have ey:=ok.evs hy
   obtain ⟨q1,q2,q3⟩:=dstB_of hd
   refine wpList_plain q1 fun K hK=>?_
   unfold Oper.wp execOp
   have hrun:=Lib.run_eql_slice_nil (P:=P) w T e A rows.length cap m c hT
   simp only [ho,e1,ey,eqGuard,Sem.run_bind,Sem.run_pure,Result.andThen_ok,hrun]
   simp only [Bool.not_true,Bool.false_eq_true,if_false,Sem.run_bind,Sem.run_pure,Result.andThen_ok,hrun,Oper.upon]
   refine hK _ _ (hk A.isNone (fun hn=>?_) G _ w ?_)
   ·cases A with
    | some z=>cases hn
    | none =>
     rcases Nat.eq_zero_or_pos rows.length with h0|h0
     ·exact List.eq_nil_of_length_eq_zero h0
     ·exact absurd (h2 h0) (by simp)
   ·rw [q2]
    exact ok.set (d:=some d) (.pu _ _ (.sc _)) (.sc _) fun x hx=>by cases hx;exact of_blt q3
  ·cases h
 ·cases h
theorem Tr.nilC (k j n:Nat) {T:TypeId} {cells cells':List AV} (hk:look k σ.M=some (.box T cells)) (hj:cells[j]?=some (.sc (.slice none 0 0))) (he:cells.set j (.ls n [])=cells'):Tr C σ (σ.upd k (.box T cells')):=fun G a w ok=>by
 subst he
 obtain ⟨g1,g2,g3,cs,Φ,g4,g5,g6,g7,g8⟩:=ok.ob k _ hk
 have hjl:=(List.getElem?_eq_some_iff.1 hj).1
 refine ⟨G,ok.reob hk ⟨g1,fun i av hx=>?_,g3,cs,Φ,g4,by simpa using g5,g6,g7,fun i av u hx hu=>?_⟩⟩
 ·by_cases e:j=i
  ·subst e
   rw [List.getElem?_set_self hjl] at hx
   cases hx;exact .ls _ _
  ·rw [List.getElem?_set_ne e] at hx;exact g2 i av hx
 ·by_cases e:j=i
  ·subst e
   rw [List.getElem?_set_self hjl] at hx
   cases hx
   have:=(g8 j _ u hj hu).r rfl
   rw [this.sc_eq]
   exact .inl (.pu _ _ (.ls n [] none 0 ⟨0,0,none⟩ (fun _ _=>undef) (by simp) (by simp) (by simp) (by simp) (by simp)))
  ·rw [List.getElem?_set_ne e] at hx;exact g8 i av u hx hu
theorem DSK.ct (hB:Holds B gl C) {f:FuncId} {args args':List AV} {res res':AV} {M M' M2:List (Nat×AO)} {nk nk' n2:Nat} (ks:List Nat) (hd:wrB mem C.N k o=some d) (he:calE σ o.op=some (f,args')) (hc:∀ vs w,(callFunc f vs).run P w=.ok (.enter f vs) w)
  (h:Cto B gl P f args M nk res M' nk') (hks:ksB ks nk σ.nk=true) (ha:args.map (AV.ren (rhoC ks nk σ.nk))=args') (hp:args.all (AV.inn nk)=true) (hM:TrM σ (rhoC ks nk σ.nk) nk M)
  (hq:(Nat.ble nk nk' && M'.all (fun x=>x.2.inn nk') && M'.all (fun x=>Nat.blt x.1 nk') && res.inn nk')=true) (hr:res.ren (rhoC ks nk σ.nk)=res') (hM2:renM (rhoC ks nk σ.nk) M'++remL ks σ.M=M2) (hn2:σ.nk+(nk'-nk)=n2) (hs:msSub Mc M2)
  (r:DSK P C ops mem Mc nk0 (k+1) rest ⟨(d,res')::σ.t,M2,n2⟩ Q):DSK P C ops mem Mc nk0 k (o::rest) σ Q:=by
 subst hM2 hn2
 obtain ⟨a,b,c,e⟩:=wrB_of hd
 have hent:ent1 o.dst true res'=[(d,res')]:=by rw [b];rfl
 simp only [Bool.and_eq_true] at hq
 unfold calE at he
 split at he
 ·rename_i y xs ts ho
  split at he
  ·rename_i fv args0 hy hx
   split at he
   ·rename_i f' caps hf
    cases he
    refine DSK.wr res' a (Nat.ble_eq_true_of_le (Nat.le_add_right _ _)) hs ⟨c,fun t H=>?_⟩ (by rw [hent];exact r)
    rw [hent]
    have hmem:∀ q∈y::xs,q∈o.op.operands.toList:=fun q hq=>by rw [ho];simp [Op.operands,Call.operands] at hq ⊢;exact hq
    have:=WO.cto (P:=P) (C:=C) (σ:=⟨t,σ.M,σ.nk⟩) (xs:=⟨xs⟩) hB ks ho hc ((ev_agree H (hmem y (by simp))).trans hy) hf ((evs_agree H fun q hq=>hmem q (List.mem_cons_of_mem _ hq)).trans hx) rfl h hks ha hp (trM_same (σ:=σ) (σ':=⟨t,σ.M,σ.nk⟩) (ρ:=rhoC ks nk σ.nk) rfl hM) hq.1.1.1 hq.1.1.2 hq.1.2 hq.2 hr (by rw [b];exact e)
    rw [b] at this
    exact this
   ·cases he
  ·cases he
 ·cases he
end
end Go.Proofs.YtgelfflighgajaaGreatDoor
namespace Go.Proofs.YtgelfflighgajaaGreatDoor
open Go.RowKit
def sndL (p:Pce):List AV:=[.ls 3 (p.cs.map eCrs),.ls 1 (p.st.map eInt),.ls 6 (p.evs.map eEv),.ls 1 ((onsL p.evs p.evs.length).map eInt)]
theorem eSnd_ok {p:Pce} (h0:pceE p=0):eSnd p=.ag (sndL p):=by unfold eSnd onsR sndL;rw [if_pos h0]
theorem stay_FS (p:Pce) (hO:PcOk p) (h0:pceE p=0) (i:Nat) (h:Int) (hh:0≤h) (hi:i+h.toNat+1≤p.evs.length) :
  Ctr Tryz.prog 233 [eSnd p,.sc (.int .i64 i),.sc (.int .i64 h)] (.sc (.int .i64 ((stayN p.evs (i+h.toNat+1):Int) - 1))):=by
 have hn:=hO.n3
 rw [eSnd_ok h0]
 unfold sndL
 obtain ⟨q,rfl⟩:∃ q:Nat,h=q:=⟨h.toNat,by omega⟩
 simp only [Int.toNat_natCast] at hi ⊢
 refine Ctr.intro Tryz.func233 rfl Tryz.ntmps233 (Nat.le_of_ble_eq_true rfl) (bd_all rfl) fun w0 F0=>?_;dsimp only [St.init,number,Nat.reduceAdd]
 repeat (first|refine W.go rfl ?_|refine WL.ev rfl ?_|refine WL.ar rfl rfl (by unfold I64;omega) ?_)
 refine (?_:W _ _ _ _ _)
 dsimp only [St.put,Nat.reduceAdd]
 refine W.loop (fun m:Nat=>i+q≤m∧m+1≤p.evs.length∧stayN p.evs (i+q+1)=stayN p.evs (m+1)) (fun m=>⟨[(3,.pt 0 0 0),(7,.sc (.int .i64 m))],[(0,.box 294 [.ls 3 (p.cs.map eCrs),.ls 1 (p.st.map eInt),.ls 6 (p.evs.map eEv),.ls 1 ((onsL p.evs p.evs.length).map eInt)])],1⟩) (fun m=>p.evs.length - m) (i+q) ⟨Nat.le_refl _,by omega,rfl⟩ (Tr.ren id (by repeat (first|exact trivial|refine ⟨⟨?_,?_⟩,?_⟩|rfl)) (by repeat (first|exact trivial|refine ⟨⟨?_,?_,?_⟩,?_⟩|rfl)) rfl) fun m hm=>?_
 obtain ⟨hm1,hm2,hm3⟩:=hm
 have ez:((m:Int)+1).toNat=m+1:=by omega
 by_cases hlt:m+1 < p.evs.length
 ·repeat (first|refine W.gob rfl ?_|refine WL.nil ?_|refine WL.bt rfl rfl rfl (by omega) ?_|refine WL.e1 rfl ?_|refine WL.gyes rfl rfl rfl rfl ?_|refine WL.ar rfl rfl (by unfold I64;omega) ?_|refine WL.len rfl rfl (by first|exact List.length_map _|exact List.length_replicate|rfl) ?_|refine WL.idx rfl rfl (by omega) (by first|exact map_at (by omega)|exact map_atZ (by omega) (by omega)) ?_)
  refine (?_:W _ _ _ _ _)
  dsimp only [St.put,Nat.reduceAdd]
  (refine W.cond rfl (fun hif=>?_) (fun hif=>?_)<;>(try simp only [decide_eq_true_eq,decide_eq_false_iff_not,Int.not_lt,Int.not_le,Bool.not_eq_true',Bool.not_eq_false'] at hif))
  ·repeat (first|refine W.go rfl ?_|refine WL.ev rfl ?_|refine WL.ar rfl rfl (by unfold I64;omega) ?_)
   dsimp only [St.put,Nat.reduceAdd]
   exact ⟨m+1,⟨by omega,by omega,by rw [hm3,stayN_tie hlt hif]⟩,by omega,(Tr.ren id (by repeat (first|exact trivial|refine ⟨⟨?_,?_⟩,?_⟩|rfl)) (by repeat (first|exact trivial|refine ⟨⟨?_,?_,?_⟩,?_⟩|rfl)) rfl)⟩
  ·rw [show ((stayN p.evs (i+q+1):Int) - 1)=m by rw [hm3,stayN_no hlt hif];omega]
   repeat refine W.go rfl ?_
   refine (?_:W _ _ _ _ _)
   dsimp only [St.put,Nat.reduceAdd]
   exact W.ret (fin1 rfl rfl rfl rfl)
 ·repeat (first|refine W.gob rfl ?_|refine WL.nil ?_|refine WL.bf rfl rfl rfl (by omega) ?_|refine WL.e1 rfl ?_|refine WL.opno rfl rfl rfl rfl rfl rfl rfl ?_|refine WL.ar rfl rfl (by unfold I64;omega) ?_|refine WL.len rfl rfl (by first|exact List.length_map _|exact List.length_replicate|rfl) ?_|refine W.condF rfl ?_)
  refine (?_:W _ _ _ _ _)
  dsimp only [St.put,Nat.reduceAdd]
  refine W.ret (fin1 rfl rfl (sc_int ?_) rfl)
  rw [hm3,stayN_end (by omega)];omega
end Go.Proofs.YtgelfflighgajaaGreatDoor
namespace Go.Proofs.YtgelfflighgajaaGreatDoor
open Go.RowKit
theorem stopAll_ok {s:NS} (h:NsOk s)(t:Int):∀ k,NsOk (stopAll t k s)∧(stopAll t k s).out.length=s.out.length
 | 0=>⟨h,rfl⟩
 | k+1=>by
  obtain⟨h1,h2⟩:=stopAll_ok h t k
  obtain⟨h3,h4⟩:=stopN_ok h1 k t
  exact⟨h3,h4.trans h2⟩
theorem addN_ok {p:Pce} {i:Nat} {x:Stp} {s:NS} (h:NsOk s)(hx:1≤x.1∧x.1≤14)(hl:s.out.length<10000):NsOk (addN p i x s)∧(addN p i x s).out.length=s.out.length+1:=by
 obtain⟨h1,h2⟩:=stopN_ok h x.1.toNat (onsAt p.evs i)
 unfold addN
 refine⟨⟨?_,fun c=>?_,by simp;omega⟩,by simp;omega⟩
 ·dsimp only
  split
  ·exact h1.len
  ·simpa using h1.len
 ·have h3:=h1.rng c
  dsimp only
  rw [List.length_append]
  split
  ·simp only [List.length_singleton];omega
  ·by_cases e:x.1.toNat=c
   ·subst e
    simp only [List.getD_eq_getElem?_getD]
    rw [List.getElem?_set_self (by rw [h1.len];omega)]
    simp;omega
   ·simp only [List.getD_eq_getElem?_getD]at h3 ⊢
    rw [List.getElem?_set_ne e]
    simp only [List.length_singleton];omega
theorem addQ_ok {p:Pce} {k:Nat} {l:List Stp} {s:NS} (h:NsOk s) (hx:∀ x∈l,1≤x.1∧x.1≤14) (hl:s.out.length+l.length<10000):∀ q,q≤l.length→NsOk (addQ p k l s q)∧(addQ p k l s q).out.length=s.out.length+q
 | 0,_=>⟨h,rfl⟩
 | q+1,hq=>by
  obtain ⟨h1,h2⟩:=addQ_ok h hx hl q (by omega)
  have e:addQ p k l s (q+1)=addN p k l[q] (addQ p k l s q):=by
   show (match l[q]? with|some x=>addN p k x (addQ p k l s q)|none=>addQ p k l s q)=_
   rw [List.getElem?_eq_getElem (by omega)]
  rw [e]
  obtain ⟨h3,h4⟩:=addN_ok (p:=p) (i:=k) h1 (hx l[q] (List.getElem_mem _)) (by omega)
  exact ⟨h3,by omega⟩
theorem openN_ok {p:Pce} {k:Nat} {e:Ev} {s:NS} (h:NsOk s):NsOk (openN p k e s)∧(openN p k e s).out.length=s.out.length:=by
 unfold openN
 split
 ·exact stopAll_ok h _ 15
 ·exact⟨h,rfl⟩
theorem nts_at {p:Pce} {k:Nat} (hk:k<p.evs.length):nts p (k+1)=addQ p k p.evs[k].stops (openN p k p.evs[k] (nts p k)) p.evs[k].stops.length:=by
 show (match p.evs[k]? with|some e=>_|none=>_)=_
 rw [List.getElem?_eq_getElem hk]
theorem prsQ_at {p:Pce} {k:Nat} (hk:k<p.evs.length):prsQ p (k+1)=prsQ p k++p.evs[k].stops.map (prsN p k):=by
 show (match p.evs[k]? with|some e=>_|none=>_)=_
 rw [List.getElem?_eq_getElem hk]
theorem nts_ok {p:Pce} (hO:PcOk p) (h0:pceE p=0):∀ k,k≤p.evs.length→NsOk (nts p k)∧(nts p k).out.length≤20*k
 | 0,_=>⟨⟨by simp [nts],fun c=>by
   have e:(nts p 0).ring.getD c 0=0:=by
    show (List.replicate 15 (0:Int)).getD c 0=0
    rw [List.getD_eq_getElem?_getD,List.getElem?_replicate]
    split<;>rfl
   rw [e];exact ⟨Int.le_refl 0,Int.le_refl 0⟩,by simp [nts]⟩,by simp [nts]⟩
 | k+1,hk=>by
  obtain ⟨h1,h2⟩:=nts_ok hO h0 k (by omega)
  have hk':k<p.evs.length:=by omega
  have hn:=hO.n3
  have h20:=hO.n4 k hk'
  obtain ⟨h3,h4⟩:=openN_ok (p:=p) (k:=k) (e:=p.evs[k]) h1
  obtain ⟨h5,h6⟩:=addQ_ok (p:=p) (k:=k) h3 (fun x hx=>⟨((evOk_of h0 hk').stops x hx).crs.1,((evOk_of h0 hk').stops x hx).c14⟩) (by omega) p.evs[k].stops.length (Nat.le_refl _)
  rw [nts_at hk']
  exact ⟨h5,by omega⟩
theorem prsQ_len {p:Pce} (hO:PcOk p):∀ k,k≤p.evs.length→(prsQ p k).length≤20*k
 | 0,_=>by simp [prsQ]
 | k+1,hk=>by
  have h1:=prsQ_len hO k (by omega)
  have h20:=hO.n4 k (by omega)
  rw [prsQ_at (by omega)]
  simp;omega
theorem stopZ_FS (z:Int)(t:Int)(s:NS)(hz:1≤z∧z≤14)(h:NsOk s) :
  Cto truB 0 Tryz.prog 230 [.sc (.int .i64 z),.sc (.int .i64 t),.pt 0 0 0,.pt 1 0 0]
   [(0,.box 328 (eRing s.ring)),(1,.box 227 [.sl 2]),(2,.row 233 5 (s.out.map eNt))] 3 (.tu [])
   [(0,.box 328 (eRing (stopN z.toNat t s).ring)),(1,.box 227 [.sl 2]),(2,.row 233 5 ((stopN z.toNat t s).out.map eNt))] 3:=by
 obtain⟨c,rfl⟩:∃ c:Nat,z=c:=⟨z.toNat,by omega⟩
 rw [Int.toNat_natCast]
 exact stop_FS c t s (by omega) h
theorem onsL_at {evs:List Ev} {n i:Nat} (h:i≤n):(onsL evs n)[i]?=some (onsAt evs i):=by
 unfold onsL
 rw [List.getElem?_map,List.getElem?_range (by omega)];rfl
theorem onsL_get {evs:List Ev} {n i:Nat} (h:i≤n)(h2:i<(onsL evs n).length):(onsL evs n)[i]=onsAt evs i:=by
 have:=onsL_at (evs:=evs) h
 rw [List.getElem?_eq_getElem h2] at this
 exact Option.some.inj this
theorem notes_FS (p:Pce) (hO:PcOk p) (h0:pceE p=0):Ctr Tryz.prog 209 [eSnd p] (.tu [.ls 5 ((nts p p.evs.length).out.map eNt),.ls 5 ((prsQ p p.evs.length).map eNt)]):=by
 have hn:=hO.n3
 have hl:(onsL p.evs p.evs.length).length=p.evs.length+1:=onsL_length _ _
 have hE:=end_FS p hO h0
 have hSt:=stay_FS p hO h0
 obtain ⟨hI,hn4,_⟩:=pceE_zero h0
 obtain ⟨i1,i2,i3,i4,i5⟩:=insE_len hI
 rw [eSnd_ok h0] at hE hSt ⊢
 unfold sndL at hE hSt ⊢
 refine Ctr.intro Tryz.func209 rfl Tryz.ntmps209 (Nat.le_of_ble_eq_true rfl) (bd_all rfl) fun w0 F0=>?_;dsimp only [St.init,number,Nat.reduceAdd]
 repeat refine W.go rfl ?_
 refine (?_:WL _ _ _ _ _ _)
 dsimp only [St.put,Nat.reduceAdd]
 refine WL.vl rfl (WV.mkf rfl rfl) ?_
 repeat (first|refine W.go rfl ?_|refine WL.ev rfl ?_|refine WL.len rfl rfl (by first|exact List.length_map _|exact List.length_replicate|rfl) ?_)
 refine (?_:W _ _ _ _ _)
 dsimp only [St.put,Nat.reduceAdd]
 refine W.tr (Tr.nilBox (k:=1) (j:=0) 233 5 rfl rfl rfl rfl) ?_
 refine W.tr (Tr.nil (t:=5) 332 5 rfl rfl) ?_
 dsimp only [St.put,St.new,St.upd,Nat.reduceAdd]
 refine W.loop (fun k:Nat=>k≤p.evs.length) (fun k=>⟨[(1,.pt 0 0 0),(4,.pt 1 0 0),(5,.sl 4),(6,.pt 2 0 0),(7,.fn 230 [.pt 2 0 0,.pt 1 0 0]),(20,.ls 6 (p.evs.map eEv)),(21,.sc (.int .i64 p.evs.length)),(22,.sc (.int .i64 k))],[(0,.box 294 [.ls 3 (p.cs.map eCrs),.ls 1 (p.st.map eInt),.ls 6 (p.evs.map eEv),.ls 1 ((onsL p.evs p.evs.length).map eInt)]),(1,.box 227 [.sl 3]),(2,.box 328 (eRing (nts p k).ring)),(3,.row 233 5 ((nts p k).out.map eNt)),(4,.row 332 5 ((prsQ p k).map eNt))],5⟩) (fun k=>p.evs.length - k) 0 (by omega) (Tr.ren id (by repeat (first|exact trivial|refine ⟨⟨?_,?_⟩,?_⟩|rfl)) (by repeat (first|exact trivial|refine ⟨⟨?_,?_,?_⟩,?_⟩|rfl)) rfl) fun k hk=>?_
 obtain ⟨hok,hsz⟩:=nts_ok hO h0 k hk
 have hpl:=prsQ_len hO k hk
 by_cases hlt:k < p.evs.length
 rotate_left
 ·obtain rfl:k=p.evs.length:=by omega
  repeat (first|refine W.gob rfl ?_|refine WL.nil ?_|refine WL.bf rfl rfl rfl (by omega) ?_|refine WL.e1 rfl ?_|refine W.condF rfl ?_)
  refine (?_:W _ _ _ _ _)
  dsimp only [St.put,Nat.reduceAdd]
  refine W.tr (Tr.freeze 3 rfl) ?_
  refine W.tr (Tr.freeze 4 rfl) ?_
  exact W.ret (finN rfl rfl rfl rfl)
 have h20:=hO.n4 k hlt
 have hev:=evOk_of h0 hlt
 have hons:(onsL p.evs p.evs.length)[k]'(by omega)=onsAt p.evs k:=onsL_get (by omega) _
 obtain ⟨hok2,hsz2⟩:=openN_ok (p:=p) (k:=k) (e:=p.evs[k]) hok
 repeat (first|refine W.gob rfl ?_|refine WL.nil ?_|refine WL.bt rfl rfl rfl (by omega) ?_|refine WL.e1 rfl ?_|refine WL.len rfl rfl (by first|exact List.length_map _|exact List.length_replicate|rfl) ?_|refine WL.idx rfl rfl (by omega) (by first|exact map_at (by omega)|exact map_atZ (by omega) (by omega)) ?_|refine W.condT rfl ?_)
 refine (?_:WL _ _ _ _ _ _)
 dsimp only [St.put,Nat.reduceAdd]
 rw [hons]
 refine WL.meet2 ⟨[(1,.pt 0 0 0),(4,.pt 1 0 0),(5,.sl 4),(6,.pt 2 0 0),(7,.fn 230 [.pt 2 0 0,.pt 1 0 0]),(20,.ls 6 (p.evs.map eEv)),(21,.sc (.int .i64 p.evs.length)),(22,.sc (.int .i64 k)),(8,.sc (.int .i64 k)),(9,.pt 5 0 0),(10,.sc (.int .i64 (onsAt p.evs k)))],[(0,.box 294 [.ls 3 (p.cs.map eCrs),.ls 1 (p.st.map eInt),.ls 6 (p.evs.map eEv),.ls 1 ((onsL p.evs p.evs.length).map eInt)]),(1,.box 227 [.sl 3]),(2,.box 328 (eRing (openN p k p.evs[k] (nts p k)).ring)),(3,.row 233 5 ((openN p k p.evs[k] (nts p k)).out.map eNt)),(4,.row 332 5 ((prsQ p k).map eNt)),(5,.box 36 (eEv p.evs[k]))],6⟩ ?_ ?_
 ·refine WL.partG rfl rfl rfl rfl (fun hp=>?_) (fun hp=>?_)
  ·have hp:=of_decide_eq_true hp
   repeat (first|refine WL.ev rfl ?_|refine WL.gyes rfl rfl rfl rfl ?_)
   refine (?_:W _ _ _ _ _)
   dsimp only [St.put,Nat.reduceAdd]
   (refine W.cond rfl (fun hif=>?_) (fun hif=>?_)<;>(try simp only [decide_eq_true_eq,decide_eq_false_iff_not,Int.not_lt,Int.not_le,Bool.not_eq_true',Bool.not_eq_false'] at hif))
   ·have hr:restB p.evs[k]=true:=by unfold restB;simp [hif];exact List.eq_nil_of_length_eq_zero (by omega)
    have ho:openN p k p.evs[k] (nts p k)=stopAll (onsAt p.evs k) 15 (nts p k):=if_pos hr
    rw [ho]
    repeat refine W.go rfl ?_
    refine (?_:W _ _ _ _ _)
    refine W.loop (fun c:Nat=>c≤15) (fun c=>⟨[(1,.pt 0 0 0),(4,.pt 1 0 0),(5,.sl 4),(6,.pt 2 0 0),(7,.fn 230 [.pt 2 0 0,.pt 1 0 0]),(20,.ls 6 (p.evs.map eEv)),(21,.sc (.int .i64 p.evs.length)),(22,.sc (.int .i64 k)),(8,.sc (.int .i64 k)),(9,.pt 5 0 0),(10,.sc (.int .i64 (onsAt p.evs k))),(41,.sc (.int .i64 c))],[(0,.box 294 [.ls 3 (p.cs.map eCrs),.ls 1 (p.st.map eInt),.ls 6 (p.evs.map eEv),.ls 1 ((onsL p.evs p.evs.length).map eInt)]),(1,.box 227 [.sl 3]),(2,.box 328 (eRing (stopAll (onsAt p.evs k) c (nts p k)).ring)),(3,.row 233 5 ((stopAll (onsAt p.evs k) c (nts p k)).out.map eNt)),(4,.row 332 5 ((prsQ p k).map eNt)),(5,.box 36 (eEv p.evs[k]))],6⟩) (fun c=>15 - c) 0 (by omega) (Tr.ren id (by repeat (first|exact trivial|refine ⟨⟨?_,?_⟩,?_⟩|rfl)) (by repeat (first|exact trivial|refine ⟨⟨?_,?_,?_⟩,?_⟩|rfl)) rfl) fun c hc=>?_
    by_cases hc2:c < 15
    ·repeat (first|refine W.gob rfl ?_|refine WL.nil ?_|refine WL.bt rfl rfl rfl (by omega) ?_|refine WL.e1 rfl ?_|refine W.condT rfl ?_)
     refine (?_:WL _ _ _ _ _ _)
     dsimp only [St.put,Nat.reduceAdd]
     refine WL.cto (truH _) [2,1,3] rfl rfl (callF Tryz.func230 rfl rfl) (stop_FS c (onsAt p.evs k) _ hc2 (stopAll_ok hok _ c).1) rfl rfl rfl ⟨⟨rfl,rfl,rfl⟩,⟨rfl,rfl,rfl⟩,⟨rfl,rfl,rfl⟩,trivial⟩ rfl rfl rfl rfl ?_
     repeat (first|refine W.gob rfl ?_|refine WL.nil ?_|refine WL.e1 rfl ?_|refine WL.ar rfl rfl (by unfold I64;omega) ?_)
     dsimp only [St.put,Nat.reduceAdd]
     exact ⟨c+1,by omega,by omega,(Tr.ren id (by repeat (first|exact trivial|refine ⟨⟨?_,?_⟩,?_⟩|rfl)) (by repeat (first|exact trivial|refine ⟨⟨?_,?_,?_⟩,?_⟩|rfl)) rfl)⟩
    ·obtain rfl:c=15:=by omega
     repeat (first|refine W.gob rfl ?_|refine WL.nil ?_|refine WL.bf rfl rfl rfl (by omega) ?_|refine W.condF rfl ?_)
     dsimp only [St.put,Nat.reduceAdd]
     refine (?_:Tr _ _ _)
     exact (Tr.ren id (by repeat (first|exact trivial|refine ⟨⟨?_,?_⟩,?_⟩|rfl)) (by repeat (first|exact trivial|refine ⟨⟨?_,?_,?_⟩,?_⟩|rfl)) rfl)
   ·have ho:openN p k p.evs[k] (nts p k)=nts p k:=if_neg (by unfold restB;simp [hif])
    rw [ho]
    repeat refine W.go rfl ?_
    refine (?_:Tr _ _ _)
    exact (Tr.ren id (by repeat (first|exact trivial|refine ⟨⟨?_,?_⟩,?_⟩|rfl)) (by repeat (first|exact trivial|refine ⟨⟨?_,?_,?_⟩,?_⟩|rfl)) rfl)
  ·have hp:=of_decide_eq_false hp
   have ho:openN p k p.evs[k] (nts p k)=nts p k:=if_neg (by unfold restB;simp;intro h;rw [h] at hp;exact absurd rfl hp)
   rw [ho]
   repeat (first|refine W.go rfl ?_|refine WL.ev rfl ?_|refine WL.opno rfl rfl rfl rfl rfl rfl rfl ?_|refine W.condF rfl ?_)
   dsimp only [St.put,Nat.reduceAdd]
   refine (?_:Tr _ _ _)
   exact (Tr.ren id (by repeat (first|exact trivial|refine ⟨⟨?_,?_⟩,?_⟩|rfl)) (by repeat (first|exact trivial|refine ⟨⟨?_,?_,?_⟩,?_⟩|rfl)) rfl)
 repeat (first|refine W.go rfl ?_|refine WL.ev rfl ?_|refine WL.len rfl rfl (by first|exact List.length_map _|exact List.length_replicate|rfl) ?_)
 refine (?_:W _ _ _ _ _)
 dsimp only [St.put,Nat.reduceAdd]
 have hst:∀ x∈p.evs[k].stops,1≤x.1∧x.1≤14:=fun x hx=>⟨(hev.stops x hx).crs.1,(hev.stops x hx).c14⟩
 obtain ⟨S0,hS0⟩:∃ S0,openN p k p.evs[k] (nts p k)=S0:=⟨_,rfl⟩
 rw [hS0] at hok2 hsz2 ⊢
 refine W.loop (fun q:Nat=>q≤p.evs[k].stops.length) (fun q=>⟨[(1,.pt 0 0 0),(4,.pt 1 0 0),(5,.sl 4),(6,.pt 2 0 0),(7,.fn 230 [.pt 2 0 0,.pt 1 0 0]),(20,.ls 6 (p.evs.map eEv)),(21,.sc (.int .i64 p.evs.length)),(22,.sc (.int .i64 k)),(8,.sc (.int .i64 k)),(9,.pt 5 0 0),(10,.sc (.int .i64 (onsAt p.evs k))),(50,.ls 5 (p.evs[k].stops.map eStp)),(51,.sc (.int .i64 p.evs[k].stops.length)),(52,.sc (.int .i64 q))],[(0,.box 294 [.ls 3 (p.cs.map eCrs),.ls 1 (p.st.map eInt),.ls 6 (p.evs.map eEv),.ls 1 ((onsL p.evs p.evs.length).map eInt)]),(1,.box 227 [.sl 3]),(2,.box 328 (eRing (addQ p k p.evs[k].stops S0 q).ring)),(3,.row 233 5 ((addQ p k p.evs[k].stops S0 q).out.map eNt)),(4,.row 332 5 ((prsQ p k++(p.evs[k].stops.take q).map (prsN p k)).map eNt)),(5,.box 36 (eEv p.evs[k]))],6⟩) (fun q=>p.evs[k].stops.length - q) 0 (by omega) (Tr.ren (fun q=>q) (by repeat (first|exact trivial|refine ⟨⟨?_,?_⟩,?_⟩|rfl)) (by repeat (first|exact trivial|refine ⟨⟨?_,?_,?_⟩,?_⟩|rfl|exact congrArg (fun q=>some (AO.row _ _ q)) rfl|exact congrArg (fun q=>some (AO.row _ _ q)) (by simp))) rfl) fun q hq=>?_
 obtain ⟨hok3,hsz3⟩:=addQ_ok (p:=p) (k:=k) hok2 hst (by omega) q hq
 by_cases hqlt:q < p.evs[k].stops.length
 rotate_left
 ·obtain rfl:q=p.evs[k].stops.length:=by omega
  repeat (first|refine W.gob rfl ?_|refine WL.nil ?_|refine WL.bf rfl rfl rfl (by omega) ?_|refine WL.e1 rfl ?_|refine WL.ar rfl rfl (by unfold I64;omega) ?_|refine W.condF rfl ?_)
  dsimp only [St.put,Nat.reduceAdd]
  refine ⟨k+1,by omega,by omega,?_⟩
  rw [nts_at hlt,hS0,prsQ_at hlt]
  exact (Tr.ren (fun q=>q) (by repeat (first|exact trivial|refine ⟨⟨?_,?_⟩,?_⟩|rfl)) (by repeat (first|exact trivial|refine ⟨⟨?_,?_,?_⟩,?_⟩|rfl|exact congrArg (fun q=>some (AO.row _ _ q)) rfl|exact congrArg (fun q=>some (AO.row _ _ q)) (by rw [List.take_length]))) rfl)
 obtain ⟨S,hS⟩:∃ S,addQ p k p.evs[k].stops S0 q=S:=⟨_,rfl⟩
 have hadd:addQ p k p.evs[k].stops S0 (q+1)=addN p k p.evs[k].stops[q] S:=by
  show (match p.evs[k].stops[q]? with|some x=>addN p k x (addQ p k p.evs[k].stops S0 q)|none=>addQ p k p.evs[k].stops S0 q)=_
  rw [List.getElem?_eq_getElem hqlt,hS]
 have htk:p.evs[k].stops.take (q+1)=p.evs[k].stops.take q++[p.evs[k].stops[q]]:=List.take_succ_eq_append_getElem hqlt
 have hso:=hev.stops _ (List.getElem_mem hqlt)
 rw [hS] at hok3 hsz3 ⊢
 repeat (first|refine W.gob rfl ?_|refine WL.nil ?_|refine WL.bt rfl rfl rfl (by omega) ?_|refine WL.e1 rfl ?_|refine WL.idx rfl rfl (by omega) (by first|exact map_at (by omega)|exact map_atZ (by omega) (by omega)) ?_|refine W.condT rfl ?_)
 refine (?_:WL _ _ _ _ _ _)
 dsimp only [St.put,Nat.reduceAdd]
 obtain ⟨x,hx⟩:∃ x,p.evs[k].stops[q]=x:=⟨_,rfl⟩
 rw [hx] at hadd htk hso ⊢
 have hc1:=hso.crs
 have hc2:=hso.c14
 refine WL.cto (truH _) [2,1,3] rfl rfl (callF Tryz.func230 rfl rfl) (stopZ_FS x.1 (onsAt p.evs k) S ⟨by omega,by omega⟩ hok3) rfl rfl rfl ⟨⟨rfl,rfl,rfl⟩,⟨rfl,rfl,rfl⟩,⟨rfl,rfl,rfl⟩,trivial⟩ rfl rfl rfl rfl ?_
 obtain ⟨hok4,hsz4⟩:=stopN_ok hok3 x.1.toNat (onsAt p.evs k)
 obtain ⟨S1,hS1⟩:∃ S1,stopN x.1.toNat (onsAt p.evs k) S=S1:=⟨_,rfl⟩
 rw [hS1] at hok4 hsz4 ⊢
 refine WL.tr (σ':=⟨[(1,.pt 0 0 0),(4,.pt 1 0 0),(5,.sl 4),(6,.pt 2 0 0),(7,.fn 230 [.pt 2 0 0,.pt 1 0 0]),(20,.ls 6 (p.evs.map eEv)),(21,.sc (.int .i64 p.evs.length)),(22,.sc (.int .i64 k)),(8,.sc (.int .i64 k)),(9,.pt 5 0 0),(10,.sc (.int .i64 (onsAt p.evs k))),(50,.ls 5 (p.evs[k].stops.map eStp)),(51,.sc (.int .i64 p.evs[k].stops.length)),(52,.sc (.int .i64 q)),(13,.pt 6 0 0)],[(0,.box 294 [.ls 3 (p.cs.map eCrs),.ls 1 (p.st.map eInt),.ls 6 (p.evs.map eEv),.ls 1 ((onsL p.evs p.evs.length).map eInt)]),(1,.box 227 [.sl 3]),(2,.box 328 (eRing S1.ring)),(3,.row 233 5 (S1.out.map eNt)),(4,.row 332 5 ((prsQ p k++(p.evs[k].stops.take q).map (prsN p k)).map eNt)),(5,.box 36 (eEv p.evs[k])),(6,.box 100 (eStp x))],7⟩) (Tr.ren id (by repeat (first|exact trivial|refine ⟨⟨?_,?_⟩,?_⟩|rfl)) (by repeat (first|exact trivial|refine ⟨⟨?_,?_,?_⟩,?_⟩|rfl)) rfl) ?_
 have hAt:=pAt_FS p.cs p.st x.1 x.2.1 hI hc1 hso.fret
 repeat (first|refine W.gob rfl ?_|refine WL.nil ?_|refine WL.e1 rfl ?_)
 refine (?_:WL _ _ _ _ _ _)
 dsimp only [St.put,Nat.reduceAdd]
 refine WL.vl rfl (WV.call rfl (callF Tryz.func231 rfl rfl) rfl rfl hAt) ?_
 repeat (first|refine W.gob rfl ?_|refine WL.nil ?_|refine WL.e1 rfl ?_)
 refine (?_:W _ _ _ _ _)
 dsimp only [St.put,Nat.reduceAdd]
 refine W.dmT2 9 [false,false,false,false,false,false,false,false,true] [0,6] (by kernel_rfl) (by kernel_rfl) (by kernel_rfl) (by kernel_rfl) (by kernel_rfl) (by repeat constructor) ?_
 repeat refine DMK.st rfl rfl ?_
 refine DMK.v0 rfl (WV.call rfl (callF Tryz.func232 rfl rfl) rfl rfl hE) ?_
 repeat refine DMK.st rfl rfl ?_
 refine DMK.al rfl rfl rfl rfl (by repeat constructor) ?_
 repeat refine DMK.nil ?_
 refine ⟨rfl,?_⟩
 repeat (first|refine W.go rfl ?_|refine WL.ev rfl ?_)
 refine (?_:W _ _ _ _ _)
 dsimp only [St.put,Nat.reduceAdd]
 have eout:(addN p k x S).out=S1.out++[noteN p k x]:=by unfold addN;rw [hS1]
 have hL:k+x.2.2.2.2.toNat+1≤p.evs.length:=by have:=longestN_end hlt x.1;have:=hso.hold;omega
 refine W.meet ⟨[(1,.pt 0 0 0),(4,.pt 1 0 0),(5,.sl 4),(6,.pt 2 0 0),(7,.fn 230 [.pt 2 0 0,.pt 1 0 0]),(20,.ls 6 (p.evs.map eEv)),(21,.sc (.int .i64 p.evs.length)),(22,.sc (.int .i64 k)),(8,.sc (.int .i64 k)),(9,.pt 5 0 0),(10,.sc (.int .i64 (onsAt p.evs k))),(50,.ls 5 (p.evs[k].stops.map eStp)),(51,.sc (.int .i64 p.evs[k].stops.length)),(52,.sc (.int .i64 q)),(13,.pt 6 0 0),(16,.pt 7 0 0)],[(0,.box 294 [.ls 3 (p.cs.map eCrs),.ls 1 (p.st.map eInt),.ls 6 (p.evs.map eEv),.ls 1 ((onsL p.evs p.evs.length).map eInt)]),(1,.box 227 [.sl 3]),(2,.box 328 (eRing (addN p k x S).ring)),(3,.row 233 5 (S1.out.map eNt)),(4,.row 332 5 ((prsQ p k++(p.evs[k].stops.take q).map (prsN p k)).map eNt)),(5,.box 36 (eEv p.evs[k])),(6,.box 100 (eStp x)),(7,.box 233 (eNt (noteN p k x)))],8⟩ ?_ ?_
 ·(refine W.cond rfl (fun hif=>?_) (fun hif=>?_)<;>(try simp only [decide_eq_true_eq,decide_eq_false_iff_not,Int.not_lt,Int.not_le,Bool.not_eq_true',Bool.not_eq_false'] at hif))
  ·have en:noteN p k x=((k:Int),x.1,pitN p.cs p.st x.1 x.2.1,onsAt p.evs k,onsAt p.evs (stayN p.evs (k+x.2.2.2.2.toNat+1))):=by unfold noteN;rw [if_pos hif]
   have er:(addN p k x S).ring=S1.ring:=by unfold addN;rw [hS1,if_pos hif]
   rw [en,er]
   have hsy:=hSt k x.2.2.2.2 hso.hold.1 hL
   have hj:=stayN_le hL
   obtain ⟨J,hJ⟩:∃ J,stayN p.evs (k+x.2.2.2.2.toNat+1)=J:=⟨_,rfl⟩
   rw [hJ] at hsy hj ⊢
   have eJ:∀ h,(onsL p.evs p.evs.length)[((J:Int) - 1+1).toNat]'h=onsAt p.evs J:=fun h=>by
    have e:((J:Int) - 1+1).toNat=J:=by omega
    simp only [e];exact onsL_get hj.2 _
   refine W.dkT 11 (by kernel_rfl) (by kernel_rfl) (by kernel_rfl) (by kernel_rfl) ?_
   repeat refine DK.st rfl ?_
   refine DK.vl rfl (WV.call rfl (callF Tryz.func233 rfl rfl) rfl rfl hsy) ?_
   repeat (first|refine DK.st rfl ?_|refine DK.ar rfl rfl (by unfold I64;omega) ?_|refine DK.idx rfl rfl (by omega) (by first|exact map_at (by omega)|exact map_atZ (by omega) (by omega)) ?_|refine DK.nil ?_)
   simp only [eJ]
   refine ⟨trivial,?_⟩
   repeat refine WL.ev rfl ?_
   dsimp only [St.put,Nat.reduceAdd]
   refine (?_:Tr _ _ _)
   exact (Tr.ren id (by repeat (first|exact trivial|refine ⟨⟨?_,?_⟩,?_⟩|rfl)) (by repeat (first|exact trivial|refine ⟨⟨?_,?_,?_⟩,?_⟩|rfl)) rfl)
  ·have en:noteN p k x=((k:Int),x.1,pitN p.cs p.st x.1 x.2.1,onsAt p.evs k,onsAt p.evs p.evs.length):=by unfold noteN;rw [if_neg (by omega)]
   have er:(addN p k x S).ring=S1.ring.set x.1.toNat (S1.out.length+1):=by unfold addN;rw [hS1,if_neg (by omega)]
   rw [en,er]
   have hb4:=hok4.big
   repeat (first|refine W.gob rfl ?_|refine WL.e1 rfl ?_|refine WL.ar rfl rfl (by unfold I64;omega) ?_|refine WL.len rfl rfl (by first|exact List.length_map _|exact List.length_replicate|rfl) ?_)
   refine (?_:WL _ _ _ _ _ _)
   dsimp only [St.put,Nat.reduceAdd]
   refine WL.idp rfl rfl ⟨by omega,by omega⟩ (show 0+x.1.toNat*1=x.1.toNat by omega) ?_
   refine WL.stx rfl rfl rfl rfl (by rw [eRing_len];omega) ?_
   rw [eRing_set (by rw [hok4.len];omega)]
   repeat refine WL.nil ?_
   dsimp only [St.put,Nat.reduceAdd]
   refine (?_:Tr _ _ _)
   exact (Tr.ren id (by repeat (first|exact trivial|refine ⟨⟨?_,?_⟩,?_⟩|rfl)) (by repeat (first|exact trivial|refine ⟨⟨?_,?_,?_⟩,?_⟩|rfl)) rfl)
 have hb4:=hok4.big
 have h1:S1.out.map eNt++[eNt (noteN p k x)]=(addN p k x S).out.map eNt:=by rw [eout];simp
 have h2:(prsQ p k++(p.evs[k].stops.take q).map (prsN p k)).map eNt++[eNt (prsN p k x)]=(prsQ p k++(p.evs[k].stops.take q++[x]).map (prsN p k)).map eNt:=by simp
 repeat (first|refine W.go rfl ?_|refine WL.ev rfl ?_|refine WL.ar rfl rfl (by unfold I64;omega) ?_|refine WL.app rfl rfl rfl (by first|omega|(simp;done)|(simp;omega)) ?_)
 dsimp only [St.put,Nat.reduceAdd]
 refine ⟨q+1,by omega,by omega,?_⟩
 rw [hadd,htk]
 exact (Tr.ren (fun q=>bif Nat.beq q 3 then 9 else bif Nat.beq q 4 then 11 else q) (by repeat (first|exact trivial|refine ⟨⟨?_,?_⟩,?_⟩|rfl)) (by repeat (first|exact trivial|refine ⟨⟨?_,?_,?_⟩,?_⟩|rfl|exact congrArg (fun q=>some (AO.row _ _ q)) h1|exact congrArg (fun q=>some (AO.row _ _ q)) h2)) rfl)
end Go.Proofs.YtgelfflighgajaaGreatDoor
