/- Sums that may wrap. -/
import Derived.Test.YtgelfflighgajaaGreatDoorFXOq
set_option maxHeartbeats 4000000
set_option maxRecDepth 100000
set_option linter.unusedVariables false
set_option linter.unusedSimpArgs false
namespace Go.Proofs.YtgelfflighgajaaGreatDoor
section
open Go.RowKit
def onsR (p:Pce):List (List AV):=if pceE p=0 then (onsL p.evs p.evs.length).map eInt else []
def eSnd (p:Pce):AV:=.ag [.ls 3 (p.cs.map eCrs),.ls 1 (p.st.map eInt),.ls 6 (p.evs.map eEv),.ls 1 (onsR p)]
theorem listen_FS (p:Pce) (hO:PcOk p):Ctr Tryz.prog 208 [ePce p] (.tu [eSnd p,.sc (.int .i64 (pceE p))]):=by
 refine zqe Tryz.func208 Tryz.ntmps208 fun w0 F0=>?_;dsimp only [St.init,number,Nat.reduceAdd]
 repeat refine W.go rfl ?_
 refine (?_:WL _ _ _ _ _ _)
 refine WL.vl rfl (WV.call rfl (callF Tryz.func111 rfl rfl) rfl rfl (pOnsets_FS p hO)) ?_
 repeat (first|refine W.go rfl ?_|refine WL.ev rfl ?_)
 refine (?_:W _ _ _ _ _)
 exact W.ret (finN rfl rfl rfl rfl)
end
section
open Go.RowKit
theorem end_FS (p:Pce) (hO:PcOk p) (h0:pceE p=0):Ctr Tryz.prog 232 [eSnd p] (.sc (.int .i64 (onsAt p.evs p.evs.length))):=by
 have hn:=hO.n3
 have hl:(onsL p.evs p.evs.length).length=p.evs.length+1:=onsL_length _ _
 have he:eSnd p=.ag [.ls 3 (p.cs.map eCrs),.ls 1 (p.st.map eInt),.ls 6 (p.evs.map eEv),.ls 1 ((onsL p.evs p.evs.length).map eInt)]:=by unfold eSnd onsR;rw [if_pos h0]
 rw [he]
 refine zqe Tryz.func232 Tryz.ntmps232 fun w0 F0=>?_;dsimp only [St.init,number,Nat.reduceAdd]
 repeat (first|refine W.go rfl ?_|refine WL.ev rfl ?_|refine WL.ar rfl rfl (by unfold I64;omega) ?_|refine WL.len rfl rfl zql ?_|refine WL.idx rfl rfl zqo zqm ?_)
 refine (?_:W _ _ _ _ _)
 refine W.ret (fin1 rfl rfl (sc_int ?_) rfl)
 simp [onsL]
end
section
open Go.RowKit
def sndL (p:Pce):List AV:=[.ls 3 (p.cs.map eCrs),.ls 1 (p.st.map eInt),.ls 6 (p.evs.map eEv),.ls 1 ((onsL p.evs p.evs.length).map eInt)]
theorem eSnd_ok {p:Pce} (h0:pceE p=0):eSnd p=.ag (sndL p):=by unfold eSnd onsR sndL;rw [if_pos h0]
theorem stay_FS (p:Pce) (hO:PcOk p) (h0:pceE p=0) (i:Nat) (h:Int) (hh:0≤h) (hi:i+h.toNat+1≤p.evs.length) :
  Ctr Tryz.prog 233 [eSnd p,.sc (.int .i64 i),.sc (.int .i64 h)] (.sc (.int .i64 ((stayN p.evs (i+h.toNat+1):Int) - 1))):=by
 have hn:=hO.n3
 rw [eSnd_ok h0]
 unfold sndL
 obtain ⟨q,rfl⟩:∃ q:Nat,h=q:=⟨h.toNat,by omega⟩
 simp only [Int.toNat_natCast] at hi ⊢
 refine zqe Tryz.func233 Tryz.ntmps233 fun w0 F0=>?_;dsimp only [St.init,number,Nat.reduceAdd]
 repeat (first|refine W.go rfl ?_|refine WL.ev rfl ?_|refine WL.ar rfl rfl (by unfold I64;omega) ?_)
 refine (?_:W _ _ _ _ _)
 refine W.loop (fun m:Nat=>i+q≤m∧m+1≤p.evs.length∧stayN p.evs (i+q+1)=stayN p.evs (m+1)) (fun m=>⟨[(3,.pt 0 0 0),(7,.sc (.int .i64 m))],[(0,.box 294 [.ls 3 (p.cs.map eCrs),.ls 1 (p.st.map eInt),.ls 6 (p.evs.map eEv),.ls 1 ((onsL p.evs p.evs.length).map eInt)])],1⟩) (fun m=>p.evs.length - m) (i+q) ⟨Nat.le_refl _,by omega,rfl⟩ (zqt id) fun m hm=>?_
 obtain ⟨hm1,hm2,hm3⟩:=hm
 have ez:((m:Int)+1).toNat=m+1:=by omega
 by_cases hlt:m+1 < p.evs.length
 ·repeat (first|refine W.gob rfl ?_|refine WL.nil ?_|refine WL.bt rfl rfl rfl zqo ?_|refine WL.e1 rfl ?_|refine WL.gyes rfl rfl rfl rfl ?_|refine WL.ar rfl rfl (by unfold I64;omega) ?_|refine WL.len rfl rfl zql ?_|refine WL.idx rfl rfl zqo zqm ?_)
  refine (?_:W _ _ _ _ _)
  (refine W.cond rfl (fun hif=>?_) (fun hif=>?_)<;>(try simp only [decide_eq_true_eq,decide_eq_false_iff_not,Int.not_lt,Int.not_le,Bool.not_eq_true',Bool.not_eq_false'] at hif))
  ·repeat (first|refine W.go rfl ?_|refine WL.ev rfl ?_|refine WL.ar rfl rfl (by unfold I64;omega) ?_)
   exact ⟨m+1,⟨by omega,by omega,by rw [hm3,stayN_tie hlt hif]⟩,by omega,(zqt id)⟩
  ·rw [show ((stayN p.evs (i+q+1):Int) - 1)=m by rw [hm3,stayN_no hlt hif];omega]
   repeat refine W.go rfl ?_
   refine (?_:W _ _ _ _ _)
   exact W.ret zqr
 ·repeat (first|refine W.gob rfl ?_|refine WL.nil ?_|refine WL.bf rfl rfl rfl zqo ?_|refine WL.e1 rfl ?_|refine WL.opno rfl rfl rfl rfl rfl rfl rfl ?_|refine WL.ar rfl rfl (by unfold I64;omega) ?_|refine WL.len rfl rfl zql ?_|refine W.condF rfl ?_)
  refine (?_:W _ _ _ _ _)
  refine W.ret (fin1 rfl rfl (sc_int ?_) rfl)
  rw [hm3,stayN_end (by omega)];omega
end
section
open Go.RowKit
section
variable {P:Program} {C:Cx} {σ:St}
theorem OW.nil_ (F:View) (w:World) (T n:Nat) (φ:Nat→Prop):OW F w (.ow T n []) (.slice none 0 0) φ :=
 RowIs.ow ⟨by simp,[],fun _ _ _=>False,⟨by simp,.inl ⟨rfl,rfl⟩⟩,rfl,by simp,(fun g hg=>by cases hg),fun _ _ _ h=>h.elim,fun _ _ _ _ _ h=>h.elim,fun i r r' h=>by simp at h,fun i r r' j av u h=>by simp at h⟩
theorem Tr.nilOw (k:Nat) {T m:Nat} (T' n':Nat) (hk:look k σ.M=some (.row T 1 (List.replicate m [.sc (.slice none 0 0)]))):Tr C σ (σ.upd k (.rwn T 1 (List.replicate m [.ow T' n' []]))):=fun G a w ok=>by
 obtain ⟨g1,g2,g3,g4,q1,vs,Φ,q2,q3,q4,q5,q6,q7,q8,q9⟩:=ok.ob k _ hk
 refine ⟨G,ok.reob hk ⟨g1,trivial,g3,g4,?_⟩⟩
 have hat:∀ i r,(List.replicate m [AV.ow T' n' []])[i]?=some r→r=[AV.ow T' n' []]∧(List.replicate m [AV.sc (.slice none 0 0)])[i]?=some [AV.sc (.slice none 0 0)]:=fun i r h=>by
  obtain ⟨hl,he⟩:=List.getElem?_eq_some_iff.1 h
  rw [List.getElem_replicate]at he
  have hl2:i<m:=by simpa using hl
  exact ⟨he.symm,by rw [List.getElem?_replicate,if_pos hl2]⟩
 refine ⟨fun r hr=>by rw [List.eq_of_mem_replicate hr];rfl,vs,Φ,q2,by rw [q3];simp,q4,q5,q6,q7,fun i r v hr hv=>?_,fun i r v j av u hr hv hj hu=>?_⟩
 ·obtain ⟨rfl,h2⟩:=hat i r hr
  have:=q8 i _ v h2 hv
  exact this
 ·obtain ⟨rfl,h2⟩:=hat i r hr
  match j,hj with
  | 0,hj =>
   cases hj
   have:=(q9 i _ v 0 _ u h2 hv rfl hu).sc_eq
   rw [this];exact OW.nil_ _ _ _ _ _
  | j+1,hj=>simp at hj
def ldaV (P:Program)(σ:St):Op→Option (TypeId×List (List AV)×Nat×Nat)
 | .load T x =>
  match σ.ev x with
  | some (.pt k i j) =>
   match look k σ.M with
   | some (.row _ _ rows)=>some (T,rows,i,j)
   | some (.rwn _ _ rows)=>some (T,rows,i,j)
   | _=>none
  | _=>none
 | _=>none
theorem ldaV_of {o:Oper} {T:TypeId} {rows:List (List AV)} {i j:Nat} {r:List AV} {av:AV} (h:ldaV P σ o.op=some (T,rows,i,j))(hi:rows[i]?=some r)(ht:takeO P T (r.drop j)=some av):WV P C o σ av:=by
 unfold ldaV at h
 split at h
 ·rename_i T' x ho
  split at h
  ·rename_i k i' j' hx
   split at h
   ·rename_i T2 n rows' hk
    cases h
    have hf:(AO.row T2 n rows).from_ i j=some (r.drop j):=by simp [AO.from_,hi]
    exact loadV_of ho hx (by simp only [loadV,hk,hf];exact ht)
   ·rename_i T2 n rows' hk
    cases h
    have hf:(AO.rwn T2 n rows).from_ i j=some (r.drop j):=by simp [AO.from_,hi]
    exact loadV_of ho hx (by simp only [loadV,hk,hf];exact ht)
   ·cases h
  ·cases h
 ·cases h
variable {ops:Array Oper} {o:Oper} {rest:List Oper} {d:Tmp} {Q:Exit→St→Prop}
theorem WL.lda {T:TypeId} {rows:List (List AV)} {i j:Nat} {r:List AV} {av:AV} (hd:dstB C.N o=some d)(h:ldaV P σ o.op=some (T,rows,i,j))(hi:rows[i]?=some r)(ht:takeO P T (r.drop j)=some av)(k:WL P C ops rest (σ.put d av) Q):WL P C ops (o::rest) σ Q:=WL.vl hd (ldaV_of h hi ht) k
theorem DK.lda {T:TypeId} {rows:List (List AV)} {i j:Nat} {r:List AV} {av:AV} (hd:dstD C.N ops σ o=some d)(h:ldaV P (σ.only (o.looksAt ops)) o.op=some (T,rows,i,j))(hi:rows[i]?=some r)(ht:takeO P T (r.drop j)=some av)(k:DK P C ops rest (σ.put d av) Q):DK P C ops (o::rest) σ Q:=DK.vl hd (ldaV_of h hi ht) k
end
end
section
open Go.RowKit
section
variable {P:Program} {C:Cx} {σ:St} {o:Oper} {d:Tmp} {ops:Array Oper} {rest:List Oper} {Q:Exit→St→Prop}
def addwV (σ:St):Op→Option Int
 | .binOp .add _ x y _ =>
  match σ.ev x,σ.ev y with
  | some (.sc (.int .i64 m)),some (.sc (.int .i64 n))=>some (IntKind.i64.wrap (m+n))
  | _,_=>none
 | _=>none
theorem addwV_of {z:Int} (h:addwV σ o.op=some z):WV P C o σ (.sc (.int .i64 z)):=by
 unfold addwV at h
 split at h
 ·rename_i T x y Ty ho
  split at h
  ·rename_i m n hx hy
   cases h
   exact WV.sc fun G a w ok=>by unfold execOp;simp [ho,ok.evs hx,ok.evs hy,eqGuard,binOp,Op.intArith]
  ·cases h
 ·cases h
theorem WL.arW {z:Int} (hd:dstB C.N o=some d) (h:addwV σ o.op=some z) (k:∀ y:Int,WL P C ops rest (σ.put d (.sc (.int .i64 y))) Q):WL P C ops (o::rest) σ Q:=WL.vl hd (addwV_of h) (k z)
end
end
end Go.Proofs.YtgelfflighgajaaGreatDoor
