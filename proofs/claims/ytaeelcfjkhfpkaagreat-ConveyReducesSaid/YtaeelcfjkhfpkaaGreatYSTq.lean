/- Symbol and Cell of the program, over trees. -/
import Derived.Test.YtaeelcfjkhfpkaaGreatYMTq
set_option maxHeartbeats 8000000
set_option maxRecDepth 100000
set_option linter.unusedVariables false
set_option linter.unusedSimpArgs false
namespace Go.Proofs.YtaeelcfjkhfpkaaGreat
section
open Go.RowKit
section
variable {P:Program} {C:Cx} {σ:St}
theorem OW.nil_ (F:View) (w:World) (T n:Nat) (φ:Nat→Prop):OW F w (.ow T n []) (.slice none 0 0) φ :=
 RowIs.ow ⟨by simp,[],fun _ _ _=>False,⟨by simp,.inl ⟨rfl,rfl⟩⟩,rfl,by simp,(fun g hg=>by cases hg),fun _ _ _ h=>h.elim,fun _ _ _ _ _ h=>h.elim,fun i r r' h=>by simp at h,fun i r r' j av u h=>by simp at h⟩
theorem Tr.nilOw (k:Nat) {T m:Nat} (T' n':Nat) (hk:look k σ.M=some (.row T 1 (List.replicate m [.sc (.slice none 0 0)]))):Tr C σ (σ.upd k (.rwn T 1 (List.replicate m [.ow T' n' []]))):=fun G a w ok=>by
 obtain ⟨g1,g2,g3,g4,q1,vs,Φ,q2,q3,q4,q5,q6,q7,q8,q9⟩:=ok.ob k _ hk
 refine ⟨G,ok.reob hk ⟨g1,trivial,g3,g4,?_⟩⟩
 have hat:∀ i r,(List.replicate m [AV.ow T' n' []])[i]?=some r→r=[AV.ow T' n' []]∧(List.replicate m [AV.sc (.slice none 0 0)])[i]?=some [AV.sc (.slice none 0 0)]:=fun i r h=>by
  obtain ⟨hl,he⟩:=List.getElem?_eq_some_iff.1 h
  rw [List.getElem_replicate]at he
  have hl2:i<m:=by simpa using hl
  exact ⟨he.symm,by rw [List.getElem?_replicate,if_pos hl2]⟩
 refine ⟨fun r hr=>by rw [List.eq_of_mem_replicate hr];rfl,vs,Φ,q2,by rw [q3];simp,q4,q5,q6,q7,fun i r v hr hv=>?_,fun i r v j av u hr hv hj hu=>?_⟩
 ·obtain ⟨rfl,h2⟩:=hat i r hr
  have:=q8 i _ v h2 hv
  exact this
 ·obtain ⟨rfl,h2⟩:=hat i r hr
  match j,hj with
  | 0,hj =>
   cases hj
   have:=(q9 i _ v 0 _ u h2 hv rfl hu).sc_eq
   rw [this];exact OW.nil_ _ _ _ _ _
  | j+1,hj=>simp at hj
def ldaV (P:Program)(σ:St):Op→Option (TypeId×List (List AV)×Nat×Nat)
 | .load T x =>
  match σ.ev x with
  | some (.pt k i j) =>
   match look k σ.M with
   | some (.row _ _ rows)=>some (T,rows,i,j)
   | some (.rwn _ _ rows)=>some (T,rows,i,j)
   | _=>none
  | _=>none
 | _=>none
theorem ldaV_of {o:Oper} {T:TypeId} {rows:List (List AV)} {i j:Nat} {r:List AV} {av:AV} (h:ldaV P σ o.op=some (T,rows,i,j))(hi:rows[i]?=some r)(ht:takeO P T (r.drop j)=some av):WV P C o σ av:=by
 unfold ldaV at h
 split at h
 ·rename_i T' x ho
  split at h
  ·rename_i k i' j' hx
   split at h
   ·rename_i T2 n rows' hk
    cases h
    have hf:(AO.row T2 n rows).from_ i j=some (r.drop j):=by simp [AO.from_,hi]
    exact loadV_of ho hx (by simp only [loadV,hk,hf];exact ht)
   ·rename_i T2 n rows' hk
    cases h
    have hf:(AO.rwn T2 n rows).from_ i j=some (r.drop j):=by simp [AO.from_,hi]
    exact loadV_of ho hx (by simp only [loadV,hk,hf];exact ht)
   ·cases h
  ·cases h
 ·cases h
variable {ops:Array Oper} {o:Oper} {rest:List Oper} {d:Tmp} {Q:Exit→St→Prop}
theorem WL.lda {T:TypeId} {rows:List (List AV)} {i j:Nat} {r:List AV} {av:AV} (hd:dstB C.N o=some d)(h:ldaV P σ o.op=some (T,rows,i,j))(hi:rows[i]?=some r)(ht:takeO P T (r.drop j)=some av)(k:WL P C ops rest (σ.put d av) Q):WL P C ops (o::rest) σ Q:=WL.vl hd (ldaV_of h hi ht) k
theorem DK.lda {T:TypeId} {rows:List (List AV)} {i j:Nat} {r:List AV} {av:AV} (hd:dstD C.N ops σ o=some d)(h:ldaV P (σ.only (o.looksAt ops)) o.op=some (T,rows,i,j))(hi:rows[i]?=some r)(ht:takeO P T (r.drop j)=some av)(k:DK P C ops rest (σ.put d av) Q):DK P C ops (o::rest) σ Q:=DK.vl hd (ldaV_of h hi ht) k
end
end
section
open Go.RowKit
theorem yCel_FS (s:Int)(hs:1≤s∧s≤4)(x:Stp)(L:Int)(hc:1≤x.1∧x.1≤14)(hf:0≤x.2.1∧x.2.1≤18)(hr:0≤x.2.2.1∧x.2.2.1≤3)(hg:0≤x.2.2.2.1∧x.2.2.2.1≤4)(hh:0≤x.2.2.2.2∧x.2.2.2.2≤15) :
  Ctr Tryz.prog 105 [.sc (sysV s),.ag (eStp x),.sc (.int .i64 L)] (.tu [.sc (.string (bs (cellS s x.1 x.2.1 x.2.2.1 x.2.2.2.1 x.2.2.2.2 L))),.sc (.bool (cellOk s x.1 x.2.1 x.2.2.1 x.2.2.2.1 x.2.2.2.2 L))]):=by
 rcases sys_cases hs with rfl|rfl|rfl|rfl
 ·exact Ctr.of_pl rfl (fun _=>rp_tu2) fun w=>pcell_1 _ _ _ _ _ _ w hc hf hr hg hh
 ·exact Ctr.of_pl rfl (fun _=>rp_tu2) fun w=>pcell_2 _ _ _ _ _ _ w hc hf hr hg hh
 ·exact Ctr.of_pl rfl (fun _=>rp_tu2) fun w=>pcell_3 _ _ _ _ _ _ w hc hf hr hg hh
 ·exact Ctr.of_pl rfl (fun _=>rp_tu2) fun w=>pcell_4 _ _ _ _ _ _ w hc hf hr hg hh
theorem yLong_FS (p:Pce) (hO:PcOk p) (i x:Int):Ctr Tryz.prog 107 [ePce p,.sc (.int .i64 i),.sc (.int .i64 x)] (.sc (.int .i64 (longestN p.evs i x))) :=
 Ctr.of_pc (pre:=[]) (post:=[.sc (.int .i64 i),.sc (.int .i64 x)]) rfl rfl (fun _=>.sc _) fun w M hM=>pLongest_any M p i x w hM hO
theorem placed_FS (s c f:Int) (hs:1≤s∧s≤4) (hc:1≤c∧c≤14) (hf:0≤f∧f≤18):Ctr Tryz.prog 104 [.sc (.int .u8 s),.sc (.int .i64 c),.sc (.int .i64 f)] (.tu [.sc (sysV s),.sc (.int .i64 0)]):=by
 have hO:=of_FS s
 rw [decide_eq_true hs] at hO
 refine zqe Tryz.func104 Tryz.ntmps104 fun w0 F0=>?_;dsimp only [St.init,number,Nat.reduceAdd]
 repeat refine W.go rfl ?_
 refine (?_:WL _ _ _ _ _ _)
 refine WL.vl rfl (zqc Tryz.func92 hO) ?_
 repeat (first|refine W.gob rfl ?_|refine WL.nil ?_|refine WL.bf rfl rfl rfl zqo ?_|refine WL.e1 rfl ?_|refine WL.gyes rfl rfl rfl rfl ?_|refine W.condF rfl ?_)
 refine (?_:W _ _ _ _ _)
 exact W.ret (finN rfl rfl rfl rfl)
theorem ySym_FS (s c f:Int) (hs:1≤s∧s≤4) (hc:1≤c∧c≤14) (hf:0≤f∧f≤18):Ctr Tryz.prog 52 [.sc (.int .u8 s),.ag [.sc (.int .i64 c),.sc (.int .i64 f)]]
  (.tu [.sc (.string (bs (if pOk s c f=true then pS s c f else []))),.sc (.int .i64 (if pOk s c f=true then 0 else 31))]):=by
 have hP:=placed_FS s c f hs hc hf
 have hS:=symb_FS s hs c f hc hf
 cases hp:pOk s c f with
 | true =>
  rw [hp] at hS
  rw [if_pos rfl,if_pos rfl]
  refine zqe Tryz.func52 Tryz.ntmps52 fun w0 F0=>?_;dsimp only [St.init,number,Nat.reduceAdd]
  repeat refine W.go rfl ?_
  refine (?_:WL _ _ _ _ _ _)
  refine WL.vl rfl (zqc Tryz.func104 hP) ?_
  repeat (first|refine W.gob rfl ?_|refine WL.nil ?_|refine WL.nf rfl rfl rfl zqo ?_|refine WL.e1 rfl ?_|refine W.condF rfl ?_)
  refine (?_:WL _ _ _ _ _ _)
  refine WL.vl rfl (WV.sys hs symbolF rfl rfl (fun vs w=>by kernel_rfl) (fun vs w=>by kernel_rfl) (fun vs w=>by kernel_rfl) (fun vs w=>by kernel_rfl) rfl rfl hS) ?_
  repeat (first|refine W.gob rfl ?_|refine WL.nil ?_|refine WL.e1 rfl ?_|refine W.condF rfl ?_)
  refine (?_:W _ _ _ _ _)
  exact W.ret (finN rfl rfl rfl rfl)
 | false =>
  rw [hp] at hS
  rw [if_neg (by simp),if_neg (by simp)]
  refine zqe Tryz.func52 Tryz.ntmps52 fun w0 F0=>?_;dsimp only [St.init,number,Nat.reduceAdd]
  repeat refine W.go rfl ?_
  refine (?_:WL _ _ _ _ _ _)
  refine WL.vl rfl (zqc Tryz.func104 hP) ?_
  repeat (first|refine W.gob rfl ?_|refine WL.nil ?_|refine WL.nf rfl rfl rfl zqo ?_|refine WL.e1 rfl ?_|refine W.condF rfl ?_)
  refine (?_:WL _ _ _ _ _ _)
  refine WL.vl rfl (WV.sys hs symbolF rfl rfl (fun vs w=>by kernel_rfl) (fun vs w=>by kernel_rfl) (fun vs w=>by kernel_rfl) (fun vs w=>by kernel_rfl) rfl rfl hS) ?_
  repeat (first|refine W.gob rfl ?_|refine WL.nil ?_|refine WL.e1 rfl ?_|refine W.condT rfl ?_)
  refine (?_:W _ _ _ _ _)
  exact W.ret (finN rfl rfl rfl rfl)
theorem yCell_FS (s:Int) (hs:1≤s∧s≤4) (c f r g:Int) (hc:1≤c∧c≤14) (hf:0≤f∧f≤18) (hr:0≤r∧r≤3) (hg:0≤g∧g≤4) :
  Ctr Tryz.prog 55 [.sc (.int .u8 s),.ag [.sc (.int .i64 c),.sc (.int .i64 f),.sc (.int .i64 r),.sc (.int .i64 g),.sc (.int .i64 0)],.sc (.int .i64 0)]
  (.tu [.sc (.string (bs (if cellOk s c f r g 0 0=true then cellS s c f r g 0 0 else []))),.sc (.int .i64 (if cellOk s c f r g 0 0=true then 0 else 31))]):=by
 have hP:=placed_FS s c f hs hc hf
 have hS:Ctr Tryz.prog 105 [.sc (sysV s),.ag [.sc (.int .i64 c),.sc (.int .i64 f),.sc (.int .i64 r),.sc (.int .i64 g),.sc (.int .i64 0)],.sc (.int .i64 0)] (.tu [.sc (.string (bs (cellS s c f r g 0 0))),.sc (.bool (cellOk s c f r g 0 0))]):=yCel_FS s hs (c,f,r,g,0) 0 hc hf hr hg ⟨by show (0:Int)≤0;decide,by show (0:Int)≤15;decide⟩
 cases hp:cellOk s c f r g 0 0 with
 | true =>
  rw [hp] at hS
  rw [if_pos rfl,if_pos rfl]
  refine zqe Tryz.func55 Tryz.ntmps55 fun w0 F0=>?_;dsimp only [St.init,number,Nat.reduceAdd]
  repeat refine W.go rfl ?_
  refine (?_:WL _ _ _ _ _ _)
  refine WL.vl rfl (zqc Tryz.func104 hP) ?_
  repeat (first|refine W.gob rfl ?_|refine WL.nil ?_|refine WL.bf rfl rfl rfl zqo ?_|refine WL.nf rfl rfl rfl zqo ?_|refine WL.e1 rfl ?_|refine WL.gyes rfl rfl rfl rfl ?_|refine WL.opno rfl rfl rfl rfl rfl rfl rfl ?_|refine W.condF rfl ?_)
  refine (?_:WL _ _ _ _ _ _)
  refine WL.vl rfl (zqc Tryz.func105 hS) ?_
  repeat (first|refine W.gob rfl ?_|refine WL.nil ?_|refine WL.e1 rfl ?_|refine W.condF rfl ?_)
  refine (?_:W _ _ _ _ _)
  exact W.ret (finN rfl rfl rfl rfl)
 | false =>
  rw [hp] at hS
  rw [if_neg (by simp),if_neg (by simp)]
  refine zqe Tryz.func55 Tryz.ntmps55 fun w0 F0=>?_;dsimp only [St.init,number,Nat.reduceAdd]
  repeat refine W.go rfl ?_
  refine (?_:WL _ _ _ _ _ _)
  refine WL.vl rfl (zqc Tryz.func104 hP) ?_
  repeat (first|refine W.gob rfl ?_|refine WL.nil ?_|refine WL.bf rfl rfl rfl zqo ?_|refine WL.nf rfl rfl rfl zqo ?_|refine WL.e1 rfl ?_|refine WL.gyes rfl rfl rfl rfl ?_|refine WL.opno rfl rfl rfl rfl rfl rfl rfl ?_|refine W.condF rfl ?_)
  refine (?_:WL _ _ _ _ _ _)
  refine WL.vl rfl (zqc Tryz.func105 hS) ?_
  repeat (first|refine W.gob rfl ?_|refine WL.nil ?_|refine WL.e1 rfl ?_|refine W.condT rfl ?_)
  refine (?_:W _ _ _ _ _)
  exact W.ret (finN rfl rfl rfl rfl)
end
end Go.Proofs.YtaeelcfjkhfpkaaGreat
