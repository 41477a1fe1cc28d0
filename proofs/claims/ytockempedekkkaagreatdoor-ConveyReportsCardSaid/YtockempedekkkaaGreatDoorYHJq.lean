/- Capo of the program: the instrument, the piece. -/
import Derived.Test.YtockempedekkkaaGreatDoorYGJq
set_option maxHeartbeats 8000000
set_option maxRecDepth 100000
set_option linter.unusedVariables false
set_option linter.unusedSimpArgs false
namespace Go.Proofs.YtockempedekkkaaGreatDoor
open Go.RowKit
theorem z44i {z:Int} (h:I64 z:=by unfold I64;omega):I64 z:=h
theorem carC_FS (p:Pce) (hO:PcOk p) (h0:pceE p=0) (f:Int) (hf:0≤f∧f≤18) (cs:List (Int×Int×Bool)) (st:List Int) (hc1:cs.length≤64) (hs1:st.length≤64) :
  Ctr Tryz.prog 38 [.ag [.ls 3 (cs.map eCrs),.ls 1 (st.map eInt),.sc (.bool false),.sc .nilFunc,.fn 73 [.pr (capV p f)],.sc .nilFunc,.sc .nilFunc],ePce p]
   (.tu [ePce ⟨cs,st,fnL (ftH (capN p f)) (capN p f)⟩,.ls 3 ((lsL (capC p.cs f) (ftH (capN p f)) p.evs p.evs.length).map eLk)]) :=
 carryA (capC p.cs f) (fun _=>rfl) (fun _=>rfl) (fun _ _=>rfl) (fun _=>rfl) capC_crs cs st hc1 hs1 (capV p f) p hO h0 fun k hk=>by
  have hE:=evOk_of h0 hk
  refine movC_FS p f p.evs[k].stops (hO.n4 k hk) hO.n1 hf fun j hj=>?_
  have hS:=hE.stops _ (List.getElem_mem hj)
  exact ⟨hS.crs,hS.fret.1,hS.f18⟩
theorem moved_FS (p:Pce) (hO:PcOk p) (h0:pceE p=0) (f:Int) (hf:0≤f∧f≤18) (cs:List (Int×Int×Bool)) (st:List Int) (hc1:cs.length≤64) (hs1:st.length≤64) :
  Ctr Tryz.prog 40 [ePce p,.ag [.ls 3 (cs.map eCrs),.ls 1 (st.map eInt)],.fn 41 [.pr [.ls 3 (p.cs.map eCrs),.ls 1 (p.st.map eInt),.ls 6 (p.evs.map eEv)],.pr [.sc (.int .i64 f)]]]
   (.tu [ePce ⟨cs,st,fnL (ftH (capN p f)) (capN p f)⟩,.ls 3 ((lsL (capC p.cs f) (ftH (capN p f)) p.evs p.evs.length).map eLk)]):=by
 have hA:=pAppend_FS p hO h0
 have hC:=carC_FS p hO h0 f hf cs st hc1 hs1
 unfold capV at hC
 have hPe:ePce p=.ag [.ls 3 (p.cs.map eCrs),.ls 1 (p.st.map eInt),.ls 6 (p.evs.map eEv)]:=rfl
 rw [hPe] at hA hC ⊢
 obtain ⟨R,hR⟩:∃ z,ePce ⟨cs,st,fnL (ftH (capN p f)) (capN p f)⟩=z:=⟨_,rfl⟩
 have hRe:R=.ag [.ls 3 (cs.map eCrs),.ls 1 (st.map eInt),.ls 6 ((fnL (ftH (capN p f)) (capN p f)).map eEv)]:=hR.symm
 rw [hR] at hC ⊢
 rw [hRe] at hC ⊢
 obtain ⟨RE,hRE⟩:∃ z,(fnL (ftH (capN p f)) (capN p f)).map eEv=z:=⟨_,rfl⟩
 rw [hRE] at hC ⊢
 clear hR hRe hRE
 refine zqe Tryz.func40 Tryz.ntmps40 fun w0 F0=>?_;dsimp only [St.init,number,Nat.reduceAdd]
 repeat (first|refine W.go rfl ?_|refine WL.ev rfl ?_)
 (first|refine (?_:W _ _ _ _ _)|refine (?_:WL _ _ _ _ _ _)|skip)
 try dsimp only [St.put,Nat.reduceAdd]
 refine WL.vl rfl (WV.mkf rfl rfl) ?_
 repeat (first|refine W.go rfl ?_|refine WL.ev rfl ?_)
 (first|refine (?_:W _ _ _ _ _)|refine (?_:WL _ _ _ _ _ _)|skip)
 try dsimp only [St.put,Nat.reduceAdd]
 refine WL.tr (Tr.nilA (t:=18) 2 6 rfl rfl rfl rfl) ?_
 refine WL.vl rfl (zqc Tryz.func30 hA) ?_
 repeat (first|refine W.go rfl ?_|refine WL.ev rfl ?_)
 (first|refine (?_:W _ _ _ _ _)|refine (?_:WL _ _ _ _ _ _)|skip)
 try dsimp only [St.put,Nat.reduceAdd]
 refine WL.tr (Tr.freezeB 2 rfl rfl) ?_
 refine WL.vl rfl (zqc Tryz.func38 hC) ?_
 repeat (first|refine W.go rfl ?_|refine WL.ev rfl ?_)
 (first|refine (?_:W _ _ _ _ _)|refine (?_:WL _ _ _ _ _ _)|skip)
 try dsimp only [St.put,Nat.reduceAdd]
 exact W.ret (finN rfl rfl rfl rfl)
theorem clone_FS (cs:List (Int×Int×Bool)) (st:List Int) (h1:cs.length≤64) (h2:st.length≤64):Cto truB 0 Tryz.prog 72 [.ag [.ls 3 (cs.map eCrs),.ls 1 (st.map eInt)]] [] 0 (.ag [.sl 0,.ls 1 (st.map eInt)])
  [(0,.row 33 3 (cs.map eCrs)),(1,.box 37 [.sl 0,.ls 1 (st.map eInt)])] 2:=by
 have hc:=clnInt_FS st zqo
 have hcs:Cto truB 0 Tryz.prog 91 [.ls 3 (cs.map eCrs)] [] 0 (.sl 0) [(0,.row 33 3 (cs.map eCrs))] 1:=by
  refine Cto.intro truS Tryz.func91 rfl Tryz.ntmps91 (Nat.le_of_ble_eq_true rfl) rfl fun w0 F0 fp pg hB=>?_
  dsimp only [number,Nat.reduceAdd]
  repeat (first|refine W.go rfl ?_|refine WL.nil ?_|refine WL.ev rfl ?_|refine WL.app rfl rfl rfl zqs ?_|refine W.condT rfl ?_|refine W.condF rfl ?_)
  (first|refine (?_:W _ _ _ _ _)|refine (?_:WL _ _ _ _ _ _)|skip)
  try dsimp only [St.put,Nat.reduceAdd]
  refine WL.nlq rfl rfl fun b hb=>?_
  cases b with
  | true =>
   have e:=hb rfl
   repeat (first|refine W.go rfl ?_|refine WL.nil ?_|refine WL.ev rfl ?_|refine WL.app rfl rfl rfl zqs ?_|refine W.condT rfl ?_|refine W.condF rfl ?_)
   (first|refine (?_:W _ _ _ _ _)|refine (?_:WL _ _ _ _ _ _)|skip)
   try dsimp only [St.put,Nat.reduceAdd]
   refine W.tr (Tr.nil (t:=2) 33 3 rfl rfl) ?_
   rw [e]
   refine W.tr (σ':=⟨[(2,.sl 0)],[(0,.row 33 3 [])],1⟩) (zqt id) ?_
   exact W.ret (finM rfl rfl rfl rfl rfl)
  | false =>
   repeat (first|refine W.go rfl ?_|refine WL.nil ?_|refine WL.ev rfl ?_|refine WL.app rfl rfl rfl zqs ?_|refine W.condT rfl ?_|refine W.condF rfl ?_)
   (first|refine (?_:W _ _ _ _ _)|refine (?_:WL _ _ _ _ _ _)|skip)
   try dsimp only [St.put,Nat.reduceAdd]
   refine W.tr (σ':=⟨[(2,.sl 0)],[(0,.row 33 3 (cs.map eCrs))],1⟩) (zqu (fun q=>bif Nat.beq q 0 then 1 else q) (by repeat (first|exact trivial|refine ⟨⟨?_,?_,?_⟩,?_⟩|rfl|exact congrArg (fun q=>some (AO.row _ _ q)) (by first|rfl|(simp;done)|(simp [eInt];done)|(simp [eLk];done)))) rfl) ?_
   exact W.ret (finM rfl rfl rfl rfl rfl)
 refine Cto.intro truS Tryz.func72 rfl Tryz.ntmps72 (Nat.le_of_ble_eq_true rfl) rfl fun w0 F0 fp pg hB=>?_
 dsimp only [number,Nat.reduceAdd]
 repeat (first|refine W.go rfl ?_|refine WL.nil ?_|refine WL.ev rfl ?_|refine WL.app rfl rfl rfl zqs ?_|refine W.condT rfl ?_|refine W.condF rfl ?_)
 (first|refine (?_:W _ _ _ _ _)|refine (?_:WL _ _ _ _ _ _)|skip)
 try dsimp only [St.put,Nat.reduceAdd]
 refine W.of_wa zqk ?_
 refine WA.dt [false,false,true,false,false,false,true,true] [0] [0,1] 7 zqk zqk zqk ⟨rfl,trivial⟩ ⟨rfl,rfl,trivial⟩ ?_
 refine DTK.st rfl zqk rfl ?_
 refine DTK.st rfl zqk rfl ?_
 refine DTK.ct (truH _) [] rfl rfl (callF Tryz.func91 rfl rfl) hcs rfl rfl rfl trivial rfl rfl rfl rfl ⟨rfl,trivial⟩ (fun _=>⟨rfl,rfl,trivial⟩) ?_
 refine DTK.st rfl zqk rfl ?_
 refine DTK.st rfl zqk rfl ?_
 refine DTK.v0 rfl (zqc Tryz.func92 hc) ?_
 refine yDTK_bs rfl rfl rfl rfl rfl rfl ⟨rfl,trivial⟩ (fun _=>⟨rfl,rfl,trivial⟩) ?_
 refine DTK.sto rfl rfl rfl rfl rfl rfl rfl rfl rfl rfl rfl rfl rfl rfl ⟨rfl,trivial⟩ (fun h=>by cases h) ?_
 refine DTK.nil ?_
 repeat (first|refine W.go rfl ?_|refine WL.nil ?_|refine WL.ev rfl ?_|refine WL.app rfl rfl rfl zqs ?_|refine W.condT rfl ?_|refine W.condF rfl ?_)
 (first|refine (?_:W _ _ _ _ _)|refine (?_:WL _ _ _ _ _ _)|skip)
 try dsimp only [St.put,Nat.reduceAdd]
 refine W.tr (σ':=⟨[(2,.pt 1 0 0)],[(0,.row 33 3 (cs.map eCrs)),(1,.box 37 [.sl 0,.ls 1 (st.map eInt)])],2⟩) (zqu (fun q=>bif Nat.beq q 0 then 2 else q) (by repeat (first|exact trivial|refine ⟨⟨?_,?_,?_⟩,?_⟩|rfl|exact congrArg (fun q=>some (AO.row _ _ q)) (by first|rfl|(simp;done)|(simp [eInt];done)|(simp [eLk];done)))) rfl) ?_
 exact W.ret (finM rfl rfl rfl rfl rfl)
theorem cp_mid {cs:List (Int×Int×Bool)} {st:List Int} {f:Int} {k:Nat} (h:k<cs.length):(((cs.take k).map (cp1 st f)++cs.drop k).map eCrs)[k]?=some [.sc (.int .i64 cs[k].1),.sc (.int .i64 cs[k].2.1),.sc (.bool cs[k].2.2)]:=by
 have hl:((cs.take k).map (cp1 st f)).length=k:=by rw [List.length_map,List.length_take];omega
 rw [List.getElem?_map,List.getElem?_append_right (by omega),hl,Nat.sub_self,List.drop_eq_getElem_cons h];rfl
theorem cp_set {cs:List (Int×Int×Bool)} {st:List Int} {f:Int} {k:Nat} (h:k<cs.length):((cs.take k).map (cp1 st f)++cs.drop k).set k (cp1 st f cs[k])=(cs.take (k+1)).map (cp1 st f)++cs.drop (k+1):=by
 have hl:((cs.take k).map (cp1 st f)).length=k:=by rw [List.length_map,List.length_take];omega
 rw [List.set_append_right _ _ (by omega),hl,Nat.sub_self,List.drop_eq_getElem_cons h,List.set_cons_zero,List.take_succ_eq_append_getElem h,List.map_append,List.append_assoc];rfl
theorem cp_same {cs:List (Int×Int×Bool)} {st:List Int} {f:Int} {k:Nat} (h:k<cs.length)(h0:cs[k].2.1=0):(cs.take k).map (cp1 st f)++cs.drop k=(cs.take (k+1)).map (cp1 st f)++cs.drop (k+1):=by
 rw [List.take_succ_eq_append_getElem h,List.map_append,List.append_assoc,List.drop_eq_getElem_cons h]
 congr 1
 show _=[cp1 st f cs[k]]++_
 rw [show cp1 st f cs[k]=cs[k]from if_pos h0];rfl
theorem cp_len {cs:List (Int×Int×Bool)} {st:List Int} {f:Int} {k:Nat} (h:k≤cs.length):(((cs.take k).map (cp1 st f)++cs.drop k).map eCrs).length=cs.length:=by
 rw [List.length_map,List.length_append,List.length_map,List.length_take,List.length_drop];omega
theorem cpBad_at {cs:List (Int×Int×Bool)} {f:Int} {k:Nat} (h:k<cs.length) (h1:cs[k].2.1≠0) (h2:cs[k].2.1<f):cpBad cs f=true:=List.any_eq_true.2 ⟨cs[k],List.getElem_mem h,decide_eq_true ⟨h1,h2⟩⟩
theorem cpBad_no {cs:List (Int×Int×Bool)} {f:Int} (h:∀ k (hk:k<cs.length),¬ (cs[k].2.1≠0∧cs[k].2.1<f)):cpBad cs f=false:=by
 unfold cpBad
 rw [List.any_eq_false]
 intro x hx
 obtain⟨i,hi,rfl⟩:=List.getElem_of_mem hx
 simpa using h i hi
theorem yOfIns {P:Program} {f:FuncId} {cs:List (Int×Int×Bool)} {st:List Int} {post:List AV} {ys:List Value} {res:AV} {v:Value} (hs2:scs post=some ys) (hv:∀ F,RP F res v)
  (h:∀ w A1 A2 c1 c2,InsAt w w.heap.size A1 A2 cs st→Calls P f (.agg #[.slice A1 cs.length c1,.slice A2 st.length c2]::ys).toArray w (Ret v w)):Ctr P f (.ag (eIns cs st)::post) res:=by
 intro w F vs hF hR
 match vs,hR.1,hR.2 with
 | u::us,hlen,hR2 =>
  have r:=hR2 0 _ u rfl rfl
  obtain ⟨xs,rfl,q1,q2⟩:∃ xs:Array Value,u=.agg xs∧xs.size=2∧∀ (i:Nat) av u,(eIns cs st)[i]?=some av→xs[i]?=some u→RP F av u:=by
   cases r with|ag l cs a b=>exact ⟨cs,rfl,a,b⟩
  have g:∀ i (h:i<2),xs[i]?=some (xs[i]'(by omega)):=fun i h=>Array.getElem?_eq_getElem (by omega)
  obtain ⟨A1,c1,A2,c2,e1,e2,hI⟩:=ins_of_rp hF (q2 0 _ _ rfl (g 0 zqo)) (q2 1 _ _ rfl (g 1 zqo))
  have ex:xs=#[.slice A1 cs.length c1,.slice A2 st.length c2]:=by
   apply Array.ext (by simp [q1])
   intro i hi hi2
   match i,(show i<2 by omega) with
   | 0,_=>exact e1
   | 1,_=>exact e2
  have ey:us=ys:=scs_of (G:=⟨F,fun _=>0,fun _=>0,fun _=>undef,fun _ _=>False⟩) hs2 (by simpa using hlen) fun i av u a b=>.pu _ _ (hR2 (i+1) av u (by simpa using a) (by simpa using b))
  subst ex ey
  exact (h w A1 A2 c1 c2 hI).mono fun e w' ⟨he,hb⟩=>⟨v,F,he,hb,fun _ _ h=>h,fun p u x=>by rw [hb.cell (cell_block (hF p u x))];exact hF p u x,fun _ _ h=>.inl h,hv F⟩
theorem yCrsE_p {st:List Int}:∀ {cs:List (Int×Int×Bool)},crsE st cs=0→∀ k (h:k<cs.length),0≤cs[k].1∧cs[k].1≤127:=by
 intro cs
 induction cs with
 | nil=>intro _ k h;simp at h
 | cons x r ih =>
  intro h k hk
  unfold crsE at h
  by_cases h1:x.2.1<0∨(st.length:Int)<x.2.1
  ·rw [if_pos h1]at h;cases h
  ·rw [if_neg h1]at h
   by_cases h2:(x.1<0∨127<x.1)∨127<topOf st x
   ·rw [if_pos h2]at h;cases h
   ·rw [if_neg h2]at h
    cases k with
    | zero=>simp;omega
    | succ k=>simpa using ih h k (by simpa using hk)
theorem yInsCheck_FS (cs:List (Int×Int×Bool))(st:List Int):Ctr Tryz.prog 53 [.ag (eIns cs st)] (.sc (.int .i64 (insE cs st))) :=
 yOfIns (post:=[]) rfl (fun _=>.sc _) fun w A1 A2 c1 c2 hI=>insCheck A1 A2 cs st cs.length st.length c1 c2 w hI rfl rfl
theorem pCapI_FS (cs:List (Int×Int×Bool)) (st:List Int) (f:Int):Ctr Tryz.prog 39 [.ag [.ls 3 (cs.map eCrs),.ls 1 (st.map eInt)],.sc (.int .i64 f)]
  (.tu [.ag [.ls 3 ((cpCs cs st f).map eCrs),.ls 1 ((cpSt cs st f).map eInt)],.sc (.int .i64 (cpX cs st f))]):=by
 have hI:Ctr Tryz.prog 53 [.ag [.ls 3 (cs.map eCrs),.ls 1 (st.map eInt)]] (.sc (.int .i64 (insE cs st))):=yInsCheck_FS cs st
 have hEmp:cpX cs st f≠0→cpCs cs st f=[]∧cpSt cs st f=[]:=fun h=>⟨if_neg h,if_neg h⟩
 by_cases hi:insE cs st=0
 rotate_left
 ·have e:cpX cs st f=insE cs st:=if_pos hi
  obtain ⟨e1,e2⟩:=hEmp (by rw [e];exact hi)
  rw [e1,e2,e]
  obtain ⟨E,hE⟩:∃ z,insE cs st=z:=⟨_,rfl⟩
  rw [hE] at hI hi ⊢
  refine zqe Tryz.func39 Tryz.ntmps39 fun w0 F0=>?_;dsimp only [St.init,number,Nat.reduceAdd]
  repeat (first|refine W.go rfl ?_|refine WL.nil ?_|refine WL.gyes rfl rfl rfl rfl ?_|refine WL.opno rfl rfl rfl rfl rfl rfl rfl ?_|refine WL.ar rfl rfl z44i ?_|refine WL.len rfl rfl zql ?_|refine WL.idx rfl rfl zqo zqm ?_|refine WL.ixs rfl rfl zqs ?_|refine WL.app rfl rfl rfl zqs ?_|refine W.condT rfl ?_|refine W.condF rfl ?_)
  (first|refine (?_:W _ _ _ _ _)|refine (?_:WL _ _ _ _ _ _)|skip)
  try dsimp only [St.put,Nat.reduceAdd]
  refine WL.vl rfl (zqc Tryz.func53 hI) ?_
  repeat (first|refine W.gob rfl ?_|refine WL.nil ?_|refine WL.bt rfl rfl rfl zqo ?_|refine WL.bf rfl rfl rfl zqo ?_|refine WL.nt rfl rfl rfl zqo ?_|refine WL.nf rfl rfl rfl zqo ?_|refine WL.e1 rfl ?_|refine WL.gyes rfl rfl rfl rfl ?_|refine WL.opno rfl rfl rfl rfl rfl rfl rfl ?_|refine WL.ar rfl rfl z44i ?_|refine WL.len rfl rfl zql ?_|refine WL.idx rfl rfl zqo zqm ?_|refine WL.ixs rfl rfl zqs ?_|refine WL.app rfl rfl rfl zqs ?_|refine W.condT rfl ?_|refine W.condF rfl ?_)
  (first|refine (?_:W _ _ _ _ _)|refine (?_:WL _ _ _ _ _ _)|skip)
  try dsimp only [St.put,Nat.reduceAdd]
  refine W.tr (Tr.nilC 1 0 3 rfl rfl rfl) ?_
  refine W.tr (Tr.nilC 1 1 1 rfl rfl rfl) ?_
  exact W.ret (finN rfl rfl rfl rfl)
 rw [hi] at hI
 obtain ⟨l1,l2,l3,l4,l5⟩:=insE_len hi
 have hSl:(st.map eInt).length=st.length:=List.length_map _
 have hcl:=clone_FS cs st zqo zqo
 by_cases hr:f < 0∨(st.length:Int) < f
 ·have e:cpX cs st f=13:=by unfold cpX;rw [if_neg (fun h=>h hi),if_pos hr]
  obtain ⟨e1,e2⟩:=hEmp (by rw [e];decide)
  rw [e1,e2,e]
  have hr2:f < 0∨(¬ f < 0∧(st.length:Int) < f):=by omega
  rcases hr2 with hr2|hr2
  all_goals
   refine zqe Tryz.func39 Tryz.ntmps39 fun w0 F0=>?_;dsimp only [St.init,number,Nat.reduceAdd]
   repeat (first|refine W.go rfl ?_|refine WL.nil ?_|refine WL.gyes rfl rfl rfl rfl ?_|refine WL.opno rfl rfl rfl rfl rfl rfl rfl ?_|refine WL.ar rfl rfl z44i ?_|refine WL.len rfl rfl zql ?_|refine WL.idx rfl rfl zqo zqm ?_|refine WL.ixs rfl rfl zqs ?_|refine WL.app rfl rfl rfl zqs ?_|refine W.condT rfl ?_|refine W.condF rfl ?_)
   (first|refine (?_:W _ _ _ _ _)|refine (?_:WL _ _ _ _ _ _)|skip)
   try dsimp only [St.put,Nat.reduceAdd]
   refine WL.vl rfl (zqc Tryz.func53 hI) ?_
   repeat (first|refine W.gob rfl ?_|refine WL.nil ?_|refine WL.bt rfl rfl rfl zqo ?_|refine WL.bf rfl rfl rfl zqo ?_|refine WL.nt rfl rfl rfl zqo ?_|refine WL.nf rfl rfl rfl zqo ?_|refine WL.e1 rfl ?_|refine WL.gyes rfl rfl rfl rfl ?_|refine WL.opno rfl rfl rfl rfl rfl rfl rfl ?_|refine WL.ar rfl rfl z44i ?_|refine WL.len rfl rfl zql ?_|refine WL.idx rfl rfl zqo zqm ?_|refine WL.ixs rfl rfl zqs ?_|refine WL.app rfl rfl rfl zqs ?_|refine W.condT rfl ?_|refine W.condF rfl ?_)
   (first|refine (?_:W _ _ _ _ _)|refine (?_:WL _ _ _ _ _ _)|skip)
   try dsimp only [St.put,Nat.reduceAdd]
   refine W.tr (Tr.nilC 1 0 3 rfl rfl rfl) ?_
   refine W.tr (Tr.nilC 1 1 1 rfl rfl rfl) ?_
   exact W.ret (finN rfl rfl rfl rfl)
 by_cases hz:f=0
 ·have e:cpX cs st f=0:=by unfold cpX;rw [if_neg (fun h=>h hi),if_neg hr,if_pos hz]
  have e1:cpCs cs st f=cs:=(if_pos e).trans (if_pos hz)
  have e2:cpSt cs st f=st:=(if_pos e).trans (if_pos hz)
  rw [e1,e2,e]
  refine zqe Tryz.func39 Tryz.ntmps39 fun w0 F0=>?_;dsimp only [St.init,number,Nat.reduceAdd]
  repeat (first|refine W.go rfl ?_|refine WL.nil ?_|refine WL.gyes rfl rfl rfl rfl ?_|refine WL.opno rfl rfl rfl rfl rfl rfl rfl ?_|refine WL.ar rfl rfl z44i ?_|refine WL.len rfl rfl zql ?_|refine WL.idx rfl rfl zqo zqm ?_|refine WL.ixs rfl rfl zqs ?_|refine WL.app rfl rfl rfl zqs ?_|refine W.condT rfl ?_|refine W.condF rfl ?_)
  (first|refine (?_:W _ _ _ _ _)|refine (?_:WL _ _ _ _ _ _)|skip)
  try dsimp only [St.put,Nat.reduceAdd]
  refine WL.vl rfl (zqc Tryz.func53 hI) ?_
  repeat (first|refine W.gob rfl ?_|refine WL.nil ?_|refine WL.bt rfl rfl rfl zqo ?_|refine WL.bf rfl rfl rfl zqo ?_|refine WL.nt rfl rfl rfl zqo ?_|refine WL.nf rfl rfl rfl zqo ?_|refine WL.e1 rfl ?_|refine WL.gyes rfl rfl rfl rfl ?_|refine WL.opno rfl rfl rfl rfl rfl rfl rfl ?_|refine WL.ar rfl rfl z44i ?_|refine WL.len rfl rfl zql ?_|refine WL.idx rfl rfl zqo zqm ?_|refine WL.ixs rfl rfl zqs ?_|refine WL.app rfl rfl rfl zqs ?_|refine W.condT rfl ?_|refine W.condF rfl ?_)
  (first|refine (?_:W _ _ _ _ _)|refine (?_:WL _ _ _ _ _ _)|skip)
  try dsimp only [St.put,Nat.reduceAdd]
  refine WL.cto (truH _) [] rfl rfl (callF Tryz.func72 rfl rfl) hcl rfl rfl rfl trivial rfl rfl rfl rfl ?_
  repeat (first|refine W.gob rfl ?_|refine WL.nil ?_|refine WL.bt rfl rfl rfl zqo ?_|refine WL.bf rfl rfl rfl zqo ?_|refine WL.nt rfl rfl rfl zqo ?_|refine WL.nf rfl rfl rfl zqo ?_|refine WL.e1 rfl ?_|refine WL.gyes rfl rfl rfl rfl ?_|refine WL.opno rfl rfl rfl rfl rfl rfl rfl ?_|refine WL.ar rfl rfl z44i ?_|refine WL.len rfl rfl zql ?_|refine WL.idx rfl rfl zqo zqm ?_|refine WL.ixs rfl rfl zqs ?_|refine WL.app rfl rfl rfl zqs ?_|refine W.condT rfl ?_|refine W.condF rfl ?_)
  (first|refine (?_:W _ _ _ _ _)|refine (?_:WL _ _ _ _ _ _)|skip)
  try dsimp only [St.put,Nat.reduceAdd]
  refine W.tr (Tr.freeze 2 rfl) ?_
  exact W.ret (finN rfl rfl rfl rfl)
 have hf1:1≤f∧f≤st.length:=by omega
 obtain ⟨hk0,hstep,hs1,hs2⟩:=cpS_bd hi hf1.1 hf1.2
 have hstA:(st.map eInt)[(f - 1).toNat]?=some [.sc (.int .i64 (cpS st f))]:=by rw [List.getElem?_map,hstep];rfl
 have hcb:=crsE_fr l5
 have hcp:=yCrsE_p l5
 have hXc:cpX cs st f=if cpBad cs f=true then 13 else 0:=by unfold cpX;rw [if_neg (fun h=>h hi),if_neg hr,if_neg hz]
 have hpr:prt (st.map eInt) f st.length=(st.drop f.toNat).map eInt:=by
  unfold prt
  rw [Int.toNat_natCast,List.take_of_length_le (by rw [List.length_map];omega),List.map_drop]
 have hdl:((st.drop f.toNat).map eInt).length=(st.drop f.toNat).length:=List.length_map _
 have hsteps:∀ k (h:k < (st.drop f.toNat).length),1≤(st.drop f.toNat)[k]∧(st.drop f.toNat)[k]≤127:=fun k h=>by
  rw [List.getElem_drop]
  exact stepsBad_bd zqo l4 _ _
 have hcap1:∀ k (hk:k < cs.length),cs[k].2.1≠0→cp1 st f cs[k]=(cs[k].1+cpS st f,cs[k].2.1 - f,cs[k].2.2):=fun k hk h=>if_neg h
 have hCset:=fun k (hk:k < cs.length)=>cp_set (cs:=cs) (st:=st) (f:=f) hk
 have hCsame:=fun k (hk:k < cs.length) h=>cp_same (cs:=cs) (st:=st) (f:=f) (k:=k) hk h
 obtain ⟨S,hS⟩:∃ z,cpS st f=z:=⟨_,rfl⟩
 rw [hS] at hs1 hs2 hstA hcap1
 obtain ⟨ST,hST⟩:∃ z,st.map eInt=z:=⟨_,rfl⟩
 rw [hST] at hI hcl hstA hSl hpr ⊢
 refine zqe Tryz.func39 Tryz.ntmps39 fun w0 F0=>?_;dsimp only [St.init,number,Nat.reduceAdd]
 repeat (first|refine W.go rfl ?_|refine WL.nil ?_|refine WL.gyes rfl rfl rfl rfl ?_|refine WL.opno rfl rfl rfl rfl rfl rfl rfl ?_|refine WL.ar rfl rfl z44i ?_|refine WL.len rfl rfl zql ?_|refine WL.idx rfl rfl zqo zqm ?_|refine WL.ixs rfl rfl zqs ?_|refine WL.app rfl rfl rfl zqs ?_|refine W.condT rfl ?_|refine W.condF rfl ?_)
 (first|refine (?_:W _ _ _ _ _)|refine (?_:WL _ _ _ _ _ _)|skip)
 try dsimp only [St.put,Nat.reduceAdd]
 refine WL.vl rfl (zqc Tryz.func53 hI) ?_
 repeat (first|refine W.gob rfl ?_|refine WL.nil ?_|refine WL.bt rfl rfl rfl zqo ?_|refine WL.bf rfl rfl rfl zqo ?_|refine WL.nt rfl rfl rfl zqo ?_|refine WL.nf rfl rfl rfl zqo ?_|refine WL.e1 rfl ?_|refine WL.gyes rfl rfl rfl rfl ?_|refine WL.opno rfl rfl rfl rfl rfl rfl rfl ?_|refine WL.ar rfl rfl z44i ?_|refine WL.len rfl rfl zql ?_|refine WL.idx rfl rfl zqo zqm ?_|refine WL.ixs rfl rfl zqs ?_|refine WL.app rfl rfl rfl zqs ?_|refine W.condT rfl ?_|refine W.condF rfl ?_)
 (first|refine (?_:W _ _ _ _ _)|refine (?_:WL _ _ _ _ _ _)|skip)
 try dsimp only [St.put,Nat.reduceAdd]
 refine WL.cto (truH _) [] rfl rfl (callF Tryz.func72 rfl rfl) hcl rfl rfl rfl trivial rfl rfl rfl rfl ?_
 repeat (first|refine W.gob rfl ?_|refine WL.nil ?_|refine WL.bt rfl rfl rfl zqo ?_|refine WL.bf rfl rfl rfl zqo ?_|refine WL.nt rfl rfl rfl zqo ?_|refine WL.nf rfl rfl rfl zqo ?_|refine WL.e1 rfl ?_|refine WL.gyes rfl rfl rfl rfl ?_|refine WL.opno rfl rfl rfl rfl rfl rfl rfl ?_|refine WL.ar rfl rfl z44i ?_|refine WL.len rfl rfl zql ?_|refine WL.idx rfl rfl zqo zqm ?_|refine WL.ixs rfl rfl zqs ?_|refine WL.app rfl rfl rfl zqs ?_|refine W.condT rfl ?_|refine W.condF rfl ?_)
 (first|refine (?_:W _ _ _ _ _)|refine (?_:WL _ _ _ _ _ _)|skip)
 try dsimp only [St.put,Nat.reduceAdd]
 refine WL.idx rfl rfl zqo hstA ?_
 repeat (first|refine W.gob rfl ?_|refine WL.nil ?_|refine WL.bt rfl rfl rfl zqo ?_|refine WL.bf rfl rfl rfl zqo ?_|refine WL.nt rfl rfl rfl zqo ?_|refine WL.nf rfl rfl rfl zqo ?_|refine WL.e1 rfl ?_|refine WL.gyes rfl rfl rfl rfl ?_|refine WL.opno rfl rfl rfl rfl rfl rfl rfl ?_|refine WL.ar rfl rfl z44i ?_|refine WL.len rfl rfl zql ?_|refine WL.idx rfl rfl zqo zqm ?_|refine WL.ixs rfl rfl zqs ?_|refine WL.app rfl rfl rfl zqs ?_|refine W.condT rfl ?_|refine W.condF rfl ?_)
 (first|refine (?_:W _ _ _ _ _)|refine (?_:WL _ _ _ _ _ _)|skip)
 try dsimp only [St.put,Nat.reduceAdd]
 refine W.loop (fun k:Nat=>k≤cs.length∧∀ i (hi:i < cs.length),i < k→¬ (cs[i].2.1≠0∧cs[i].2.1 < f)) (fun k=>⟨[(1,.sc (.int .i64 f)),(2,.pt 0 0 0),(4,.pt 1 0 0),(7,.pt 3 0 0),(8,.sc (.int .i64 S)),(42,.sc (.int .i64 cs.length)),(43,.sc (.int .i64 k))],[(0,.box 37 [.ls 3 (cs.map eCrs),.ls 1 ST]),(1,.box 37 [.sc (.slice none 0 0),.sc (.slice none 0 0)]),(2,.row 33 3 (((cs.take k).map (cp1 st f)++cs.drop k).map eCrs)),(3,.box 37 [.sl 2,.ls 1 ST])],4⟩) (fun k=>cs.length - k) 0 ⟨by omega,fun i _ h=>absurd h (Nat.not_lt_zero _)⟩ (zqu (fun q=>bif Nat.beq q 3 then 4 else q) (by repeat (first|exact trivial|refine ⟨⟨?_,?_,?_⟩,?_⟩|rfl|exact congrArg (fun q=>some (AO.row _ _ q)) (by simp))) rfl) fun k hk=>?_
 obtain ⟨hk,hno⟩:=hk
 have hRl:=cp_len (cs:=cs) (st:=st) (f:=f) hk
 by_cases hlt:k < cs.length
 ·have hrow:=cp_mid (st:=st) (f:=f) hlt
  have hb1:=hcb k hlt
  have hb2:=hcp k hlt
  have hset:=hCset k hlt
  have hsame:=hCsame k hlt
  have hc1:=hcap1 k hlt
  have hbad:=cpBad_at (cs:=cs) (f:=f) hlt
  have hnext:¬ (cs[k].2.1≠0∧cs[k].2.1 < f)→∀ i (hi:i < cs.length),i < k+1→¬ (cs[i].2.1≠0∧cs[i].2.1 < f):=fun h i hi hik=>by
   by_cases e:i=k
   ·subst e;exact h
   ·exact hno i hi zqo
  obtain ⟨L,hL⟩:∃ z,(cs.take k).map (cp1 st f)++cs.drop k=z:=⟨_,rfl⟩
  rw [hL] at hRl hrow hset hsame ⊢
  obtain ⟨X,hX⟩:∃ z,cs[k]=z:=⟨_,rfl⟩
  rw [hX] at hrow hb1 hb2 hset hsame hc1 hbad hnext
  clear hno hcb hcp hcap1 hCset hCsame hsteps
  by_cases h0:X.2.1=0
  ·have hs2:=congrArg (List.map eCrs) (hsame h0)
   have hn2:=hnext (fun h=>h.1 h0)
   clear hset hc1 hbad hnext hsame
   repeat (first|refine WL.vl rfl (WV.nch rfl rfl) ?_|refine W.gob rfl ?_|refine WL.nil ?_|refine WL.bt rfl rfl rfl zqo ?_|refine WL.bf rfl rfl rfl zqo ?_|refine WL.nt rfl rfl rfl zqo ?_|refine WL.nf rfl rfl rfl zqo ?_|refine WL.e1 rfl ?_|refine WL.gyes rfl rfl rfl rfl ?_|refine WL.opno rfl rfl rfl rfl rfl rfl rfl ?_|refine WL.ar rfl rfl z44i ?_|refine WL.len rfl rfl zql ?_|refine WL.idx rfl rfl zqo zqm ?_|refine WL.ixs rfl rfl zqs ?_|refine WL.app rfl rfl rfl zqs ?_|refine W.condT rfl ?_|refine W.condF rfl ?_)
   (first|refine (?_:W _ _ _ _ _)|refine (?_:WL _ _ _ _ _ _)|skip)
   try dsimp only [St.put,Nat.reduceAdd]
   refine WL.ldr rfl rfl hrow rfl rfl ?_
   repeat (first|refine WL.vl rfl (WV.nch rfl rfl) ?_|refine W.gob rfl ?_|refine WL.nil ?_|refine WL.bt rfl rfl rfl zqo ?_|refine WL.bf rfl rfl rfl zqo ?_|refine WL.nt rfl rfl rfl zqo ?_|refine WL.nf rfl rfl rfl zqo ?_|refine WL.e1 rfl ?_|refine WL.gyes rfl rfl rfl rfl ?_|refine WL.opno rfl rfl rfl rfl rfl rfl rfl ?_|refine WL.ar rfl rfl z44i ?_|refine WL.len rfl rfl zql ?_|refine WL.idx rfl rfl zqo zqm ?_|refine WL.ixs rfl rfl zqs ?_|refine WL.app rfl rfl rfl zqs ?_|refine W.condT rfl ?_|refine W.condF rfl ?_)
   (first|refine (?_:W _ _ _ _ _)|refine (?_:WL _ _ _ _ _ _)|skip)
   try dsimp only [St.put,Nat.reduceAdd]
   exact ⟨k+1,⟨by omega,hn2⟩,by omega,(zqu (fun q=>q) (by repeat (first|exact trivial|refine ⟨⟨?_,?_,?_⟩,?_⟩|rfl|exact congrArg (fun q=>some (AO.row _ _ q)) hs2)) rfl)⟩
  ·by_cases hlf:X.2.1 < f
   ·have e:cpX cs st f=13:=hXc.trans (if_pos (hbad h0 hlf))
    obtain ⟨e1,e2⟩:=hEmp (by rw [e];decide)
    rw [e1,e2,e]
    clear hset hc1 hbad hnext hsame
    repeat (first|refine WL.vl rfl (WV.nch rfl rfl) ?_|refine W.gob rfl ?_|refine WL.nil ?_|refine WL.bt rfl rfl rfl zqo ?_|refine WL.bf rfl rfl rfl zqo ?_|refine WL.nt rfl rfl rfl zqo ?_|refine WL.nf rfl rfl rfl zqo ?_|refine WL.e1 rfl ?_|refine WL.gyes rfl rfl rfl rfl ?_|refine WL.opno rfl rfl rfl rfl rfl rfl rfl ?_|refine WL.ar rfl rfl z44i ?_|refine WL.len rfl rfl zql ?_|refine WL.idx rfl rfl zqo zqm ?_|refine WL.ixs rfl rfl zqs ?_|refine WL.app rfl rfl rfl zqs ?_|refine W.condT rfl ?_|refine W.condF rfl ?_)
    (first|refine (?_:W _ _ _ _ _)|refine (?_:WL _ _ _ _ _ _)|skip)
    try dsimp only [St.put,Nat.reduceAdd]
    refine WL.ldr rfl rfl hrow rfl rfl ?_
    repeat (first|refine WL.vl rfl (WV.nch rfl rfl) ?_|refine W.gob rfl ?_|refine WL.nil ?_|refine WL.bt rfl rfl rfl zqo ?_|refine WL.bf rfl rfl rfl zqo ?_|refine WL.nt rfl rfl rfl zqo ?_|refine WL.nf rfl rfl rfl zqo ?_|refine WL.e1 rfl ?_|refine WL.gyes rfl rfl rfl rfl ?_|refine WL.opno rfl rfl rfl rfl rfl rfl rfl ?_|refine WL.ar rfl rfl z44i ?_|refine WL.len rfl rfl zql ?_|refine WL.idx rfl rfl zqo zqm ?_|refine WL.ixs rfl rfl zqs ?_|refine WL.app rfl rfl rfl zqs ?_|refine W.condT rfl ?_|refine W.condF rfl ?_)
    (first|refine (?_:W _ _ _ _ _)|refine (?_:WL _ _ _ _ _ _)|skip)
    try dsimp only [St.put,Nat.reduceAdd]
    refine WL.ldr rfl rfl hrow rfl rfl ?_
    repeat (first|refine WL.vl rfl (WV.nch rfl rfl) ?_|refine W.gob rfl ?_|refine WL.nil ?_|refine WL.bt rfl rfl rfl zqo ?_|refine WL.bf rfl rfl rfl zqo ?_|refine WL.nt rfl rfl rfl zqo ?_|refine WL.nf rfl rfl rfl zqo ?_|refine WL.e1 rfl ?_|refine WL.gyes rfl rfl rfl rfl ?_|refine WL.opno rfl rfl rfl rfl rfl rfl rfl ?_|refine WL.ar rfl rfl z44i ?_|refine WL.len rfl rfl zql ?_|refine WL.idx rfl rfl zqo zqm ?_|refine WL.ixs rfl rfl zqs ?_|refine WL.app rfl rfl rfl zqs ?_|refine W.condT rfl ?_|refine W.condF rfl ?_)
    (first|refine (?_:W _ _ _ _ _)|refine (?_:WL _ _ _ _ _ _)|skip)
    try dsimp only [St.put,Nat.reduceAdd]
    refine W.tr (Tr.nilC 1 0 3 rfl rfl rfl) ?_
    refine W.tr (Tr.nilC 1 1 1 rfl rfl rfl) ?_
    exact W.ret (finN rfl rfl rfl rfl)
   ·have hn2:=hnext (fun h=>hlf h.2)
    have hfin:=hset
    rw [hc1 h0] at hfin
    have hfin:=congrArg (List.map eCrs) hfin
    rw [List.map_set] at hfin
    clear hset hc1 hbad hnext hsame
    repeat (first|refine WL.vl rfl (WV.nch rfl rfl) ?_|refine W.gob rfl ?_|refine WL.nil ?_|refine WL.bt rfl rfl rfl zqo ?_|refine WL.bf rfl rfl rfl zqo ?_|refine WL.nt rfl rfl rfl zqo ?_|refine WL.nf rfl rfl rfl zqo ?_|refine WL.e1 rfl ?_|refine WL.gyes rfl rfl rfl rfl ?_|refine WL.opno rfl rfl rfl rfl rfl rfl rfl ?_|refine WL.ar rfl rfl z44i ?_|refine WL.len rfl rfl zql ?_|refine WL.idx rfl rfl zqo zqm ?_|refine WL.ixs rfl rfl zqs ?_|refine WL.app rfl rfl rfl zqs ?_|refine W.condT rfl ?_|refine W.condF rfl ?_)
    (first|refine (?_:W _ _ _ _ _)|refine (?_:WL _ _ _ _ _ _)|skip)
    try dsimp only [St.put,Nat.reduceAdd]
    refine WL.ldr rfl rfl hrow rfl rfl ?_
    repeat (first|refine WL.vl rfl (WV.nch rfl rfl) ?_|refine W.gob rfl ?_|refine WL.nil ?_|refine WL.bt rfl rfl rfl zqo ?_|refine WL.bf rfl rfl rfl zqo ?_|refine WL.nt rfl rfl rfl zqo ?_|refine WL.nf rfl rfl rfl zqo ?_|refine WL.e1 rfl ?_|refine WL.gyes rfl rfl rfl rfl ?_|refine WL.opno rfl rfl rfl rfl rfl rfl rfl ?_|refine WL.ar rfl rfl z44i ?_|refine WL.len rfl rfl zql ?_|refine WL.idx rfl rfl zqo zqm ?_|refine WL.ixs rfl rfl zqs ?_|refine WL.app rfl rfl rfl zqs ?_|refine W.condT rfl ?_|refine W.condF rfl ?_)
    (first|refine (?_:W _ _ _ _ _)|refine (?_:WL _ _ _ _ _ _)|skip)
    try dsimp only [St.put,Nat.reduceAdd]
    refine WL.ldr rfl rfl hrow rfl rfl ?_
    repeat (first|refine WL.vl rfl (WV.nch rfl rfl) ?_|refine W.gob rfl ?_|refine WL.nil ?_|refine WL.bt rfl rfl rfl zqo ?_|refine WL.bf rfl rfl rfl zqo ?_|refine WL.nt rfl rfl rfl zqo ?_|refine WL.nf rfl rfl rfl zqo ?_|refine WL.e1 rfl ?_|refine WL.gyes rfl rfl rfl rfl ?_|refine WL.opno rfl rfl rfl rfl rfl rfl rfl ?_|refine WL.ar rfl rfl z44i ?_|refine WL.len rfl rfl zql ?_|refine WL.idx rfl rfl zqo zqm ?_|refine WL.ixs rfl rfl zqs ?_|refine WL.app rfl rfl rfl zqs ?_|refine W.condT rfl ?_|refine W.condF rfl ?_)
    (first|refine (?_:W _ _ _ _ _)|refine (?_:WL _ _ _ _ _ _)|skip)
    try dsimp only [St.put,Nat.reduceAdd]
    refine WL.ldr rfl rfl hrow rfl rfl ?_
    repeat (first|refine WL.vl rfl (WV.nch rfl rfl) ?_|refine W.gob rfl ?_|refine WL.nil ?_|refine WL.bt rfl rfl rfl zqo ?_|refine WL.bf rfl rfl rfl zqo ?_|refine WL.nt rfl rfl rfl zqo ?_|refine WL.nf rfl rfl rfl zqo ?_|refine WL.e1 rfl ?_|refine WL.gyes rfl rfl rfl rfl ?_|refine WL.opno rfl rfl rfl rfl rfl rfl rfl ?_|refine WL.ar rfl rfl z44i ?_|refine WL.len rfl rfl zql ?_|refine WL.idx rfl rfl zqo zqm ?_|refine WL.ixs rfl rfl zqs ?_|refine WL.app rfl rfl rfl zqs ?_|refine W.condT rfl ?_|refine W.condF rfl ?_)
    (first|refine (?_:W _ _ _ _ _)|refine (?_:WL _ _ _ _ _ _)|skip)
    try dsimp only [St.put,Nat.reduceAdd]
    refine WL.sto rfl rfl rfl rfl hrow (by show 1+1≤3;omega) ?_
    dsimp only [AV.cells]
    rw [Int.toNat_natCast]
    obtain ⟨R7,hR7⟩:∃ z,(L.map eCrs).set k (putL 1 [.sc (.int .i64 (X.2.1 - f))] [.sc (.int .i64 X.1),.sc (.int .i64 X.2.1),.sc (.bool X.2.2)])=z:=⟨_,rfl⟩
    rw [hR7]
    have hkl:k < (L.map eCrs).length:=by rw [hRl];exact hlt
    have hrow7:R7[k]?=some [.sc (.int .i64 X.1),.sc (.int .i64 (X.2.1 - f)),.sc (.bool X.2.2)]:=by rw [← hR7];exact List.getElem?_set_self hkl
    have hR7l:R7.length=cs.length:=by rw [← hR7,List.length_set];exact hRl
    have hfin7:R7.set k (putL 0 [.sc (.int .i64 (X.1+S))] [.sc (.int .i64 X.1),.sc (.int .i64 (X.2.1 - f)),.sc (.bool X.2.2)])=((cs.take (k+1)).map (cp1 st f)++cs.drop (k+1)).map eCrs:=by
     rw [← hR7,List.set_set];exact hfin
    clear hfin hR7 hrow
    repeat (first|refine WL.vl rfl (WV.nch rfl rfl) ?_|refine W.gob rfl ?_|refine WL.nil ?_|refine WL.bt rfl rfl rfl zqo ?_|refine WL.bf rfl rfl rfl zqo ?_|refine WL.nt rfl rfl rfl zqo ?_|refine WL.nf rfl rfl rfl zqo ?_|refine WL.e1 rfl ?_|refine WL.gyes rfl rfl rfl rfl ?_|refine WL.opno rfl rfl rfl rfl rfl rfl rfl ?_|refine WL.ar rfl rfl z44i ?_|refine WL.len rfl rfl zql ?_|refine WL.idx rfl rfl zqo zqm ?_|refine WL.ixs rfl rfl zqs ?_|refine WL.app rfl rfl rfl zqs ?_|refine W.condT rfl ?_|refine W.condF rfl ?_)
    (first|refine (?_:W _ _ _ _ _)|refine (?_:WL _ _ _ _ _ _)|skip)
    try dsimp only [St.put,Nat.reduceAdd]
    refine WL.ldr rfl rfl hrow7 rfl rfl ?_
    repeat (first|refine WL.vl rfl (WV.nch rfl rfl) ?_|refine W.gob rfl ?_|refine WL.nil ?_|refine WL.bt rfl rfl rfl zqo ?_|refine WL.bf rfl rfl rfl zqo ?_|refine WL.nt rfl rfl rfl zqo ?_|refine WL.nf rfl rfl rfl zqo ?_|refine WL.e1 rfl ?_|refine WL.gyes rfl rfl rfl rfl ?_|refine WL.opno rfl rfl rfl rfl rfl rfl rfl ?_|refine WL.ar rfl rfl z44i ?_|refine WL.len rfl rfl zql ?_|refine WL.idx rfl rfl zqo zqm ?_|refine WL.ixs rfl rfl zqs ?_|refine WL.app rfl rfl rfl zqs ?_|refine W.condT rfl ?_|refine W.condF rfl ?_)
    (first|refine (?_:W _ _ _ _ _)|refine (?_:WL _ _ _ _ _ _)|skip)
    try dsimp only [St.put,Nat.reduceAdd]
    refine WL.sto rfl rfl rfl rfl hrow7 (by show 0+1≤3;omega) ?_
    dsimp only [AV.cells]
    rw [hfin7]
    repeat (first|refine WL.vl rfl (WV.nch rfl rfl) ?_|refine W.gob rfl ?_|refine WL.nil ?_|refine WL.bt rfl rfl rfl zqo ?_|refine WL.bf rfl rfl rfl zqo ?_|refine WL.nt rfl rfl rfl zqo ?_|refine WL.nf rfl rfl rfl zqo ?_|refine WL.e1 rfl ?_|refine WL.gyes rfl rfl rfl rfl ?_|refine WL.opno rfl rfl rfl rfl rfl rfl rfl ?_|refine WL.ar rfl rfl z44i ?_|refine WL.len rfl rfl zql ?_|refine WL.idx rfl rfl zqo zqm ?_|refine WL.ixs rfl rfl zqs ?_|refine WL.app rfl rfl rfl zqs ?_|refine W.condT rfl ?_|refine W.condF rfl ?_)
    (first|refine (?_:W _ _ _ _ _)|refine (?_:WL _ _ _ _ _ _)|skip)
    try dsimp only [St.put,Nat.reduceAdd]
    exact ⟨k+1,⟨by omega,hn2⟩,by omega,(zqt id)⟩
 obtain rfl:k=cs.length:=by omega
 have hb0:cpBad cs f=false:=cpBad_no fun i hi=>hno i hi hi
 have e:cpX cs st f=0:=hXc.trans (if_neg (by rw [hb0];simp))
 have e1:cpCs cs st f=cs.map (cp1 st f):=(if_pos e).trans (if_neg hz)
 have e2:cpSt cs st f=(st.drop f.toNat).map fun x=>x - S:=by rw [← hS];exact (if_pos e).trans (if_neg hz)
 rw [e1,e2,e,List.take_length,List.drop_length,List.append_nil]
 have hpr2:prt ST f (ST.length:Int)=(st.drop f.toNat).map eInt:=by rw [hSl];exact hpr
 have hdl2:(st.drop f.toNat).length≤18:=by rw [List.length_drop];omega
 clear hno hcb hcp hcap1 hCset hCsame e1 e2 hRl hpr hXc
 repeat (first|refine WL.vl rfl (WV.nch rfl rfl) ?_|refine W.gob rfl ?_|refine WL.nil ?_|refine WL.bt rfl rfl rfl zqo ?_|refine WL.bf rfl rfl rfl zqo ?_|refine WL.nt rfl rfl rfl zqo ?_|refine WL.nf rfl rfl rfl zqo ?_|refine WL.e1 rfl ?_|refine WL.gyes rfl rfl rfl rfl ?_|refine WL.opno rfl rfl rfl rfl rfl rfl rfl ?_|refine WL.ar rfl rfl z44i ?_|refine WL.len rfl rfl zql ?_|refine WL.idx rfl rfl zqo zqm ?_|refine WL.ixs rfl rfl zqs ?_|refine WL.app rfl rfl rfl zqs ?_|refine W.condT rfl ?_|refine W.condF rfl ?_)
 (first|refine (?_:W _ _ _ _ _)|refine (?_:WL _ _ _ _ _ _)|skip)
 try dsimp only [St.put,Nat.reduceAdd]
 refine WL.part_ rfl rfl ⟨by omega,by omega,Int.le_refl _⟩ hpr2 ?_
 obtain ⟨DL,hDL⟩:∃ z,st.drop f.toNat=z:=⟨_,rfl⟩
 rw [hDL] at hdl hdl2 hsteps ⊢
 repeat (first|refine WL.vl rfl (WV.nch rfl rfl) ?_|refine W.gob rfl ?_|refine WL.nil ?_|refine WL.bt rfl rfl rfl zqo ?_|refine WL.bf rfl rfl rfl zqo ?_|refine WL.nt rfl rfl rfl zqo ?_|refine WL.nf rfl rfl rfl zqo ?_|refine WL.e1 rfl ?_|refine WL.gyes rfl rfl rfl rfl ?_|refine WL.opno rfl rfl rfl rfl rfl rfl rfl ?_|refine WL.ar rfl rfl z44i ?_|refine WL.len rfl rfl zql ?_|refine WL.idx rfl rfl zqo zqm ?_|refine WL.ixs rfl rfl zqs ?_|refine WL.app rfl rfl rfl zqs ?_|refine W.condT rfl ?_|refine W.condF rfl ?_)
 (first|refine (?_:W _ _ _ _ _)|refine (?_:WL _ _ _ _ _ _)|skip)
 try dsimp only [St.put,Nat.reduceAdd]
 refine W.tr (Tr.nilBox (k:=3) (j:=1) 3 1 rfl rfl rfl rfl) ?_
 dsimp only [St.put,St.new,St.upd,Nat.reduceAdd]
 refine W.loop (fun k:Nat=>k≤DL.length) (fun k=>⟨[(4,.pt 1 0 0),(7,.pt 3 0 0),(8,.sc (.int .i64 S)),(83,.ls 1 (DL.map eInt)),(84,.sc (.int .i64 DL.length)),(85,.sc (.int .i64 k))],[(1,.box 37 [.sc (.slice none 0 0),.sc (.slice none 0 0)]),(2,.row 33 3 ((cs.map (cp1 st f)).map eCrs)),(3,.box 37 [.sl 2,.sl 4]),(4,.row 3 1 (((DL.take k).map fun x=>x - S).map eInt))],5⟩) (fun k=>DL.length - k) 0 zqo (zqt id) fun k hk=>?_
 by_cases hlt:k < DL.length
 ·have hb:=hsteps k hlt
  have hrow:((DL.take k).map fun x=>x - S).map eInt++[eInt (DL[k] - S)]=((DL.take (k+1)).map fun x=>x - S).map eInt:=by
   rw [List.take_succ_eq_append_getElem hlt,List.map_append,List.map_append];rfl
  have hl:(((DL.take k).map fun x=>x - S).map eInt).length=k:=by rw [List.length_map,List.length_map,List.length_take];omega
  obtain ⟨R,hR⟩:∃ z,((DL.take k).map fun x=>x - S).map eInt=z:=⟨_,rfl⟩
  rw [hR] at hrow hl ⊢
  clear hsteps
  repeat (first|refine WL.vl rfl (WV.nch rfl rfl) ?_|refine W.gob rfl ?_|refine WL.nil ?_|refine WL.bt rfl rfl rfl zqo ?_|refine WL.bf rfl rfl rfl zqo ?_|refine WL.nt rfl rfl rfl zqo ?_|refine WL.nf rfl rfl rfl zqo ?_|refine WL.e1 rfl ?_|refine WL.gyes rfl rfl rfl rfl ?_|refine WL.opno rfl rfl rfl rfl rfl rfl rfl ?_|refine WL.ar rfl rfl z44i ?_|refine WL.len rfl rfl zql ?_|refine WL.idx rfl rfl zqo zqm ?_|refine WL.ixs rfl rfl zqs ?_|refine WL.app rfl rfl rfl zqs ?_|refine W.condT rfl ?_|refine W.condF rfl ?_)
  (first|refine (?_:W _ _ _ _ _)|refine (?_:WL _ _ _ _ _ _)|skip)
  try dsimp only [St.put,Nat.reduceAdd]
  exact ⟨k+1,by omega,by omega,(zqu (fun q=>bif Nat.beq q 4 then 6 else q) (by repeat (first|exact trivial|refine ⟨⟨?_,?_,?_⟩,?_⟩|rfl|exact congrArg (fun q=>some (AO.row _ _ q)) hrow)) rfl)⟩
 ·obtain rfl:k=DL.length:=by omega
  rw [List.take_length]
  repeat (first|refine WL.vl rfl (WV.nch rfl rfl) ?_|refine W.gob rfl ?_|refine WL.nil ?_|refine WL.bt rfl rfl rfl zqo ?_|refine WL.bf rfl rfl rfl zqo ?_|refine WL.nt rfl rfl rfl zqo ?_|refine WL.nf rfl rfl rfl zqo ?_|refine WL.e1 rfl ?_|refine WL.gyes rfl rfl rfl rfl ?_|refine WL.opno rfl rfl rfl rfl rfl rfl rfl ?_|refine WL.ar rfl rfl z44i ?_|refine WL.len rfl rfl zql ?_|refine WL.idx rfl rfl zqo zqm ?_|refine WL.ixs rfl rfl zqs ?_|refine WL.app rfl rfl rfl zqs ?_|refine W.condT rfl ?_|refine W.condF rfl ?_)
  (first|refine (?_:W _ _ _ _ _)|refine (?_:WL _ _ _ _ _ _)|skip)
  try dsimp only [St.put,Nat.reduceAdd]
  refine W.tr (Tr.freeze 2 rfl) ?_
  refine W.tr (Tr.freeze 4 rfl) ?_
  exact W.ret (finN rfl rfl rfl rfl)
theorem cp_bd {cs:List (Int×Int×Bool)} {st:List Int} {f:Int} (h:cpX cs st f=0):0≤f∧f≤18:=by
 unfold cpX at h
 by_cases h1:insE cs st≠0
 ·rw [if_pos h1]at h;exact absurd h h1
 ·rw [if_neg h1]at h
  by_cases h2:f<0∨(st.length:Int)<f
  ·rw [if_pos h2]at h;cases h
  ·obtain⟨_,_,l3,_⟩:=insE_len (Decidable.not_not.1 h1)
   omega
theorem pCapo_FS (p:Pce) (hO:PcOk p) (f:Int):Ctr Tryz.prog 12 [ePce p,.sc (.int .i64 f)] (.tu [ePce (capP p f),.ls 3 ((capL p f).map eLk),.sc (.int .i64 (capE p f))]):=by
 have hC:=pCheck_FS p hO
 have hPe:ePce p=.ag [.ls 3 (p.cs.map eCrs),.ls 1 (p.st.map eInt),.ls 6 (p.evs.map eEv)]:=rfl
 have hbad:capE p f≠0→ePce (capP p f)=.ag [.ls 3 [],.ls 1 [],.ls 6 []]∧capL p f=[]:=fun h=>⟨by rw [show capP p f=noP from if_neg h];rfl,if_neg h⟩
 have hI:=pCapI_FS p.cs p.st f
 by_cases h0:pceE p=0
 rotate_left
 ·have e:capE p f=pceE p:=if_pos h0
  obtain ⟨e1,e2⟩:=hbad (by rw [e];exact h0)
  rw [e1,e2,e]
  obtain ⟨E,hE⟩:∃ z,pceE p=z:=⟨_,rfl⟩
  rw [hE] at hC h0 ⊢
  rw [hPe] at hC ⊢
  refine zqe Tryz.func12 Tryz.ntmps12 fun w0 F0=>?_;dsimp only [St.init,number,Nat.reduceAdd]
  repeat (first|refine W.go rfl ?_|refine WL.nil ?_|refine WL.ev rfl ?_|refine W.condT rfl ?_|refine W.condF rfl ?_)
  (first|refine (?_:W _ _ _ _ _)|refine (?_:WL _ _ _ _ _ _)|skip)
  try dsimp only [St.put,Nat.reduceAdd]
  refine WL.vl rfl (zqc Tryz.func26 hC) ?_
  repeat (first|refine W.gob rfl ?_|refine WL.nil ?_|refine WL.nt rfl rfl rfl zqo ?_|refine WL.nf rfl rfl rfl zqo ?_|refine WL.e1 rfl ?_|refine W.condT rfl ?_|refine W.condF rfl ?_)
  (first|refine (?_:W _ _ _ _ _)|refine (?_:WL _ _ _ _ _ _)|skip)
  try dsimp only [St.put,Nat.reduceAdd]
  refine W.tr (Tr.nilC 2 0 3 rfl rfl rfl) ?_
  refine W.tr (Tr.nilC 2 1 1 rfl rfl rfl) ?_
  refine W.tr (Tr.nilC 2 2 6 rfl rfl rfl) ?_
  refine W.tr (Tr.nilLs (t:=5) 3 rfl) ?_
  exact W.ret (finN rfl rfl rfl rfl)
 rw [h0] at hC
 have e:capE p f=cpX p.cs p.st f:=if_neg (fun h=>h h0)
 by_cases hx:cpX p.cs p.st f=0
 rotate_left
 ·obtain ⟨e1,e2⟩:=hbad (by rw [e];exact hx)
  rw [e1,e2,e]
  obtain ⟨E,hE⟩:∃ z,cpX p.cs p.st f=z:=⟨_,rfl⟩
  rw [hE] at hI hx ⊢
  rw [hPe] at hC ⊢
  refine zqe Tryz.func12 Tryz.ntmps12 fun w0 F0=>?_;dsimp only [St.init,number,Nat.reduceAdd]
  repeat (first|refine W.go rfl ?_|refine WL.nil ?_|refine WL.ev rfl ?_|refine W.condT rfl ?_|refine W.condF rfl ?_)
  (first|refine (?_:W _ _ _ _ _)|refine (?_:WL _ _ _ _ _ _)|skip)
  try dsimp only [St.put,Nat.reduceAdd]
  refine WL.vl rfl (zqc Tryz.func26 hC) ?_
  repeat (first|refine W.gob rfl ?_|refine WL.nil ?_|refine WL.nt rfl rfl rfl zqo ?_|refine WL.nf rfl rfl rfl zqo ?_|refine WL.e1 rfl ?_|refine W.condT rfl ?_|refine W.condF rfl ?_)
  (first|refine (?_:W _ _ _ _ _)|refine (?_:WL _ _ _ _ _ _)|skip)
  try dsimp only [St.put,Nat.reduceAdd]
  refine WL.vl rfl (zqc Tryz.func39 hI) ?_
  repeat (first|refine W.gob rfl ?_|refine WL.nil ?_|refine WL.nt rfl rfl rfl zqo ?_|refine WL.nf rfl rfl rfl zqo ?_|refine WL.e1 rfl ?_|refine W.condT rfl ?_|refine W.condF rfl ?_)
  (first|refine (?_:W _ _ _ _ _)|refine (?_:WL _ _ _ _ _ _)|skip)
  try dsimp only [St.put,Nat.reduceAdd]
  refine W.tr (Tr.nilC 2 0 3 rfl rfl rfl) ?_
  refine W.tr (Tr.nilC 2 1 1 rfl rfl rfl) ?_
  refine W.tr (Tr.nilC 2 2 6 rfl rfl rfl) ?_
  refine W.tr (Tr.nilLs (t:=5) 3 rfl) ?_
  exact W.ret (finN rfl rfl rfl rfl)
 have hM:=moved_FS p hO h0 f (cp_bd hx) (cpCs p.cs p.st f) (cpSt p.cs p.st f) (by
  unfold cpCs;rw [if_pos hx];split
  ·exact hO.n1
  ·rw [List.length_map];exact hO.n1) (by
  unfold cpSt;rw [if_pos hx];split
  ·exact hO.n2
  ·rw [List.length_map,List.length_drop];have:=hO.n2;omega)
 have e1:ePce (capP p f)=ePce ⟨cpCs p.cs p.st f,cpSt p.cs p.st f,fnL (ftH (capN p f)) (capN p f)⟩:=by rw [show capP p f=_ from if_pos (e.trans hx)]
 have e2:capL p f=lsL (capC p.cs f) (ftH (capN p f)) p.evs p.evs.length:=if_pos (e.trans hx)
 rw [e1,e2,e,hx]
 rw [hx] at hI
 obtain ⟨R,hR⟩:∃ z,ePce ⟨cpCs p.cs p.st f,cpSt p.cs p.st f,fnL (ftH (capN p f)) (capN p f)⟩=z:=⟨_,rfl⟩
 have hRe:R=.ag [.ls 3 ((cpCs p.cs p.st f).map eCrs),.ls 1 ((cpSt p.cs p.st f).map eInt),.ls 6 ((fnL (ftH (capN p f)) (capN p f)).map eEv)]:=hR.symm
 rw [hR] at hM ⊢
 rw [hRe] at hM ⊢
 obtain ⟨RE,hRE⟩:∃ z,(fnL (ftH (capN p f)) (capN p f)).map eEv=z:=⟨_,rfl⟩
 obtain ⟨RL,hRL⟩:∃ z,(lsL (capC p.cs f) (ftH (capN p f)) p.evs p.evs.length).map eLk=z:=⟨_,rfl⟩
 obtain ⟨RC,hRC⟩:∃ z,(cpCs p.cs p.st f).map eCrs=z:=⟨_,rfl⟩
 obtain ⟨RS,hRS⟩:∃ z,(cpSt p.cs p.st f).map eInt=z:=⟨_,rfl⟩
 rw [hRE,hRL,hRC,hRS] at hM ⊢
 rw [hRC,hRS] at hI
 rw [hPe] at hC hM ⊢
 clear hR hRe hRE hRL hRC hRS
 refine zqe Tryz.func12 Tryz.ntmps12 fun w0 F0=>?_;dsimp only [St.init,number,Nat.reduceAdd]
 repeat (first|refine W.go rfl ?_|refine WL.nil ?_|refine WL.ev rfl ?_|refine W.condT rfl ?_|refine W.condF rfl ?_)
 (first|refine (?_:W _ _ _ _ _)|refine (?_:WL _ _ _ _ _ _)|skip)
 try dsimp only [St.put,Nat.reduceAdd]
 refine WL.vl rfl (zqc Tryz.func26 hC) ?_
 repeat (first|refine W.gob rfl ?_|refine WL.nil ?_|refine WL.nt rfl rfl rfl zqo ?_|refine WL.nf rfl rfl rfl zqo ?_|refine WL.e1 rfl ?_|refine W.condT rfl ?_|refine W.condF rfl ?_)
 (first|refine (?_:W _ _ _ _ _)|refine (?_:WL _ _ _ _ _ _)|skip)
 try dsimp only [St.put,Nat.reduceAdd]
 refine WL.vl rfl (zqc Tryz.func39 hI) ?_
 repeat (first|refine W.gob rfl ?_|refine WL.nil ?_|refine WL.nt rfl rfl rfl zqo ?_|refine WL.nf rfl rfl rfl zqo ?_|refine WL.e1 rfl ?_|refine W.condT rfl ?_|refine W.condF rfl ?_)
 (first|refine (?_:W _ _ _ _ _)|refine (?_:WL _ _ _ _ _ _)|skip)
 try dsimp only [St.put,Nat.reduceAdd]
 refine WL.tr (Tr.freezeB 0 rfl rfl) ?_
 refine WL.tr (Tr.freezeB 1 rfl rfl) ?_
 repeat (first|refine W.go rfl ?_|refine WL.nil ?_|refine WL.ev rfl ?_|refine W.condT rfl ?_|refine W.condF rfl ?_)
 (first|refine (?_:W _ _ _ _ _)|refine (?_:WL _ _ _ _ _ _)|skip)
 try dsimp only [St.put,Nat.reduceAdd]
 refine WL.vl rfl (WV.mkf rfl rfl) ?_
 refine WL.vl rfl (zqc Tryz.func40 hM) ?_
 repeat (first|refine W.go rfl ?_|refine WL.nil ?_|refine WL.ev rfl ?_|refine W.condT rfl ?_|refine W.condF rfl ?_)
 (first|refine (?_:W _ _ _ _ _)|refine (?_:WL _ _ _ _ _ _)|skip)
 try dsimp only [St.put,Nat.reduceAdd]
 exact W.ret (finN rfl rfl rfl rfl)
end Go.Proofs.YtockempedekkkaaGreatDoor
