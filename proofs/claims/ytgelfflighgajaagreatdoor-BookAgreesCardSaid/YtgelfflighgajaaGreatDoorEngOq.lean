/- book.Engrave: the program. -/
import Derived.Test.YtgelfflighgajaaGreatDoorStfOq
import Derived.Test.YtgelfflighgajaaGreatDoorIncOq
set_option maxHeartbeats 8000000
set_option maxRecDepth 100000
set_option linter.unusedVariables false
set_option linter.unusedSimpArgs false
namespace Go.Proofs.YtgelfflighgajaaGreatDoor
open Go.RowKit
def eSf (x:Sf):List AV:=[.sc (.int .i64 x.1),.sc (.int .i64 x.2.1),.sc (.int .i64 x.2.2.1),.sc (.int .i64 x.2.2.2)]
theorem accN_FS (a:Int):Ctr Tryz.prog 171 [.sc (.int .i64 a)] (.sc (.int .i64 (accN a))):=by
 unfold accN
 by_cases h1:a=1
 ·rw [if_pos h1]
  refine zqe Tryz.func171 Tryz.ntmps171 fun w0 F0=>?_;dsimp only [St.init,number,Nat.reduceAdd]
  repeat (first|refine W.gob rfl ?_|refine WL.nil ?_|refine WL.bt rfl rfl rfl zqo ?_|refine WL.e1 rfl ?_|refine W.condT rfl ?_)
  refine (?_:W _ _ _ _ _)
  exact W.ret zqr
 ·rw [if_neg h1]
  by_cases h2:a=-1
  ·rw [if_pos h2]
   refine zqe Tryz.func171 Tryz.ntmps171 fun w0 F0=>?_;dsimp only [St.init,number,Nat.reduceAdd]
   repeat (first|refine W.gob rfl ?_|refine WL.nil ?_|refine WL.bt rfl rfl rfl zqo ?_|refine WL.bf rfl rfl rfl zqo ?_|refine WL.e1 rfl ?_|refine W.condT rfl ?_|refine W.condF rfl ?_)
   refine (?_:W _ _ _ _ _)
   exact W.ret zqr
  ·rw [if_neg h2]
   refine zqe Tryz.func171 Tryz.ntmps171 fun w0 F0=>?_;dsimp only [St.init,number,Nat.reduceAdd]
   repeat (first|refine W.gob rfl ?_|refine WL.nil ?_|refine WL.bf rfl rfl rfl zqo ?_|refine WL.e1 rfl ?_|refine W.condF rfl ?_)
   refine (?_:W _ _ _ _ _)
   exact W.ret zqr
structure ES where
 alt:List (Ln×Int)
 next:Nat
 out:List Sf
abbrev Me:=Int×Int×Int
def nextF (MS:List Me)(ev:Int)(m:Nat):Nat:=m+((MS.drop m).takeWhile fun x=>decide (x.1≤ev)).length
theorem nextF_step {MS:List Me} {ev:Int} {m:Nat} (h:m<MS.length)(h2:MS[m].1≤ev):nextF MS ev m=nextF MS ev (m+1):=by
 unfold nextF
 rw [List.drop_eq_getElem_cons h,List.takeWhile_cons_of_pos (by simpa using h2)]
 simp;omega
theorem nextF_no {MS:List Me} {ev:Int} {m:Nat} (h:m<MS.length)(h2:¬ MS[m].1≤ev):nextF MS ev m=m:=by
 unfold nextF
 rw [List.drop_eq_getElem_cons h,List.takeWhile_cons_of_neg (by simpa using h2)]
 simp
theorem nextF_end {MS:List Me} {ev:Int} {m:Nat} (h:MS.length≤m):nextF MS ev m=m:=by
 unfold nextF
 rw [List.drop_eq_nil_of_le h];simp
def clrE(MS:List Me)(ev:Int)(s:ES):ES:=⟨if nextF MS ev s.next=s.next then s.alt else [],nextF MS ev s.next,s.out⟩
def putE (key:Int) (ev:Int) (sp:Int×Int×Int) (s:ES):ES :=
 if sp.2.1=frcA key s.alt (sp.1,sp.2.2) then ⟨s.alt,s.next,s.out++[(ev,sp.1,sp.2.2,0)]⟩ else ⟨updA (sp.1,sp.2.2) (sp.2.1+2) s.alt,s.next,s.out++[(ev,sp.1,sp.2.2,accN sp.2.1)]⟩
def engN (key:Int) (MS:List Me) (s:ES) (n:Nt):ES:=putE key n.1 (spV n.2.2.1 key) (clrE MS n.1 s)
def engS (key:Int) (MS:List Me) (L:List Nt):ES:=L.foldl (engN key MS) ⟨[],0,[]⟩
def engB (key:Int)(L:List Nt):Bool:=L.any fun n=>decide (spX n.2.2.1 key≠0)
def engX (p:Pce)(key:Int):Int:=if pceE p=0 then (if key < -4∨4 < key then 1 else if engB key (notesR p p.evs.length)=true then 10 else 0)else pceE p
def engL (p:Pce) (key:Int):List Sf:=if engX p key=0 then (engS key (mea p.evs p.evs.length) (notesR p p.evs.length)).out else []
theorem spX_cases {q key:Int} (hk:-4≤key∧key≤4):spX q key=0∨spX q key=10:=by
 unfold spX
 by_cases h:0≤q∧q≤127
 ·rw [if_neg (fun x=>x h),if_neg (fun x=>x hk)]
  split
  ·exact .inl rfl
  ·exact .inr rfl
 ·rw [if_pos h];exact .inr rfl
theorem spV_al {q key:Int} (h:spX q key=0):-1≤(spV q key).2.1∧(spV q key).2.1≤1:=by
 unfold spV
 rw [if_pos h]
 cases hp:spP q key with
 | none=>simp
 | some r =>
  have:=(sndOk_of (spP_of hp).1).1.2.1
  simpa using this
theorem engS_ok {key:Int} {MS:List Me}:∀ (L:List Nt) (s:ES),(∀ n∈L,spX n.2.2.1 key=0)→AltOk s.alt→AltOk (L.foldl (engN key MS) s).alt∧(L.foldl (engN key MS) s).out.length=s.out.length+L.length
 | [],s,_,h=>⟨h,rfl⟩
 | n::r,s,hl,h=>by
  have h1:AltOk (clrE MS n.1 s).alt:=by unfold clrE;dsimp only;split;exact h;exact AltOk.nil
  have h2:=spV_al (hl n (by simp))
  have h3:AltOk (engN key MS s n).alt∧(engN key MS s n).out.length=s.out.length+1:=by
   unfold engN putE
   split
   ·exact ⟨h1,by simp [clrE]⟩
   ·exact ⟨h1.upd _ ⟨by omega,by omega⟩,by simp [clrE]⟩
  obtain ⟨h4,h5⟩:=engS_ok r (engN key MS s n) (fun y hy=>hl y (by simp [hy])) h3.1
  rw [List.foldl_cons]
  exact ⟨h4,by rw [h5,h3.2];simp;omega⟩
theorem pEngrave_FS (p:Pce) (hO:PcOk p) (key:Int):Ctg tabB Tryz.prog 110 [ePce p,.sc (.int .i64 key)] (.tu [.ls 4 ((engL p key).map eSf),.sc (.int .i64 (engX p key))]):=by
 have hn3:=hO.n3
 have hN:=pNotes_FS p hO
 by_cases h0:pceE p=0
 rotate_left
 ·have e1:engX p key=pceE p:=if_neg h0
  have e2:engL p key=[]:=if_neg (by rw [e1];exact h0)
  have e3:notesP p=[]:=if_neg h0
  rw [e2,e1]
  rw [e3] at hN
  obtain ⟨E,hE⟩:∃ E,pceE p=E:=⟨_,rfl⟩
  rw [hE] at hN h0 ⊢
  refine Ctg.intro stabB Tryz.func110 rfl Tryz.ntmps110 (Nat.le_of_ble_eq_true rfl) (bd_all rfl) fun w0 F0 hB=>?_;dsimp only [St.init,number,Nat.reduceAdd]
  repeat refine W.go rfl ?_
  refine (?_:WL _ _ _ _ _ _)
  refine WL.vl rfl (zqc Tryz.func166 hN) ?_
  repeat (first|refine W.gob rfl ?_|refine WL.nil ?_|refine WL.nt rfl rfl rfl zqo ?_|refine WL.e1 rfl ?_|refine W.condT rfl ?_)
  refine (?_:W _ _ _ _ _)
  refine W.tr (Tr.nilR (t:=4) 4 rfl) ?_
  exact W.ret (finN rfl rfl rfl rfl)
 have e3:notesP p=notesR p p.evs.length:=if_pos h0
 rw [h0,e3] at hN
 by_cases hk:key < -4∨4 < key
 ·have e1:engX p key=1:=by unfold engX;rw [if_pos h0,if_pos hk]
  have e2:engL p key=[]:=if_neg (by rw [e1];decide)
  rw [e2,e1]
  have hk2:key < -4∨(¬ key < -4∧4 < key):=by omega
  rcases hk2 with hk2|hk2
  all_goals
   refine Ctg.intro stabB Tryz.func110 rfl Tryz.ntmps110 (Nat.le_of_ble_eq_true rfl) (bd_all rfl) fun w0 F0 hB=>?_;dsimp only [St.init,number,Nat.reduceAdd]
   repeat refine W.go rfl ?_
   refine (?_:WL _ _ _ _ _ _)
   refine WL.vl rfl (zqc Tryz.func166 hN) ?_
   repeat (first|refine W.gob rfl ?_|refine WL.nil ?_|refine WL.bt rfl rfl rfl zqo ?_|refine WL.bf rfl rfl rfl zqo ?_|refine WL.nf rfl rfl rfl zqo ?_|refine WL.e1 rfl ?_|refine WL.gyes rfl rfl rfl rfl ?_|refine WL.opno rfl rfl rfl rfl rfl rfl rfl ?_|refine W.condT rfl ?_|refine W.condF rfl ?_)
   refine (?_:W _ _ _ _ _)
   refine W.tr (Tr.nilR (t:=4) 4 rfl) ?_
   exact W.ret (finN rfl rfl rfl rfl)
 have hk2:-4≤key∧key≤4:=by omega
 have hMe:=pMeasures_FS p hO
 have e4:meaR p=mea p.evs p.evs.length:=if_pos h0
 rw [e4,h0] at hMe
 have hml:=mea_length p.evs p.evs.length
 have hmb:=mea_bd p.evs p.evs.length
 have hnl:=notesR_len hO h0
 have e1:engX p key=if engB key (notesR p p.evs.length)=true then 10 else 0:=by unfold engX;rw [if_pos h0,if_neg hk]
 have e2:engL p key=if engB key (notesR p p.evs.length)=true then [] else (engS key (mea p.evs p.evs.length) (notesR p p.evs.length)).out:=by
  unfold engL
  rw [e1]
  cases engB key (notesR p p.evs.length)<;>rfl
 rw [e1,e2]
 obtain ⟨L,hL⟩:∃ L,notesR p p.evs.length=L:=⟨_,rfl⟩
 obtain ⟨MS,hMS⟩:∃ L,mea p.evs p.evs.length=L:=⟨_,rfl⟩
 rw [hL] at hN hnl ⊢
 rw [hMS] at hMe hml hmb ⊢
 refine Ctg.intro stabB Tryz.func110 rfl Tryz.ntmps110 (Nat.le_of_ble_eq_true rfl) (bd_all rfl) fun w0 F0 hB=>?_;dsimp only [St.init,number,Nat.reduceAdd]
 repeat refine W.go rfl ?_
 refine (?_:WL _ _ _ _ _ _)
 refine WL.vl rfl (zqc Tryz.func166 hN) ?_
 repeat (first|refine W.gob rfl ?_|refine WL.nil ?_|refine WL.bf rfl rfl rfl zqo ?_|refine WL.nf rfl rfl rfl zqo ?_|refine WL.e1 rfl ?_|refine WL.gyes rfl rfl rfl rfl ?_|refine W.condF rfl ?_)
 refine (?_:WL _ _ _ _ _ _)
 refine WL.cto (truH _) [] rfl rfl (callF Tryz.func167 rfl rfl) (newStaff_FS key) rfl rfl rfl trivial rfl rfl rfl rfl ?_
 repeat (first|refine W.go rfl ?_|refine WL.ev rfl ?_)
 refine (?_:WL _ _ _ _ _ _)
 refine WL.vl rfl (zqc Tryz.func112 hMe) ?_
 repeat (first|refine W.go rfl ?_|refine WL.ev rfl ?_|refine WL.len rfl rfl zql ?_)
 refine (?_:W _ _ _ _ _)
 refine W.tr (Tr.nil (t:=12) 187 4 rfl rfl) ?_
 dsimp only [St.put,St.new,St.upd,Nat.reduceAdd]
 refine W.loop (fun k:Nat=>k≤L.length∧∀ n∈L.take k,spX n.2.2.1 key=0) (fun k=>⟨[(1,.sc (.int .i64 key)),(8,.pt 2 0 0),(9,.ls 3 (MS.map eMea)),(12,.sl 3),(40,.ls 5 (L.map eNt)),(41,.sc (.int .i64 L.length)),(42,.sc (.int .i64 k)),(11,.sc (.int .i64 ((engS key MS (L.take k)).next:Nat)))],[(0,.box 28 (ePce p).cells),(1,.opq (mapQ encLn (valA (engS key MS (L.take k)).alt))),(2,.box 302 [.sc (.int .i64 key),.sl 1]),(3,.row 187 4 ((engS key MS (L.take k)).out.map eSf))],4⟩) (fun k=>L.length - k) 0 ⟨by omega,by simp⟩ (zqt id) fun k hk=>?_
 obtain ⟨hk1,hgood⟩:=hk
 obtain ⟨hA,hol⟩:=engS_ok (key:=key) (MS:=MS) (L.take k) ⟨[],0,[]⟩ hgood AltOk.nil
 have hol:(engS key MS (L.take k)).out.length≤8400:=by
  show (List.foldl (engN key MS) ⟨[],0,[]⟩ (L.take k)).out.length≤8400
  rw [hol];simp;omega
 by_cases hlt:k < L.length
 rotate_left
 ·obtain rfl:k=L.length:=by omega
  rw [List.take_length] at hgood
  have hb:engB key L=false:=by
   unfold engB
   rw [List.any_eq_false]
   intro n hn;simp [hgood n hn]
  rw [hb,List.take_length]
  simp only [Bool.false_eq_true,if_false]
  repeat (first|refine W.gob rfl ?_|refine WL.nil ?_|refine WL.bf rfl rfl rfl zqo ?_|refine WL.e1 rfl ?_|refine W.condF rfl ?_)
  refine (?_:W _ _ _ _ _)
  refine W.tr (Tr.freeze 3 rfl) ?_
  exact W.ret (finN rfl rfl rfl rfl)
 have htk:engS key MS (L.take (k+1))=engN key MS (engS key MS (L.take k)) L[k]:=by
  unfold engS;rw [List.take_succ_eq_append_getElem hlt,List.foldl_append];rfl
 have hnk:∀ x∈L.take (k+1),x∈L.take k∨x=L[k]:=fun x hx=>by
  rw [List.take_succ_eq_append_getElem hlt] at hx
  rcases List.mem_append.1 hx with hx|hx
  ·exact .inl hx
  ·exact .inr (List.mem_singleton.1 hx)
 have hA:AltOk (engS key MS (L.take k)).alt:=hA
 obtain ⟨S,hS⟩:∃ S,engS key MS (L.take k)=S:=⟨_,rfl⟩
 have hmem:L[k]∈L:=List.getElem_mem hlt
 repeat (first|refine W.gob rfl ?_|refine WL.nil ?_|refine WL.bt rfl rfl rfl zqo ?_|refine WL.e1 rfl ?_|refine WL.idx rfl rfl zqo zqm ?_|refine W.condT rfl ?_)
 refine (?_:W _ _ _ _ _)
 obtain ⟨n,hn⟩:∃ n,L[k]=n:=⟨_,rfl⟩
 rw [hS] at hA hol htk ⊢
 rw [hn] at htk hnk hmem ⊢
 refine W.loop (fun m:Nat×List (Ln×Int)=>m.1≤max MS.length S.next∧S.next≤m.1∧nextF MS n.1 S.next=nextF MS n.1 m.1∧m.2=if m.1=S.next then S.alt else []) (fun m=>⟨[(1,.sc (.int .i64 key)),(8,.pt 2 0 0),(9,.ls 3 (MS.map eMea)),(12,.sl 3),(40,.ls 5 (L.map eNt)),(41,.sc (.int .i64 L.length)),(42,.sc (.int .i64 k)),(14,.pt 4 0 0),(11,.sc (.int .i64 (m.1:Nat)))],[(0,.box 28 (ePce p).cells),(1,.opq (mapQ encLn (valA m.2))),(2,.box 302 [.sc (.int .i64 key),.sl 1]),(3,.row 187 4 (S.out.map eSf)),(4,.box 233 (eNt n))],5⟩) (fun m=>max MS.length S.next - m.1) (S.next,S.alt) ⟨by dsimp only;omega,Nat.le_refl _,rfl,(if_pos rfl).symm⟩ (zqt id) fun m hm=>?_
 obtain ⟨m,al⟩:=m
 obtain ⟨hm1,hm2,hm3,hm4⟩:=hm
 dsimp only at hm1 hm2 hm3 hm4 ⊢
 by_cases hgo:∃ h:m < MS.length,MS[m].1≤n.1
 ·obtain ⟨h1,h2⟩:=hgo
  repeat refine W.gob rfl ?_
  refine (?_:W _ _ _ _ _)
  refine W.drawK zqk zqk ?_
  repeat (first|refine DK.bt rfl rfl (by omega) ?_|refine DK.tt rfl (by first|(simp;done)|fail) ?_|refine DK.st rfl ?_|refine DK.len rfl rfl zql ?_|refine DK.idx rfl rfl (by omega) zqm ?_|refine DK.nil ?_)
  repeat (first|refine W.gob rfl ?_|refine WL.e1 rfl ?_|refine W.condT rfl ?_)
  refine (?_:WL _ _ _ _ _ _)
  refine WL.cto (truH _) [1,2] rfl rfl (callF Tryz.func168 rfl rfl) (stMeasure_FS key al) rfl rfl rfl ⟨⟨rfl,rfl,rfl⟩,⟨rfl,rfl,rfl⟩,trivial⟩ rfl rfl rfl rfl ?_
  repeat (first|refine W.gob rfl ?_|refine WL.nil ?_|refine WL.e1 rfl ?_|refine WL.ar rfl rfl (by unfold I64;omega) ?_)
  exact ⟨(m+1,[]),⟨by dsimp only;omega,by dsimp only;omega,hm3.trans (nextF_step h1 h2),(if_neg (by dsimp only;omega)).symm⟩,by dsimp only;omega,(zqt id)⟩
 have hnext:nextF MS n.1 S.next=m:=by
  rw [hm3]
  by_cases h:m < MS.length
  ·exact nextF_no h (fun h2=>hgo ⟨h,h2⟩)
  ·exact nextF_end zqo
 have hcl:clrE MS n.1 S=⟨al,m,S.out⟩:=by unfold clrE;rw [hnext,hm4]
 have hal:AltOk al:=by rw [hm4];split;exact hA;exact AltOk.nil
 have hen:engN key MS S n=putE key n.1 (spV n.2.2.1 key) ⟨al,m,S.out⟩:=by unfold engN;rw [hcl]
 refine W.seq ?_
 refine W.seqM ⟨[(1,.sc (.int .i64 key)),(8,.pt 2 0 0),(9,.ls 3 (MS.map eMea)),(12,.sl 3),(40,.ls 5 (L.map eNt)),(41,.sc (.int .i64 L.length)),(42,.sc (.int .i64 k)),(14,.pt 4 0 0),(59,.sc (.bool false)),(11,.sc (.int .i64 (m:Nat)))],[(0,.box 28 (ePce p).cells),(1,.opq (mapQ encLn (valA al))),(2,.box 302 [.sc (.int .i64 key),.sl 1]),(3,.row 187 4 (S.out.map eSf)),(4,.box 233 (eNt n))],5⟩ ?_ ?_
 ·have hno:MS.length≤m∨(∃ h:m < MS.length,¬ MS[m].1≤n.1):=by
   by_cases h:m < MS.length
   ·exact .inr ⟨h,fun h2=>hgo ⟨h,h2⟩⟩
   ·exact .inl zqo
  rcases hno with h|⟨h1,h2⟩
  all_goals
   refine W.drawK zqk zqk ?_
   repeat (first|refine DK.bt rfl rfl (by omega) ?_|refine DK.bf rfl rfl (by omega) ?_|refine DK.tt rfl (by first|(simp;done)|fail) ?_|refine DK.ff rfl (by first|(simp;done)|fail) ?_|refine DK.st rfl ?_|refine DK.len rfl rfl zql ?_|refine DK.idx rfl rfl (by omega) zqm ?_|refine DK.nil ?_)
   refine (?_:Tr _ _ _)
   exact (zqt id)
 have hSp:=pSpell_G n.2.2.1 key
 repeat (first|refine W.gob rfl ?_|refine WL.e1 rfl ?_|refine W.condF rfl ?_)
 refine (?_:WL _ _ _ _ _ _)
 refine WL.vl rfl (WV.callG hB rfl (callF Tryz.func169 rfl rfl) rfl rfl hSp) ?_
 rcases spX_cases (q:=n.2.2.1) hk2 with hx|hx
 rotate_left
 ·have hb:engB key L=true:=by
   unfold engB
   rw [List.any_eq_true]
   exact ⟨n,hmem,by rw [hx];decide⟩
  rw [hb,hx]
  simp only [if_true]
  repeat (first|refine W.gob rfl ?_|refine WL.nil ?_|refine WL.nt rfl rfl rfl zqo ?_|refine WL.e1 rfl ?_|refine W.condT rfl ?_)
  refine (?_:W _ _ _ _ _)
  refine W.tr (Tr.nilR (t:=4) 4 rfl) ?_
  exact W.ret (finN rfl rfl rfl rfl)
 have hspa:=spV_al hx
 rw [hx]
 obtain ⟨sp,hsp⟩:∃ sp,spV n.2.2.1 key=sp:=⟨_,rfl⟩
 rw [hsp] at hspa hen ⊢
 have hgood2:∀ x∈L.take (k+1),spX x.2.2.1 key=0:=fun x hx2=>by
  rcases hnk x hx2 with h|h
  ·exact hgood x h
  ·rw [h];exact hx
 repeat (first|refine W.gob rfl ?_|refine WL.nil ?_|refine WL.nf rfl rfl rfl zqo ?_|refine WL.e1 rfl ?_|refine W.condF rfl ?_)
 refine (?_:W _ _ _ _ _)
 refine W.dm3 [false,false,false,false,true,false] [5,7] zqk zqk zqk (by repeat constructor) ?_
 repeat refine DMK.st rfl rfl ?_
 refine DMK.ct (truH _) [1,2] rfl rfl (callF Tryz.func170 rfl rfl) (stInForce_FS key al sp.1 sp.2.2 hk2 hal) rfl rfl rfl ⟨⟨rfl,rfl,rfl⟩,⟨rfl,rfl,rfl⟩,trivial⟩ rfl rfl rfl rfl (by repeat constructor) ?_
 repeat (first|refine DMK.st rfl rfl ?_|refine DMK.nil ?_)
 refine (?_:W _ _ _ _ _)
 (refine W.cond rfl (fun hif=>?_) (fun hif=>?_)<;>(try simp only [decide_eq_true_eq,decide_eq_false_iff_not,Int.not_lt,Int.not_le,Bool.not_eq_true',Bool.not_eq_false'] at hif))
 ·have hne:¬ sp.2.1=frcA key al (sp.1,sp.2.2):=by first|exact hif|(intro e;exact hif e)|omega
  have hput:engN key MS S n=⟨updA (sp.1,sp.2.2) (sp.2.1+2) al,m,S.out++[(n.1,sp.1,sp.2.2,accN sp.2.1)]⟩:=by rw [hen];exact if_neg hne
  have hr:S.out.map eSf++[eSf (n.1,sp.1,sp.2.2,accN sp.2.1)]=(S.out++[(n.1,sp.1,sp.2.2,accN sp.2.1)]).map eSf:=by simp
  repeat refine W.go rfl ?_
  refine (?_:WL _ _ _ _ _ _)
  refine WL.vl rfl (WV.call rfl (callF Tryz.func171 rfl rfl) rfl rfl (accN_FS sp.2.1)) ?_
  repeat (first|refine W.go rfl ?_|refine WL.ev rfl ?_)
  refine (?_:WL _ _ _ _ _ _)
  refine WL.cto (truH _) [1,2] rfl rfl (callF Tryz.func172 rfl rfl) (stAlter_FS key al sp.1 sp.2.2 sp.2.1 hspa) rfl rfl rfl ⟨⟨rfl,rfl,rfl⟩,⟨rfl,rfl,rfl⟩,trivial⟩ rfl rfl rfl rfl ?_
  repeat (first|refine W.go rfl ?_|refine WL.nil ?_|refine WL.ev rfl ?_|refine WL.ar rfl rfl (by unfold I64;omega) ?_|refine WL.app rfl rfl rfl zqs ?_)
  refine ⟨k+1,⟨by omega,hgood2⟩,by omega,?_⟩
  rw [htk,hput]
  exact (zqu (fun q=>bif Nat.beq q 3 then 9 else q) (by repeat (first|exact trivial|refine ⟨⟨?_,?_,?_⟩,?_⟩|rfl|exact congrArg (fun q=>some (AO.row _ _ q)) hr)) rfl)
 ·have heq:sp.2.1=frcA key al (sp.1,sp.2.2):=by first|exact hif|omega
  have hput:engN key MS S n=⟨al,m,S.out++[(n.1,sp.1,sp.2.2,0)]⟩:=by rw [hen];exact if_pos heq
  have hr:S.out.map eSf++[eSf (n.1,sp.1,sp.2.2,0)]=(S.out++[(n.1,sp.1,sp.2.2,0)]).map eSf:=by simp
  repeat (first|refine W.go rfl ?_|refine WL.ev rfl ?_|refine WL.ar rfl rfl (by unfold I64;omega) ?_|refine WL.app rfl rfl rfl zqs ?_)
  refine ⟨k+1,⟨by omega,hgood2⟩,by omega,?_⟩
  rw [htk,hput]
  exact (zqu (fun q=>bif Nat.beq q 3 then 9 else q) (by repeat (first|exact trivial|refine ⟨⟨?_,?_,?_⟩,?_⟩|rfl|exact congrArg (fun q=>some (AO.row _ _ q)) hr)) rfl)
end Go.Proofs.YtgelfflighgajaaGreatDoor
