/- Variants: the reference. -/
import Derived.Test.YtgelfflighgajaaGreatDoorVrUq
import Derived.Test.YtgelfflighgajaaGreatDoorRClUq
set_option maxHeartbeats 8000000
set_option maxRecDepth 100000
set_option linter.unusedVariables false
set_option linter.unusedSimpArgs false
namespace Go.Proofs.YtgelfflighgajaaGreatDoor
open Go.RowKit
theorem z48o {p : Prop} (h : p := by omega) : p := h
theorem z48l {m n : Nat} (h : m = n := by first | exact List.length_map _ | exact List.length_replicate | rfl) : m = n := h
theorem z48t {C : Cx} {σ σ' : St} (ρ : Nat → Nat) (ht : TrT σ ρ σ'.nk σ'.t := by repeat (first | exact trivial | refine ⟨⟨?_, ?_⟩, ?_⟩ | rfl)) (hm : TrM σ ρ σ'.nk σ'.M := by repeat (first | exact trivial | refine ⟨⟨?_, ?_, ?_⟩, ?_⟩ | rfl)) (hi : (injB ρ (σ'.M.map (·.1)) && pinB ρ σ'.nk C.np) = true := by rfl) : Tr C σ σ' := Tr.ren ρ ht hm hi
theorem z48u {C : Cx} {σ σ' : St} (ρ : Nat → Nat) (hm : TrM σ ρ σ'.nk σ'.M) (hi : (injB ρ (σ'.M.map (·.1)) && pinB ρ σ'.nk C.np) = true) (ht : TrT σ ρ σ'.nk σ'.t := by repeat (first | exact trivial | refine ⟨⟨?_, ?_⟩, ?_⟩ | rfl)) : Tr C σ σ' := Tr.ren ρ ht hm hi
theorem rVariants_FS (a b:Pce) (hOa:PcOk a) (hOb:PcOk b) (h60a:a.evs.length≤60) (h60b:b.evs.length≤60):Ctr Tryz.prog 36 [ePce a,ePce b] (.tu [.ls 8 ((vrsL a b).map eVa),.sc (.int .i64 (cllX a b))]):=by
 have hCo:=rCollate_FS a b hOa hOb h60a h60b
 by_cases hx:cllX a b=0
 rotate_left
 ·have e1:vrsL a b=[]:=if_neg hx
  have e2:cllL a b=[]:=if_neg hx
  have e3:cllN a b=0:=if_neg hx
  rw [e1]
  rw [e2,e3] at hCo
  obtain ⟨X,hX⟩:∃ z,cllX a b=z:=⟨_,rfl⟩
  rw [hX] at hx hCo ⊢
  refine Ctr.intro Tryz.func36 rfl Tryz.ntmps36 (Nat.le_of_ble_eq_true rfl) (bd_all rfl) fun w0 F0=>?_;dsimp only [St.init,number,Nat.reduceAdd]
  repeat refine W.go rfl ?_
  refine (?_:WL _ _ _ _ _ _)
  refine WL.vl rfl (WV.call rfl (callF Tryz.func26 rfl rfl) rfl rfl hCo) ?_
  repeat (first|refine W.gob rfl ?_|refine WL.nil ?_|refine WL.nt rfl rfl rfl z48o ?_|refine WL.e1 rfl ?_|refine W.condT rfl ?_)
  refine (?_:W _ _ _ _ _)
  refine W.tr (Tr.nilR (t:=4) 8 rfl) ?_
  exact W.ret (finN rfl rfl rfl rfl)
 have hpa:pceE a=0:=by
  by_cases h:pceE a=0
  ·exact h
  ·rw [(cll_1 h).1] at hx;exact absurd hx h
 have hpb:pceE b=0:=by
  by_cases h:pceE b=0
  ·exact h
  ·rw [(cll_2 hpa h).1] at hx;exact absurd hx h
 have hP1:=rPlain_FS a hOa
 have hP2:=rPlain_FS b hOb
 have ea:plP a=⟨a.cs,a.st,plE a⟩:=if_pos hpa
 have eb:plP b=⟨b.cs,b.st,plE b⟩:=if_pos hpb
 rw [ea,hpa] at hP1
 rw [eb,hpb] at hP2
 have e1:vrsL a b=vrS (plE a) (plE b) (prsA (plE a) (plE b)) 0:=if_pos hx
 have hla:=plE_length a
 have hlb:=plE_length b
 have hx20:=plE_20 hOa
 have hy20:=plE_20 hOb
 have e2:cllL a b=prsA (plE a) (plE b):=if_pos hx
 have hpl:=prs_len' (a:=plE a) (b:=plE b) ((plE a).length+(plE b).length) 0 0
 have hOk:=prs_ok (a:=plE a) (b:=plE b) ((plE a).length+(plE b).length) 0 0 (Nat.zero_le _) (Nat.zero_le _)
 obtain ⟨PL,hPL⟩:∃ z,prsA (plE a) (plE b)=z:=⟨_,rfl⟩
 have hPL2:prs (plE a) (plE b) ((plE a).length+(plE b).length) 0 0=PL:=hPL
 rw [hPL2] at hpl hOk
 rw [e1,hx,hPL]
 rw [e2,hx,hPL] at hCo
 obtain ⟨PN,hPN⟩:∃ z,cllN a b=z:=⟨_,rfl⟩
 rw [hPN] at hCo
 obtain ⟨PA,hPA⟩:∃ z,plE a=z:=⟨_,rfl⟩
 obtain ⟨PB,hPB⟩:∃ z,plE b=z:=⟨_,rfl⟩
 rw [hPA] at hla hx20 hpl
 rw [hPB] at hlb hy20 hpl
 rw [hPA,hPB] at hOk ⊢
 have hX:∀ z:Int,0≤z→z < PA.length→(PA.map eEv)[z.toNat]?=some (eEv (evG PA z))∧evG PA z∈PA:=fun z h0 h1=>evG_at h0 h1
 have hY:∀ z:Int,0≤z→z < PB.length→(PB.map eEv)[z.toNat]?=some (eEv (evG PB z))∧evG PB z∈PB:=fun z h0 h1=>evG_at h0 h1
 have hQ:∀ k (h:k < PL.length),(PL.map ePr)[((k:Nat):Int).toNat]?=some (ePr PL[k]):=fun k h=>map_at h
 have hQl:(PL.map ePr).length=PL.length:=List.length_map _
 rw [hPA] at hP1
 rw [hPB] at hP2
 have hP1:Ctr Tryz.prog 30 [ePce a] (.tu [.ag [.ls 3 (a.cs.map eCrs),.ls 1 (a.st.map eInt),.ls 6 (PA.map eEv)],.sc (.int .i64 0)]):=hP1
 have hP2:Ctr Tryz.prog 30 [ePce b] (.tu [.ag [.ls 3 (b.cs.map eCrs),.ls 1 (b.st.map eInt),.ls 6 (PB.map eEv)],.sc (.int .i64 0)]):=hP2
 obtain ⟨XX,hXX⟩:∃ z,PA.map eEv=z:=⟨_,rfl⟩
 obtain ⟨YY,hYY⟩:∃ z,PB.map eEv=z:=⟨_,rfl⟩
 obtain ⟨QQ,hQQ⟩:∃ z,PL.map ePr=z:=⟨_,rfl⟩
 rw [hXX] at hX hP1
 rw [hYY] at hY hP2
 rw [hQQ] at hQ hQl hCo
 have hXl:XX.length=PA.length:=by rw [← hXX,List.length_map]
 have hYl:YY.length=PB.length:=by rw [← hYY,List.length_map]
 clear hXX hYY hQQ hPA hPB hPL2 hPL e1 e2 ea eb
 refine Ctr.intro Tryz.func36 rfl Tryz.ntmps36 (Nat.le_of_ble_eq_true rfl) (bd_all rfl) fun w0 F0=>?_;dsimp only [St.init,number,Nat.reduceAdd]
 repeat refine W.go rfl ?_
 refine (?_:WL _ _ _ _ _ _)
 refine WL.vl rfl (WV.call rfl (callF Tryz.func26 rfl rfl) rfl rfl hCo) ?_
 repeat (first|refine W.gob rfl ?_|refine WL.nil ?_|refine WL.nf rfl rfl rfl z48o ?_|refine WL.e1 rfl ?_|refine W.condF rfl ?_)
 refine (?_:WL _ _ _ _ _ _)
 refine WL.vl rfl (WV.call rfl (callF Tryz.func30 rfl rfl) rfl rfl hP1) ?_
 repeat (first|refine W.gob rfl ?_|refine WL.nil ?_|refine WL.e1 rfl ?_)
 refine (?_:WL _ _ _ _ _ _)
 refine WL.vl rfl (WV.call rfl (callF Tryz.func30 rfl rfl) rfl rfl hP2) ?_
 repeat (first|refine W.gob rfl ?_|refine WL.nil ?_|refine WL.e1 rfl ?_)
 refine (?_:W _ _ _ _ _)
 first|refine W.tr (Tr.nil (t:=13) 38 8 rfl rfl) ?_|refine WL.tr (Tr.nil (t:=13) 38 8 rfl rfl) ?_
 dsimp only [St.put,St.new,St.upd,Nat.reduceAdd]
 refine (?_:W _ _ _ _ _)
 refine W.loop (fun s:Nat×Int×List Va=>s.1≤PL.length∧0≤s.2.1∧s.2.1≤s.1∧s.2.2.length≤s.1∧s.2.2++vrS PA PB (PL.drop s.1) s.2.1=vrS PA PB PL 0)
  (fun s=>⟨[(6,.ls 2 QQ),(9,.pt 0 0 0),(11,.pt 1 0 0),(13,.sl 2),(14,.sc (.int .i64 s.2.1)),(15,.sc (.int .i64 s.1))],[(0,.box 28 [.ls 3 (a.cs.map eCrs),.ls 1 (a.st.map eInt),.ls 6 XX]),(1,.box 28 [.ls 3 (b.cs.map eCrs),.ls 1 (b.st.map eInt),.ls 6 YY]),(2,.row 38 8 (s.2.2.map eVa))],3⟩) (fun s=>PL.length - s.1) (0,0,[]) ⟨by simp,by simp,by simp,by simp,by simp⟩ (z48u (fun q=>bif Nat.beq q 0 then 2 else bif Nat.beq q 1 then 3 else bif Nat.beq q 2 then 4 else q) (by repeat (first|exact trivial|refine ⟨⟨?_,?_,?_⟩,?_⟩|rfl|exact congrArg (fun q=>some (AO.row _ _ q)) rfl)) rfl) fun s hs=>?_
 obtain ⟨k,n,L⟩:=s
 obtain ⟨hk,hn0,hnk,hLl,hL⟩:=hs
 dsimp only at hk hn0 hnk hLl hL ⊢
 by_cases hlt:k < PL.length
 rotate_left
 ·obtain rfl:k=PL.length:=by omega
  rw [List.drop_length] at hL
  have hL2:L=vrS PA PB PL 0:=by rw [← hL];simp [vrS]
  rw [hL2]
  repeat (first|refine W.gob rfl ?_|refine WL.nil ?_|refine WL.bf rfl rfl rfl z48o ?_|refine WL.e1 rfl ?_|refine WL.len rfl rfl z48l ?_|refine W.condF rfl ?_)
  refine (?_:W _ _ _ _ _)
  refine W.tr (Tr.freeze 2 rfl) ?_
  exact W.ret (finN rfl rfl rfl rfl)
 have hq:=hQ k hlt
 obtain ⟨ok1,ok2,ok3,ok4,ok5⟩:=hOk PL[k] (List.getElem_mem hlt)
 rw [List.drop_eq_getElem_cons hlt] at hL
 have hvs:vrS PA PB (PL[k]::PL.drop (k+1)) n=if PL[k].1 < 0 then ⟨3,n,evG PB PL[k].2⟩::vrS PA PB (PL.drop (k+1)) n
  else if PL[k].2 < 0 then ⟨2,PL[k].1,ev0⟩::vrS PA PB (PL.drop (k+1)) (n+1)
  else if evEq (evG PA PL[k].1) (evG PB PL[k].2)=true then vrS PA PB (PL.drop (k+1)) (n+1)
  else ⟨1,PL[k].1,evG PB PL[k].2⟩::vrS PA PB (PL.drop (k+1)) (n+1):=rfl
 rw [hvs] at hL
 obtain ⟨p,hp⟩:∃ p,PL[k]=p:=⟨_,rfl⟩
 rw [hp] at hq ok1 ok2 ok3 ok4 ok5 hL
 by_cases h1:p.1 < 0
 ·obtain ⟨hy,hym⟩:=hY p.2 z48o ok4
  rw [if_pos h1] at hL
  obtain ⟨ey,hey⟩:∃ e,evG PB p.2=e:=⟨_,rfl⟩
  rw [hey] at hy hL
  repeat (first|refine W.gob rfl ?_|refine WL.nil ?_|refine WL.bt rfl rfl rfl z48o ?_|refine WL.e1 rfl ?_|refine WL.len rfl rfl z48l ?_|refine W.condT rfl ?_)
  refine (?_:WL _ _ _ _ _ _)
  refine WL.idx rfl rfl z48o hq ?_
  repeat (first|refine W.gob rfl ?_|refine WL.nil ?_|refine WL.bt rfl rfl rfl z48o ?_|refine WL.e1 rfl ?_|refine W.condT rfl ?_)
  refine (?_:WL _ _ _ _ _ _)
  refine WL.idx rfl rfl z48o hy ?_
  repeat (first|refine W.gob rfl ?_|refine WL.nil ?_|refine WL.bf rfl rfl rfl (by omega) ?_|refine WL.e1 rfl ?_|refine WL.ar rfl rfl (by unfold I64;omega) ?_|refine WL.app rfl rfl rfl (by first|omega|(simp;done)|(simp;omega)) ?_|refine W.condF rfl ?_)
  refine ⟨(k+1,n,L++[⟨3,n,ey⟩]),⟨by show k+1≤_;omega,hn0,by show n≤((k+1:Nat):Int);omega,by simp;omega,by rw [List.append_assoc];exact hL⟩,by show PL.length - (k+1) < PL.length - k;omega,?_⟩
  exact (z48u (fun q=>bif Nat.beq q 2 then 5 else q) (by repeat (first|exact trivial|refine ⟨⟨?_,?_,?_⟩,?_⟩|rfl|exact congrArg (fun q=>some (AO.row _ _ q)) (by rw [List.map_append];rfl))) rfl)
 rw [if_neg h1] at hL
 by_cases h2:p.2 < 0
 ·rw [if_pos h2] at hL
  repeat (first|refine W.gob rfl ?_|refine WL.nil ?_|refine WL.bt rfl rfl rfl z48o ?_|refine WL.e1 rfl ?_|refine WL.len rfl rfl z48l ?_|refine W.condT rfl ?_)
  refine (?_:WL _ _ _ _ _ _)
  refine WL.idx rfl rfl z48o hq ?_
  repeat (first|refine W.gob rfl ?_|refine WL.nil ?_|refine WL.bt rfl rfl rfl (by omega) ?_|refine WL.bf rfl rfl rfl (by omega) ?_|refine WL.e1 rfl ?_|refine WL.ar rfl rfl (by unfold I64;omega) ?_|refine WL.app rfl rfl rfl (by first|omega|(simp;done)|(simp;omega)) ?_|refine W.condT rfl ?_|refine W.condF rfl ?_)
  refine ⟨(k+1,n+1,L++[⟨2,p.1,ev0⟩]),⟨by show k+1≤_;omega,by show 0≤n+1;omega,by show n+1≤((k+1:Nat):Int);omega,by simp;omega,by rw [List.append_assoc];exact hL⟩,by show PL.length - (k+1) < PL.length - k;omega,?_⟩
  refine Tr.trans_ (Tr.rowNil 5 5 (R:=L.map eVa) (r:=[.sc (.int .i64 2),.sc (.int .i64 p.1),.sc (.bool false),.sc (.int .i64 0),.sc (.bool false),.sc (.bool false),.sc (.bool false)]) rfl) ?_
  exact (z48u (fun q=>bif Nat.beq q 2 then 5 else q) (by repeat (first|exact trivial|refine ⟨⟨?_,?_,?_⟩,?_⟩|rfl|exact congrArg (fun q=>some (AO.row _ _ q)) (by rw [List.map_append];rfl))) rfl)
 rw [if_neg h2] at hL
 obtain ⟨hx,hxm⟩:=hX p.1 z48o ok2
 obtain ⟨hy,hym⟩:=hY p.2 z48o ok4
 have hE:=rEqual_FS _ _ (hx20 _ hxm) (hy20 _ hym)
 obtain ⟨ey,hey⟩:∃ e,evG PB p.2=e:=⟨_,rfl⟩
 obtain ⟨ex,hex⟩:∃ e,evG PA p.1=e:=⟨_,rfl⟩
 rw [hey] at hy hL hE
 rw [hex] at hx hL hE
 cases he:evEq ex ey with
 | true =>
  rw [he,if_pos rfl] at hL
  rw [he] at hE
  repeat (first|refine W.gob rfl ?_|refine WL.nil ?_|refine WL.bt rfl rfl rfl z48o ?_|refine WL.e1 rfl ?_|refine WL.len rfl rfl z48l ?_|refine W.condT rfl ?_)
  refine (?_:WL _ _ _ _ _ _)
  refine WL.idx rfl rfl z48o hq ?_
  repeat (first|refine W.gob rfl ?_|refine WL.nil ?_|refine WL.bf rfl rfl rfl z48o ?_|refine WL.e1 rfl ?_|refine W.condF rfl ?_)
  refine (?_:W _ _ _ _ _)
  refine W.drawK (by kernel_rfl) (by kernel_rfl) ?_
  repeat refine DK.st rfl ?_
  refine DK.idx rfl rfl z48o hx ?_
  repeat refine DK.st rfl ?_
  refine DK.idx rfl rfl z48o hy ?_
  repeat refine DK.st rfl ?_
  refine DK.vl rfl (WV.call rfl (callF Tryz.func55 rfl rfl) rfl rfl hE) ?_
  repeat (first|refine DK.ff rfl (by first|(simp;done)|fail) ?_|refine DK.nil ?_)
  repeat (first|refine W.gob rfl ?_|refine WL.nil ?_|refine WL.bt rfl rfl rfl z48o ?_|refine WL.e1 rfl ?_|refine WL.ar rfl rfl (by unfold I64;omega) ?_|refine W.condT rfl ?_|refine W.condF rfl ?_)
  refine ⟨(k+1,n+1,L),⟨by show k+1≤_;omega,by show 0≤n+1;omega,by show n+1≤((k+1:Nat):Int);omega,by show L.length≤k+1;omega,hL⟩,by show PL.length - (k+1) < PL.length - k;omega,?_⟩
  exact (z48t id)
 | false =>
  rw [he,if_neg (by simp)] at hL
  rw [he] at hE
  repeat (first|refine W.gob rfl ?_|refine WL.nil ?_|refine WL.bt rfl rfl rfl z48o ?_|refine WL.e1 rfl ?_|refine WL.len rfl rfl z48l ?_|refine W.condT rfl ?_)
  refine (?_:WL _ _ _ _ _ _)
  refine WL.idx rfl rfl z48o hq ?_
  repeat (first|refine W.gob rfl ?_|refine WL.nil ?_|refine WL.bf rfl rfl rfl z48o ?_|refine WL.e1 rfl ?_|refine W.condF rfl ?_)
  refine (?_:W _ _ _ _ _)
  refine W.drawK (by kernel_rfl) (by kernel_rfl) ?_
  repeat refine DK.st rfl ?_
  refine DK.idx rfl rfl z48o hx ?_
  repeat refine DK.st rfl ?_
  refine DK.idx rfl rfl z48o hy ?_
  repeat refine DK.st rfl ?_
  refine DK.vl rfl (WV.call rfl (callF Tryz.func55 rfl rfl) rfl rfl hE) ?_
  repeat (first|refine DK.tt rfl (by first|(simp;done)|fail) ?_|refine DK.nil ?_)
  repeat refine W.condT rfl ?_
  refine (?_:W _ _ _ _ _)
  refine W.dmT 12 [1,3] (by kernel_rfl) (by kernel_rfl) (by kernel_rfl) (by kernel_rfl) (by kernel_rfl) (by repeat constructor) ?_
  repeat refine DMK.st rfl rfl ?_
  refine DMK.idx rfl rfl z48o hy ?_
  repeat (first|refine DMK.st rfl rfl ?_|refine DMK.bd rfl rfl rfl (by repeat constructor) ?_|refine DMK.ap rfl rfl (by first|omega|(simp;done)|(simp;omega)) (by repeat constructor) ?_|refine DMK.nil ?_)
  refine ⟨rfl,?_⟩
  repeat (first|refine W.gob rfl ?_|refine WL.nil ?_|refine WL.bt rfl rfl rfl z48o ?_|refine WL.e1 rfl ?_|refine WL.ar rfl rfl (by unfold I64;omega) ?_|refine W.condT rfl ?_)
  refine ⟨(k+1,n+1,L++[⟨1,p.1,ey⟩]),⟨by show k+1≤_;omega,by show 0≤n+1;omega,by show n+1≤((k+1:Nat):Int);omega,by simp;omega,by rw [List.append_assoc];exact hL⟩,by show PL.length - (k+1) < PL.length - k;omega,?_⟩
  exact (z48u (fun q=>bif Nat.beq q 2 then 5 else q) (by repeat (first|exact trivial|refine ⟨⟨?_,?_,?_⟩,?_⟩|rfl|exact congrArg (fun q=>some (AO.row _ _ q)) (by rw [List.map_append];rfl))) rfl)
end Go.Proofs.YtgelfflighgajaaGreatDoor
