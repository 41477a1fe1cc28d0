/- The law BookUnanimous. -/
import Derived.Test.YtgelfflighgajaaGreatDoorAlTq
import Derived.Test.YtgelfflighgajaaGreatDoorCnBTq
import Derived.Test.YtgelfflighgajaaGreatDoorW11Tq
set_option maxHeartbeats 8000000
set_option maxRecDepth 100000
set_option linter.unusedVariables false
set_option linter.unusedSimpArgs false
namespace Go.Proofs.YtgelfflighgajaaGreatDoor
open Go.RowKit
def cllX(a b:Pce):Int:=if pceE a≠0 then pceE a else if pceE b≠0 then pceE b else if sameI a.cs a.st b.cs b.st=true then 0 else 11
def cllA(a b:Pce):Pce:=if cllX a b=0 then⟨a.cs,a.st,plE a⟩else noP
def cllB(a b:Pce):Pce:=if cllX a b=0 then⟨b.cs,b.st,plE b⟩else noP
def cllL (a b:Pce):List (Int×Int):=if cllX a b=0 then prsA (plE a) (plE b)else []
def cllN (a b:Pce):Int:=if cllX a b=0 then csA (plE a) (plE b) 0 0 else 0
theorem cll_1 {a b:Pce} (h:pceE a≠0):cllX a b=pceE a∧cllA a b=noP∧cllB a b=noP∧cllL a b=[]∧cllN a b=0:=by
 have e:cllX a b=pceE a:=if_pos h
 have h2:¬ cllX a b=0:=by rw [e];exact h
 exact⟨e,if_neg h2,if_neg h2,if_neg h2,if_neg h2⟩
theorem cll_2 {a b:Pce} (h1:pceE a=0)(h:pceE b≠0):cllX a b=pceE b∧cllA a b=noP∧cllB a b=noP∧cllL a b=[]∧cllN a b=0:=by
 have e:cllX a b=pceE b:=by unfold cllX;rw [if_neg (fun k=>k h1),if_pos h]
 have h2:¬ cllX a b=0:=by rw [e];exact h
 exact⟨e,if_neg h2,if_neg h2,if_neg h2,if_neg h2⟩
theorem cll_3 {a b:Pce} (h1:pceE a=0)(h:pceE b=0)(h3:sameI a.cs a.st b.cs b.st=false):cllX a b=11∧cllA a b=noP∧cllB a b=noP∧cllL a b=[]∧cllN a b=0:=by
 have e:cllX a b=11:=by unfold cllX;rw [if_neg (fun k=>k h1),if_neg (fun k=>k h),if_neg (by simp [h3])]
 have h2:¬ cllX a b=0:=by rw [e];decide
 exact⟨e,if_neg h2,if_neg h2,if_neg h2,if_neg h2⟩
theorem cll_4 {a b:Pce} (h1:pceE a=0) (h:pceE b=0) (h3:sameI a.cs a.st b.cs b.st=true):cllX a b=0∧cllA a b=⟨a.cs,a.st,plE a⟩∧cllB a b=⟨b.cs,b.st,plE b⟩∧cllL a b=prsA (plE a) (plE b)∧cllN a b=csA (plE a) (plE b) 0 0:=by
 have e:cllX a b=0:=by unfold cllX;rw [if_neg (fun k=>k h1),if_neg (fun k=>k h),if_pos h3]
 exact ⟨e,if_pos e,if_pos e,if_pos e,if_pos e⟩
theorem plE_20 {p:Pce} (hO:PcOk p):∀ e∈plE p,e.stops.length≤20:=fun e he=>by
 obtain⟨f,hf,e2⟩:=plN_stops (Nat.le_refl _) _ he
 obtain⟨q,hq,rfl⟩:=List.getElem_of_mem hf
 rw [e2];exact hO.n4 q hq
theorem both_FS (a b:Pce) (hOa:PcOk a) (hOb:PcOk b):Ctr Tryz.prog 62 [ePce a,ePce b] (.tu [ePce (cllA a b),ePce (cllB a b),.sc (.int .i64 (cllX a b))]):=by
 have hPa:=pPlain_FS a hOa
 have hPb:=pPlain_FS b hOb
 have hS:=pSameI_FS a.cs a.st b.cs b.st hOa.n1 hOa.n2 hOb.n1 hOb.n2
 by_cases ha:pceE a=0
 rotate_left
 ·obtain ⟨e1,e2,e3,_,_⟩:=cll_1 (b:=b) ha
  rw [e1,e2,e3]
  obtain ⟨E,hE⟩:∃ E,pceE a=E:=⟨_,rfl⟩
  rw [hE] at hPa ha ⊢
  obtain ⟨Z,hZ⟩:∃ Z,plP a=Z:=⟨_,rfl⟩
  rw [hZ] at hPa
  refine Ctr.intro Tryz.func62 rfl Tryz.ntmps62 (Nat.le_of_ble_eq_true rfl) (bd_all rfl) fun w0 F0=>?_;dsimp only [St.init,number,Nat.reduceAdd]
  repeat refine W.go rfl ?_
  refine (?_:WL _ _ _ _ _ _)
  dsimp only [St.put,Nat.reduceAdd]
  refine WL.vl rfl (WV.call rfl (callF Tryz.func40 rfl rfl) rfl rfl hPa) ?_
  repeat (first|refine W.gob rfl ?_|refine WL.nil ?_|refine WL.nt rfl rfl rfl (by omega) ?_|refine WL.e1 rfl ?_|refine W.condT rfl ?_)
  refine (?_:W _ _ _ _ _)
  dsimp only [St.put,Nat.reduceAdd]
  refine W.tr (Tr.nilC 2 0 3 rfl rfl rfl) ?_
  refine W.tr (Tr.nilC 2 1 1 rfl rfl rfl) ?_
  refine W.tr (Tr.nilC 2 2 6 rfl rfl rfl) ?_
  refine W.tr (Tr.nilC 3 0 3 rfl rfl rfl) ?_
  refine W.tr (Tr.nilC 3 1 1 rfl rfl rfl) ?_
  refine W.tr (Tr.nilC 3 2 6 rfl rfl rfl) ?_
  exact W.ret (finN rfl rfl rfl rfl)
 have ea:plP a=⟨a.cs,a.st,plE a⟩:=if_pos ha
 rw [ea,ha] at hPa
 by_cases hb:pceE b=0
 rotate_left
 ·obtain ⟨e1,e2,e3,_,_⟩:=cll_2 ha hb
  rw [e1,e2,e3]
  obtain ⟨E,hE⟩:∃ E,pceE b=E:=⟨_,rfl⟩
  rw [hE] at hPb hb ⊢
  obtain ⟨Z,hZ⟩:∃ Z,plP b=Z:=⟨_,rfl⟩
  rw [hZ] at hPb
  refine Ctr.intro Tryz.func62 rfl Tryz.ntmps62 (Nat.le_of_ble_eq_true rfl) (bd_all rfl) fun w0 F0=>?_;dsimp only [St.init,number,Nat.reduceAdd]
  repeat refine W.go rfl ?_
  refine (?_:WL _ _ _ _ _ _)
  dsimp only [St.put,Nat.reduceAdd]
  refine WL.vl rfl (WV.call rfl (callF Tryz.func40 rfl rfl) rfl rfl hPa) ?_
  repeat (first|refine W.gob rfl ?_|refine WL.nil ?_|refine WL.nf rfl rfl rfl (by omega) ?_|refine WL.e1 rfl ?_|refine W.condF rfl ?_)
  refine (?_:WL _ _ _ _ _ _)
  dsimp only [St.put,Nat.reduceAdd]
  refine WL.vl rfl (WV.call rfl (callF Tryz.func40 rfl rfl) rfl rfl hPb) ?_
  repeat (first|refine W.gob rfl ?_|refine WL.nil ?_|refine WL.nt rfl rfl rfl (by omega) ?_|refine WL.e1 rfl ?_|refine W.condT rfl ?_)
  refine (?_:W _ _ _ _ _)
  dsimp only [St.put,Nat.reduceAdd]
  refine W.tr (Tr.nilC 2 0 3 rfl rfl rfl) ?_
  refine W.tr (Tr.nilC 2 1 1 rfl rfl rfl) ?_
  refine W.tr (Tr.nilC 2 2 6 rfl rfl rfl) ?_
  refine W.tr (Tr.nilC 3 0 3 rfl rfl rfl) ?_
  refine W.tr (Tr.nilC 3 1 1 rfl rfl rfl) ?_
  refine W.tr (Tr.nilC 3 2 6 rfl rfl rfl) ?_
  exact W.ret (finN rfl rfl rfl rfl)
 have eb:plP b=⟨b.cs,b.st,plE b⟩:=if_pos hb
 rw [eb,hb] at hPb
 obtain ⟨PA,hPA⟩:∃ z,plE a=z:=⟨_,rfl⟩
 obtain ⟨PB,hPB⟩:∃ z,plE b=z:=⟨_,rfl⟩
 cases hs:sameI a.cs a.st b.cs b.st with
 | false =>
  obtain ⟨e1,e2,e3,_,_⟩:=cll_3 ha hb hs
  rw [e1,e2,e3]
  rw [hs] at hS
  rw [hPA] at hPa
  rw [hPB] at hPb
  refine Ctr.intro Tryz.func62 rfl Tryz.ntmps62 (Nat.le_of_ble_eq_true rfl) (bd_all rfl) fun w0 F0=>?_;dsimp only [St.init,number,Nat.reduceAdd]
  repeat refine W.go rfl ?_
  refine (?_:WL _ _ _ _ _ _)
  dsimp only [St.put,Nat.reduceAdd]
  refine WL.vl rfl (WV.call rfl (callF Tryz.func40 rfl rfl) rfl rfl hPa) ?_
  repeat (first|refine W.gob rfl ?_|refine WL.nil ?_|refine WL.nf rfl rfl rfl (by omega) ?_|refine WL.e1 rfl ?_|refine W.condF rfl ?_)
  refine (?_:WL _ _ _ _ _ _)
  dsimp only [St.put,Nat.reduceAdd]
  refine WL.vl rfl (WV.call rfl (callF Tryz.func40 rfl rfl) rfl rfl hPb) ?_
  repeat (first|refine W.gob rfl ?_|refine WL.nil ?_|refine WL.nf rfl rfl rfl (by omega) ?_|refine WL.e1 rfl ?_|refine W.condF rfl ?_)
  refine (?_:WL _ _ _ _ _ _)
  dsimp only [St.put,Nat.reduceAdd]
  refine WL.vl rfl (WV.call rfl (callF Tryz.func89 rfl rfl) rfl rfl hS) ?_
  repeat (first|refine W.gob rfl ?_|refine WL.nil ?_|refine WL.e1 rfl ?_|refine W.condT rfl ?_)
  refine (?_:W _ _ _ _ _)
  dsimp only [St.put,Nat.reduceAdd]
  refine W.tr (Tr.nilC 2 0 3 rfl rfl rfl) ?_
  refine W.tr (Tr.nilC 2 1 1 rfl rfl rfl) ?_
  refine W.tr (Tr.nilC 2 2 6 rfl rfl rfl) ?_
  refine W.tr (Tr.nilC 3 0 3 rfl rfl rfl) ?_
  refine W.tr (Tr.nilC 3 1 1 rfl rfl rfl) ?_
  refine W.tr (Tr.nilC 3 2 6 rfl rfl rfl) ?_
  exact W.ret (finN rfl rfl rfl rfl)
 | true =>
  obtain ⟨e1,e2,e3,_,_⟩:=cll_4 ha hb hs
  rw [e1,e2,e3]
  rw [hs] at hS
  rw [hPA] at hPa ⊢
  rw [hPB] at hPb ⊢
  refine Ctr.intro Tryz.func62 rfl Tryz.ntmps62 (Nat.le_of_ble_eq_true rfl) (bd_all rfl) fun w0 F0=>?_;dsimp only [St.init,number,Nat.reduceAdd]
  repeat refine W.go rfl ?_
  refine (?_:WL _ _ _ _ _ _)
  dsimp only [St.put,Nat.reduceAdd]
  refine WL.vl rfl (WV.call rfl (callF Tryz.func40 rfl rfl) rfl rfl hPa) ?_
  repeat (first|refine W.gob rfl ?_|refine WL.nil ?_|refine WL.nf rfl rfl rfl (by omega) ?_|refine WL.e1 rfl ?_|refine W.condF rfl ?_)
  refine (?_:WL _ _ _ _ _ _)
  dsimp only [St.put,Nat.reduceAdd]
  refine WL.vl rfl (WV.call rfl (callF Tryz.func40 rfl rfl) rfl rfl hPb) ?_
  repeat (first|refine W.gob rfl ?_|refine WL.nil ?_|refine WL.nf rfl rfl rfl (by omega) ?_|refine WL.e1 rfl ?_|refine W.condF rfl ?_)
  refine (?_:WL _ _ _ _ _ _)
  dsimp only [St.put,Nat.reduceAdd]
  refine WL.vl rfl (WV.call rfl (callF Tryz.func89 rfl rfl) rfl rfl hS) ?_
  repeat (first|refine W.gob rfl ?_|refine WL.nil ?_|refine WL.e1 rfl ?_|refine W.condF rfl ?_)
  refine (?_:W _ _ _ _ _)
  dsimp only [St.put,Nat.reduceAdd]
  refine W.of_wa (by kernel_rfl) ?_
  refine WA.ds [false,false,true,true,false] [4,5] (by kernel_rfl) (by kernel_rfl) ⟨rfl,rfl,trivial⟩ ?_
  repeat (first|refine DSK.st rfl rfl ?_|refine DSK.sto rfl rfl rfl rfl rfl rfl rfl rfl rfl rfl rfl rfl rfl rfl ⟨rfl,rfl,trivial⟩ ?_|refine DSK.nil ?_)
  refine (?_:W _ _ _ _ _)
  refine (?_:W _ _ _ _ _)
  dsimp only [St.put,Nat.reduceAdd]
  exact W.ret (finN rfl rfl rfl rfl)
end Go.Proofs.YtgelfflighgajaaGreatDoor
namespace Go.Proofs.YtgelfflighgajaaGreatDoor
open Go.RowKit
theorem vtOk_F {n:Nat} {ys:List Ev} (hy:∀ e∈ys,e.stops.length≤20):∀ {P:List (Int×Int)} {N:Int} {s:VS},0≤N→VtOk n N s→VtOk n (N+P.length) (P.foldl (vtP ys) s)
 | [],N,s,hN,h=>by
  have e:N+(([]:List (Int×Int)).length:Int)=N:=by show N+0=N;omega
  rw [e];exact h
 | p::r,N,s,hN,h=>by
  have:=vtOk_F hy (P:=r) (N:=N+1) (by omega) (vtOk_P (p:=p) hN h hy)
  have e:N+((p::r).length:Int)=N+1+(r.length:Int):=by rw [List.length_cons];omega
  rw [List.foldl_cons,e];exact this
theorem vtOk_up {n:Nat} {N M:Int} {s:VS} (h:VtOk n N s)(hM:N≤M):VtOk n M s :=
 ⟨h.l1,h.l2,fun l hl=>by have:=h.ne l hl;omega,fun l hl v hv=>by have:=h.ev l hl v hv;omega,fun z hz=>by have:=h.ab z hz;omega⟩
def vtB (xs:List Ev) (os:List Pce) (k:Nat):VS:=(os.take k).foldl (fun s o=>vtL xs (plE o) s) (vt0 xs)
theorem vtB_s {xs:List Ev} {os:List Pce} {k:Nat} (h:k<os.length):vtB xs os (k+1)=vtL xs (plE os[k]) (vtB xs os k):=by
 unfold vtB
 rw [List.take_succ_eq_append_getElem h,List.foldl_append];rfl
theorem vtB_all(xs:List Ev)(os:List Pce):vtB xs os os.length=vtA xs os:=by
 unfold vtB vtA
 rw [List.take_length]
theorem vtB_ok {xs:List Ev} {os:List Pce} (hx:∀ e∈xs,e.stops.length≤20) (hxl:xs.length≤60) (ho:∀ o∈os,PcOk o∧o.evs.length≤60):∀ k,k≤os.length→VtOk xs.length (1+120*k) (vtB xs os k)
 | 0,_=>vtOk_0 hx
 | k+1,hk=>by
  have ih:=vtB_ok hx hxl ho k (by omega)
  have hlt:k<os.length:=by omega
  obtain ⟨h1,h2⟩:=ho _ (List.getElem_mem hlt)
  rw [vtB_s hlt]
  have hl:(prsA xs (plE os[k])).length≤120:=by
   have:=prs_len' (a:=xs) (b:=plE os[k]) (xs.length+(plE os[k]).length) 0 0
   have e:=plE_length os[k]
   unfold prsA;omega
  exact vtOk_up (vtOk_F (plE_20 h1) (P:=prsA xs (plE os[k])) (by omega) ih) (by omega)
def cnO(b:Pce):List Pce→Int
 | []=>0
 | o::r=>if cllX b o≠0 then cllX b o else cnO b r
def cnX(b:Pce)(os:List Pce):Int:=if pceE b≠0 then pceE b else if 64<os.length then 2 else cnO b os
def cnP (b:Pce)(os:List Pce):Pce:=if cnX b os=0 then⟨b.cs,b.st,stl (cnK (vtA (plE b) os) os.length b.evs.length)⟩ else noP
theorem cnO_no {b:Pce}:∀ {os:List Pce} {k:Nat} (h:k<os.length),(∀ i (hi:i<k),cllX b (os[i]'(by omega))=0)→cllX b os[k]≠0→cnO b os=cllX b os[k]
 | o::r,0,h,_,hx=>if_pos hx
 | o::r,k+1,h,hi,hx=>by
  have h0:cllX b o=0:=hi 0 (by omega)
  show (if cllX b o≠0 then _ else cnO b r)=_
  rw [if_neg (fun x=>x h0)]
  exact cnO_no (os:=r) (k:=k) (by simpa using h) (fun i hi'=>by have:=hi (i+1) (by omega);simpa using this) (by simpa using hx)
theorem cnO_ok {b:Pce}:∀ {os:List Pce},(∀ i (h:i<os.length),cllX b os[i]=0)→cnO b os=0
 | [],_=>rfl
 | o::r,h=>by
  have h0:cllX b o=0:=h 0 (by simp)
  show (if cllX b o≠0 then _ else cnO b r)=_
  rw [if_neg (fun x=>x h0)]
  exact cnO_ok (os:=r) fun i hi=>by have:=h (i+1) (by simpa using hi);simpa using this
theorem cn_1 {b:Pce} {os:List Pce} (h:pceE b≠0):cnX b os=pceE b∧cnP b os=noP:=by
 have e:cnX b os=pceE b:=if_pos h
 exact⟨e,if_neg (by rw [e];exact h)⟩
theorem cn_2 {b:Pce} {os:List Pce} (h:pceE b=0)(h2:64<os.length):cnX b os=2∧cnP b os=noP:=by
 have e:cnX b os=2:=by unfold cnX;rw [if_neg (fun x=>x h),if_pos h2]
 exact⟨e,if_neg (by rw [e];decide)⟩
theorem cn_3 {b:Pce} {os:List Pce} (h:pceE b=0)(h2:¬ 64<os.length) {k:Nat} (hk:k<os.length)(hi:∀ i (hi:i<k),cllX b (os[i]'(by omega))=0)(hx:cllX b os[k]≠0):cnX b os=cllX b os[k]∧cnP b os=noP:=by
 have e:cnX b os=cllX b os[k]:=by unfold cnX;rw [if_neg (fun x=>x h),if_neg h2,cnO_no hk hi hx]
 exact⟨e,if_neg (by rw [e];exact hx)⟩
theorem cn_4 {b:Pce} {os:List Pce} (h:pceE b=0)(h2:¬ 64<os.length)(hi:∀ i (h:i<os.length),cllX b os[i]=0):cnX b os=0∧cnP b os =⟨b.cs,b.st,stl (cnK (vtA (plE b) os) os.length b.evs.length)⟩:=by
 have e:cnX b os=0:=by unfold cnX;rw [if_neg (fun x=>x h),if_neg h2,cnO_ok hi]
 exact⟨e,if_pos e⟩
end Go.Proofs.YtgelfflighgajaaGreatDoor
namespace Go.Proofs.YtgelfflighgajaaGreatDoor
open Go.RowKit
theorem winner_G (l:List Vt) (h0:0 < l.length) (hl:l.length≤100000) (hc:∀ v∈l,0≤v.2∧v.2≤100000) :
  Cto truB 0 Tryz.prog 83 [.sl 0] [(0,.row 144 7 (l.map eVt))] 1 (.ag (eEv (winV l))) [(0,.row 144 7 (l.map eVt)),(1,.box 36 (eEv (winV l)))] 2:=by
 refine Cto.intro truS Tryz.func83 rfl Tryz.ntmps83 (Nat.le_of_ble_eq_true rfl) rfl fun w0 F0 fp pg hB=>?_
 dsimp only [number,Nat.reduceAdd]
 have hml:(l.map eVt).length=l.length:=List.length_map _
 have hat:∀ i (h:i < l.length),(l.map eVt)[i]?=some (eVt l[i]):=fun i h=>by rw [List.getElem?_map,List.getElem?_eq_getElem h];rfl
 repeat (first|refine W.gob rfl ?_|refine WL.nil ?_|refine WL.e1 rfl ?_|refine WL.len rfl rfl (by first|exact List.length_map _|exact List.length_replicate|rfl) ?_)
 refine (?_:W _ _ _ _ _)
 dsimp only [St.put,Nat.reduceAdd]
 refine W.loop (fun s:Nat×Nat=>s.1≤l.length∧s.2=bsI l s.1) (fun s=>⟨[(0,.sl 0),(2,.pt 1 0 0),(3,.sc (.int .i64 s.2)),(6,.sc (.int .i64 l.length)),(7,.sc (.int .i64 s.1))],[(0,.row 144 7 (l.map eVt)),(1,.box 36 [.sc (.bool false),.sc (.int .i64 0),.sc (.bool false),.sc (.bool false),.sc (.bool false),.sc (.slice none 0 0)])],2⟩) (fun s=>l.length - s.1) (0,0) ⟨by simp,rfl⟩ (Tr.ren id (by repeat (first|exact trivial|refine ⟨⟨?_,?_⟩,?_⟩|rfl)) (by repeat (first|exact trivial|refine ⟨⟨?_,?_,?_⟩,?_⟩|rfl)) rfl) fun s hs=>?_
 obtain ⟨k,b⟩:=s
 obtain ⟨hk,hb⟩:=hs
 dsimp only at hk hb ⊢
 have hbl:b < l.length:=by rw [hb];exact bsI_lt h0 hk
 by_cases hlt:k < l.length
 ·have e:=bsI_s h0 hlt
  have ak:=hat k hlt
  have ab:=hat b hbl
  have ck:=hc _ (List.getElem_mem hlt)
  have cb:=hc _ (List.getElem_mem hbl)
  have e:bsI l (k+1)=if l[b].2 < l[k].2 then k else b:=by subst hb;exact e
  clear hb
  by_cases hgt:l[b].2 < l[k].2
  ·rw [if_pos hgt] at e
   repeat (first|refine W.gob rfl ?_|refine WL.nil ?_|refine WL.bt rfl rfl rfl (by omega) ?_|refine WL.e1 rfl ?_|refine W.condT rfl ?_)
   refine (?_:W _ _ _ _ _)
   dsimp only [St.put,Nat.reduceAdd]
   refine W.drawK (by kernel_rfl) (by kernel_rfl) ?_
   repeat (first|refine DK.st rfl ?_|refine DK.ixs rfl rfl (by first|omega|(simp;done)|(simp;omega)) ?_)
   refine DK.ldr rfl rfl ak rfl rfl ?_
   repeat (first|refine DK.st rfl ?_|refine DK.ixs rfl rfl (by first|omega|(simp;done)|(simp;omega)) ?_)
   refine DK.ldr rfl rfl ab rfl rfl ?_
   repeat (first|refine DK.bt rfl rfl (by omega) ?_|refine DK.nil ?_)
   repeat (first|refine W.gob rfl ?_|refine WL.nil ?_|refine WL.e1 rfl ?_|refine WL.ar rfl rfl (by unfold I64;omega) ?_|refine W.condT rfl ?_)
   dsimp only [St.put,Nat.reduceAdd]
   exact ⟨(k+1,k),⟨by show k+1≤_;omega,e.symm⟩,by show l.length - (k+1) < l.length - k;omega,(Tr.ren id (by repeat (first|exact trivial|refine ⟨⟨?_,?_⟩,?_⟩|rfl)) (by repeat (first|exact trivial|refine ⟨⟨?_,?_,?_⟩,?_⟩|rfl)) rfl)⟩
  ·rw [if_neg hgt] at e
   repeat (first|refine W.gob rfl ?_|refine WL.nil ?_|refine WL.bt rfl rfl rfl (by omega) ?_|refine WL.e1 rfl ?_|refine W.condT rfl ?_)
   refine (?_:W _ _ _ _ _)
   dsimp only [St.put,Nat.reduceAdd]
   refine W.drawK (by kernel_rfl) (by kernel_rfl) ?_
   repeat (first|refine DK.st rfl ?_|refine DK.ixs rfl rfl (by first|omega|(simp;done)|(simp;omega)) ?_)
   refine DK.ldr rfl rfl ak rfl rfl ?_
   repeat (first|refine DK.st rfl ?_|refine DK.ixs rfl rfl (by first|omega|(simp;done)|(simp;omega)) ?_)
   refine DK.ldr rfl rfl ab rfl rfl ?_
   repeat (first|refine DK.bf rfl rfl (by omega) ?_|refine DK.nil ?_)
   repeat (first|refine W.gob rfl ?_|refine WL.nil ?_|refine WL.e1 rfl ?_|refine WL.ar rfl rfl (by unfold I64;omega) ?_|refine W.condF rfl ?_)
   dsimp only [St.put,Nat.reduceAdd]
   exact ⟨(k+1,b),⟨by show k+1≤_;omega,e.symm⟩,by show l.length - (k+1) < l.length - k;omega,(Tr.ren id (by repeat (first|exact trivial|refine ⟨⟨?_,?_⟩,?_⟩|rfl)) (by repeat (first|exact trivial|refine ⟨⟨?_,?_,?_⟩,?_⟩|rfl)) rfl)⟩
 ·obtain rfl:k=l.length:=by omega
  have ab:=hat b hbl
  have hw:winV l=l[b].1:=by subst hb;exact winV_at h0
  rw [hw]
  repeat (first|refine W.gob rfl ?_|refine WL.nil ?_|refine WL.bf rfl rfl rfl (by omega) ?_|refine WL.e1 rfl ?_|refine WL.ixs rfl rfl (by first|omega|(simp;done)|(simp;omega)) ?_|refine W.condF rfl ?_)
  refine (?_:WL _ _ _ _ _ _)
  dsimp only [St.put,Nat.reduceAdd]
  refine WL.lda rfl rfl ab rfl ?_
  repeat (first|refine WL.nil ?_|refine WL.e1 rfl ?_)
  refine (?_:W _ _ _ _ _)
  dsimp only [St.put,Nat.reduceAdd]
  refine W.tr (σ':=⟨[(2,.pt 1 0 0)],[(0,.row 144 7 (l.map eVt)),(1,.box 36 (eEv l[b].1))],2⟩) (Tr.ren id (by repeat (first|exact trivial|refine ⟨⟨?_,?_⟩,?_⟩|rfl)) (by repeat (first|exact trivial|refine ⟨⟨?_,?_,?_⟩,?_⟩|rfl)) rfl) ?_
  exact W.ret (finM rfl rfl rfl rfl rfl)
end Go.Proofs.YtgelfflighgajaaGreatDoor
namespace Go.Proofs.YtgelfflighgajaaGreatDoor
open Go.RowKit
def eP3 (p:Pce):List AV:=[.ls 3 (p.cs.map eCrs),.ls 1 (p.st.map eInt),.ls 6 (p.evs.map eEv)]
theorem prs_form {a b:List Ev} {i k:Nat} {P:List (Int×Int)} (h:Aln a b i k P):∀ p∈P,(∃ i k:Nat,i<a.length∧k<b.length∧p=((i:Int),(k:Int)))∨(∃ i:Nat,i<a.length∧p=((i:Int),-1))∨(∃ k:Nat,k<b.length∧p=(-1,(k:Int))):=by
 induction h with
 | nil=>intro p hp;cases hp
 | both i k P h1 h2 _ ih =>
  intro p hp
  rcases List.mem_cons.1 hp with rfl|hp
  ·exact .inl ⟨i,k,h1,h2,rfl⟩
  ·exact ih p hp
 | left i k P h1 _ ih =>
  intro p hp
  rcases List.mem_cons.1 hp with rfl|hp
  ·exact .inr (.inl ⟨i,h1,rfl⟩)
  ·exact ih p hp
 | right i k P h2 _ ih =>
  intro p hp
  rcases List.mem_cons.1 hp with rfl|hp
  ·exact .inr (.inr ⟨k,h2,rfl⟩)
  ·exact ih p hp
theorem vtP_both {ys:List Ev} {s:VS} {i k:Nat} (hi:i<s.1.length) (hk:k<ys.length):vtP ys s ((i:Int),(k:Int))=(s.1.set i (cstV s.1[i] ys[k]),s.2):=by
 show (if (i:Int)<0 then s else if (k:Int)<0 then _ else (s.1.set (i:Int).toNat (cstV (s.1.getD (i:Int).toNat []) (evG ys k)),s.2))=_
 rw [if_neg (by omega),if_neg (by omega),evG_get hk,Int.toNat_natCast,List.getD_eq_getElem?_getD,List.getElem?_eq_getElem hi];rfl
theorem vtP_left {ys:List Ev} {s:VS} {i:Nat} (hi:i<s.2.length):vtP ys s ((i:Int),-1)=(s.1,s.2.set i (s.2[i]+1)):=by
 show (if (i:Int)<0 then s else if (-1:Int)<0 then (s.1,s.2.set (i:Int).toNat (s.2.getD (i:Int).toNat 0+1))else _)=_
 rw [if_neg (by omega),if_pos (by omega),Int.toNat_natCast,List.getD_eq_getElem?_getD,List.getElem?_eq_getElem hi];rfl
theorem vtP_right {ys:List Ev} {s:VS} {k:Int}:vtP ys s (-1,k)=s:=if_pos (by show (-1:Int)<0;omega)
def V1 (xs:List Ev)(k:Nat):List (List Vt):=(xs.take k).map (fun e=>[(e,(1:Int))])++List.replicate (xs.length-k) []
theorem V1_len {xs:List Ev} {k:Nat} (h:k≤xs.length):(V1 xs k).length=xs.length:=by
 unfold V1
 rw [List.length_append,List.length_map,List.length_take,List.length_replicate];omega
theorem V1_0(xs:List Ev):V1 xs 0=List.replicate xs.length []:=by unfold V1;simp
theorem V1_all(xs:List Ev):V1 xs xs.length=(vt0 xs).1:=by
 unfold V1 vt0
 rw [List.take_length,Nat.sub_self];simp
theorem V1_at {xs:List Ev} {k:Nat} (h:k<xs.length)(h2:k<(V1 xs k).length):(V1 xs k)[k]'h2=[]:=by
 have hl:((xs.take k).map (fun e=>[(e,(1:Int))])).length=k:=by rw [List.length_map,List.length_take];omega
 simp only [V1]
 rw [List.getElem_append_right (by omega)]
 simp
theorem V1_set {xs:List Ev} {k:Nat} (h:k<xs.length)(h2:k<(V1 xs k).length):(V1 xs k).set k (cstV ((V1 xs k)[k]'h2) xs[k])=V1 xs (k+1):=by
 have hl:((xs.take k).map (fun e=>[(e,(1:Int))])).length=k:=by rw [List.length_map,List.length_take];omega
 rw [V1_at h h2]
 show (V1 xs k).set k [(xs[k],1)]=_
 unfold V1
 rw [List.set_append_right _ _ (by omega),hl,Nat.sub_self,show xs.length-k=(xs.length-(k+1))+1 by omega,List.replicate_succ,List.set_cons_zero,List.take_succ_eq_append_getElem h,List.map_append,List.append_assoc];rfl
theorem nil_rows (n:Nat):(List.replicate n ([]:List Vt)).map eVL=List.replicate n [.ow 144 7 []]:=by rw [List.map_replicate];rfl
theorem zero_rows (xs:List Ev):(xs.map fun _=>(0:Int)).map eInt=List.replicate xs.length [.sc (.int .i64 0)]:=by
 induction xs with
 | nil=>rfl
 | cons a r ih=>rw [List.map_cons,List.map_cons,ih];rfl
theorem cnK_s {V:List (List Vt)} {A:List Int} {m k:Nat} (hV:k<V.length)(hA:k<A.length):cnK (V,A) m (k+1)=if A[k]≤(m:Int)+1-A[k] then cnK (V,A) m k++[winV V[k]] else cnK (V,A) m k:=by
 have e1:A.getD k 0=A[k]:=by rw [List.getD_eq_getElem?_getD,List.getElem?_eq_getElem hA];rfl
 have e2:V.getD k []=V[k]:=by rw [List.getD_eq_getElem?_getD,List.getElem?_eq_getElem hV];rfl
 show (if kpV A m k=true then cnK (V,A) m k++[winV (V.getD k [])] else cnK (V,A) m k)=_
 unfold kpV
 rw [e1,e2]
 by_cases h:A[k]≤(m:Int)+1-A[k]
 ·rw [if_pos (decide_eq_true h),if_pos h]
 ·rw [if_neg (by simpa using h),if_neg h]
theorem int_put {A:List Int} {i:Nat} (h:i<A.length):(A.map eInt).set i (putL 0 [.sc (.int .i64 (A[i]+1))] (eInt A[i]))=(A.set i (A[i]+1)).map eInt:=by rw [List.map_set];rfl
end Go.Proofs.YtgelfflighgajaaGreatDoor
namespace Go.Proofs.YtgelfflighgajaaGreatDoor
open Go.RowKit
theorem pConsensus_FS (b:Pce) (os:List Pce) (hOb:PcOk b) (h60:b.evs.length≤60) (ho:∀ o∈os,PcOk o∧o.evs.length≤60) (hol:os.length≤100) :
  Ctr Tryz.prog 38 [ePce b,.ls 3 (os.map eP3)] (.tu [ePce (cnP b os),.sc (.int .i64 (cnX b os))]):=by
 have hC:=pCheck_FS b hOb
 have hOl:(os.map eP3).length=os.length:=List.length_map _
 have hOa:∀ k (h:k < os.length),(os.map eP3)[((k:Nat):Int).toNat]?=some (eP3 os[k]):=fun k h=>map_at h
 obtain ⟨OS,hOS⟩:∃ z,os.map eP3=z:=⟨_,rfl⟩
 rw [hOS] at hOl hOa ⊢
 clear hOS
 by_cases h0:pceE b=0
 rotate_left
 ·obtain ⟨e1,e2⟩:=cn_1 (os:=os) h0
  rw [e1,e2]
  obtain ⟨E,hE⟩:∃ E,pceE b=E:=⟨_,rfl⟩
  rw [hE] at hC h0 ⊢
  refine Ctr.intro Tryz.func38 rfl Tryz.ntmps38 (Nat.le_of_ble_eq_true rfl) (bd_all rfl) fun w0 F0=>?_;dsimp only [St.init,number,Nat.reduceAdd]
  repeat refine W.go rfl ?_
  refine (?_:WL _ _ _ _ _ _)
  dsimp only [St.put,Nat.reduceAdd]
  refine WL.vl rfl (WV.call rfl (callF Tryz.func52 rfl rfl) rfl rfl hC) ?_
  repeat (first|refine W.gob rfl ?_|refine WL.nil ?_|refine WL.nt rfl rfl rfl (by omega) ?_|refine WL.e1 rfl ?_|refine W.condT rfl ?_)
  refine (?_:W _ _ _ _ _)
  dsimp only [St.put,Nat.reduceAdd]
  refine W.tr (Tr.nilC 1 0 3 rfl rfl rfl) ?_
  refine W.tr (Tr.nilC 1 1 1 rfl rfl rfl) ?_
  refine W.tr (Tr.nilC 1 2 6 rfl rfl rfl) ?_
  exact W.ret (finN rfl rfl rfl rfl)
 rw [h0] at hC
 by_cases h64:64 < os.length
 ·obtain ⟨e1,e2⟩:=cn_2 h0 h64
  rw [e1,e2]
  refine Ctr.intro Tryz.func38 rfl Tryz.ntmps38 (Nat.le_of_ble_eq_true rfl) (bd_all rfl) fun w0 F0=>?_;dsimp only [St.init,number,Nat.reduceAdd]
  repeat refine W.go rfl ?_
  refine (?_:WL _ _ _ _ _ _)
  dsimp only [St.put,Nat.reduceAdd]
  refine WL.vl rfl (WV.call rfl (callF Tryz.func52 rfl rfl) rfl rfl hC) ?_
  repeat (first|refine W.gob rfl ?_|refine WL.nil ?_|refine WL.bt rfl rfl rfl (by omega) ?_|refine WL.nf rfl rfl rfl (by omega) ?_|refine WL.e1 rfl ?_|refine WL.len rfl rfl (by first|exact List.length_map _|exact List.length_replicate|rfl) ?_|refine W.condT rfl ?_|refine W.condF rfl ?_)
  refine (?_:W _ _ _ _ _)
  dsimp only [St.put,Nat.reduceAdd]
  refine W.tr (Tr.nilC 1 0 3 rfl rfl rfl) ?_
  refine W.tr (Tr.nilC 1 1 1 rfl rfl rfl) ?_
  refine W.tr (Tr.nilC 1 2 6 rfl rfl rfl) ?_
  exact W.ret (finN rfl rfl rfl rfl)
 have hPl:=pPlain_FS b hOb
 have epl:plP b=⟨b.cs,b.st,plE b⟩:=if_pos h0
 rw [epl,h0] at hPl
 have hla:=plE_length b
 have ha2:=plE_20 hOb
 have hVO:=vtB_ok (os:=os) ha2 (by omega) ho
 have hres:(∀ i (h:i < os.length),cllX b os[i]=0)→cnX b os=0∧cnP b os=⟨b.cs,b.st,stl (cnK (vtB (plE b) os os.length) os.length (plE b).length)⟩:=fun h=>by
  rw [vtB_all,hla];exact cn_4 h0 h64 h
 have hAL:∀ k (h:k < os.length),Ctr Tryz.prog 63 [.ls 6 ((plE b).map eEv),.ls 6 ((plE os[k]).map eEv)] (.tu [.ls 2 ((prsA (plE b) (plE os[k])).map ePr),.sc (.int .i64 (csA (plE b) (plE os[k]) 0 0))]):=fun k h=>by
  obtain ⟨q1,q2⟩:=ho _ (List.getElem_mem h)
  exact pAlign_FS (plE b) (plE os[k]) (by rw [plE_length];omega) (by rw [plE_length];omega) ha2 (plE_20 q1)
 obtain ⟨PA,hPA⟩:∃ z,plE b=z:=⟨_,rfl⟩
 rw [hPA] at hPl hla ha2 hVO hres hAL
 have hPAl:PA.length≤60:=by omega
 have hol2:os.length≤64:=by omega
 clear h64 hol
 refine Ctr.intro Tryz.func38 rfl Tryz.ntmps38 (Nat.le_of_ble_eq_true rfl) (bd_all rfl) fun w0 F0=>?_;dsimp only [St.init,number,Nat.reduceAdd]
 repeat refine W.go rfl ?_
 refine (?_:WL _ _ _ _ _ _)
 dsimp only [St.put,Nat.reduceAdd]
 refine WL.vl rfl (WV.call rfl (callF Tryz.func52 rfl rfl) rfl rfl hC) ?_
 repeat (first|refine W.gob rfl ?_|refine WL.nil ?_|refine WL.bf rfl rfl rfl (by omega) ?_|refine WL.nf rfl rfl rfl (by omega) ?_|refine WL.e1 rfl ?_|refine WL.len rfl rfl (by first|exact List.length_map _|exact List.length_replicate|rfl) ?_|refine W.condF rfl ?_)
 refine (?_:WL _ _ _ _ _ _)
 dsimp only [St.put,Nat.reduceAdd]
 refine WL.vl rfl (WV.call rfl (callF Tryz.func40 rfl rfl) rfl rfl hPl) ?_
 repeat (first|refine W.gob rfl ?_|refine WL.nil ?_|refine WL.nf rfl rfl rfl (by omega) ?_|refine WL.e1 rfl ?_|refine WL.len rfl rfl (by first|exact List.length_map _|exact List.length_replicate|rfl) ?_|refine W.condF rfl ?_)
 refine (?_:WL _ _ _ _ _ _)
 dsimp only [St.put,Nat.reduceAdd]
 refine WL.mks (x:=⟨142,.slice none 0 0,PA.length,PA.length⟩) rfl rfl rfl (show ((PA.length:Nat):Int).toNat=PA.length by simp) ⟨by show 0≤((PA.length:Nat):Int);omega,by show ((PA.length:Nat):Int)≤1000000;omega⟩ ?_
 refine WL.tr (Tr.nilOw 3 144 7 rfl) ?_
 dsimp only [St.upd]
 rw [← nil_rows,← V1_0]
 repeat (first|refine W.gob rfl ?_|refine WL.nil ?_|refine WL.e1 rfl ?_|refine WL.len rfl rfl (by first|exact List.length_map _|exact List.length_replicate|rfl) ?_)
 refine (?_:WL _ _ _ _ _ _)
 dsimp only [St.put,Nat.reduceAdd]
 refine WL.mks (x:=⟨3,.int .i64 0,PA.length,PA.length⟩) rfl rfl rfl (show ((PA.length:Nat):Int).toNat=PA.length by simp) ⟨by show 0≤((PA.length:Nat):Int);omega,by show ((PA.length:Nat):Int)≤1000000;omega⟩ ?_
 dsimp only
 rw [← zero_rows]
 repeat (first|refine W.gob rfl ?_|refine WL.nil ?_|refine WL.e1 rfl ?_)
 refine (?_:WL _ _ _ _ _ _)
 dsimp only [St.put,Nat.reduceAdd]
 refine WL.vl rfl (WV.mkf rfl rfl) ?_
 repeat (first|refine W.gob rfl ?_|refine WL.nil ?_|refine WL.e1 rfl ?_|refine WL.len rfl rfl (by first|exact List.length_map _|exact List.length_replicate|rfl) ?_)
 refine (?_:W _ _ _ _ _)
 dsimp only [St.put,Nat.reduceAdd]
 refine W.loop (fun k:Nat=>k≤PA.length) (fun k=>⟨[(1,.ls 3 OS),(2,.pt 0 0 0),(4,.pt 1 0 0),(7,.pt 2 0 0),(9,.pt 4 0 0),(10,.sl 5),(11,.fn 80 [.pt 4 0 0]),(54,.ls 6 (PA.map eEv)),(55,.sc (.int .i64 PA.length)),(56,.sc (.int .i64 k))],[(0,.box 28 [.ls 3 (b.cs.map eCrs),.ls 1 (b.st.map eInt),.ls 6 (b.evs.map eEv)]),(1,.box 28 [.sc (.slice none 0 0),.sc (.slice none 0 0),.sc (.slice none 0 0)]),(2,.box 28 [.ls 3 (b.cs.map eCrs),.ls 1 (b.st.map eInt),.ls 6 (PA.map eEv)]),(3,.rwn 142 1 ((V1 PA k).map eVL)),(4,.box 140 [.sl 3]),(5,.row 3 1 ((PA.map fun _=>(0:Int)).map eInt))],6⟩) (fun k=>PA.length - k) 0 (by omega) (Tr.ren id (by repeat (first|exact trivial|refine ⟨⟨?_,?_⟩,?_⟩|rfl)) (by repeat (first|exact trivial|refine ⟨⟨?_,?_,?_⟩,?_⟩|rfl)) rfl) fun k hk=>?_
 by_cases hlt:k < PA.length
 ·have hVl:=V1_len hk
  have hki:k < (V1 PA k).length:=by omega
  have hcast:=cast_G (V1 PA k) k PA[k] hki (by omega) (by rw [V1_at hlt hki];simp) (by rw [V1_at hlt hki];intro v hv;cases hv) (ha2 _ (List.getElem_mem hlt))
  rw [V1_set hlt hki] at hcast
  repeat (first|refine W.gob rfl ?_|refine WL.nil ?_|refine WL.bt rfl rfl rfl (by omega) ?_|refine WL.e1 rfl ?_|refine WL.idx rfl rfl (by omega) (by first|exact map_at (by omega)|exact map_atZ (by omega) (by omega)) ?_|refine W.condT rfl ?_)
  refine (?_:WL _ _ _ _ _ _)
  dsimp only [St.put,Nat.reduceAdd]
  refine WL.cto (truH _) [4,3] rfl rfl (callF Tryz.func80 rfl rfl) hcast rfl rfl rfl ⟨⟨rfl,rfl,rfl⟩,⟨rfl,rfl,rfl⟩,trivial⟩ rfl rfl rfl rfl ?_
  repeat (first|refine W.gob rfl ?_|refine WL.nil ?_|refine WL.e1 rfl ?_|refine WL.ar rfl rfl (by unfold I64;omega) ?_)
  dsimp only [St.put,Nat.reduceAdd]
  exact ⟨k+1,by omega,by omega,(Tr.ren id (by repeat (first|exact trivial|refine ⟨⟨?_,?_⟩,?_⟩|rfl)) (by repeat (first|exact trivial|refine ⟨⟨?_,?_,?_⟩,?_⟩|rfl)) rfl)⟩
 obtain rfl:k=PA.length:=by omega
 rw [V1_all]
 repeat (first|refine W.gob rfl ?_|refine WL.nil ?_|refine WL.bf rfl rfl rfl (by omega) ?_|refine WL.e1 rfl ?_|refine WL.len rfl rfl (by first|exact List.length_map _|exact List.length_replicate|rfl) ?_|refine W.condF rfl ?_)
 refine (?_:W _ _ _ _ _)
 dsimp only [St.put,Nat.reduceAdd]
 refine W.loop (fun s:Nat×VS=>s.1≤os.length∧s.2=vtB PA os s.1∧∀ i (h:i < os.length),i < s.1→cllX b os[i]=0) (fun s=>⟨[(1,.ls 3 OS),(2,.pt 0 0 0),(4,.pt 1 0 0),(7,.pt 2 0 0),(9,.pt 4 0 0),(10,.sl 5),(11,.fn 80 [.pt 4 0 0]),(66,.ls 3 OS),(67,.sc (.int .i64 OS.length)),(68,.sc (.int .i64 s.1))],[(0,.box 28 [.ls 3 (b.cs.map eCrs),.ls 1 (b.st.map eInt),.ls 6 (b.evs.map eEv)]),(1,.box 28 [.sc (.slice none 0 0),.sc (.slice none 0 0),.sc (.slice none 0 0)]),(2,.box 28 [.ls 3 (b.cs.map eCrs),.ls 1 (b.st.map eInt),.ls 6 (PA.map eEv)]),(3,.rwn 142 1 (s.2.1.map eVL)),(4,.box 140 [.sl 3]),(5,.row 3 1 (s.2.2.map eInt))],6⟩) (fun s=>os.length - s.1) (0,vt0 PA) ⟨by simp,rfl,fun i _ h=>absurd h (Nat.not_lt_zero i)⟩ (Tr.ren id (by repeat (first|exact trivial|refine ⟨⟨?_,?_⟩,?_⟩|rfl)) (by repeat (first|exact trivial|refine ⟨⟨?_,?_,?_⟩,?_⟩|rfl)) rfl) fun s hs=>?_
 obtain ⟨k,V,A⟩:=s
 obtain ⟨hk,hVA,hOk⟩:=hs
 dsimp only at hk hVA hOk ⊢
 have hvo:=hVO k hk
 rw [← hVA] at hvo
 obtain ⟨l1,l2,hne,hev,hab⟩:=hvo
 dsimp only at l1 l2 hne hev hab
 by_cases hlt:k < os.length
 ·obtain ⟨q1,q2⟩:=ho _ (List.getElem_mem hlt)
  have hBo:=both_FS b os[k] hOb q1
  have hOk1:=hOa k hlt
  by_cases hx:cllX b os[k]=0
  rotate_left
  ·obtain ⟨e1,e2⟩:=cn_3 (b:=b) (os:=os) h0 (by omega) hlt (fun i hi=>hOk i (by omega) hi) hx
   rw [e1,e2]
   obtain ⟨O,hO⟩:∃ z,os[k]=z:=⟨_,rfl⟩
   rw [hO] at hBo hOk1 hx ⊢
   obtain ⟨X,hX⟩:∃ z,cllX b O=z:=⟨_,rfl⟩
   obtain ⟨Y,hY⟩:∃ z,cllA b O=z:=⟨_,rfl⟩
   obtain ⟨Z,hZ⟩:∃ z,cllB b O=z:=⟨_,rfl⟩
   rw [hX] at hx ⊢
   rw [hX,hY,hZ] at hBo
   clear hVO hres hAL
   repeat (first|refine W.gob rfl ?_|refine WL.nil ?_|refine WL.bt rfl rfl rfl (by omega) ?_|refine W.condT rfl ?_)
   refine (?_:WL _ _ _ _ _ _)
   dsimp only [St.put,Nat.reduceAdd]
   refine WL.idx rfl rfl (by omega) hOk1 ?_
   repeat (first|refine W.gob rfl ?_|refine WL.nil ?_|refine WL.e1 rfl ?_)
   refine (?_:WL _ _ _ _ _ _)
   dsimp only [St.put,Nat.reduceAdd]
   refine WL.vl rfl (WV.call rfl (callF Tryz.func62 rfl rfl) rfl rfl hBo) ?_
   repeat (first|refine W.gob rfl ?_|refine WL.nil ?_|refine WL.nt rfl rfl rfl (by omega) ?_|refine WL.e1 rfl ?_|refine W.condT rfl ?_)
   refine (?_:W _ _ _ _ _)
   dsimp only [St.put,Nat.reduceAdd]
   refine W.tr (Tr.nilC 1 0 3 rfl rfl rfl) ?_
   refine W.tr (Tr.nilC 1 1 1 rfl rfl rfl) ?_
   refine W.tr (Tr.nilC 1 2 6 rfl rfl rfl) ?_
   exact W.ret (finN rfl rfl rfl rfl)
  have e3:cllA b os[k]=⟨b.cs,b.st,plE b⟩:=if_pos hx
  have e4:cllB b os[k]=⟨os[k].cs,os[k].st,plE os[k]⟩:=if_pos hx
  rw [e3,e4,hx,hPA] at hBo
  have hAl:=hAL k hlt
  have hnext:vtB PA os (k+1)=vtL PA (plE os[k]) (V,A):=by rw [vtB_s hlt,hVA]
  have hOk':∀ i (h:i < os.length),i < k+1→cllX b os[i]=0:=fun i h hi=>by
   by_cases e:i=k
   ·subst e;exact hx
   ·exact hOk i h (by omega)
  have hform:=prs_form (show Aln PA (plE os[k]) 0 0 (prsA PA (plE os[k])) from prs_aln (a:=PA) (b:=plE os[k]) (PA.length+(plE os[k]).length) 0 0 (Nat.zero_le _) (Nat.zero_le _) (by omega))
  have hPl2:(prsA PA (plE os[k])).length≤120:=by
   have:=prs_len' (a:=PA) (b:=plE os[k]) (PA.length+(plE os[k]).length) 0 0
   have e:=plE_length os[k]
   unfold prsA;omega
  have hb2:=plE_20 q1
  have hnx:vtL PA (plE os[k]) (V,A)=(prsA PA (plE os[k])).foldl (vtP (plE os[k])) (V,A):=rfl
  rw [hnx] at hnext
  have hvo2:VtOk PA.length (1+120*k) (V,A):=⟨l1,l2,hne,hev,hab⟩
  have hfold:∀ j,VtOk PA.length (1+120*k+120) (((prsA PA (plE os[k])).take j).foldl (vtP (plE os[k])) (V,A)):=fun j=>by
   have h:=vtOk_F hb2 (P:=(prsA PA (plE os[k])).take j) (by omega) hvo2
   have hl:((prsA PA (plE os[k])).take j).length≤120:=by rw [List.length_take];omega
   exact vtOk_up h (by omega)
  obtain ⟨O,hO⟩:∃ z,os[k]=z:=⟨_,rfl⟩
  rw [hO] at hBo hOk1 hAl hnext hform hPl2 hb2 hfold
  clear hnx e3 e4
  obtain ⟨PB,hPB⟩:∃ z,plE O=z:=⟨_,rfl⟩
  rw [hPB] at hBo hAl hnext hform hPl2 hb2 hfold
  obtain ⟨PL,hPL⟩:∃ z,prsA PA PB=z:=⟨_,rfl⟩
  obtain ⟨cost,hcost⟩:∃ z,csA PA PB 0 0=z:=⟨_,rfl⟩
  rw [hPL] at hAl hnext hform hPl2 hfold
  rw [hcost] at hAl
  have hQl:(PL.map ePr).length=PL.length:=List.length_map _
  have hQ:∀ j (h:j < PL.length),(PL.map ePr)[((j:Nat):Int).toNat]?=some (ePr PL[j]):=fun j h=>map_at h
  obtain ⟨QP,hQP⟩:∃ z,PL.map ePr=z:=⟨_,rfl⟩
  rw [hQP] at hAl hQl hQ
  clear hVO hres hAL hQP
  repeat (first|refine W.gob rfl ?_|refine WL.nil ?_|refine WL.bt rfl rfl rfl (by omega) ?_|refine W.condT rfl ?_)
  refine (?_:WL _ _ _ _ _ _)
  dsimp only [St.put,Nat.reduceAdd]
  refine WL.idx rfl rfl (by omega) hOk1 ?_
  repeat (first|refine W.gob rfl ?_|refine WL.nil ?_|refine WL.e1 rfl ?_)
  refine (?_:WL _ _ _ _ _ _)
  dsimp only [St.put,Nat.reduceAdd]
  refine WL.vl rfl (WV.call rfl (callF Tryz.func62 rfl rfl) rfl rfl hBo) ?_
  repeat (first|refine W.gob rfl ?_|refine WL.nil ?_|refine WL.nf rfl rfl rfl (by omega) ?_|refine WL.e1 rfl ?_|refine W.condF rfl ?_)
  refine (?_:WL _ _ _ _ _ _)
  dsimp only [St.put,Nat.reduceAdd]
  refine WL.vl rfl (WV.call rfl (callF Tryz.func63 rfl rfl) rfl rfl hAl) ?_
  repeat (first|refine W.gob rfl ?_|refine WL.nil ?_|refine WL.e1 rfl ?_|refine WL.len rfl rfl (by first|exact List.length_map _|exact List.length_replicate|rfl) ?_)
  refine (?_:W _ _ _ _ _)
  dsimp only [St.put,Nat.reduceAdd]
  refine W.loop (fun q:Nat×VS=>q.1≤PL.length∧q.2=(PL.take q.1).foldl (vtP PB) (V,A)) (fun q=>⟨[(1,.ls 3 OS),(2,.pt 0 0 0),(4,.pt 1 0 0),(7,.pt 2 0 0),(9,.pt 4 0 0),(10,.sl 5),(11,.fn 80 [.pt 4 0 0]),(17,.pt 8 0 0),(66,.ls 3 OS),(67,.sc (.int .i64 OS.length)),(68,.sc (.int .i64 k)),(91,.ls 2 QP),(92,.sc (.int .i64 QP.length)),(93,.sc (.int .i64 q.1))],[(0,.box 28 [.ls 3 (b.cs.map eCrs),.ls 1 (b.st.map eInt),.ls 6 (b.evs.map eEv)]),(1,.box 28 [.sc (.slice none 0 0),.sc (.slice none 0 0),.sc (.slice none 0 0)]),(2,.box 28 [.ls 3 (b.cs.map eCrs),.ls 1 (b.st.map eInt),.ls 6 (PA.map eEv)]),(3,.rwn 142 1 (q.2.1.map eVL)),(4,.box 140 [.sl 3]),(5,.row 3 1 (q.2.2.map eInt)),(8,.box 28 [.ls 3 (O.cs.map eCrs),.ls 1 (O.st.map eInt),.ls 6 (PB.map eEv)])],9⟩) (fun q=>PL.length - q.1) (0,V,A) ⟨by simp,rfl⟩ (Tr.ren id (by repeat (first|exact trivial|refine ⟨⟨?_,?_⟩,?_⟩|rfl)) (by repeat (first|exact trivial|refine ⟨⟨?_,?_,?_⟩,?_⟩|rfl)) rfl) fun q hq=>?_
  obtain ⟨j,V2,A2⟩:=q
  obtain ⟨hj,hVA2⟩:=hq
  dsimp only at hj hVA2 ⊢
  by_cases hjt:j < PL.length
  ·have hvj:=hfold j
   rw [← hVA2] at hvj
   obtain ⟨m1,m2,mne,mev,mab⟩:=hvj
   dsimp only at m1 m2 mne mev mab
   have hqj:=hQ j hjt
   have hst:(PL.take (j+1)).foldl (vtP PB) (V,A)=vtP PB (V2,A2) PL[j]:=by
    rw [List.take_succ_eq_append_getElem hjt,List.foldl_append,← hVA2];rfl
   rcases hform _ (List.getElem_mem hjt) with ⟨i,z,hi,hz,hp⟩|⟨i,hi,hp⟩|⟨z,hz,hp⟩
   ·have hi1:i < V2.length:=by omega
    rw [hp] at hqj hst
    have hst2:=vtP_both (ys:=PB) (s:=(V2,A2)) hi1 hz
    rw [hst2] at hst
    dsimp only at hst
    have hm:=mne _ (List.getElem_mem hi1)
    have hcast:=cast_G V2 i PB[z] hi1 (by omega) (by omega) (fun v hv=>by have:=mev _ (List.getElem_mem hi1) v hv;omega) (hb2 _ (List.getElem_mem hz))
    have hqj:QP[((j:Nat):Int).toNat]?=some [.sc (.int .i64 (i:Int)),.sc (.int .i64 (z:Int))]:=hqj
    clear mne mev mab hne hev hab hfold hst2 hVA2
    repeat (first|refine W.gob rfl ?_|refine WL.nil ?_|refine WL.bt rfl rfl rfl (by omega) ?_|refine W.condT rfl ?_)
    refine (?_:WL _ _ _ _ _ _)
    dsimp only [St.put,Nat.reduceAdd]
    refine WL.idx rfl rfl (by omega) hqj ?_
    repeat (first|refine W.gob rfl ?_|refine WL.nil ?_|refine WL.bt rfl rfl rfl (by omega) ?_|refine WL.e1 rfl ?_|refine WL.gyes rfl rfl rfl rfl ?_|refine W.condT rfl ?_)
    refine (?_:W _ _ _ _ _)
    dsimp only [St.put,Nat.reduceAdd]
    refine W.dm3 [false,false,false,false,false,false,false,false,false,true] [8,9] (by kernel_rfl) (by kernel_rfl) (by kernel_rfl) (by repeat constructor) ?_
    repeat (first|refine DMK.st rfl rfl ?_|refine DMK.idx rfl rfl (by omega) (by first|exact map_at (by omega)|exact map_atZ (by omega) (by omega)) ?_)
    refine DMK.ct (truH _) [4,3] rfl rfl (callF Tryz.func80 rfl rfl) hcast rfl rfl rfl ⟨⟨rfl,rfl,rfl⟩,⟨rfl,rfl,rfl⟩,trivial⟩ rfl rfl rfl rfl (by repeat constructor) ?_
    repeat refine DMK.nil ?_
    repeat (first|refine W.gob rfl ?_|refine WL.nil ?_|refine WL.e1 rfl ?_|refine WL.ar rfl rfl (by unfold I64;omega) ?_)
    dsimp only [St.put,Nat.reduceAdd]
    refine ⟨(j+1,V2.set i (cstV V2[i] PB[z]),A2),⟨by show j+1≤_;omega,hst.symm⟩,by show PL.length - (j+1) < PL.length - j;omega,?_⟩
    exact (Tr.ren id (by repeat (first|exact trivial|refine ⟨⟨?_,?_⟩,?_⟩|rfl)) (by repeat (first|exact trivial|refine ⟨⟨?_,?_,?_⟩,?_⟩|rfl)) rfl)
   ·have hi1:i < A2.length:=by omega
    rw [hp] at hqj hst
    have hst2:=vtP_left (ys:=PB) (s:=(V2,A2)) hi1
    rw [hst2] at hst
    dsimp only at hst
    have hm:=mab _ (List.getElem_mem hi1)
    have hat:(A2.map eInt)[i]?=some (eInt A2[i]):=by rw [List.getElem?_map,List.getElem?_eq_getElem hi1];rfl
    have hput:=int_put hi1
    have hqj:QP[((j:Nat):Int).toNat]?=some [.sc (.int .i64 (i:Int)),.sc (.int .i64 (-1))]:=hqj
    have hA2l:(A2.map eInt).length=A2.length:=List.length_map _
    clear mne mev mab hne hev hab hfold hst2 hVA2
    repeat (first|refine W.gob rfl ?_|refine WL.nil ?_|refine WL.bt rfl rfl rfl (by omega) ?_|refine W.condT rfl ?_)
    refine (?_:WL _ _ _ _ _ _)
    dsimp only [St.put,Nat.reduceAdd]
    refine WL.idx rfl rfl (by omega) hqj ?_
    repeat (first|refine W.gob rfl ?_|refine WL.nil ?_|refine WL.bt rfl rfl rfl (by omega) ?_|refine WL.bf rfl rfl rfl (by omega) ?_|refine WL.e1 rfl ?_|refine WL.gyes rfl rfl rfl rfl ?_|refine WL.ixs rfl rfl (by first|omega|(simp;done)|(simp;omega)) ?_|refine W.condT rfl ?_|refine W.condF rfl ?_)
    refine (?_:WL _ _ _ _ _ _)
    dsimp only [St.put,Nat.reduceAdd]
    refine WL.ldr rfl rfl hat rfl rfl ?_
    repeat (first|refine WL.ar rfl rfl (by unfold I64;omega) ?_|refine WL.ixs rfl rfl (by first|omega|(simp;done)|(simp;omega)) ?_)
    refine (?_:WL _ _ _ _ _ _)
    dsimp only [St.put,Nat.reduceAdd]
    refine WL.sto rfl rfl rfl rfl hat (by show 0+1≤1;omega) ?_
    repeat (first|refine W.gob rfl ?_|refine WL.nil ?_|refine WL.e1 rfl ?_|refine WL.ar rfl rfl (by unfold I64;omega) ?_)
    dsimp only [St.put,Nat.reduceAdd]
    refine ⟨(j+1,V2,A2.set i (A2[i]+1)),⟨by show j+1≤_;omega,hst.symm⟩,by show PL.length - (j+1) < PL.length - j;omega,?_⟩
    exact (Tr.ren (fun q=>q) (by repeat (first|exact trivial|refine ⟨⟨?_,?_⟩,?_⟩|rfl)) (by repeat (first|exact trivial|refine ⟨⟨?_,?_,?_⟩,?_⟩|rfl|exact congrArg (fun q=>some (AO.row _ _ q)) hput)) rfl)
   ·rw [hp] at hqj hst
    rw [vtP_right] at hst
    have hqj:QP[((j:Nat):Int).toNat]?=some [.sc (.int .i64 (-1)),.sc (.int .i64 (z:Int))]:=hqj
    clear mne mev mab hne hev hab hfold hVA2
    repeat (first|refine W.gob rfl ?_|refine WL.nil ?_|refine WL.bt rfl rfl rfl (by omega) ?_|refine W.condT rfl ?_)
    refine (?_:WL _ _ _ _ _ _)
    dsimp only [St.put,Nat.reduceAdd]
    refine WL.idx rfl rfl (by omega) hqj ?_
    repeat (first|refine W.gob rfl ?_|refine WL.nil ?_|refine WL.bf rfl rfl rfl (by omega) ?_|refine WL.e1 rfl ?_|refine WL.opno rfl rfl rfl rfl rfl rfl rfl ?_|refine WL.ar rfl rfl (by unfold I64;omega) ?_|refine W.condF rfl ?_)
    dsimp only [St.put,Nat.reduceAdd]
    refine ⟨(j+1,V2,A2),⟨by show j+1≤_;omega,hst.symm⟩,by show PL.length - (j+1) < PL.length - j;omega,?_⟩
    exact (Tr.ren id (by repeat (first|exact trivial|refine ⟨⟨?_,?_⟩,?_⟩|rfl)) (by repeat (first|exact trivial|refine ⟨⟨?_,?_,?_⟩,?_⟩|rfl)) rfl)
  ·obtain rfl:j=PL.length:=by omega
   rw [List.take_length,← hnext] at hVA2
   repeat (first|refine W.gob rfl ?_|refine WL.nil ?_|refine WL.bf rfl rfl rfl (by omega) ?_|refine WL.e1 rfl ?_|refine WL.ar rfl rfl (by unfold I64;omega) ?_|refine W.condF rfl ?_)
   dsimp only [St.put,Nat.reduceAdd]
   refine ⟨(k+1,V2,A2),⟨by show k+1≤_;omega,hVA2,hOk'⟩,by show os.length - (k+1) < os.length - k;omega,?_⟩
   exact (Tr.ren id (by repeat (first|exact trivial|refine ⟨⟨?_,?_⟩,?_⟩|rfl)) (by repeat (first|exact trivial|refine ⟨⟨?_,?_,?_⟩,?_⟩|rfl)) rfl)
 obtain rfl:k=os.length:=by omega
 obtain ⟨hr1,hr2⟩:=hres fun i h=>hOk i h h
 rw [← hVA] at hr2
 rw [hr1,hr2]
 have hck:∀ k,k≤PA.length→∀ e∈cnK (V,A) os.length k,e.stops.length≤20:=fun k h=>cnK_20 (m:=os.length) (show VtOk PA.length (1+120*os.length) (V,A) from ⟨l1,l2,hne,hev,hab⟩) k h
 have hcl:∀ k,(cnK (V,A) os.length k).length≤k:=fun k=>cnK_len k
 have hml:(V.map eVL).length=V.length:=List.length_map _
 have hal:(A.map eInt).length=A.length:=List.length_map _
 clear hVO hAL hres hVA
 repeat (first|refine W.gob rfl ?_|refine WL.nil ?_|refine WL.bf rfl rfl rfl (by omega) ?_|refine WL.e1 rfl ?_|refine WL.len rfl rfl (by first|exact List.length_map _|exact List.length_replicate|rfl) ?_|refine W.condF rfl ?_)
 refine (?_:W _ _ _ _ _)
 dsimp only [St.put,Nat.reduceAdd]
 refine W.tr (Tr.nilBox (k:=6) (j:=2) 36 6 rfl rfl rfl rfl) ?_
 dsimp only [St.put,St.new,St.upd,Nat.reduceAdd]
 refine (?_:W _ _ _ _ _)
 refine W.loop (fun k:Nat=>k≤PA.length) (fun k=>⟨[(1,.ls 3 OS),(4,.pt 1 0 0),(9,.pt 4 0 0),(10,.sl 5),(23,.pt 6 0 0),(133,.sc (.int .i64 V.length)),(134,.sc (.int .i64 k))],[(1,.box 28 [.sc (.slice none 0 0),.sc (.slice none 0 0),.sc (.slice none 0 0)]),(3,.rwn 142 1 (V.map eVL)),(4,.box 140 [.sl 3]),(5,.row 3 1 (A.map eInt)),(6,.box 28 [.ls 3 (b.cs.map eCrs),.ls 1 (b.st.map eInt),.sl 7]),(7,.row 36 6 ((cnK (V,A) os.length k).map eEv))],8⟩) (fun k=>PA.length - k) 0 (by omega) (Tr.ren (fun q=>q) (by repeat (first|exact trivial|refine ⟨⟨?_,?_⟩,?_⟩|rfl)) (by repeat (first|exact trivial|refine ⟨⟨?_,?_,?_⟩,?_⟩|rfl|exact congrArg (fun q=>some (AO.row _ _ q)) rfl)) rfl) fun k hk=>?_
 by_cases hlt:k < PA.length
 ·have hkV:k < V.length:=by omega
  have hkA:k < A.length:=by omega
  have hat:=eVL_at hkV
  have haa:(A.map eInt)[k]?=some (eInt A[k]):=by rw [List.getElem?_map,List.getElem?_eq_getElem hkA];rfl
  have hc:=cnK_s (m:=os.length) hkV hkA
  have hab1:=hab _ (List.getElem_mem hkA)
  have hne1:=hne _ (List.getElem_mem hkV)
  have hev1:=hev _ (List.getElem_mem hkV)
  have hW:=winner_G V[k] (by omega) (by omega) (fun v hv=>by have:=hev1 v hv;omega)
  have hcl1:=hcl k
  have hmc:((cnK (V,A) os.length k).map eEv).length=(cnK (V,A) os.length k).length:=List.length_map _
  have hclo:(V.map eVL).set k ((eVL V[k]).set 0 (.ow 144 7 (V[k].map eVt)))=V.map eVL:=by
   have:=eVL_set (V:=V) (i:=k) (l0:=V[k]) V[k]
   rw [this,List.set_getElem_self]
  by_cases hkp:A[k]≤(os.length:Int)+1 - A[k]
  ·rw [if_pos hkp] at hc
   have hmap:(cnK (V,A) os.length k).map eEv++[eEv (winV V[k])]=(cnK (V,A) os.length (k+1)).map eEv:=by rw [hc,List.map_append];rfl
   clear hne hev hab hev1 hck hcl
   repeat (first|refine W.gob rfl ?_|refine WL.nil ?_|refine WL.bt rfl rfl rfl (by omega) ?_|refine WL.e1 rfl ?_|refine W.condT rfl ?_)
   refine (?_:W _ _ _ _ _)
   dsimp only [St.put,Nat.reduceAdd]
   refine W.drawK (by kernel_rfl) (by kernel_rfl) ?_
   repeat (first|refine DK.st rfl ?_|refine DK.ixs rfl rfl (by first|omega|(simp;done)|(simp;omega)) ?_)
   refine DK.ldr rfl rfl haa rfl rfl ?_
   repeat (first|refine DK.st rfl ?_|refine DK.ar rfl rfl (by unfold I64;omega) ?_|refine DK.len rfl rfl (by first|exact List.length_map _|exact List.length_replicate|rfl) ?_|refine DK.ixs rfl rfl (by first|omega|(simp;done)|(simp;omega)) ?_)
   refine DK.ldr rfl rfl haa rfl rfl ?_
   repeat (first|refine DK.bt rfl rfl (by omega) ?_|refine DK.ar rfl rfl (by unfold I64;omega) ?_|refine DK.nil ?_)
   repeat refine W.condT rfl ?_
   refine (?_:W _ _ _ _ _)
   dsimp only [St.put,Nat.reduceAdd]
   refine W.tr (Tr.open_ 3 k 0 rfl hat rfl (eVt_own _) rfl) ?_
   dsimp only [St.upd,St.new,Nat.reduceAdd]
   refine W.of_wa (by kernel_rfl) ?_
   refine WA.dt [false,false,false,false,false,false,true,true,true,false,true] [4,3] [4,3,6] 10 (by kernel_rfl) (by kernel_rfl) (by kernel_rfl) ⟨rfl,rfl,trivial⟩ ⟨rfl,rfl,rfl,trivial⟩ ?_
   refine DTK.st rfl (by kernel_rfl) rfl ?_
   refine DTK.st rfl (by kernel_rfl) rfl ?_
   refine DTK.st rfl (by kernel_rfl) rfl ?_
   refine DTK.st rfl (by kernel_rfl) rfl ?_
   refine DTK.ixs rfl (by kernel_rfl) rfl ⟨by omega,by omega⟩ ?_
   refine DTK.ldQ rfl (by kernel_rfl) rfl rfl rfl hat (by show 0 < 1;omega) ?_
   refine DTK.ct (truH _) [8] rfl rfl (callF Tryz.func83 rfl rfl) hW rfl rfl rfl ⟨⟨rfl,rfl,rfl⟩,trivial⟩ rfl rfl rfl rfl ⟨rfl,rfl,trivial⟩ (fun _=>⟨rfl,rfl,rfl,trivial⟩) ?_
   refine DTK.bd rfl rfl rfl ⟨rfl,rfl,trivial⟩ (fun _=>⟨rfl,rfl,rfl,trivial⟩) ?_
   refine DTK.ap rfl rfl (by show ((cnK (V,A) os.length k).map eEv).length+1≤1000000000;omega) ⟨rfl,rfl,trivial⟩ (fun _=>⟨rfl,rfl,rfl,trivial⟩) ?_
   refine DTK.st rfl (by kernel_rfl) rfl ?_
   refine DTK.sto rfl rfl rfl rfl rfl rfl rfl rfl rfl rfl rfl rfl rfl rfl ⟨rfl,rfl,trivial⟩ (fun h=>by cases h) ?_
   refine DTK.nil ?_
   refine W.tr (Tr.close_ 3 rfl rfl rfl hat (by show 0 < 1;omega) hclo) ?_
   dsimp only [St.upd,St.drop,rem,cond,Nat.beq]
   repeat (first|refine W.gob rfl ?_|refine WL.nil ?_|refine WL.e1 rfl ?_|refine WL.ar rfl rfl (by unfold I64;omega) ?_)
   dsimp only [St.put,Nat.reduceAdd]
   refine ⟨k+1,by omega,by omega,?_⟩
   exact (Tr.ren (fun q=>bif Nat.beq q 7 then 11 else q) (by repeat (first|exact trivial|refine ⟨⟨?_,?_⟩,?_⟩|rfl)) (by repeat (first|exact trivial|refine ⟨⟨?_,?_,?_⟩,?_⟩|rfl|exact congrArg (fun q=>some (AO.row _ _ q)) hmap)) rfl)
  ·rw [if_neg hkp] at hc
   clear hne hev hab hev1 hck hcl
   repeat (first|refine W.gob rfl ?_|refine WL.nil ?_|refine WL.bt rfl rfl rfl (by omega) ?_|refine WL.e1 rfl ?_|refine W.condT rfl ?_)
   refine (?_:W _ _ _ _ _)
   dsimp only [St.put,Nat.reduceAdd]
   refine W.drawK (by kernel_rfl) (by kernel_rfl) ?_
   repeat (first|refine DK.st rfl ?_|refine DK.ixs rfl rfl (by first|omega|(simp;done)|(simp;omega)) ?_)
   refine DK.ldr rfl rfl haa rfl rfl ?_
   repeat (first|refine DK.st rfl ?_|refine DK.ar rfl rfl (by unfold I64;omega) ?_|refine DK.len rfl rfl (by first|exact List.length_map _|exact List.length_replicate|rfl) ?_|refine DK.ixs rfl rfl (by first|omega|(simp;done)|(simp;omega)) ?_)
   refine DK.ldr rfl rfl haa rfl rfl ?_
   repeat (first|refine DK.bf rfl rfl (by omega) ?_|refine DK.ar rfl rfl (by unfold I64;omega) ?_|refine DK.nil ?_)
   repeat (first|refine W.gob rfl ?_|refine WL.nil ?_|refine WL.e1 rfl ?_|refine WL.ar rfl rfl (by unfold I64;omega) ?_|refine W.condF rfl ?_)
   dsimp only [St.put,Nat.reduceAdd]
   refine ⟨k+1,by omega,by omega,?_⟩
   rw [hc]
   exact (Tr.ren id (by repeat (first|exact trivial|refine ⟨⟨?_,?_⟩,?_⟩|rfl)) (by repeat (first|exact trivial|refine ⟨⟨?_,?_,?_⟩,?_⟩|rfl)) rfl)
 obtain rfl:k=PA.length:=by omega
 have hl1:=hcl PA.length
 have hSt:=settle_G b.cs b.st (cnK (V,A) os.length PA.length) hOb.n1 hOb.n2 (by omega) (hck _ (Nat.le_refl _))
 obtain ⟨L,hL⟩:∃ z,cnK (V,A) os.length PA.length=z:=⟨_,rfl⟩
 rw [hL] at hSt ⊢
 clear hne hev hab hck hcl
 repeat (first|refine W.gob rfl ?_|refine WL.nil ?_|refine WL.bf rfl rfl rfl (by omega) ?_|refine WL.e1 rfl ?_|refine W.condF rfl ?_)
 refine (?_:WL _ _ _ _ _ _)
 dsimp only [St.put,Nat.reduceAdd]
 refine WL.cto (truH _) [7] rfl rfl (callF Tryz.func84 rfl rfl) hSt rfl rfl rfl ⟨⟨rfl,rfl,rfl⟩,trivial⟩ rfl rfl rfl rfl ?_
 repeat (first|refine W.gob rfl ?_|refine WL.nil ?_|refine WL.e1 rfl ?_)
 refine (?_:W _ _ _ _ _)
 dsimp only [St.put,Nat.reduceAdd]
 refine W.tr (Tr.freezeW 7 1 rfl (List.all_eq_true.2 fun r hr=>List.all_eq_true.2 (eEvO_shal _ r hr)) (eEvO_rows _)) ?_
 exact W.ret (finN rfl rfl rfl rfl)
end Go.Proofs.YtgelfflighgajaaGreatDoor
namespace Go.Proofs.YtgelfflighgajaaGreatDoor
open Go.RowKit
theorem longU60 {p:Pce} (h:longB p=false):p.evs.length≤60:=by
 unfold longB at h
 simp only [Bool.or_eq_false_iff,decide_eq_false_iff_not]at h
 omega
theorem plP_okU {p:Pce} (hO:PcOk p)(h0:pceE p=0):PcOk (plP p):=by
 have e:plP p =⟨p.cs,p.st,plE p⟩:=if_pos h0
 have hl:=plE_length p
 have hn:=hO.n3
 rw [e]
 refine⟨hO.n1,hO.n2,by show (plE p).length≤_;omega,fun k hk=>plE_20 hO _ (List.getElem_mem hk)⟩
theorem un_same {p:Pce} {m:Nat} (h0:pceE p=0) (hm:m≤64):cnX p (List.replicate m p)=0∧cnP p (List.replicate m p)=plP p:=by
 obtain ⟨hx,_⟩:=cll_4 h0 h0 (show sameI p.cs p.st p.cs p.st=true from decide_eq_true ⟨rfl,rfl⟩)
 obtain ⟨e1,e2⟩:=cn_4 (b:=p) (os:=List.replicate m p) h0 (by simp;omega) fun i hi=>by rw [List.getElem_replicate];exact hx
 refine ⟨e1,?_⟩
 have hu:Una (plE p) (vtA (plE p) (List.replicate m p)):=una_all (una_0 (plE p)) fun o ho=>List.eq_of_mem_replicate ho
 have hc:=una_cn (m:=(List.replicate m p).length) hu
 rw [plE_length] at hc
 have hst:stl (plE p)=plE p:=stl_own (p:=⟨p.cs,p.st,plE p⟩) (pceE_pl h0)
 rw [e2,hc,hst]
 exact (if_pos h0).symm
theorem un_one {p q:Pce} (h0:pceE p=0) (h1:pceE q=0) (hs:sameI p.cs p.st q.cs q.st=true):cnX p [q]=0∧cnP p [q]=plP p:=by
 obtain ⟨hx,_⟩:=cll_4 h0 h1 hs
 obtain ⟨e1,e2⟩:=cn_4 (b:=p) (os:=[q]) h0 (by simp) fun i hi=>by
  have:i=0:=by simpa using hi
  subst this;exact hx
 refine ⟨e1,?_⟩
 have hc:cnK (vtA (plE p) [q]) [q].length p.evs.length=plE p:=by
  have:=one_cn (xs:=plE p) (ys:=plE q)
  rw [plE_length] at this
  exact this
 have hst:stl (plE p)=plE p:=stl_own (p:=⟨p.cs,p.st,plE p⟩) (pceE_pl h0)
 rw [e2,hc,hst]
 exact (if_pos h0).symm
theorem unanimous_G (p q:Pce) (n:Int):Ctg tabB Tryz.prog 10 [ePce p,ePce q,.sc (.int .i64 n)] (.sc (.bool true)):=by
 have hLa:=long_FS p
 have hLb:=long_FS q
 cases hla:longB p with
 | true =>
  rw [hla] at hLa
  refine Ctg.intro stabB Tryz.func10 rfl Tryz.ntmps10 (Nat.le_of_ble_eq_true rfl) (bd_all rfl) fun w0 F0 hB=>?_;dsimp only [St.init,number,Nat.reduceAdd]
  repeat refine W.go rfl ?_
  refine (?_:WL _ _ _ _ _ _)
  dsimp only [St.put,Nat.reduceAdd]
  refine WL.vl rfl (WV.call rfl (callF Tryz.func14 rfl rfl) rfl rfl hLa) ?_
  repeat (first|refine W.gob rfl ?_|refine WL.nil ?_|refine WL.e1 rfl ?_|refine WL.opno rfl rfl rfl rfl rfl rfl rfl ?_|refine W.condT rfl ?_)
  refine (?_:WL _ _ _ _ _ _)
  dsimp only [St.put,Nat.reduceAdd]
  refine WL.vl rfl (WV.callG hB rfl (callF Tryz.func15 rfl rfl) rfl rfl works11_G) ?_
  repeat refine WL.ev rfl ?_
  refine (?_:W _ _ _ _ _)
  dsimp only [St.put,Nat.reduceAdd]
  exact W.ret (fin1 rfl rfl rfl rfl)
 | false =>
 rw [hla] at hLa
 cases hlb:longB q with
 | true =>
  rw [hlb] at hLb
  refine Ctg.intro stabB Tryz.func10 rfl Tryz.ntmps10 (Nat.le_of_ble_eq_true rfl) (bd_all rfl) fun w0 F0 hB=>?_;dsimp only [St.init,number,Nat.reduceAdd]
  repeat refine W.go rfl ?_
  refine (?_:WL _ _ _ _ _ _)
  dsimp only [St.put,Nat.reduceAdd]
  refine WL.vl rfl (WV.call rfl (callF Tryz.func14 rfl rfl) rfl rfl hLa) ?_
  repeat (first|refine WL.e1 rfl ?_|refine WL.gyes rfl rfl rfl rfl ?_)
  refine (?_:WL _ _ _ _ _ _)
  dsimp only [St.put,Nat.reduceAdd]
  refine WL.vl rfl (WV.call rfl (callF Tryz.func14 rfl rfl) rfl rfl hLb) ?_
  repeat (first|refine W.gob rfl ?_|refine WL.nil ?_|refine WL.e1 rfl ?_|refine WL.opno rfl rfl rfl rfl rfl rfl rfl ?_|refine W.condT rfl ?_)
  refine (?_:WL _ _ _ _ _ _)
  dsimp only [St.put,Nat.reduceAdd]
  refine WL.vl rfl (WV.callG hB rfl (callF Tryz.func15 rfl rfl) rfl rfl works11_G) ?_
  repeat refine WL.ev rfl ?_
  refine (?_:W _ _ _ _ _)
  dsimp only [St.put,Nat.reduceAdd]
  exact W.ret (fin1 rfl rfl rfl rfl)
 | false =>
 rw [hlb] at hLb
 by_cases hn0:n < 0
 ·clear hla hlb
  refine Ctg.intro stabB Tryz.func10 rfl Tryz.ntmps10 (Nat.le_of_ble_eq_true rfl) (bd_all rfl) fun w0 F0 hB=>?_;dsimp only [St.init,number,Nat.reduceAdd]
  repeat refine W.go rfl ?_
  refine (?_:WL _ _ _ _ _ _)
  dsimp only [St.put,Nat.reduceAdd]
  refine WL.vl rfl (WV.call rfl (callF Tryz.func14 rfl rfl) rfl rfl hLa) ?_
  repeat (first|refine WL.e1 rfl ?_|refine WL.gyes rfl rfl rfl rfl ?_)
  refine (?_:WL _ _ _ _ _ _)
  dsimp only [St.put,Nat.reduceAdd]
  refine WL.vl rfl (WV.call rfl (callF Tryz.func14 rfl rfl) rfl rfl hLb) ?_
  repeat (first|refine W.gob rfl ?_|refine WL.nil ?_|refine WL.bt rfl rfl rfl (by omega) ?_|refine WL.e1 rfl ?_|refine WL.gyes rfl rfl rfl rfl ?_|refine WL.opno rfl rfl rfl rfl rfl rfl rfl ?_|refine W.condT rfl ?_)
  refine (?_:WL _ _ _ _ _ _)
  dsimp only [St.put,Nat.reduceAdd]
  refine WL.vl rfl (WV.callG hB rfl (callF Tryz.func15 rfl rfl) rfl rfl works11_G) ?_
  repeat refine WL.ev rfl ?_
  refine (?_:W _ _ _ _ _)
  dsimp only [St.put,Nat.reduceAdd]
  exact W.ret (fin1 rfl rfl rfl rfl)
 by_cases hn8:8 < n
 ·clear hla hlb
  refine Ctg.intro stabB Tryz.func10 rfl Tryz.ntmps10 (Nat.le_of_ble_eq_true rfl) (bd_all rfl) fun w0 F0 hB=>?_;dsimp only [St.init,number,Nat.reduceAdd]
  repeat refine W.go rfl ?_
  refine (?_:WL _ _ _ _ _ _)
  dsimp only [St.put,Nat.reduceAdd]
  refine WL.vl rfl (WV.call rfl (callF Tryz.func14 rfl rfl) rfl rfl hLa) ?_
  repeat (first|refine WL.e1 rfl ?_|refine WL.gyes rfl rfl rfl rfl ?_)
  refine (?_:WL _ _ _ _ _ _)
  dsimp only [St.put,Nat.reduceAdd]
  refine WL.vl rfl (WV.call rfl (callF Tryz.func14 rfl rfl) rfl rfl hLb) ?_
  repeat (first|refine W.gob rfl ?_|refine WL.nil ?_|refine WL.bt rfl rfl rfl (by omega) ?_|refine WL.bf rfl rfl rfl (by omega) ?_|refine WL.e1 rfl ?_|refine WL.gyes rfl rfl rfl rfl ?_|refine WL.opno rfl rfl rfl rfl rfl rfl rfl ?_|refine W.condT rfl ?_)
  refine (?_:WL _ _ _ _ _ _)
  dsimp only [St.put,Nat.reduceAdd]
  refine WL.vl rfl (WV.callG hB rfl (callF Tryz.func15 rfl rfl) rfl rfl works11_G) ?_
  repeat refine WL.ev rfl ?_
  refine (?_:W _ _ _ _ _)
  dsimp only [St.put,Nat.reduceAdd]
  exact W.ret (fin1 rfl rfl rfl rfl)
 have hOa:=pcOk_of3 hla
 have hOb:=pcOk_of3 hlb
 have h60a:=longU60 hla
 have h60b:=longU60 hlb
 have hCa:=rCheck_FS p hOa
 have hCb:=rCheck_FS q hOb
 obtain ⟨m,rfl⟩:∃ m:Nat,n=m:=⟨n.toNat,by omega⟩
 have hm8:m≤8:=by omega
 clear hla hlb
 by_cases ha:pceE p=0
 rotate_left
 ·obtain ⟨E,hE⟩:∃ E,pceE p=E:=⟨_,rfl⟩
  rw [hE] at ha hCa
  refine Ctg.intro stabB Tryz.func10 rfl Tryz.ntmps10 (Nat.le_of_ble_eq_true rfl) (bd_all rfl) fun w0 F0 hB=>?_;dsimp only [St.init,number,Nat.reduceAdd]
  repeat refine W.go rfl ?_
  refine (?_:WL _ _ _ _ _ _)
  dsimp only [St.put,Nat.reduceAdd]
  refine WL.vl rfl (WV.call rfl (callF Tryz.func14 rfl rfl) rfl rfl hLa) ?_
  repeat (first|refine WL.e1 rfl ?_|refine WL.gyes rfl rfl rfl rfl ?_)
  refine (?_:WL _ _ _ _ _ _)
  dsimp only [St.put,Nat.reduceAdd]
  refine WL.vl rfl (WV.call rfl (callF Tryz.func14 rfl rfl) rfl rfl hLb) ?_
  repeat (first|refine WL.bf rfl rfl rfl (by omega) ?_|refine WL.e1 rfl ?_|refine WL.gyes rfl rfl rfl rfl ?_)
  refine (?_:WL _ _ _ _ _ _)
  dsimp only [St.put,Nat.reduceAdd]
  refine WL.vl rfl (WV.call rfl (callF Tryz.func28 rfl rfl) rfl rfl hCa) ?_
  repeat (first|refine W.gob rfl ?_|refine WL.nil ?_|refine WL.nt rfl rfl rfl (by omega) ?_|refine WL.e1 rfl ?_|refine WL.gyes rfl rfl rfl rfl ?_|refine WL.opno rfl rfl rfl rfl rfl rfl rfl ?_|refine W.condT rfl ?_)
  refine (?_:WL _ _ _ _ _ _)
  dsimp only [St.put,Nat.reduceAdd]
  refine WL.vl rfl (WV.callG hB rfl (callF Tryz.func15 rfl rfl) rfl rfl works11_G) ?_
  repeat refine WL.ev rfl ?_
  refine (?_:W _ _ _ _ _)
  dsimp only [St.put,Nat.reduceAdd]
  exact W.ret (fin1 rfl rfl rfl rfl)
 rw [ha] at hCa
 by_cases hb:pceE q=0
 rotate_left
 ·obtain ⟨E,hE⟩:∃ E,pceE q=E:=⟨_,rfl⟩
  rw [hE] at hb hCb
  refine Ctg.intro stabB Tryz.func10 rfl Tryz.ntmps10 (Nat.le_of_ble_eq_true rfl) (bd_all rfl) fun w0 F0 hB=>?_;dsimp only [St.init,number,Nat.reduceAdd]
  repeat refine W.go rfl ?_
  refine (?_:WL _ _ _ _ _ _)
  dsimp only [St.put,Nat.reduceAdd]
  refine WL.vl rfl (WV.call rfl (callF Tryz.func14 rfl rfl) rfl rfl hLa) ?_
  repeat (first|refine WL.e1 rfl ?_|refine WL.gyes rfl rfl rfl rfl ?_)
  refine (?_:WL _ _ _ _ _ _)
  dsimp only [St.put,Nat.reduceAdd]
  refine WL.vl rfl (WV.call rfl (callF Tryz.func14 rfl rfl) rfl rfl hLb) ?_
  repeat (first|refine WL.bf rfl rfl rfl (by omega) ?_|refine WL.e1 rfl ?_|refine WL.gyes rfl rfl rfl rfl ?_)
  refine (?_:WL _ _ _ _ _ _)
  dsimp only [St.put,Nat.reduceAdd]
  refine WL.vl rfl (WV.call rfl (callF Tryz.func28 rfl rfl) rfl rfl hCa) ?_
  repeat (first|refine WL.nf rfl rfl rfl (by omega) ?_|refine WL.e1 rfl ?_|refine WL.gyes rfl rfl rfl rfl ?_)
  refine (?_:WL _ _ _ _ _ _)
  dsimp only [St.put,Nat.reduceAdd]
  refine WL.vl rfl (WV.call rfl (callF Tryz.func28 rfl rfl) rfl rfl hCb) ?_
  repeat (first|refine W.gob rfl ?_|refine WL.nil ?_|refine WL.nt rfl rfl rfl (by omega) ?_|refine WL.e1 rfl ?_|refine WL.gyes rfl rfl rfl rfl ?_|refine WL.opno rfl rfl rfl rfl rfl rfl rfl ?_|refine W.condT rfl ?_)
  refine (?_:WL _ _ _ _ _ _)
  dsimp only [St.put,Nat.reduceAdd]
  refine WL.vl rfl (WV.callG hB rfl (callF Tryz.func15 rfl rfl) rfl rfl works11_G) ?_
  repeat refine WL.ev rfl ?_
  refine (?_:W _ _ _ _ _)
  dsimp only [St.put,Nat.reduceAdd]
  exact W.ret (fin1 rfl rfl rfl rfl)
 rw [hb] at hCb
 have hSI:=rSameI_FS p.cs p.st q.cs q.st hOa.n1 hOa.n2 hOb.n1 hOb.n2
 cases hs:sameI p.cs p.st q.cs q.st with
 | false =>
  rw [hs] at hSI
  refine Ctg.intro stabB Tryz.func10 rfl Tryz.ntmps10 (Nat.le_of_ble_eq_true rfl) (bd_all rfl) fun w0 F0 hB=>?_;dsimp only [St.init,number,Nat.reduceAdd]
  repeat refine W.go rfl ?_
  refine (?_:WL _ _ _ _ _ _)
  dsimp only [St.put,Nat.reduceAdd]
  refine WL.vl rfl (WV.call rfl (callF Tryz.func14 rfl rfl) rfl rfl hLa) ?_
  repeat (first|refine WL.e1 rfl ?_|refine WL.gyes rfl rfl rfl rfl ?_)
  refine (?_:WL _ _ _ _ _ _)
  dsimp only [St.put,Nat.reduceAdd]
  refine WL.vl rfl (WV.call rfl (callF Tryz.func14 rfl rfl) rfl rfl hLb) ?_
  repeat (first|refine WL.bf rfl rfl rfl (by omega) ?_|refine WL.e1 rfl ?_|refine WL.gyes rfl rfl rfl rfl ?_)
  refine (?_:WL _ _ _ _ _ _)
  dsimp only [St.put,Nat.reduceAdd]
  refine WL.vl rfl (WV.call rfl (callF Tryz.func28 rfl rfl) rfl rfl hCa) ?_
  repeat (first|refine WL.nf rfl rfl rfl (by omega) ?_|refine WL.e1 rfl ?_|refine WL.gyes rfl rfl rfl rfl ?_)
  refine (?_:WL _ _ _ _ _ _)
  dsimp only [St.put,Nat.reduceAdd]
  refine WL.vl rfl (WV.call rfl (callF Tryz.func28 rfl rfl) rfl rfl hCb) ?_
  repeat (first|refine WL.nf rfl rfl rfl (by omega) ?_|refine WL.e1 rfl ?_|refine WL.gyes rfl rfl rfl rfl ?_)
  refine (?_:WL _ _ _ _ _ _)
  dsimp only [St.put,Nat.reduceAdd]
  refine WL.vl rfl (WV.call rfl (callF Tryz.func29 rfl rfl) rfl rfl hSI) ?_
  repeat (first|refine W.gob rfl ?_|refine WL.nil ?_|refine WL.e1 rfl ?_|refine WL.gyes rfl rfl rfl rfl ?_|refine W.condT rfl ?_)
  refine (?_:WL _ _ _ _ _ _)
  dsimp only [St.put,Nat.reduceAdd]
  refine WL.vl rfl (WV.callG hB rfl (callF Tryz.func15 rfl rfl) rfl rfl works11_G) ?_
  repeat refine WL.ev rfl ?_
  refine (?_:W _ _ _ _ _)
  dsimp only [St.put,Nat.reduceAdd]
  exact W.ret (fin1 rfl rfl rfl rfl)
 | true =>
 rw [hs] at hSI
 have hPl:=rPlain_FS p hOa
 rw [ha] at hPl
 obtain ⟨u1,u2⟩:=un_same (m:=m) ha (by omega)
 have hK1:=pConsensus_FS p (List.replicate m p) hOa h60a (fun o ho=>by rw [List.eq_of_mem_replicate ho];exact ⟨hOa,h60a⟩) (by simp;omega)
 rw [u1,u2] at hK1
 obtain ⟨v1,v2⟩:=un_one ha hb hs
 have hK2:=pConsensus_FS p [q] hOa h60a (fun o ho=>by rw [List.mem_singleton.1 ho];exact ⟨hOb,h60b⟩) (by simp)
 rw [v1,v2] at hK2
 have hK2:Ctr Tryz.prog 38 [ePce p,.ls 3 [eP3 q]] (.tu [ePce (plP p),.sc (.int .i64 0)]):=hK2
 have hS:=same_FS (plP p) (plP_okU hOa ha)
 obtain ⟨Y,hY⟩:∃ z,plP p=z:=⟨_,rfl⟩
 rw [hY] at hPl hK1 hK2 hS
 refine Ctg.intro stabB Tryz.func10 rfl Tryz.ntmps10 (Nat.le_of_ble_eq_true rfl) (bd_all rfl) fun w0 F0 hB=>?_;dsimp only [St.init,number,Nat.reduceAdd]
 repeat refine W.go rfl ?_
 refine (?_:WL _ _ _ _ _ _)
 dsimp only [St.put,Nat.reduceAdd]
 refine WL.vl rfl (WV.call rfl (callF Tryz.func14 rfl rfl) rfl rfl hLa) ?_
 repeat (first|refine WL.e1 rfl ?_|refine WL.gyes rfl rfl rfl rfl ?_)
 refine (?_:WL _ _ _ _ _ _)
 dsimp only [St.put,Nat.reduceAdd]
 refine WL.vl rfl (WV.call rfl (callF Tryz.func14 rfl rfl) rfl rfl hLb) ?_
 repeat (first|refine WL.bf rfl rfl rfl (by omega) ?_|refine WL.e1 rfl ?_|refine WL.gyes rfl rfl rfl rfl ?_)
 refine (?_:WL _ _ _ _ _ _)
 dsimp only [St.put,Nat.reduceAdd]
 refine WL.vl rfl (WV.call rfl (callF Tryz.func28 rfl rfl) rfl rfl hCa) ?_
 repeat (first|refine WL.nf rfl rfl rfl (by omega) ?_|refine WL.e1 rfl ?_|refine WL.gyes rfl rfl rfl rfl ?_)
 refine (?_:WL _ _ _ _ _ _)
 dsimp only [St.put,Nat.reduceAdd]
 refine WL.vl rfl (WV.call rfl (callF Tryz.func28 rfl rfl) rfl rfl hCb) ?_
 repeat (first|refine WL.nf rfl rfl rfl (by omega) ?_|refine WL.e1 rfl ?_|refine WL.gyes rfl rfl rfl rfl ?_)
 refine (?_:WL _ _ _ _ _ _)
 dsimp only [St.put,Nat.reduceAdd]
 refine WL.vl rfl (WV.call rfl (callF Tryz.func29 rfl rfl) rfl rfl hSI) ?_
 repeat (first|refine W.gob rfl ?_|refine WL.nil ?_|refine WL.e1 rfl ?_|refine WL.gyes rfl rfl rfl rfl ?_|refine W.condF rfl ?_)
 refine (?_:W _ _ _ _ _)
 dsimp only [St.put,Nat.reduceAdd]
 first|refine W.tr (Tr.nil (t:=7) 28 3 rfl rfl) ?_|refine WL.tr (Tr.nil (t:=7) 28 3 rfl rfl) ?_
 dsimp only [St.put,St.new,St.upd,Nat.reduceAdd]
 refine (?_:W _ _ _ _ _)
 refine W.loop (fun k:Nat=>k≤m) (fun k=>⟨[(2,.sc (.int .i64 (m:Int))),(3,.pt 0 0 0),(4,.pt 1 0 0),(7,.sl 2),(8,.sc (.int .i64 k))],[(0,.box 28 [.ls 3 (p.cs.map eCrs),.ls 1 (p.st.map eInt),.ls 6 (p.evs.map eEv)]),(1,.box 28 [.ls 3 (q.cs.map eCrs),.ls 1 (q.st.map eInt),.ls 6 (q.evs.map eEv)]),(2,.row 28 3 (List.replicate k (eP3 p)))],3⟩) (fun k=>m - k) 0 (by omega) (Tr.ren (fun q=>q) (by repeat (first|exact trivial|refine ⟨⟨?_,?_⟩,?_⟩|rfl)) (by repeat (first|exact trivial|refine ⟨⟨?_,?_,?_⟩,?_⟩|rfl|exact congrArg (fun q=>some (AO.row _ _ q)) rfl)) rfl) fun k hk=>?_
 by_cases hlt:k < m
 ·have hrl:(List.replicate k (eP3 p)).length=k:=List.length_replicate
  have hrow:List.replicate k (eP3 p)++[eP3 p]=List.replicate (k+1) (eP3 p):=by rw [List.replicate_succ']
  repeat (first|refine W.gob rfl ?_|refine WL.nil ?_|refine WL.bt rfl rfl rfl (by omega) ?_|refine WL.e1 rfl ?_|refine W.condT rfl ?_)
  refine (?_:WL _ _ _ _ _ _)
  dsimp only [St.put,Nat.reduceAdd]
  refine WL.vl rfl (WV.call rfl (callF Tryz.func17 rfl rfl) rfl rfl (pcCopy_FS p hOa)) ?_
  repeat (first|refine W.gob rfl ?_|refine WL.nil ?_|refine WL.e1 rfl ?_|refine WL.ar rfl rfl (by unfold I64;omega) ?_|refine WL.app rfl rfl rfl (by first|omega|(simp;done)|(simp;omega)) ?_)
  dsimp only [St.put,Nat.reduceAdd]
  refine ⟨k+1,by omega,by omega,?_⟩
  exact (Tr.ren (fun q=>bif Nat.beq q 2 then 4 else q) (by repeat (first|exact trivial|refine ⟨⟨?_,?_⟩,?_⟩|rfl)) (by repeat (first|exact trivial|refine ⟨⟨?_,?_,?_⟩,?_⟩|rfl|exact congrArg (fun q=>some (AO.row _ _ q)) hrow)) rfl)
 obtain rfl:k=m:=by omega
 have hrep:(List.replicate k p).map eP3=List.replicate k (eP3 p):=List.map_replicate
 rw [hrep] at hK1
 repeat (first|refine W.gob rfl ?_|refine WL.nil ?_|refine WL.bf rfl rfl rfl (by omega) ?_|refine WL.e1 rfl ?_|refine W.condF rfl ?_)
 refine (?_:WL _ _ _ _ _ _)
 dsimp only [St.put,Nat.reduceAdd]
 refine WL.tr (Tr.freeze 2 rfl) ?_
 dsimp only [St.freeze]
 refine (?_:WL _ _ _ _ _ _)
 refine WL.vl rfl (WV.call rfl (callF Tryz.func30 rfl rfl) rfl rfl hPl) ?_
 repeat (first|refine W.gob rfl ?_|refine WL.nil ?_|refine WL.e1 rfl ?_)
 refine (?_:WL _ _ _ _ _ _)
 dsimp only [St.put,Nat.reduceAdd]
 refine WL.vl rfl (WV.call rfl (callF Tryz.func17 rfl rfl) rfl rfl (pcCopy_FS p hOa)) ?_
 repeat refine WL.e1 rfl ?_
 refine (?_:WL _ _ _ _ _ _)
 dsimp only [St.put,Nat.reduceAdd]
 refine WL.vl rfl (WV.call rfl (callF Tryz.func38 rfl rfl) rfl rfl hK1) ?_
 repeat (first|refine W.gob rfl ?_|refine WL.nil ?_|refine WL.e1 rfl ?_)
 refine (?_:W _ _ _ _ _)
 dsimp only [St.put,Nat.reduceAdd]
 refine W.of_wa (by kernel_rfl) ?_
 refine WA.ds [false,false,false,false,false,false,false,false,false,true,true,false] [0,1] (by kernel_rfl) (by kernel_rfl) ⟨rfl,rfl,trivial⟩ ?_
 refine DSK.st rfl rfl ?_
 refine DSK.v0 rfl (WV.call rfl (callF Tryz.func17 rfl rfl) rfl rfl (pcCopy_FS p hOa)) ?_
 refine DSK.st rfl rfl ?_
 refine DSK.v0 rfl (WV.call rfl (callF Tryz.func17 rfl rfl) rfl rfl (pcCopy_FS q hOb)) ?_
 refine DSK.v0 rfl (WV.bdF rfl) ?_
 refine DSK.v0 rfl (WV.call rfl (callF Tryz.func38 rfl rfl) rfl rfl hK2) ?_
 refine DSK.st rfl rfl ?_
 refine DSK.st rfl rfl ?_
 refine DSK.st rfl rfl ?_
 refine DSK.al rfl rfl rfl rfl ⟨rfl,rfl,trivial⟩ ?_
 refine DSK.sto rfl rfl rfl rfl rfl rfl rfl rfl rfl rfl rfl rfl rfl rfl ⟨rfl,rfl,trivial⟩ ?_
 refine DSK.st rfl rfl ?_
 refine DSK.nil ?_
 refine (?_:W _ _ _ _ _)
 repeat (first|refine W.gob rfl ?_|refine WL.bt rfl rfl rfl (by omega) ?_|refine WL.e1 rfl ?_|refine WL.gyes rfl rfl rfl rfl ?_)
 refine (?_:WL _ _ _ _ _ _)
 dsimp only [St.put,Nat.reduceAdd]
 refine WL.vl rfl (WV.call rfl (callF Tryz.func20 rfl rfl) rfl rfl hS) ?_
 repeat (first|refine WL.e1 rfl ?_|refine WL.gyes rfl rfl rfl rfl ?_)
 refine (?_:WL _ _ _ _ _ _)
 dsimp only [St.put,Nat.reduceAdd]
 refine WL.vl rfl (WV.call rfl (callF Tryz.func20 rfl rfl) rfl rfl hS) ?_
 repeat (first|refine WL.e1 rfl ?_|refine WL.gyes rfl rfl rfl rfl ?_)
 refine (?_:WL _ _ _ _ _ _)
 dsimp only [St.put,Nat.reduceAdd]
 refine WL.vl rfl (WV.callG hB rfl (callF Tryz.func15 rfl rfl) rfl rfl works11_G) ?_
 repeat refine WL.ev rfl ?_
 refine (?_:W _ _ _ _ _)
 dsimp only [St.put,Nat.reduceAdd]
 exact W.ret (fin1 rfl rfl rfl rfl)
end Go.Proofs.YtgelfflighgajaaGreatDoor
