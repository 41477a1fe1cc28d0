/- The index of a book: the reference. -/
import Derived.Test.YtgelfflighgajaaGreatDoorIxSq
set_option maxHeartbeats 8000000
set_option maxRecDepth 100000
set_option linter.unusedVariables false
set_option linter.unusedSimpArgs false
namespace Go.Proofs.YtgelfflighgajaaGreatDoor
open Go.RowKit
theorem z45o {p:Prop} (h:p:=by omega):p:=h
theorem z45k {α:Sort _} {a b:α} (h:a = b:=by kernel_rfl):a = b:=h
theorem z45i {z:Int} (h:I64 z:=by unfold I64;omega):I64 z:=h
theorem z45s {p:Prop} (h:p:=by first|omega|(simp;done)|(simp;omega)):p:=h
def lsB (a b:Rw):Bool:=decide (cmR a b<0∨(cmR a b=0∧a.1<b.1))
theorem less_FS (a b:Rw):Ctr Tryz.prog 98 [.ag (eRw a),.ag (eRw b)] (.sc (.bool (lsB a b))):=by
 obtain ⟨an,l,hl⟩:=a
 obtain ⟨bn,m,hm⟩:=b
 have hcm:cmR ⟨an,l,hl⟩ ⟨bn,m,hm⟩=cmpQ l m:=rfl
 have hls:lsB ⟨an,l,hl⟩ ⟨bn,m,hm⟩=decide (cmpQ l m < 0∨(cmpQ l m=0∧an < bn)):=rfl
 rw [hls]
 show Ctr Tryz.prog 98 [.ag [.sc (.int .i64 an),.ls 1 (l.map eInt)],.ag [.sc (.int .i64 bn),.ls 1 (m.map eInt)]] _
 clear hls hcm
 have hL:(l.map eInt).length=l.length:=List.length_map _
 have hM:(m.map eInt).length=m.length:=List.length_map _
 have aL:∀ k (h:k < l.length),(l.map eInt)[((k:Nat):Int).toNat]?=some [.sc (.int .i64 l[k])]:=fun k h=>map_at h
 have aM:∀ k (h:k < m.length),(m.map eInt)[((k:Nat):Int).toNat]?=some [.sc (.int .i64 m[k])]:=fun k h=>map_at h
 obtain ⟨LL,hLL⟩:∃ z,l.map eInt=z:=⟨_,rfl⟩
 obtain ⟨MM,hMM⟩:∃ z,m.map eInt=z:=⟨_,rfl⟩
 rw [hLL] at hL aL ⊢
 rw [hMM] at hM aM ⊢
 refine Ctr.intro Tryz.func98 rfl Tryz.ntmps98 (Nat.le_of_ble_eq_true rfl) (bd_all rfl) fun w0 F0=>?_;dsimp only [St.init,number,Nat.reduceAdd]
 repeat refine W.go rfl ?_
 refine (?_:W _ _ _ _ _)
 refine W.loop (fun k:Nat=>k≤l.length∧k≤m.length∧cmpQ (l.drop k) (m.drop k)=cmpQ l m) (fun k=>⟨[(2,.pt 0 0 0),(3,.pt 1 0 0),(5,.sc (.int .i64 k))],[(0,.box 84 [.sc (.int .i64 an),.ls 1 LL]),(1,.box 84 [.sc (.int .i64 bn),.ls 1 MM])],2⟩) (fun k=>l.length - k) 0 ⟨by omega,by omega,rfl⟩ (zqt id) fun k hk=>?_
 obtain ⟨hk1,hk2,hc⟩:=hk
 by_cases h12:k < l.length∧k < m.length
 ·obtain ⟨h1,h2⟩:=h12
  have ha:=aL k h1
  have hb:=aM k h2
  rw [cmpQ_at h1 h2] at hc
  have hz:=cmpZ_b l[k] m[k]
  obtain ⟨x,hx⟩:∃ x,l[k]=x:=⟨_,rfl⟩
  obtain ⟨y,hy⟩:∃ y,m[k]=y:=⟨_,rfl⟩
  rw [hx] at ha hc hz
  rw [hy] at hb hc hz
  by_cases he:x=y
  ·rw [if_pos (by omega)] at hc
   clear aL aM hz
   repeat (first|refine W.gob rfl ?_|refine WL.nil ?_|refine WL.bt rfl rfl rfl z45o ?_|refine WL.e1 rfl ?_|refine WL.gyes rfl rfl rfl rfl ?_|refine WL.len rfl rfl zql ?_|refine W.condT rfl ?_)
   refine (?_:W _ _ _ _ _)
   refine W.drawK z45k z45k ?_
   repeat refine DK.st rfl ?_
   refine DK.idx rfl rfl z45o ha ?_
   repeat refine DK.st rfl ?_
   refine DK.idx rfl rfl z45o hb ?_
   repeat (first|refine DK.st rfl ?_|refine DK.nil ?_)
   rw [show (!decide (x=y))=false from by rw [decide_eq_true he];rfl]
   repeat (first|refine W.gob rfl ?_|refine WL.nil ?_|refine WL.e1 rfl ?_|refine WL.ar rfl rfl z45i ?_|refine W.condF rfl ?_)
   exact ⟨k+1,⟨by omega,by omega,hc⟩,by omega,(zqt id)⟩
  ·rw [if_neg (by omega)] at hc
   by_cases hlt:x < y
   ·rw [show decide (cmpQ l m < 0∨(cmpQ l m=0∧an < bn))=true from decide_eq_true (by omega)]
    clear aL aM hz hc
    repeat (first|refine W.gob rfl ?_|refine WL.nil ?_|refine WL.bt rfl rfl rfl z45o ?_|refine WL.e1 rfl ?_|refine WL.gyes rfl rfl rfl rfl ?_|refine WL.len rfl rfl zql ?_|refine W.condT rfl ?_)
    refine (?_:W _ _ _ _ _)
    refine W.drawK z45k z45k ?_
    repeat refine DK.st rfl ?_
    refine DK.idx rfl rfl z45o ha ?_
    repeat refine DK.st rfl ?_
    refine DK.idx rfl rfl z45o hb ?_
    repeat (first|refine DK.st rfl ?_|refine DK.nil ?_)
    rw [show (!decide (x=y))=true from by rw [decide_eq_false he];rfl]
    repeat (first|refine W.gob rfl ?_|refine W.condT rfl ?_)
    refine (?_:W _ _ _ _ _)
    refine W.drawK z45k z45k ?_
    repeat refine DK.st rfl ?_
    refine DK.idx rfl rfl z45o ha ?_
    repeat refine DK.st rfl ?_
    refine DK.idx rfl rfl z45o hb ?_
    repeat (first|refine DK.bt rfl rfl (by omega) ?_|refine DK.tt rfl (by first|(simp;done)|fail) ?_|refine DK.st rfl ?_|refine DK.nil ?_)
    refine (?_:W _ _ _ _ _)
    exact W.ret (fin1 rfl rfl rfl rfl)
   ·rw [show decide (cmpQ l m < 0∨(cmpQ l m=0∧an < bn))=false from decide_eq_false (by omega)]
    clear aL aM hz hc
    repeat (first|refine W.gob rfl ?_|refine WL.nil ?_|refine WL.bt rfl rfl rfl z45o ?_|refine WL.e1 rfl ?_|refine WL.gyes rfl rfl rfl rfl ?_|refine WL.len rfl rfl zql ?_|refine W.condT rfl ?_)
    refine (?_:W _ _ _ _ _)
    refine W.drawK z45k z45k ?_
    repeat refine DK.st rfl ?_
    refine DK.idx rfl rfl z45o ha ?_
    repeat refine DK.st rfl ?_
    refine DK.idx rfl rfl z45o hb ?_
    repeat (first|refine DK.st rfl ?_|refine DK.nil ?_)
    rw [show (!decide (x=y))=true from by rw [decide_eq_false he];rfl]
    repeat (first|refine W.gob rfl ?_|refine W.condT rfl ?_)
    refine (?_:W _ _ _ _ _)
    refine W.drawK z45k z45k ?_
    repeat refine DK.st rfl ?_
    refine DK.idx rfl rfl z45o ha ?_
    repeat refine DK.st rfl ?_
    refine DK.idx rfl rfl z45o hb ?_
    repeat (first|refine DK.bf rfl rfl (by omega) ?_|refine DK.ff rfl (by first|(simp;done)|fail) ?_|refine DK.st rfl ?_|refine DK.nil ?_)
    refine (?_:W _ _ _ _ _)
    exact W.ret (fin1 rfl rfl rfl rfl)
 ·by_cases h1:l.length < m.length
  ·have hc2:=cmpQ_0 (l:=l) (m:=m) (k:=k) z45o z45o
   rw [show decide (cmpQ l m < 0∨(cmpQ l m=0∧an < bn))=true from decide_eq_true (by omega)]
   clear aL aM hc2 hc
   repeat (first|refine W.gob rfl ?_|refine WL.nil ?_|refine WL.bt rfl rfl rfl z45o ?_|refine WL.bf rfl rfl rfl z45o ?_|refine WL.nt rfl rfl rfl z45o ?_|refine WL.e1 rfl ?_|refine WL.opno rfl rfl rfl rfl rfl rfl rfl ?_|refine WL.len rfl rfl zql ?_|refine W.condT rfl ?_|refine W.condF rfl ?_)
   refine (?_:W _ _ _ _ _)
   exact W.ret (fin1 rfl rfl rfl rfl)
  ·by_cases h2:m.length < l.length
   ·have hc2:=cmpQ_1 (l:=l) (m:=m) (k:=k) z45o z45o
    rw [show decide (cmpQ l m < 0∨(cmpQ l m=0∧an < bn))=false from decide_eq_false (by omega)]
    clear aL aM hc2 hc
    repeat (first|refine W.gob rfl ?_|refine WL.nil ?_|refine WL.bt rfl rfl rfl z45o ?_|refine WL.bf rfl rfl rfl z45o ?_|refine WL.nt rfl rfl rfl z45o ?_|refine WL.e1 rfl ?_|refine WL.gyes rfl rfl rfl rfl ?_|refine WL.len rfl rfl zql ?_|refine W.condT rfl ?_|refine W.condF rfl ?_)
    refine (?_:W _ _ _ _ _)
    exact W.ret (fin1 rfl rfl rfl rfl)
   ·have hc2:=cmpQ_z (l:=l) (m:=m) (k:=k) z45o z45o
    rw [show decide (cmpQ l m < 0∨(cmpQ l m=0∧an < bn))=decide (an < bn) from by
     have e:cmpQ l m=0:=by omega
     rw [e];simp]
    clear aL aM hc2 hc
    repeat (first|refine W.gob rfl ?_|refine WL.nil ?_|refine WL.bf rfl rfl rfl z45o ?_|refine WL.nf rfl rfl rfl z45o ?_|refine WL.e1 rfl ?_|refine WL.opno rfl rfl rfl rfl rfl rfl rfl ?_|refine WL.len rfl rfl zql ?_|refine W.condF rfl ?_)
    refine (?_:W _ _ _ _ _)
    exact W.ret (fin1 rfl rfl rfl rfl)
theorem rIndexO_FS (b:List En) (hB:BkOk b) (n:Int) (h0:bkE b=0) (hn:¬ (n < 1∨16 < n)):Cto truB 0 Tryz.prog 43 [eBk b,.sc (.int .i64 n)] [] 0 (.tu [.sl 0,.sc (.int .i64 0)]) [(0,.row 84 2 ((srt cmR (fun r:Rw=>r.1) (rwK b n b.length)).map eRw))] 1:=by
 have hBn:=hB.n
 have hC:=rBkCheck_FS b hB
 have hBp:=hB.p
 have hEn:=(bkE_zero h0).2
 rw [h0] at hC
 have hBl:(b.map eEn).length=b.length:=List.length_map _
 have hBa:∀ k (h:k < b.length),(b.map eEn)[((k:Nat):Int).toNat]?=some (eEn b[k]):=fun k h=>map_at h
 obtain ⟨BB,hBB⟩:∃ z,b.map eEn=z:=⟨_,rfl⟩
 have hC:Ctr Tryz.prog 60 [.ag [.ls 5 (b.map eEn)]] (.sc (.int .i64 0)):=hC
 show Cto truB 0 Tryz.prog 43 [.ag [.ls 5 (b.map eEn)],.sc (.int .i64 n)] [] 0 _ _ 1
 rw [hBB] at hBl hBa hC ⊢
 refine Cto.intro truS Tryz.func43 rfl Tryz.ntmps43 (Nat.le_of_ble_eq_true rfl) rfl fun w0 F0 fp pg hB'=>?_
 dsimp only [number,Nat.reduceAdd]
 repeat refine W.go rfl ?_
 refine (?_:WL _ _ _ _ _ _)
 refine WL.vl rfl (WV.call rfl (callF Tryz.func60 rfl rfl) rfl rfl hC) ?_
 repeat (first|refine W.gob rfl ?_|refine WL.nil ?_|refine WL.bf rfl rfl rfl z45o ?_|refine WL.nf rfl rfl rfl z45o ?_|refine WL.e1 rfl ?_|refine WL.gyes rfl rfl rfl rfl ?_|refine W.condF rfl ?_)
 refine (?_:W _ _ _ _ _)
 first|refine W.tr (Tr.nil (t:=7) 84 2 rfl rfl) ?_|refine WL.tr (Tr.nil (t:=7) 84 2 rfl rfl) ?_
 dsimp only [St.put,St.new,St.upd,Nat.reduceAdd]
 refine (?_:W _ _ _ _ _)
 refine W.loop (fun s:Nat×List Rw=>s.1≤b.length∧s.2.Perm (rwK b n s.1)∧Srd cmR (fun r:Rw=>r.1) s.2) (fun s=>⟨[(1,.sc (.int .i64 n)),(2,.pt 0 0 0),(7,.sl 1),(8,.sc (.int .i64 s.1))],[(0,.box 48 [.ls 5 BB]),(1,.row 84 2 (s.2.map eRw))],2⟩) (fun s=>b.length - s.1) (0,[]) ⟨by simp,List.Perm.refl _,List.Pairwise.nil⟩ (zqu (fun q=>q) (by repeat (first|exact trivial|refine ⟨⟨?_,?_,?_⟩,?_⟩|rfl|exact congrArg (fun q=>some (AO.row _ _ q)) rfl)) rfl) fun s hs=>?_
 obtain ⟨k,P⟩:=s
 obtain ⟨hk,hP,hPs⟩:=hs
 dsimp only at hk hP hPs ⊢
 have hkl:=rwK_len (b:=b) (n:=n) hk
 have hPl:P.length=k:=by rw [hP.length_eq,hkl]
 have hPm:(P.map eRw).length=P.length:=List.length_map _
 by_cases hlt:k < b.length
 rotate_left
 ·obtain rfl:k=b.length:=by omega
  have hPe:P=srt cmR (fun r:Rw=>r.1) (rwK b n b.length):=srt_uniq cmR_ok (rwK_asc b n _).dis hP hPs
  rw [← hPe]
  clear hBa hBp hEn
  repeat (first|refine W.gob rfl ?_|refine WL.nil ?_|refine WL.bf rfl rfl rfl z45o ?_|refine WL.e1 rfl ?_|refine WL.len rfl rfl zql ?_|refine W.condF rfl ?_)
  refine (?_:W _ _ _ _ _)
  refine W.tr (σ':=⟨[(4,.sl 0),(5,.sc (.int .i64 0))],[(0,.row 84 2 (P.map eRw))],1⟩) (zqu (fun q=>bif Nat.beq q 0 then 1 else q) (by repeat (first|exact trivial|refine ⟨⟨?_,?_,?_⟩,?_⟩|rfl|exact congrArg (fun q=>some (AO.row _ _ q)) (by first|rfl|(simp;done)|(simp [eInt];done)|(simp [eLk];done)))) rfl) ?_
  exact W.ret (finM rfl rfl rfl rfl rfl)
 have ha:=hBa k hlt
 obtain ⟨_,hp,_⟩:=enE_zero (hEn k hlt)
 have hF:=rIncipit_FS b[k].p (hBp k hlt) n
 have hE0:incE b[k].p n=0:=by unfold incE;rw [if_pos hp,if_neg hn]
 have hrw:eRw (rwE k b[k].p n)=[.sc (.int .i64 (k:Int)),.ls 1 ((incL b[k].p n).map eInt)]:=by
  show ([AV.sc (.int .i64 (k:Int)),AV.ls 1 (((incL b[k].p n).take 16).map eInt)]:List AV)=_
  rw [incL_16 hn]
 have hnext:rwK b n (k+1)=rwK b n k++[rwE k b[k].p n]:=rwK_s hlt
 have hnew:∀ y∈P,y.1 < (rwE k b[k].p n).1:=fun y hy=>by
  have hy2:=hP.mem_iff.1 hy
  obtain ⟨q,hq,rfl⟩:=List.getElem_of_mem hy2
  rw [rwK_at hq]
  show (q:Int) < (k:Int)
  omega
 rw [hE0] at hF
 obtain ⟨x,hx⟩:∃ z,rwE k b[k].p n=z:=⟨_,rfl⟩
 rw [hx] at hrw hnext hnew
 obtain ⟨e,he⟩:∃ z,b[k]=z:=⟨_,rfl⟩
 rw [he] at ha hF hrw
 obtain ⟨IL,hIL⟩:∃ z,incL e.p n=z:=⟨_,rfl⟩
 rw [hIL] at hF hrw
 have hmap:P.map eRw++[[.sc (.int .i64 (k:Int)),.ls 1 (IL.map eInt)]]=(P++x::[]).map eRw:=by rw [← hrw,List.map_append];rfl
 have hPn:(P++[x]).Perm (rwK b n (k+1)):=by rw [hnext];exact hP.append_right [x]
 clear hBa hIL hBp hEn hx he
 repeat (first|refine W.gob rfl ?_|refine WL.nil ?_|refine WL.bt rfl rfl rfl z45o ?_|refine WL.e1 rfl ?_|refine WL.len rfl rfl zql ?_|refine W.condT rfl ?_)
 refine (?_:WL _ _ _ _ _ _)
 refine WL.idx rfl rfl z45o ha ?_
 repeat refine WL.e1 rfl ?_
 refine (?_:WL _ _ _ _ _ _)
 refine WL.vl rfl (WV.call rfl (callF Tryz.func97 rfl rfl) rfl rfl hF) ?_
 repeat (first|refine W.gob rfl ?_|refine WL.nil ?_|refine WL.e1 rfl ?_|refine WL.app rfl rfl rfl z45s ?_)
 refine (?_:W _ _ _ _ _)
 refine W.loop (fun s:(List Rw×List Rw)×Int=>s.1.1++s.1.2=P∧s.2=s.1.1.length∧∀ y∈s.1.2,leB cmR (fun r:Rw=>r.1) x y=true) (fun s=>⟨[(1,.sc (.int .i64 n)),(2,.pt 0 0 0),(7,.sl 3),(8,.sc (.int .i64 k)),(11,.sc (.int .i64 s.2))],[(0,.box 48 [.ls 5 BB]),(3,.row 84 2 ((s.1.1++x::s.1.2).map eRw))],4⟩) (fun s=>s.1.1.length) ((P,[]),(k:Int)) ⟨List.append_nil _,by show (k:Int)=(P.length:Int);omega,fun y hy=>by cases hy⟩ (zqu (fun q=>q) (by repeat (first|exact trivial|refine ⟨⟨?_,?_,?_⟩,?_⟩|rfl|exact congrArg (fun q=>some (AO.row _ _ q)) hmap)) rfl) fun s hs=>?_
 obtain ⟨⟨L,R⟩,j⟩:=s
 obtain ⟨hLR,hj,hR⟩:=hs
 dsimp only at hLR hj hR ⊢
 have hll:L.length+R.length=P.length:=by rw [← hLR,List.length_append]
 have hDl:((L++x::R).map eRw).length=L.length+1+R.length:=by simp;omega
 have hend:(∀ n (hn:n < L.length),n+1=L.length→leB cmR (fun r:Rw=>r.1) L[n] x=true)→Srd cmR (fun r:Rw=>r.1) (L++x::R):=fun h=>ins_end cmR_ok (by rw [hLR];exact hPs) h hR
 have hper:(L++x::R).Perm (rwK b n (k+1)):=by
  refine ins_perm.trans ?_
  rw [hLR];exact hPn
 by_cases hL0:L=[]
 ·subst hL0
  have hj0:j=0:=by simpa using hj
  have hs:=hend fun n hn=>by simp at hn
  clear hend hR hPs hnew
  repeat refine W.gob rfl ?_
  refine (?_:W _ _ _ _ _)
  refine W.drawK z45k z45k ?_
  repeat (first|refine DK.bf rfl rfl (by omega) ?_|refine DK.ff rfl (by first|(simp;done)|fail) ?_|refine DK.st rfl ?_|refine DK.nil ?_)
  repeat (first|refine W.gob rfl ?_|refine WL.nil ?_|refine WL.e1 rfl ?_|refine WL.ar rfl rfl z45i ?_|refine W.condF rfl ?_)
  refine ⟨(k+1,[]++x::R),⟨by show k+1≤_;omega,hper,hs⟩,by show b.length - (k+1) < b.length - k;omega,?_⟩
  exact (zqu (fun q=>bif Nat.beq q 1 then 3 else q) (by repeat (first|exact trivial|refine ⟨⟨?_,?_,?_⟩,?_⟩|rfl|exact congrArg (fun q=>some (AO.row _ _ q)) (by first|rfl|(simp;done)|(simp [eInt];done)|(simp [eLk];done)))) rfl)
 ·obtain ⟨L',y,rfl⟩:∃ L' y,L=L'++[y]:=⟨_,_,(List.dropLast_concat_getLast hL0).symm⟩
  have hLl:(L'++[y]).length=L'.length+1:=by simp
  rw [hLl] at hj hll hDl
  have hD:(L'++[y])++x::R=L'++y::x::R:=by simp
  have z1:j.toNat=L'.length+1:=by omega
  have z0:(j - 1).toNat=L'.length:=by omega
  have r1:=rw_sw1 (V:=R) (y:=y) (x:=x) z1
  have r0:=rw_sw0 (V:=R) (y:=y) (x:=x) z0
  have r2:=rw_sw2 (V:=R) (y:=y) (x:=x) z1 z0
  have r3:=rw_sws (V:=R) (y:=y) (x:=x) z1 z0
  have hyP:y∈P:=by rw [← hLR];simp
  have hyx:=hnew y hyP
  have hCx:=less_FS x y
  by_cases hc:cmR x y < 0
  ·have hb:lsB x y=true:=decide_eq_true (.inl hc)
   rw [hb] at hCx
   have hR2:∀ z∈y::R,leB cmR (fun r:Rw=>r.1) x z=true:=fun z hz=>by
    rcases List.mem_cons.1 hz with rfl|hz
    ·exact le_lt hc
    ·exact hR z hz
   rw [hD] at hDl ⊢
   obtain ⟨D,hDD⟩:∃ z,(L'++y::x::R).map eRw=z:=⟨_,rfl⟩
   rw [hDD] at hDl r0 r1 r2 r3 ⊢
   clear hend hR hPs hnew hper hDD hPn hnext
   repeat refine W.gob rfl ?_
   refine (?_:W _ _ _ _ _)
   refine W.drawK z45k z45k ?_
   repeat (first|refine DK.bt rfl rfl (by omega) ?_|refine DK.tt rfl (by first|(simp;done)|fail) ?_|refine DK.st rfl ?_|refine DK.ixs rfl rfl z45s ?_)
   refine DK.lda rfl rfl r1 rfl ?_
   repeat (first|refine DK.st rfl ?_|refine DK.ar rfl rfl z45i ?_|refine DK.ixs rfl rfl z45s ?_)
   refine DK.lda rfl rfl r0 rfl ?_
   refine DK.vl rfl (WV.call rfl (callF Tryz.func98 rfl rfl) rfl rfl hCx) ?_
   repeat (first|refine DK.tt rfl (by first|(simp;done)|fail) ?_|refine DK.nil ?_)
   repeat (first|refine W.gob rfl ?_|refine W.condT rfl ?_)
   refine (?_:W _ _ _ _ _)
   refine W.drawT 16 z45k z45k z45k ?_
   refine WA.dt [false,false,false,false,false,false,false,false,false,false,false,false,false,false,false,true] [] [3] 15 z45k z45k z45k trivial ⟨rfl,trivial⟩ ?_
   refine DTK.st rfl z45k rfl ?_
   refine DTK.st rfl z45k rfl ?_
   refine DTK.v0 rfl (stepV_of rfl rfl) ?_
   refine DTK.v0 rfl (stepV_of rfl rfl) ?_
   refine DTK.v0 rfl (sideV_of rfl z45i) ?_
   refine DTK.st rfl z45k rfl ?_
   refine DTK.st rfl z45k rfl ?_
   refine DTK.ar rfl z45k rfl z45i ?_
   refine DTK.ixs rfl z45k rfl ⟨by omega,by omega⟩ ?_
   refine DTK.vl rfl z45k (ldaV_of rfl r0 rfl) ?_
   refine DTK.st rfl z45k rfl ?_
   refine DTK.st rfl z45k rfl ?_
   refine DTK.ixs rfl z45k rfl ⟨by omega,by omega⟩ ?_
   refine DTK.vl rfl z45k (ldaV_of rfl r1 rfl) ?_
   refine DTK.ixs rfl z45k rfl ⟨by omega,by omega⟩ ?_
   refine DTK.sto rfl rfl rfl rfl rfl rfl rfl rfl rfl rfl rfl rfl (put_row r1 (by show 0+2≤2;omega) rfl) rfl trivial (fun h=>by cases h) ?_
   refine DTK.nil ?_
   refine ⟨rfl,?_⟩
   refine (?_:WL _ _ _ _ _ _)
   repeat refine WL.ixs rfl rfl z45s ?_
   refine (?_:WL _ _ _ _ _ _)
   refine WL.sto rfl rfl rfl rfl r2 (by show 0+2≤2;omega) ?_
   repeat (first|refine W.gob rfl ?_|refine WL.nil ?_|refine WL.e1 rfl ?_|refine WL.ar rfl rfl z45i ?_)
   refine ⟨((L',y::R),j - 1),⟨by show L'++y::R=P;rw [← hLR];simp,by show j - 1=(L'.length:Int);omega,hR2⟩,by show L'.length < (L'++[y]).length;rw [hLl];omega,?_⟩
   exact (zqu (fun q=>q) (by repeat (first|exact trivial|refine ⟨⟨?_,?_,?_⟩,?_⟩|rfl|exact congrArg (fun q=>some (AO.row _ _ q)) r3)) rfl)
  ·have hb:lsB x y=false:=decide_eq_false z45o
   rw [hb] at hCx
   have hs:=hend fun n hn hn1=>by
    have e:(L'++[y])[n]=y:=by
     have:n=L'.length:=by omega
     subst this;simp
    rw [e];exact le_of cmR_ok hyx hc
   have hres:(L'++y::x::R).map eRw=((L'++[y])++x::R).map eRw:=by rw [hD]
   rw [hD] at hDl ⊢
   obtain ⟨D,hDD⟩:∃ z,(L'++y::x::R).map eRw=z:=⟨_,rfl⟩
   rw [hDD] at hDl r0 r1 hres ⊢
   clear hend hR hPs hnew r2 r3 hPn hnext
   repeat refine W.gob rfl ?_
   refine (?_:W _ _ _ _ _)
   refine W.drawK z45k z45k ?_
   repeat (first|refine DK.bt rfl rfl (by omega) ?_|refine DK.tt rfl (by first|(simp;done)|fail) ?_|refine DK.st rfl ?_|refine DK.ixs rfl rfl z45s ?_)
   refine DK.lda rfl rfl r1 rfl ?_
   repeat (first|refine DK.st rfl ?_|refine DK.ar rfl rfl z45i ?_|refine DK.ixs rfl rfl z45s ?_)
   refine DK.lda rfl rfl r0 rfl ?_
   refine DK.vl rfl (WV.call rfl (callF Tryz.func98 rfl rfl) rfl rfl hCx) ?_
   repeat (first|refine DK.ff rfl (by first|(simp;done)|fail) ?_|refine DK.nil ?_)
   repeat (first|refine W.gob rfl ?_|refine WL.nil ?_|refine WL.e1 rfl ?_|refine WL.ar rfl rfl z45i ?_|refine W.condF rfl ?_)
   refine ⟨(k+1,(L'++[y])++x::R),⟨by show k+1≤_;omega,hper,hs⟩,by show b.length - (k+1) < b.length - k;omega,?_⟩
   exact (zqu (fun q=>bif Nat.beq q 1 then 3 else q) (by repeat (first|exact trivial|refine ⟨⟨?_,?_,?_⟩,?_⟩|rfl|exact congrArg (fun q=>some (AO.row _ _ q)) hres)) rfl)
end Go.Proofs.YtgelfflighgajaaGreatDoor
