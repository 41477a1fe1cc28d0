/- Sorting of rows: blocks change places. -/
import Derived.Test.YtgelfflighgajaaGreatDoorG2Pq
import Derived.Test.YtgelfflighgajaaGreatDoorStfPq
set_option maxHeartbeats 8000000
set_option maxRecDepth 100000
set_option linter.unusedVariables false
set_option linter.unusedSimpArgs false
namespace Go.Proofs.YtgelfflighgajaaGreatDoor
section
open Go.RowKit
theorem z46o {p:Prop} (h:p:=by omega):p:=h
theorem z46k {α:Sort _} {a b:α} (h:a = b:=by kernel_rfl):a = b:=h
theorem z46i {z:Int} (h:I64 z:=by unfold I64;omega):I64 z:=h
theorem z46s {p:Prop} (h:p:=by first|omega|(simp;done)|(simp;omega)):p:=h
structure Rw where
 n:Int
 l:List Int
 h:l.length≤100000
def eRw (r:Rw):List AV:=[.sc (.int .i64 r.1),.ls 1 (r.2.map eInt)]
theorem rw_sw0 {U V:List Rw} {y x:Rw} {n:Nat} (h:n=U.length):((U++y::x::V).map eRw)[n]?=some (eRw y):=by rw [List.getElem?_map,sw_0 h];rfl
theorem rw_sw1 {U V:List Rw} {y x:Rw} {n:Nat} (h:n=U.length+1):((U++y::x::V).map eRw)[n]?=some (eRw x):=by rw [List.getElem?_map,sw_1 h];rfl
theorem rw_sw2 {U V:List Rw} {y x:Rw} {n m:Nat} (h:n=U.length+1)(hm:m=U.length):(((U++y::x::V).map eRw).set n (eRw y))[m]?=some (eRw y):=by rw [← List.map_set,List.getElem?_map,sw_2 h hm];rfl
theorem rw_sws {U V:List Rw} {y x:Rw} {n m:Nat} (h:n=U.length+1)(hm:m=U.length):(((U++y::x::V).map eRw).set n (eRw y)).set m (eRw x)=(U++x::y::V).map eRw:=by rw [← List.map_set,← List.map_set,sw_s h hm]
theorem insSort_G {f:FuncId} {cm:Rw→Rw→Int} {en:Rw→Int} (hcm:CmOk cm) (hcf:∀ vs w,(callFunc f vs).run Tryz.prog w=.ok (.enter f vs) w) (hC:∀ a b,Ctr Tryz.prog f [.ag (eRw a),.ag (eRw b)] (.sc (.int .i64 (cm a b)))) (A S Z:List Rw) (a b:Int)
  (ha:a=A.length) (hb:b=A.length+S.length) (hn:A.length+S.length+Z.length≤1000) (he:S.Pairwise (fun x y=>en x < en y)) :
  Cto truB 0 Tryz.prog 227 [.sl 0,.sc (.int .i64 a),.sc (.int .i64 b),.sc (.func (.func f) #[] #[])] [(0,.row 83 2 ((A++S++Z).map eRw))] 1 (.tu []) [(0,.row 83 2 ((A++srt cm en S++Z).map eRw))] 1:=by
 refine Cto.intro truS Tryz.func227 rfl Tryz.ntmps227 (Nat.le_of_ble_eq_true rfl) rfl fun w0 F0 fp pg hB=>?_
 dsimp only [number,Nat.reduceAdd]
 have hdis:Dis en S:=he.imp fun h=>Int.ne_of_lt h
 by_cases hS0:S=[]
 ·subst hS0
  have:srt cm en []=[]:=by
   have:=srt_len (cm:=cm) (en:=en) []
   exact List.length_eq_zero_iff.1 this
  rw [this]
  have hb:b=A.length:=by simpa using hb
  repeat (first|refine W.gob rfl ?_|refine WL.nil ?_|refine WL.e1 rfl ?_|refine WL.ar rfl rfl z46i ?_)
  refine (?_:W _ _ _ _ _)
  refine W.loop (fun _:Unit=>True) (fun _=>⟨[(2,.sc (.int .i64 b)),(8,.sc (.int .i64 (a+1)))],[(0,.row 83 2 ((A++[]++Z).map eRw))],1⟩) (fun _=>0) () trivial (zqt id) fun _ _=>?_
  repeat (first|refine W.gob rfl ?_|refine WL.nil ?_|refine WL.bf rfl rfl rfl z46o ?_|refine WL.e1 rfl ?_|refine W.condF rfl ?_)
  refine finTr (σ':=⟨[],[(0,.row 83 2 ((A++[]++Z).map eRw))],1⟩) (zqt id) ?_
  exact finMu rfl rfl rfl rfl rfl
 have hSl:0 < S.length:=List.length_pos_iff.2 hS0
 repeat (first|refine W.gob rfl ?_|refine WL.nil ?_|refine WL.e1 rfl ?_|refine WL.ar rfl rfl z46i ?_)
 refine (?_:W _ _ _ _ _)
 refine W.loop (fun s:Nat×List Rw×Int=>1≤s.1∧s.1≤S.length∧s.2.2=a+s.1∧s.2.1.Perm (S.take s.1)∧Srd cm en s.2.1) (fun s=>⟨[(0,.sl 0),(1,.sc (.int .i64 a)),(2,.sc (.int .i64 b)),(3,.sc (.func (.func f) #[] #[])),(8,.sc (.int .i64 s.2.2))],[(0,.row 83 2 ((A++s.2.1++(S.drop s.1++Z)).map eRw))],1⟩) (fun s=>S.length - s.1) (1,S.take 1,a+1) ⟨Nat.le_refl _,hSl,rfl,List.Perm.refl _,by
   show Srd cm en (S.take 1)
   cases S with
   | nil=>exact absurd rfl hS0
   | cons x r=>simp [Srd]⟩ (zqu (fun q=>q) (by repeat (first|exact trivial|refine ⟨⟨?_,?_,?_⟩,?_⟩|rfl|exact congrArg (fun q=>some (AO.row _ _ q)) (by rw [List.append_assoc,List.append_assoc,← List.append_assoc (S.take 1),List.take_append_drop]))) rfl) fun s hs=>?_
 obtain ⟨k,P,i⟩:=s
 obtain ⟨hk1,hk,hi,hP,hPs⟩:=hs
 dsimp only at hk1 hk hi hP hPs ⊢
 have hPl:P.length=k:=by rw [hP.length_eq,List.length_take];omega
 by_cases hlt:k < S.length
 rotate_left
 ·obtain rfl:k=S.length:=by omega
  rw [List.take_length] at hP
  have hPe:P=srt cm en S:=srt_uniq hcm hdis hP hPs
  rw [List.drop_length,List.nil_append,← hPe]
  repeat (first|refine W.gob rfl ?_|refine WL.nil ?_|refine WL.bf rfl rfl rfl z46o ?_|refine WL.e1 rfl ?_|refine W.condF rfl ?_)
  refine finTr (σ':=⟨[],[(0,.row 83 2 ((A++P++Z).map eRw))],1⟩) (zqt id) ?_
  exact finMu rfl rfl rfl rfl rfl
 obtain ⟨x,hx⟩:∃ x,S[k]=x:=⟨_,rfl⟩
 have hdrop:S.drop k=x::S.drop (k+1):=by rw [List.drop_eq_getElem_cons hlt,hx]
 obtain ⟨Y,hY⟩:∃ z,S.drop (k+1)++Z=z:=⟨_,rfl⟩
 have hYl:Y.length=S.length - (k+1)+Z.length:=by rw [← hY,List.length_append,List.length_drop]
 have hnew:∀ y∈P,en y < en x:=fun y hy=>by
  have hy2:=hP.mem_iff.1 hy
  obtain ⟨q,hq,rfl⟩:=List.getElem_of_mem hy2
  rw [List.length_take] at hq
  rw [List.getElem_take,← hx]
  exact List.pairwise_iff_getElem.1 he q k (by omega) hlt (by omega)
 have hPn:(P++[x]).Perm (S.take (k+1)):=by
  rw [List.take_succ_eq_append_getElem hlt,hx]
  exact hP.append_right [x]
 repeat (first|refine W.gob rfl ?_|refine WL.nil ?_|refine WL.bt rfl rfl rfl z46o ?_|refine WL.e1 rfl ?_|refine W.condT rfl ?_)
 refine (?_:W _ _ _ _ _)
 refine W.loop (fun s:List Rw×List Rw×Int=>s.1++s.2.1=P∧s.2.2=a+s.1.length∧∀ y∈s.2.1,leB cm en x y=true) (fun s=>⟨[(0,.sl 0),(1,.sc (.int .i64 a)),(2,.sc (.int .i64 b)),(3,.sc (.func (.func f) #[] #[])),(8,.sc (.int .i64 i)),(9,.sc (.int .i64 s.2.2))],[(0,.row 83 2 ((A++s.1++x::(s.2.1++Y)).map eRw))],1⟩) (fun s=>s.1.length) (P,[],i) ⟨List.append_nil _,by show i=a+(P.length:Int);omega,fun y hy=>by cases hy⟩ (zqu (fun q=>q) (by repeat (first|exact trivial|refine ⟨⟨?_,?_,?_⟩,?_⟩|rfl|exact congrArg (fun q=>some (AO.row _ _ q)) (by rw [hdrop,List.cons_append,hY];rfl))) rfl) fun s hs=>?_
 obtain ⟨L,R,j⟩:=s
 obtain ⟨hLR,hj,hR⟩:=hs
 dsimp only at hLR hj hR ⊢
 have hll:L.length+R.length=P.length:=by rw [← hLR,List.length_append]
 have hDl:((A++L++x::(R++Y)).map eRw).length=A.length+L.length+1+R.length+Y.length:=by simp;omega
 have hend:(∀ n (hn:n < L.length),n+1=L.length→leB cm en L[n] x=true)→Srd cm en (L++x::R):=fun h=>ins_end hcm (by rw [hLR];exact hPs) h hR
 have hper:(L++x::R).Perm (S.take (k+1)):=by
  refine ins_perm.trans ?_
  rw [hLR];exact hPn
 have hrows:(A++L++x::(R++Y)).map eRw=(A++(L++x::R)++(S.drop (k+1)++Z)).map eRw:=by rw [hY];simp
 by_cases hL0:L=[]
 ·subst hL0
  have hj0:j=a:=by simpa using hj
  have hs:=hend fun n hn=>by simp at hn
  clear hend hR hPs hnew
  repeat refine W.gob rfl ?_
  refine (?_:W _ _ _ _ _)
  refine W.drawK z46k z46k ?_
  repeat (first|refine DK.bf rfl rfl (by omega) ?_|refine DK.ff rfl (by first|(simp;done)|fail) ?_|refine DK.st rfl ?_|refine DK.nil ?_)
  repeat (first|refine W.gob rfl ?_|refine WL.nil ?_|refine WL.e1 rfl ?_|refine WL.ar rfl rfl z46i ?_|refine W.condF rfl ?_)
  refine ⟨(k+1,[]++x::R,i+1),⟨by show 1≤k+1;omega,by show k+1≤_;omega,by show i+1=a+((k+1:Nat):Int);omega,hper,hs⟩,by show S.length - (k+1) < S.length - k;omega,?_⟩
  exact (zqu (fun q=>q) (by repeat (first|exact trivial|refine ⟨⟨?_,?_,?_⟩,?_⟩|rfl|exact congrArg (fun q=>some (AO.row _ _ q)) hrows)) rfl)
 ·obtain ⟨L',y,rfl⟩:∃ L' y,L=L'++[y]:=⟨_,_,(List.dropLast_concat_getLast hL0).symm⟩
  have hLl:(L'++[y]).length=L'.length+1:=by simp
  rw [hLl] at hj hll hDl
  have hD:A++(L'++[y])++x::(R++Y)=(A++L')++y::x::(R++Y):=by simp
  rw [hD] at hDl hrows ⊢
  have hUl:(A++L').length=A.length+L'.length:=List.length_append
  have z1:j.toNat=(A++L').length+1:=by omega
  have z0:(j - 1).toNat=(A++L').length:=by omega
  have r1:=rw_sw1 (V:=R++Y) (y:=y) (x:=x) z1
  have r0:=rw_sw0 (V:=R++Y) (y:=y) (x:=x) z0
  have r2:=rw_sw2 (V:=R++Y) (y:=y) (x:=x) z1 z0
  have r3:=rw_sws (V:=R++Y) (y:=y) (x:=x) z1 z0
  have hyP:y∈P:=by rw [← hLR];simp
  have hyx:=hnew y hyP
  have hCx:=hC x y
  by_cases hc:cm x y < 0
  ·have hR2:∀ z∈y::R,leB cm en x z=true:=fun z hz=>by
    rcases List.mem_cons.1 hz with rfl|hz
    ·exact le_lt hc
    ·exact hR z hz
   have hrow2:((A++L')++x::y::(R++Y)).map eRw=(A++L'++x::(y::R++Y)).map eRw:=rfl
   obtain ⟨D,hDD⟩:∃ z,((A++L')++y::x::(R++Y)).map eRw=z:=⟨_,rfl⟩
   rw [hDD] at hDl r0 r1 r2 r3 ⊢
   clear hend hR hPs hnew hrows hper hDD
   repeat refine W.gob rfl ?_
   refine (?_:W _ _ _ _ _)
   refine W.drawK z46k z46k ?_
   repeat (first|refine DK.bt rfl rfl (by omega) ?_|refine DK.tt rfl (by first|(simp;done)|fail) ?_|refine DK.st rfl ?_|refine DK.ixs rfl rfl z46s ?_)
   refine DK.lda rfl rfl r1 rfl ?_
   repeat (first|refine DK.st rfl ?_|refine DK.ar rfl rfl z46i ?_|refine DK.ixs rfl rfl z46s ?_)
   refine DK.lda rfl rfl r0 rfl ?_
   refine DK.vl rfl (WV.callV (truH _) rfl hcf rfl rfl rfl rfl rfl hCx.g) ?_
   repeat (first|refine DK.bt rfl rfl (by omega) ?_|refine DK.tt rfl (by first|(simp;done)|fail) ?_|refine DK.nil ?_)
   repeat (first|refine W.gob rfl ?_|refine W.condT rfl ?_)
   refine (?_:W _ _ _ _ _)
   refine W.drawT 16 z46k z46k z46k ?_
   refine WA.dt [false,false,false,false,false,false,false,false,false,false,false,false,false,false,false,true] [] [0] 15 z46k z46k z46k trivial ⟨rfl,trivial⟩ ?_
   refine DTK.st rfl z46k rfl ?_
   refine DTK.st rfl z46k rfl ?_
   refine DTK.v0 rfl (stepV_of rfl rfl) ?_
   refine DTK.v0 rfl (stepV_of rfl rfl) ?_
   refine DTK.v0 rfl (sideV_of rfl z46i) ?_
   refine DTK.st rfl z46k rfl ?_
   refine DTK.st rfl z46k rfl ?_
   refine DTK.ar rfl z46k rfl z46i ?_
   refine DTK.ixs rfl z46k rfl ⟨by omega,by omega⟩ ?_
   refine DTK.vl rfl z46k (ldaV_of rfl r0 rfl) ?_
   refine DTK.st rfl z46k rfl ?_
   refine DTK.st rfl z46k rfl ?_
   refine DTK.ixs rfl z46k rfl ⟨by omega,by omega⟩ ?_
   refine DTK.vl rfl z46k (ldaV_of rfl r1 rfl) ?_
   refine DTK.ixs rfl z46k rfl ⟨by omega,by omega⟩ ?_
   refine DTK.sto rfl rfl rfl rfl rfl rfl rfl rfl rfl rfl rfl rfl (put_row r1 (by show 0+2≤2;omega) rfl) rfl trivial (fun h=>by cases h) ?_
   refine DTK.nil ?_
   refine ⟨rfl,?_⟩
   refine (?_:WL _ _ _ _ _ _)
   repeat refine WL.ixs rfl rfl z46s ?_
   refine (?_:WL _ _ _ _ _ _)
   refine WL.sto rfl rfl rfl rfl r2 (by show 0+2≤2;omega) ?_
   repeat (first|refine W.gob rfl ?_|refine WL.nil ?_|refine WL.e1 rfl ?_|refine WL.ar rfl rfl z46i ?_)
   refine ⟨(L',y::R,j - 1),⟨by show L'++y::R=P;rw [← hLR];simp,by show j - 1=a+(L'.length:Int);omega,hR2⟩,by show L'.length < (L'++[y]).length;rw [hLl];omega,?_⟩
   exact (zqu (fun q=>q) (by repeat (first|exact trivial|refine ⟨⟨?_,?_,?_⟩,?_⟩|rfl|exact congrArg (fun q=>some (AO.row _ _ q)) (r3.trans hrow2))) rfl)
  ·have hs:=hend fun n hn hn1=>by
    have e:(L'++[y])[n]=y:=by
     have:n=L'.length:=by omega
     subst this;simp
    rw [e];exact le_of hcm hyx hc
   obtain ⟨D,hDD⟩:∃ z,((A++L')++y::x::(R++Y)).map eRw=z:=⟨_,rfl⟩
   rw [hDD] at hDl r0 r1 hrows ⊢
   clear hend hR hPs hnew r2 r3
   repeat refine W.gob rfl ?_
   refine (?_:W _ _ _ _ _)
   refine W.drawK z46k z46k ?_
   repeat (first|refine DK.bt rfl rfl (by omega) ?_|refine DK.tt rfl (by first|(simp;done)|fail) ?_|refine DK.st rfl ?_|refine DK.ixs rfl rfl z46s ?_)
   refine DK.lda rfl rfl r1 rfl ?_
   repeat (first|refine DK.st rfl ?_|refine DK.ar rfl rfl z46i ?_|refine DK.ixs rfl rfl z46s ?_)
   refine DK.lda rfl rfl r0 rfl ?_
   refine DK.vl rfl (WV.callV (truH _) rfl hcf rfl rfl rfl rfl rfl hCx.g) ?_
   repeat (first|refine DK.bf rfl rfl (by omega) ?_|refine DK.ff rfl (by first|(simp;done)|fail) ?_|refine DK.nil ?_)
   repeat (first|refine W.gob rfl ?_|refine WL.nil ?_|refine WL.e1 rfl ?_|refine WL.ar rfl rfl z46i ?_|refine W.condF rfl ?_)
   refine ⟨(k+1,(L'++[y])++x::R,i+1),⟨by show 1≤k+1;omega,by show k+1≤_;omega,by show i+1=a+((k+1:Nat):Int);omega,hper,hs⟩,by show S.length - (k+1) < S.length - k;omega,?_⟩
   exact (zqu (fun q=>q) (by repeat (first|exact trivial|refine ⟨⟨?_,?_,?_⟩,?_⟩|rfl|exact congrArg (fun q=>some (AO.row _ _ q)) hrows)) rfl)
end
section
open Go.RowKit
theorem app_get {α:Type} {P Q R:List α} {n k:Nat} (h:n=P.length+k)(hk:k<Q.length):(P++Q++R)[n]?=some Q[k]:=by
 subst h
 rw [List.append_assoc,List.getElem?_append_right (by omega),List.getElem?_append_left (by omega)]
 simp [hk]
theorem app_set {α:Type} {P Q R:List α} {n k:Nat} {v:α} (h:n=P.length+k)(hk:k<Q.length):(P++Q++R).set n v=P++Q.set k v++R:=by
 subst h
 rw [List.append_assoc,List.set_append_right _ _ (by omega),List.set_append_left _ _ (by omega),List.append_assoc]
 simp
def swE {α:Type} (X Y:List α)(k:Nat):List α:=Y.take k++X.drop k
theorem swE_0 {α:Type} (X Y:List α):swE X Y 0=X:=by unfold swE;simp
theorem swE_all {α:Type} {X Y:List α} (h:X.length=Y.length):swE X Y Y.length=Y:=by unfold swE;rw [List.take_length,List.drop_eq_nil_of_le (by omega),List.append_nil]
theorem swE_len {α:Type} {X Y:List α} (h:X.length=Y.length)(k:Nat):(swE X Y k).length=X.length:=by unfold swE;rw [List.length_append,List.length_take,List.length_drop];omega
theorem swE_at {α:Type} {X Y:List α} {k:Nat} (h:X.length=Y.length)(hk:k<X.length):(swE X Y k)[k]'(by rw [swE_len h];exact hk)=X[k]:=by
 simp only [swE]
 rw [List.getElem_append_right (by rw [List.length_take];omega),List.getElem_drop]
 congr 1
 rw [List.length_take];omega
theorem swE_set {α:Type} {X Y:List α} {k:Nat} (h:X.length=Y.length)(hk:k<X.length):(swE X Y k).set k (Y[k]'(by omega))=swE X Y (k+1):=by
 have hl:(Y.take k).length=k:=by rw [List.length_take];omega
 unfold swE
 rw [List.set_append_right _ _ (by omega),hl,Nat.sub_self,List.drop_eq_getElem_cons hk,List.set_cons_zero,List.take_succ_eq_append_getElem (by omega),List.append_assoc];rfl
theorem swapR_G {f:FuncId} (U X M Y V:List Rw) (a b n:Int) (hXY:X.length=Y.length) (ha:a=U.length) (hb:b=U.length+X.length+M.length) (hn:n=X.length) (hN:U.length+X.length+M.length+Y.length+V.length≤1000) :
  Cto truB 0 Tryz.prog 254 [.sl 0,.sc (.int .i64 a),.sc (.int .i64 b),.sc (.int .i64 n),.sc (.func (.func f) #[] #[])] [(0,.row 83 2 ((U++X++M++Y++V).map eRw))] 1 (.tu []) [(0,.row 83 2 ((U++Y++M++X++V).map eRw))] 1:=by
 refine Cto.intro truS Tryz.func254 rfl Tryz.ntmps254 (Nat.le_of_ble_eq_true rfl) rfl fun w0 F0 fp pg hB=>?_
 dsimp only [number,Nat.reduceAdd]
 repeat (first|refine W.gob rfl ?_|refine WL.nil ?_|refine WL.e1 rfl ?_)
 refine (?_:W _ _ _ _ _)
 refine W.loop (fun k:Nat=>k≤X.length) (fun k=>⟨[(0,.sl 0),(1,.sc (.int .i64 a)),(2,.sc (.int .i64 b)),(3,.sc (.int .i64 n)),(10,.sc (.int .i64 k))],[(0,.row 83 2 ((U++swE X Y k++M++swE Y X k++V).map eRw))],1⟩) (fun k=>X.length - k) 0 (Nat.zero_le _) (zqu (fun q=>q) (by repeat (first|exact trivial|refine ⟨⟨?_,?_,?_⟩,?_⟩|rfl|exact congrArg (fun q=>some (AO.row _ _ q)) (by rw [swE_0,swE_0]))) rfl) fun k hk=>?_
 by_cases hlt:k < X.length
 ·have l1:=swE_len hXY k
  have l2:=swE_len hXY.symm k
  have hltY:k < Y.length:=by omega
  have z1:(a+(k:Int)).toNat=U.length+k:=by omega
  have z2:(b+(k:Int)).toNat=(U++swE X Y k++M).length+k:=by rw [List.length_append,List.length_append];omega
  have hD1:U++swE X Y k++M++swE Y X k++V=U++swE X Y k++(M++swE Y X k++V):=by simp
  have hD2:U++swE X Y k++M++swE Y X k++V=(U++swE X Y k++M)++swE Y X k++V:=rfl
  have r1:((U++swE X Y k++M++swE Y X k++V).map eRw)[(a+(k:Int)).toNat]?=some (eRw X[k]):=by
   rw [List.getElem?_map,hD1,app_get z1 (by omega),swE_at hXY hlt];rfl
  have r2:((U++swE X Y k++M++swE Y X k++V).map eRw)[(b+(k:Int)).toNat]?=some (eRw Y[k]):=by
   rw [List.getElem?_map,app_get z2 (by omega),swE_at hXY.symm hltY];rfl
  have hs1:(U++swE X Y k++M++swE Y X k++V).set (a+(k:Int)).toNat Y[k]=U++swE X Y (k+1)++M++swE Y X k++V:=by
   rw [hD1,app_set z1 (by omega),swE_set hXY hlt];simp
  have l3:=swE_len hXY (k+1)
  have z3:(b+(k:Int)).toNat=(U++swE X Y (k+1)++M).length+k:=by rw [List.length_append,List.length_append];omega
  have r3:(((U++swE X Y k++M++swE Y X k++V).map eRw).set (a+(k:Int)).toNat (eRw Y[k]))[(b+(k:Int)).toNat]?=some (eRw Y[k]):=by
   rw [← List.map_set,hs1,List.getElem?_map,app_get z3 (by omega),swE_at hXY.symm hltY];rfl
  have r4:(((U++swE X Y k++M++swE Y X k++V).map eRw).set (a+(k:Int)).toNat (eRw Y[k])).set (b+(k:Int)).toNat (eRw X[k])=(U++swE X Y (k+1)++M++swE Y X (k+1)++V).map eRw:=by
   rw [← List.map_set,hs1,← List.map_set,app_set z3 (by omega),swE_set hXY.symm hltY]
  have hDl:((U++swE X Y k++M++swE Y X k++V).map eRw).length=U.length+X.length+M.length+Y.length+V.length:=by
   simp only [List.length_map,List.length_append];omega
  obtain ⟨x,hx⟩:∃ z,X[k]=z:=⟨_,rfl⟩
  obtain ⟨y,hy⟩:∃ z,Y[k]=z:=⟨_,rfl⟩
  obtain ⟨D,hDD⟩:∃ z,(U++swE X Y k++M++swE Y X k++V).map eRw=z:=⟨_,rfl⟩
  rw [hx] at r1 r4
  rw [hy] at r2 r3 r4
  rw [hDD] at r1 r2 r3 r4 hDl ⊢
  clear hDD hs1 hD1 hD2 z3
  repeat (first|refine W.gob rfl ?_|refine WL.nil ?_|refine WL.bt rfl rfl rfl z46o ?_|refine WL.e1 rfl ?_|refine W.condT rfl ?_)
  refine (?_:W _ _ _ _ _)
  refine W.drawT 22 z46k z46k z46k ?_
  refine WA.dt [false,false,false,false,false,false,false,false,false,false,false,false,false,false,false,false,false,false,false,false,false,true] [] [0] 21 z46k z46k z46k trivial ⟨rfl,trivial⟩ ?_
  refine DTK.st rfl z46k rfl ?_
  refine DTK.st rfl z46k rfl ?_
  refine DTK.st rfl z46k rfl ?_
  refine DTK.ar rfl z46k rfl z46i ?_
  refine DTK.v0 rfl (stepV_of rfl rfl) ?_
  refine DTK.v0 rfl (stepV_of rfl rfl) ?_
  refine DTK.v0 rfl (stepV_of rfl rfl) ?_
  refine DTK.v0 rfl (sideV_of rfl z46i) ?_
  refine DTK.st rfl z46k rfl ?_
  refine DTK.st rfl z46k rfl ?_
  refine DTK.st rfl z46k rfl ?_
  refine DTK.ar rfl z46k rfl z46i ?_
  refine DTK.ixs rfl z46k rfl ⟨by omega,by omega⟩ ?_
  refine DTK.vl rfl z46k (ldaV_of rfl r2 rfl) ?_
  refine DTK.st rfl z46k rfl ?_
  refine DTK.st rfl z46k rfl ?_
  refine DTK.st rfl z46k rfl ?_
  refine DTK.ar rfl z46k rfl z46i ?_
  refine DTK.ixs rfl z46k rfl ⟨by omega,by omega⟩ ?_
  refine DTK.vl rfl z46k (ldaV_of rfl r1 rfl) ?_
  refine DTK.ixs rfl z46k rfl ⟨by omega,by omega⟩ ?_
  refine DTK.sto rfl rfl rfl rfl rfl rfl rfl rfl rfl rfl rfl rfl (put_row r1 (by show 0+2≤2;omega) rfl) rfl trivial (fun h=>by cases h) ?_
  refine DTK.nil ?_
  refine ⟨rfl,?_⟩
  refine (?_:WL _ _ _ _ _ _)
  repeat refine WL.ixs rfl rfl z46s ?_
  refine (?_:WL _ _ _ _ _ _)
  refine WL.sto rfl rfl rfl rfl r3 (by show 0+2≤2;omega) ?_
  repeat (first|refine W.gob rfl ?_|refine WL.nil ?_|refine WL.e1 rfl ?_|refine WL.ar rfl rfl z46i ?_)
  exact ⟨k+1,by omega,by omega,(zqu (fun q=>q) (by repeat (first|exact trivial|refine ⟨⟨?_,?_,?_⟩,?_⟩|rfl|exact congrArg (fun q=>some (AO.row _ _ q)) r4)) rfl)⟩
 ·obtain rfl:k=X.length:=by omega
  have e1:=swE_all hXY
  have e2:=swE_all hXY.symm
  rw [← hXY] at e1
  rw [e1,e2]
  repeat (first|refine W.gob rfl ?_|refine WL.nil ?_|refine WL.bf rfl rfl rfl z46o ?_|refine WL.e1 rfl ?_|refine W.condF rfl ?_)
  refine finTr (σ':=⟨[],[(0,.row 83 2 ((U++Y++M++X++V).map eRw))],1⟩) (zqt id) ?_
  exact finMu rfl rfl rfl rfl rfl
theorem rotate_G {f:FuncId} (U S T V:List Rw) (a m b:Int) (ha:a=U.length) (hm:m=U.length+S.length) (hb:b=U.length+S.length+T.length) (hS:0 < S.length) (hT:0 < T.length) (hN:U.length+S.length+T.length+V.length≤1000) :
  Cto truB 0 Tryz.prog 245 [.sl 0,.sc (.int .i64 a),.sc (.int .i64 m),.sc (.int .i64 b),.sc (.func (.func f) #[] #[])] [(0,.row 83 2 ((U++S++T++V).map eRw))] 1 (.tu []) [(0,.row 83 2 ((U++T++S++V).map eRw))] 1:=by
 refine Cto.intro truS Tryz.func245 rfl Tryz.ntmps245 (Nat.le_of_ble_eq_true rfl) rfl fun w0 F0 fp pg hB=>?_
 dsimp only [number,Nat.reduceAdd]
 repeat (first|refine W.gob rfl ?_|refine WL.nil ?_|refine WL.e1 rfl ?_|refine WL.ar rfl rfl z46i ?_)
 refine (?_:W _ _ _ _ _)
 refine W.loop (fun s:(List Rw×List Rw×List Rw×List Rw)×Int×Int=>s.1.1++s.1.2.2.1++s.1.2.1++s.1.2.2.2=U++T++S++V∧s.2.1=s.1.2.1.length∧s.2.2=s.1.2.2.1.length∧m=s.1.1.length+s.1.2.1.length∧0 < s.1.2.1.length∧0 < s.1.2.2.1.length∧s.1.1.length+s.1.2.1.length+s.1.2.2.1.length+s.1.2.2.2.length≤1000)
  (fun s=>⟨[(0,.sl 0),(2,.sc (.int .i64 m)),(4,.sc (.func (.func f) #[] #[])),(10,.sc (.int .i64 s.2.1)),(11,.sc (.int .i64 s.2.2))],[(0,.row 83 2 ((s.1.1++s.1.2.1++s.1.2.2.1++s.1.2.2.2).map eRw))],1⟩) (fun s=>s.1.2.1.length+s.1.2.2.1.length) ((U,S,T,V),m - a,b - m) ⟨rfl,by show m - a=(S.length:Int);omega,by show b - m=(T.length:Int);omega,hm,hS,hT,hN⟩ (zqt id) fun s hs=>?_
 obtain ⟨⟨L,P,Q,R⟩,i,j⟩:=s
 obtain ⟨hgoal,hi,hj,hm',hP,hQ,hN'⟩:=hs
 dsimp only at hgoal hi hj hm' hP hQ hN' ⊢
 by_cases hij:i=j
 ·have hw:=swapR_G (f:=f) L P [] Q R (m - i) m i (by omega) (by omega) (by simp;omega) (by omega) (by simp;omega)
  rw [List.append_nil,List.append_nil] at hw
  rw [← hgoal]
  subst hij
  repeat (first|refine W.gob rfl ?_|refine WL.nil ?_|refine WL.nf rfl rfl rfl z46o ?_|refine WL.e1 rfl ?_|refine WL.ar rfl rfl z46i ?_|refine W.condF rfl ?_)
  refine (?_:WL _ _ _ _ _ _)
  refine WL.cto (truH _) [0] rfl rfl (callF Tryz.func254 rfl rfl) hw rfl rfl rfl ⟨⟨rfl,rfl,rfl⟩,trivial⟩ rfl rfl rfl rfl ?_
  repeat refine WL.nil ?_
  refine finTr (σ':=⟨[],[(0,.row 83 2 ((L++Q++P++R).map eRw))],1⟩) (zqt id) ?_
  exact finMu rfl rfl rfl rfl rfl
 by_cases hgt:j < i
 ·obtain ⟨X,P',rfl,hX⟩:∃ X P',P=X++P'∧X.length=Q.length:=⟨P.take Q.length,P.drop Q.length,(List.take_append_drop _ _).symm,by rw [List.length_take];omega⟩
  have hPl:(X++P').length=X.length+P'.length:=List.length_append
  rw [hPl] at hi hm' hN'
  have hw:=swapR_G (f:=f) L X P' Q R (m - i) m j z46o z46o z46o z46o z46o
  have e1:L++(X++P')++Q++R=L++X++P'++Q++R:=by simp
  have e2:L++Q++P'++X++R=(L++Q)++P'++X++R:=rfl
  rw [e1]
  repeat (first|refine W.gob rfl ?_|refine WL.nil ?_|refine WL.bt rfl rfl rfl z46o ?_|refine WL.nt rfl rfl rfl z46o ?_|refine WL.e1 rfl ?_|refine WL.ar rfl rfl z46i ?_|refine W.condT rfl ?_)
  refine (?_:WL _ _ _ _ _ _)
  refine WL.cto (truH _) [0] rfl rfl (callF Tryz.func254 rfl rfl) hw rfl rfl rfl ⟨⟨rfl,rfl,rfl⟩,trivial⟩ rfl rfl rfl rfl ?_
  repeat (first|refine W.gob rfl ?_|refine WL.nil ?_|refine WL.e1 rfl ?_|refine WL.ar rfl rfl z46i ?_)
  refine ⟨((L++Q,P',X,R),i - j,j),⟨by show (L++Q)++X++P'++R=_;rw [← hgoal];simp,by show i - j=(P'.length:Int);omega,by show j=(X.length:Int);omega,by show m=((L++Q).length:Int)+(P'.length:Int);rw [List.length_append];omega,by show 0 < P'.length;omega,by show 0 < X.length;omega,by show (L++Q).length+P'.length+X.length+R.length≤1000;rw [List.length_append];omega⟩,by show P'.length+X.length < (X++P').length+Q.length;rw [hPl];omega,?_⟩
  exact (zqt id)
 ·obtain ⟨T',Y,rfl,hY⟩:∃ T' Y,Q=T'++Y∧Y.length=P.length:=⟨Q.take (Q.length - P.length),Q.drop (Q.length - P.length),(List.take_append_drop _ _).symm,by rw [List.length_drop];omega⟩
  have hQl:(T'++Y).length=T'.length+Y.length:=List.length_append
  rw [hQl] at hj hN'
  have hw:=swapR_G (f:=f) L P T' Y R (m - i) (m+j - i) i hY.symm z46o z46o z46o z46o
  have e1:L++P++(T'++Y)++R=L++P++T'++Y++R:=by simp
  have e2:L++Y++T'++P++R=L++Y++T'++(P++R):=by simp
  rw [e1]
  rw [e2] at hw
  repeat (first|refine W.gob rfl ?_|refine WL.nil ?_|refine WL.bf rfl rfl rfl z46o ?_|refine WL.nt rfl rfl rfl z46o ?_|refine WL.e1 rfl ?_|refine WL.ar rfl rfl z46i ?_|refine W.condT rfl ?_|refine W.condF rfl ?_)
  refine (?_:WL _ _ _ _ _ _)
  refine WL.cto (truH _) [0] rfl rfl (callF Tryz.func254 rfl rfl) hw rfl rfl rfl ⟨⟨rfl,rfl,rfl⟩,trivial⟩ rfl rfl rfl rfl ?_
  repeat (first|refine W.gob rfl ?_|refine WL.nil ?_|refine WL.e1 rfl ?_|refine WL.ar rfl rfl z46i ?_)
  refine ⟨((L,Y,T',P++R),i,j - i),⟨by show L++T'++Y++(P++R)=_;rw [← hgoal];simp,by show i=(Y.length:Int);omega,by show j - i=(T'.length:Int);omega,by show m=(L.length:Int)+(Y.length:Int);omega,by show 0 < Y.length;omega,by show 0 < T'.length;omega,by show L.length+Y.length+T'.length+(P++R).length≤1000;rw [List.length_append];omega⟩,by show Y.length+T'.length < P.length+(T'++Y).length;rw [hQl];omega,?_⟩
  exact (zqt id)
end
end Go.Proofs.YtgelfflighgajaaGreatDoor
