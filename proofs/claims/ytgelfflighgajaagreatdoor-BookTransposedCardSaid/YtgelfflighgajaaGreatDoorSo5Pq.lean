/- Comparison of rows by their lists of numbers. -/
import Derived.Test.YtgelfflighgajaaGreatDoorSo2Pq
set_option maxHeartbeats 16000000
set_option maxRecDepth 100000
set_option linter.unusedVariables false
set_option linter.unusedSimpArgs false
namespace Go.Proofs.YtgelfflighgajaaGreatDoor
section
open Go.RowKit
theorem z47o {p:Prop} (h:p:=by omega):p:=h
theorem z47k {α:Sort _} {a b:α} (h:a = b:=by kernel_rfl):a = b:=h
theorem z47i {z:Int} (h:I64 z:=by unfold I64;omega):I64 z:=h
theorem z47s {p:Prop} (h:p:=by first|omega|(simp;done)|(simp;omega)):p:=h
theorem half_of {i j:Int} (h0:0≤i)(h:i<j):∃ c,(i+j).fdiv 2=c∧i≤c∧c<j∧2*c≤i+j∧i+j<2*c+2:=by
 refine⟨_,rfl,?_⟩
 rw [Int.fdiv_eq_ediv_of_nonneg _ (by omega)]
 omega
theorem rw_sws' {U V:List Rw} {y x:Rw} {n m:Nat} (h:n=U.length+1)(hm:m=U.length):(((U++y::x::V).map eRw).set m (eRw x)).set n (eRw y)=(U++x::y::V).map eRw:=by
 rw [← List.map_set,← List.map_set,List.set_comm _ _ (by omega),sw_s h hm]
theorem rw_sw2' {U V:List Rw} {y x:Rw} {n m:Nat} (h:n=U.length+1)(hm:m=U.length):(((U++y::x::V).map eRw).set m (eRw x))[n]?=some (eRw x):=by
 rw [List.getElem?_set_ne (by omega)];exact rw_sw1 h
theorem seg_l {A S T Z:List Rw} {z:Int} {i:Nat} (h:z=A.length+i) (hi:i<S.length):((A++S++T++Z).map eRw)[z.toNat]?=some (eRw S[i]):=by
 rw [List.getElem?_map,show A++S++T++Z=A++S++(T++Z) by simp,app_get (k:=i) (by omega) hi];rfl
theorem seg_r {A S T Z:List Rw} {z:Int} {i:Nat} (h:z=A.length+S.length+i) (hi:i<T.length):((A++S++T++Z).map eRw)[z.toNat]?=some (eRw T[i]):=by
 rw [List.getElem?_map,app_get (P:=A++S) (k:=i) (by rw [List.length_append];omega) hi];rfl
theorem one_left {cm:Rw→Rw→Int} {en:Rw→Int} (h:CmOk cm) {s:Rw} {T:List Rw} {e:Nat} (hT:Srd cm en T) (hd:Dis en ([s]++T)) (he:∀ b∈T,en s < en b) (hE:e≤T.length) (h1:∀ (q:0 < e),cm (T[e - 1]'(by omega)) s < 0) (h2:∀ (q:e < T.length),¬ cm T[e] s < 0) :
  T.take e++s::T.drop e=srt cm en ([s]++T):=by
 refine srt_uniq h hd ?_ (ins_end h (by rw [List.take_append_drop];exact hT) (fun n hn hn1=>?_) fun y hy=>?_)
 ·refine ins_perm.trans ?_
  rw [List.take_append_drop]
  exact List.perm_append_comm
 ·have hl:(T.take e).length=e:=by rw [List.length_take];omega
  rw [hl] at hn hn1
  rw [List.getElem_take]
  have:=h1 z47o
  have e1:n=e - 1:=by omega
  subst e1
  exact le_lt this
 ·by_cases hq:e < T.length
  ·exact Srd.first hT h hq (le_of h (he _ (List.getElem_mem _)) (h2 hq)) y hy
  ·rw [List.drop_eq_nil_of_le (by omega)] at hy;cases hy
theorem one_right {cm:Rw→Rw→Int} {en:Rw→Int} (h:CmOk cm) {t:Rw} {S:List Rw} {e:Nat} (hS:Srd cm en S) (hd:Dis en (S++[t])) (he:∀ a∈S,en a < en t) (hE:e≤S.length) (h1:∀ (q:0 < e),¬ cm t (S[e - 1]'(by omega)) < 0) (h2:∀ (q:e < S.length),cm t S[e] < 0) :
  S.take e++t::S.drop e=srt cm en (S++[t]):=by
 refine srt_uniq h hd ?_ (ins_end h (by rw [List.take_append_drop];exact hS) (fun n hn hn1=>?_) fun y hy=>?_)
 ·refine ins_perm.trans ?_
  rw [List.take_append_drop]
 ·have hl:(S.take e).length=e:=by rw [List.length_take];omega
  rw [hl] at hn hn1
  rw [List.getElem_take]
  have:=h1 z47o
  have e1:n=e - 1:=by omega
  subst e1
  exact le_of h (he _ (List.getElem_mem _)) this
 ·by_cases hq:e < S.length
  ·exact Srd.first hS h hq (le_lt (h2 hq)) y hy
  ·rw [List.drop_eq_nil_of_le (by omega)] at hy;cases hy
theorem symM_G {f:FuncId} {cm:Rw→Rw→Int} {en:Rw→Int} (hcm:CmOk cm) (hcf:∀ vs w,(callFunc f vs).run Tryz.prog w=.ok (.enter f vs) w) (hC:∀ a b,Ctr Tryz.prog f [.ag (eRw a),.ag (eRw b)] (.sc (.int .i64 (cm a b)))) :
  ∀ (N:Nat) (A S T Z:List Rw) (a m b:Int),S.length+T.length≤N→a=A.length→m=A.length+S.length→b=A.length+S.length+T.length→0 < S.length→0 < T.length→A.length+S.length+T.length+Z.length≤1000 →
  Srd cm en S→Srd cm en T→(∀ x∈S,∀ y∈T,en x < en y)→Dis en (S++T) →
  Cto truB 0 Tryz.prog 228 [.sl 0,.sc (.int .i64 a),.sc (.int .i64 m),.sc (.int .i64 b),.sc (.func (.func f) #[] #[])] [(0,.row 83 2 ((A++S++T++Z).map eRw))] 1 (.tu []) [(0,.row 83 2 ((A++srt cm en (S++T)++Z).map eRw))] 1:=by
 intro N
 induction N
 ·intro A S T Z a m b hN ha hm hb hS0;omega
 rename_i N ih
 intro A S T Z a m b hN ha hm hb hS0 hT0 hn hS hT hST hd
 have hDl:((A++S++T++Z).map eRw).length=A.length+S.length+T.length+Z.length:=by simp only [List.length_map,List.length_append]
 by_cases hS1:S.length=1
 ·-- one on the left
  obtain ⟨s,rfl⟩:=List.length_eq_one_iff.1 hS1
  have hsT:∀ y∈T,en s < en y:=fun y hy=>hST s (by simp) y hy
  have hrs:((A++[s]++T++Z).map eRw)[a.toNat]?=some (eRw s):=seg_l (i:=0) (by omega) (by simp)
  have hrt:∀ (z:Int) (i:Nat) (hi:i < T.length),z=m+i→((A++[s]++T++Z).map eRw)[z.toNat]?=some (eRw T[i]):=fun z i hi hz=>seg_r z47o hi
  have hfin:∀ e (hE:e≤T.length),(∀ (q:0 < e),cm (T[e - 1]' z47o) s < 0)→(∀ (q:e < T.length),¬ cm T[e] s < 0)→(A++T.take e++s::(T.drop e++Z)).map eRw=(A++srt cm en ([s]++T)++Z).map eRw:=fun e hE h1 h2=>by
   rw [← one_left hcm hT hd hsT hE h1 h2];simp
  have hD0:(A++[s]++T++Z).map eRw=(A++T.take 0++s::(T.drop 0++Z)).map eRw:=by simp
  have hb1:b=A.length+1+T.length:=by simpa using hb
  have hm1:m=A.length+1:=by simpa using hm
  have hn1:A.length+1+T.length+Z.length≤1000:=by simpa using hn
  obtain ⟨R,hR⟩:∃ z,srt cm en ([s]++T)=z:=⟨_,rfl⟩
  rw [hR] at hfin ⊢
  obtain ⟨D,hD⟩:∃ z,(A++[s]++T++Z).map eRw=z:=⟨_,rfl⟩
  rw [hD] at hDl hrs hrt hD0 ⊢
  have hDl:D.length=A.length+1+T.length+Z.length:=by simpa using hDl
  clear hR hD hS hT hST hd
  refine Cto.intro truS Tryz.func228 rfl Tryz.ntmps228 (Nat.le_of_ble_eq_true rfl) rfl fun w0 F0 fp pg hB=>?_
  dsimp only [number,Nat.reduceAdd]
  repeat (first|refine W.gob rfl ?_|refine WL.nil ?_|refine WL.bt rfl rfl rfl z47o ?_|refine WL.e1 rfl ?_|refine WL.ar rfl rfl z47i ?_|refine W.condT rfl ?_)
  refine (?_:W _ _ _ _ _)
  refine W.loop (fun s':Int×Int=>m≤s'.1∧s'.1≤s'.2∧s'.2≤b∧(∀ i (hi:i < T.length),s'.1=m+i+1→cm T[i] s < 0)∧(∀ i (hi:i < T.length),s'.2=m+i→¬ cm T[i] s < 0)) (fun s'=>⟨[(0,.sl 0),(1,.sc (.int .i64 a)),(2,.sc (.int .i64 m)),(3,.sc (.int .i64 b)),(4,.sc (.func (.func f) #[] #[])),(10,.sc (.int .i64 s'.1)),(11,.sc (.int .i64 s'.2))],[(0,.row 83 2 D)],1⟩) (fun s'=>(s'.2 - s'.1).toNat) (m,b) ⟨by show m≤m;omega,by show m≤b;omega,by show b≤b;omega,fun i hi h=>by dsimp only at h;omega,fun i hi h=>by dsimp only at h;omega⟩ (zqt id) fun s' hs'=>?_
  obtain ⟨i,j⟩:=s'
  obtain ⟨hi0,hij,hjb,hlo,hhi⟩:=hs'
  dsimp only at hi0 hij hjb hlo hhi ⊢
  by_cases hlt:i < j
  ·obtain ⟨c,hc,c1,c2,_,_⟩:=half_of (i:=i) (j:=j) z47o hlt
   obtain ⟨q,hq⟩:∃ q:Nat,c=m+q:=⟨(c - m).toNat,by omega⟩
   have hqT:q < T.length:=by omega
   have hrc:=hrt c q hqT hq
   have hCc:=hC T[q] s
   by_cases hcc:cm T[q] s < 0
   ·clear hlo hfin hrt
    repeat (first|refine W.gob rfl ?_|refine WL.nil ?_|refine WL.bt rfl rfl rfl z47o ?_|refine WL.e1 rfl ?_|refine WL.ar rfl rfl z47i ?_|refine W.condT rfl ?_)
    refine (?_:WL _ _ _ _ _ _)
    refine WL.cvt rfl rfl rfl (wrapU_of z47o z47o) ?_
    refine WL.shr rfl rfl hc ?_
    refine WL.cvt rfl rfl rfl (wrapI_of z47o z47o) ?_
    repeat (first|refine W.gob rfl ?_|refine WL.nil ?_|refine WL.e1 rfl ?_)
    refine (?_:W _ _ _ _ _)
    refine W.drawK z47k z47k ?_
    repeat (first|refine DK.st rfl ?_|refine DK.ixs rfl rfl z47s ?_)
    refine DK.lda rfl rfl hrc rfl ?_
    repeat (first|refine DK.st rfl ?_|refine DK.ixs rfl rfl z47s ?_)
    refine DK.lda rfl rfl hrs rfl ?_
    refine DK.vl rfl (WV.callV (truH _) rfl hcf rfl rfl rfl rfl rfl hCc.g) ?_
    repeat (first|refine DK.bt rfl rfl z47o ?_|refine DK.nil ?_)
    repeat (first|refine W.gob rfl ?_|refine WL.nil ?_|refine WL.e1 rfl ?_|refine WL.ar rfl rfl z47i ?_|refine W.condT rfl ?_)
    refine ⟨(c+1,j),⟨by show m≤c+1;omega,by show c+1≤j;omega,hjb,fun i' hi' h=>?_,hhi⟩,by show (j - (c+1)).toNat < (j - i).toNat;omega,?_⟩
    ·have:i'=q:=by dsimp only at h;omega
     subst this;exact hcc
    ·exact (zqt id)
   ·clear hhi hfin hrt
    repeat (first|refine W.gob rfl ?_|refine WL.nil ?_|refine WL.bt rfl rfl rfl z47o ?_|refine WL.e1 rfl ?_|refine WL.ar rfl rfl z47i ?_|refine W.condT rfl ?_)
    refine (?_:WL _ _ _ _ _ _)
    refine WL.cvt rfl rfl rfl (wrapU_of z47o z47o) ?_
    refine WL.shr rfl rfl hc ?_
    refine WL.cvt rfl rfl rfl (wrapI_of z47o z47o) ?_
    repeat (first|refine W.gob rfl ?_|refine WL.nil ?_|refine WL.e1 rfl ?_)
    refine (?_:W _ _ _ _ _)
    refine W.drawK z47k z47k ?_
    repeat (first|refine DK.st rfl ?_|refine DK.ixs rfl rfl z47s ?_)
    refine DK.lda rfl rfl hrc rfl ?_
    repeat (first|refine DK.st rfl ?_|refine DK.ixs rfl rfl z47s ?_)
    refine DK.lda rfl rfl hrs rfl ?_
    refine DK.vl rfl (WV.callV (truH _) rfl hcf rfl rfl rfl rfl rfl hCc.g) ?_
    repeat (first|refine DK.bf rfl rfl z47o ?_|refine DK.nil ?_)
    repeat (first|refine W.gob rfl ?_|refine WL.nil ?_|refine WL.e1 rfl ?_|refine W.condF rfl ?_)
    refine ⟨(i,c),⟨hi0,by show i≤c;omega,by show c≤b;omega,hlo,fun i' hi' h=>?_⟩,by show (c - i).toNat < (j - i).toNat;omega,?_⟩
    ·have:i'=q:=by dsimp only at h;omega
     subst this;exact hcc
    ·exact (zqt id)
  ·obtain rfl:i=j:=by omega
   obtain ⟨e,he⟩:∃ e:Nat,i=m+e:=⟨(i - m).toNat,by omega⟩
   have hE:e≤T.length:=by omega
   have hres:=hfin e hE (fun q=>hlo (e - 1) z47o z47o) (fun q=>hhi e q z47o)
   clear hlo hhi hfin hrt hrs
   rw [← hres,hD0]
   clear hres hD0 hDl
   repeat (first|refine W.gob rfl ?_|refine WL.nil ?_|refine WL.bf rfl rfl rfl z47o ?_|refine WL.e1 rfl ?_|refine W.condF rfl ?_)
   refine (?_:W _ _ _ _ _)
   refine W.loop (fun s':Nat×Int=>s'.1≤e∧s'.2=a+s'.1) (fun s'=>⟨[(0,.sl 0),(10,.sc (.int .i64 i)),(13,.sc (.int .i64 s'.2))],[(0,.row 83 2 ((A++T.take s'.1++s::(T.drop s'.1++Z)).map eRw))],1⟩) (fun s'=>e - s'.1) (0,a) ⟨Nat.zero_le _,by show a=a+((0:Nat):Int);omega⟩ (zqt id) fun s' hs'=>?_
   obtain ⟨q,k⟩:=s'
   obtain ⟨hqe,hk⟩:=hs'
   dsimp only at hqe hk ⊢
   by_cases hlt2:q < e
   ·obtain ⟨x,hx⟩:∃ x,T[q]' z47o=x:=⟨_,rfl⟩
    have hdr:T.drop q=x::T.drop (q+1):=by rw [List.drop_eq_getElem_cons (by omega),hx]
    have htk:T.take (q+1)=T.take q++[x]:=by rw [List.take_succ_eq_append_getElem (by omega),hx]
    have hUl:(A++T.take q).length=A.length+q:=by rw [List.length_append,List.length_take];omega
    have hVl:(T.drop (q+1)++Z).length=T.length - (q+1)+Z.length:=by rw [List.length_append,List.length_drop]
    have hnew:((A++T.take q)++x::s::(T.drop (q+1)++Z)).map eRw=(A++T.take (q+1)++s::(T.drop (q+1)++Z)).map eRw:=by rw [htk];simp
    rw [hdr,List.cons_append]
    obtain ⟨U,hU⟩:∃ z,A++T.take q=z:=⟨_,rfl⟩
    obtain ⟨V,hV⟩:∃ z,T.drop (q+1)++Z=z:=⟨_,rfl⟩
    rw [hU] at hUl hnew ⊢
    rw [hV] at hVl hnew ⊢
    have z1:(k+1).toNat=U.length+1:=by omega
    have z0:k.toNat=U.length:=by omega
    have r1:=rw_sw1 (V:=V) (y:=s) (x:=x) z1
    have r0:=rw_sw0 (V:=V) (y:=s) (x:=x) z0
    have r2:=rw_sw2' (V:=V) (y:=s) (x:=x) z1 z0
    have r3:=rw_sws' (V:=V) (y:=s) (x:=x) z1 z0
    have hDl:((U++s::x::V).map eRw).length=U.length+2+V.length:=by simp;omega
    obtain ⟨D2,hD2⟩:∃ z,(U++s::x::V).map eRw=z:=⟨_,rfl⟩
    rw [hD2] at r0 r1 r2 r3 hDl ⊢
    clear hU hD2 hdr htk hx
    repeat (first|refine W.gob rfl ?_|refine WL.nil ?_|refine WL.bt rfl rfl rfl z47o ?_|refine WL.e1 rfl ?_|refine WL.ar rfl rfl z47i ?_|refine W.condT rfl ?_)
    refine (?_:W _ _ _ _ _)
    refine W.drawT 16 z47k z47k z47k ?_
    refine WA.dt [false,false,false,false,false,false,false,false,false,false,false,false,false,false,false,true] [] [0] 15 z47k z47k z47k trivial ⟨rfl,trivial⟩ ?_
    refine DTK.st rfl z47k rfl ?_
    refine DTK.st rfl z47k rfl ?_
    refine DTK.v0 rfl (stepV_of rfl rfl) ?_
    refine DTK.v0 rfl (stepV_of rfl rfl) ?_
    refine DTK.v0 rfl (sideV_of rfl z47i) ?_
    refine DTK.st rfl z47k rfl ?_
    refine DTK.st rfl z47k rfl ?_
    refine DTK.ar rfl z47k rfl z47i ?_
    refine DTK.ixs rfl z47k rfl ⟨by omega,by omega⟩ ?_
    refine DTK.vl rfl z47k (ldaV_of rfl r1 rfl) ?_
    refine DTK.st rfl z47k rfl ?_
    refine DTK.st rfl z47k rfl ?_
    refine DTK.ixs rfl z47k rfl ⟨by omega,by omega⟩ ?_
    refine DTK.vl rfl z47k (ldaV_of rfl r0 rfl) ?_
    refine DTK.ixs rfl z47k rfl ⟨by omega,by omega⟩ ?_
    refine DTK.sto rfl rfl rfl rfl rfl rfl rfl rfl rfl rfl rfl rfl (put_row r0 (by show 0+2≤2;omega) rfl) rfl trivial (fun h=>by cases h) ?_
    refine DTK.nil ?_
    refine ⟨rfl,?_⟩
    refine (?_:WL _ _ _ _ _ _)
    repeat refine WL.ixs rfl rfl z47s ?_
    refine (?_:WL _ _ _ _ _ _)
    refine WL.sto rfl rfl rfl rfl r2 (by show 0+2≤2;omega) ?_
    repeat (first|refine W.gob rfl ?_|refine WL.nil ?_|refine WL.e1 rfl ?_|refine WL.ar rfl rfl z47i ?_)
    refine ⟨(q+1,k+1),⟨by show q+1≤e;omega,by show k+1=a+((q+1:Nat):Int);omega⟩,by show e - (q+1) < e - q;omega,?_⟩
    dsimp only
    rw [hV]
    exact (zqu (fun q=>q) (by repeat (first|exact trivial|refine ⟨⟨?_,?_,?_⟩,?_⟩|rfl|exact congrArg (fun q=>some (AO.row _ _ q)) (r3.trans hnew))) rfl)
   ·obtain rfl:q=e:=by omega
    repeat (first|refine W.gob rfl ?_|refine WL.nil ?_|refine WL.bf rfl rfl rfl z47o ?_|refine WL.e1 rfl ?_|refine WL.ar rfl rfl z47i ?_|refine W.condF rfl ?_)
    refine (?_:W _ _ _ _ _)
    refine W.tr (σ':=⟨[],[(0,.row 83 2 ((A++T.take q++s::(T.drop q++Z)).map eRw))],1⟩) (zqt id) ?_
    exact W.ret (finM rfl rfl rfl rfl rfl)
 by_cases hT1:T.length=1
 ·-- one on the right
  obtain ⟨t,rfl⟩:=List.length_eq_one_iff.1 hT1
  have hsT:∀ y∈S,en y < en t:=fun y hy=>hST y hy t (by simp)
  have hrs:((A++S++[t]++Z).map eRw)[m.toNat]?=some (eRw t):=seg_r (i:=0) (by omega) (by simp)
  have hrt:∀ (z:Int) (i:Nat) (hi:i < S.length),z=a+i→((A++S++[t]++Z).map eRw)[z.toNat]?=some (eRw S[i]):=fun z i hi hz=>seg_l z47o hi
  have hfin:∀ e (hE:e≤S.length),(∀ (q:0 < e),¬ cm t (S[e - 1]' z47o) < 0)→(∀ (q:e < S.length),cm t S[e] < 0)→(A++S.take e++t::(S.drop e++Z)).map eRw=(A++srt cm en (S++[t])++Z).map eRw:=fun e hE h1 h2=>by
   rw [← one_right hcm hS hd hsT hE h1 h2];simp
  have hD0:(A++S++[t]++Z).map eRw=(A++S.take S.length++t::(S.drop S.length++Z)).map eRw:=by simp
  have hb1:b=A.length+S.length+1:=by simpa using hb
  have hn1:A.length+S.length+1+Z.length≤1000:=by simpa using hn
  obtain ⟨R,hR⟩:∃ z,srt cm en (S++[t])=z:=⟨_,rfl⟩
  rw [hR] at hfin ⊢
  obtain ⟨D,hD⟩:∃ z,(A++S++[t]++Z).map eRw=z:=⟨_,rfl⟩
  rw [hD] at hDl hrs hrt hD0 ⊢
  have hDl:D.length=A.length+S.length+1+Z.length:=by simpa using hDl
  clear hR hD hS hT hST hd
  refine Cto.intro truS Tryz.func228 rfl Tryz.ntmps228 (Nat.le_of_ble_eq_true rfl) rfl fun w0 F0 fp pg hB=>?_
  dsimp only [number,Nat.reduceAdd]
  repeat (first|refine W.gob rfl ?_|refine WL.nil ?_|refine WL.bt rfl rfl rfl z47o ?_|refine WL.bf rfl rfl rfl z47o ?_|refine WL.e1 rfl ?_|refine WL.ar rfl rfl z47i ?_|refine W.condT rfl ?_|refine W.condF rfl ?_)
  refine (?_:W _ _ _ _ _)
  refine W.loop (fun s':Int×Int=>a≤s'.1∧s'.1≤s'.2∧s'.2≤m∧(∀ i (hi:i < S.length),s'.1=a+i+1→¬ cm t S[i] < 0)∧(∀ i (hi:i < S.length),s'.2=a+i→cm t S[i] < 0)) (fun s'=>⟨[(0,.sl 0),(1,.sc (.int .i64 a)),(2,.sc (.int .i64 m)),(3,.sc (.int .i64 b)),(4,.sc (.func (.func f) #[] #[])),(14,.sc (.int .i64 s'.1)),(15,.sc (.int .i64 s'.2))],[(0,.row 83 2 D)],1⟩) (fun s'=>(s'.2 - s'.1).toNat) (a,m) ⟨by show a≤a;omega,by show a≤m;omega,by show m≤m;omega,fun i hi h=>by dsimp only at h;omega,fun i hi h=>by dsimp only at h;omega⟩ (zqt id) fun s' hs'=>?_
  obtain ⟨i,j⟩:=s'
  obtain ⟨hi0,hij,hjb,hlo,hhi⟩:=hs'
  dsimp only at hi0 hij hjb hlo hhi ⊢
  by_cases hlt:i < j
  ·obtain ⟨c,hc,c1,c2,_,_⟩:=half_of (i:=i) (j:=j) z47o hlt
   obtain ⟨q,hq⟩:∃ q:Nat,c=a+q:=⟨(c - a).toNat,by omega⟩
   have hqT:q < S.length:=by omega
   have hrc:=hrt c q hqT hq
   have hCc:=hC t S[q]
   by_cases hcc:cm t S[q] < 0
   ·clear hhi hfin hrt
    repeat (first|refine W.gob rfl ?_|refine WL.nil ?_|refine WL.bt rfl rfl rfl z47o ?_|refine WL.e1 rfl ?_|refine WL.ar rfl rfl z47i ?_|refine W.condT rfl ?_)
    refine (?_:WL _ _ _ _ _ _)
    refine WL.cvt rfl rfl rfl (wrapU_of z47o z47o) ?_
    refine WL.shr rfl rfl hc ?_
    refine WL.cvt rfl rfl rfl (wrapI_of z47o z47o) ?_
    repeat (first|refine W.gob rfl ?_|refine WL.nil ?_|refine WL.e1 rfl ?_)
    refine (?_:W _ _ _ _ _)
    refine W.drawK z47k z47k ?_
    repeat (first|refine DK.st rfl ?_|refine DK.ixs rfl rfl z47s ?_)
    refine DK.lda rfl rfl hrs rfl ?_
    repeat (first|refine DK.st rfl ?_|refine DK.ixs rfl rfl z47s ?_)
    refine DK.lda rfl rfl hrc rfl ?_
    refine DK.vl rfl (WV.callV (truH _) rfl hcf rfl rfl rfl rfl rfl hCc.g) ?_
    repeat (first|refine DK.bt rfl rfl (by omega) ?_|refine DK.ff rfl (by first|(simp;done)|fail) ?_|refine DK.nil ?_)
    repeat (first|refine W.gob rfl ?_|refine WL.nil ?_|refine WL.e1 rfl ?_|refine W.condF rfl ?_)
    refine ⟨(i,c),⟨hi0,by show i≤c;omega,by show c≤m;omega,hlo,fun i' hi' h=>?_⟩,by show (c - i).toNat < (j - i).toNat;omega,?_⟩
    ·have:i'=q:=by dsimp only at h;omega
     subst this;exact hcc
    ·exact (zqt id)
   ·clear hlo hfin hrt
    repeat (first|refine W.gob rfl ?_|refine WL.nil ?_|refine WL.bt rfl rfl rfl z47o ?_|refine WL.e1 rfl ?_|refine WL.ar rfl rfl z47i ?_|refine W.condT rfl ?_)
    refine (?_:WL _ _ _ _ _ _)
    refine WL.cvt rfl rfl rfl (wrapU_of z47o z47o) ?_
    refine WL.shr rfl rfl hc ?_
    refine WL.cvt rfl rfl rfl (wrapI_of z47o z47o) ?_
    repeat (first|refine W.gob rfl ?_|refine WL.nil ?_|refine WL.e1 rfl ?_)
    refine (?_:W _ _ _ _ _)
    refine W.drawK z47k z47k ?_
    repeat (first|refine DK.st rfl ?_|refine DK.ixs rfl rfl z47s ?_)
    refine DK.lda rfl rfl hrs rfl ?_
    repeat (first|refine DK.st rfl ?_|refine DK.ixs rfl rfl z47s ?_)
    refine DK.lda rfl rfl hrc rfl ?_
    refine DK.vl rfl (WV.callV (truH _) rfl hcf rfl rfl rfl rfl rfl hCc.g) ?_
    repeat (first|refine DK.bf rfl rfl (by omega) ?_|refine DK.tt rfl (by first|(simp;done)|fail) ?_|refine DK.nil ?_)
    repeat (first|refine W.gob rfl ?_|refine WL.nil ?_|refine WL.e1 rfl ?_|refine WL.ar rfl rfl z47i ?_|refine W.condT rfl ?_)
    refine ⟨(c+1,j),⟨by show a≤c+1;omega,by show c+1≤j;omega,hjb,fun i' hi' h=>?_,hhi⟩,by show (j - (c+1)).toNat < (j - i).toNat;omega,?_⟩
    ·have:i'=q:=by dsimp only at h;omega
     subst this;exact hcc
    ·exact (zqt id)
  ·obtain rfl:i=j:=by omega
   obtain ⟨e,he⟩:∃ e:Nat,i=a+e:=⟨(i - a).toNat,by omega⟩
   have hE:e≤S.length:=by omega
   have hres:=hfin e hE (fun q=>hlo (e - 1) z47o z47o) (fun q=>hhi e q z47o)
   clear hlo hhi hfin hrt hrs
   rw [← hres,hD0]
   clear hres hD0 hDl
   repeat (first|refine W.gob rfl ?_|refine WL.nil ?_|refine WL.bf rfl rfl rfl z47o ?_|refine WL.e1 rfl ?_|refine W.condF rfl ?_)
   refine (?_:W _ _ _ _ _)
   refine W.loop (fun s':Nat×Int=>e≤s'.1∧s'.1≤S.length∧s'.2=a+s'.1) (fun s'=>⟨[(0,.sl 0),(14,.sc (.int .i64 i)),(17,.sc (.int .i64 s'.2))],[(0,.row 83 2 ((A++S.take s'.1++t::(S.drop s'.1++Z)).map eRw))],1⟩) (fun s'=>s'.1) (S.length,m) ⟨hE,Nat.le_refl _,by show m=a+(S.length:Int);omega⟩ (zqt id) fun s' hs'=>?_
   obtain ⟨q,k⟩:=s'
   obtain ⟨hqe,hqS,hk⟩:=hs'
   dsimp only at hqe hqS hk ⊢
   by_cases hlt2:e < q
   ·obtain ⟨p,rfl⟩:∃ p,q=p+1:=⟨q - 1,by omega⟩
    obtain ⟨y,hy⟩:∃ x,S[p]' z47o=x:=⟨_,rfl⟩
    have hdr:S.drop p=y::S.drop (p+1):=by rw [List.drop_eq_getElem_cons (by omega),hy]
    have htk:S.take (p+1)=S.take p++[y]:=by rw [List.take_succ_eq_append_getElem (by omega),hy]
    have hUl:(A++S.take p).length=A.length+p:=by rw [List.length_append,List.length_take];omega
    have hVl:(S.drop (p+1)++Z).length=S.length - (p+1)+Z.length:=by rw [List.length_append,List.length_drop]
    have hold:(A++S.take (p+1)++t::(S.drop (p+1)++Z)).map eRw=((A++S.take p)++y::t::(S.drop (p+1)++Z)).map eRw:=by rw [htk];simp
    have hnew:((A++S.take p)++t::y::(S.drop (p+1)++Z)).map eRw=(A++S.take p++t::(S.drop p++Z)).map eRw:=by rw [hdr];simp
    rw [hold]
    obtain ⟨U,hU⟩:∃ z,A++S.take p=z:=⟨_,rfl⟩
    obtain ⟨V,hV⟩:∃ z,S.drop (p+1)++Z=z:=⟨_,rfl⟩
    rw [hU] at hUl hnew ⊢
    rw [hV] at hVl hnew ⊢
    have z1:k.toNat=U.length+1:=by omega
    have z0:(k - 1).toNat=U.length:=by omega
    have r1:=rw_sw1 (V:=V) (y:=y) (x:=t) z1
    have r0:=rw_sw0 (V:=V) (y:=y) (x:=t) z0
    have r2:=rw_sw2 (V:=V) (y:=y) (x:=t) z1 z0
    have r3:=rw_sws (V:=V) (y:=y) (x:=t) z1 z0
    have hDl:((U++y::t::V).map eRw).length=U.length+2+V.length:=by simp;omega
    obtain ⟨D2,hD2⟩:∃ z,(U++y::t::V).map eRw=z:=⟨_,rfl⟩
    rw [hD2] at r0 r1 r2 r3 hDl ⊢
    clear hV hD2 hdr htk hy hold
    repeat (first|refine W.gob rfl ?_|refine WL.nil ?_|refine WL.bt rfl rfl rfl z47o ?_|refine WL.e1 rfl ?_|refine W.condT rfl ?_)
    refine (?_:W _ _ _ _ _)
    refine W.drawT 16 z47k z47k z47k ?_
    refine WA.dt [false,false,false,false,false,false,false,false,false,false,false,false,false,false,false,true] [] [0] 15 z47k z47k z47k trivial ⟨rfl,trivial⟩ ?_
    refine DTK.st rfl z47k rfl ?_
    refine DTK.st rfl z47k rfl ?_
    refine DTK.v0 rfl (stepV_of rfl rfl) ?_
    refine DTK.v0 rfl (stepV_of rfl rfl) ?_
    refine DTK.v0 rfl (sideV_of rfl z47i) ?_
    refine DTK.st rfl z47k rfl ?_
    refine DTK.st rfl z47k rfl ?_
    refine DTK.ar rfl z47k rfl z47i ?_
    refine DTK.ixs rfl z47k rfl ⟨by omega,by omega⟩ ?_
    refine DTK.vl rfl z47k (ldaV_of rfl r0 rfl) ?_
    refine DTK.st rfl z47k rfl ?_
    refine DTK.st rfl z47k rfl ?_
    refine DTK.ixs rfl z47k rfl ⟨by omega,by omega⟩ ?_
    refine DTK.vl rfl z47k (ldaV_of rfl r1 rfl) ?_
    refine DTK.ixs rfl z47k rfl ⟨by omega,by omega⟩ ?_
    refine DTK.sto rfl rfl rfl rfl rfl rfl rfl rfl rfl rfl rfl rfl (put_row r1 (by show 0+2≤2;omega) rfl) rfl trivial (fun h=>by cases h) ?_
    refine DTK.nil ?_
    refine ⟨rfl,?_⟩
    refine (?_:WL _ _ _ _ _ _)
    repeat refine WL.ixs rfl rfl z47s ?_
    refine (?_:WL _ _ _ _ _ _)
    refine WL.sto rfl rfl rfl rfl r2 (by show 0+2≤2;omega) ?_
    repeat (first|refine W.gob rfl ?_|refine WL.nil ?_|refine WL.e1 rfl ?_|refine WL.ar rfl rfl z47i ?_)
    refine ⟨(p,k - 1),⟨by show e≤p;omega,by show p≤S.length;omega,by show k - 1=a+(p:Int);omega⟩,by show p < p+1;omega,?_⟩
    dsimp only
    rw [hU]
    exact (zqu (fun q=>q) (by repeat (first|exact trivial|refine ⟨⟨?_,?_,?_⟩,?_⟩|rfl|exact congrArg (fun q=>some (AO.row _ _ q)) (r3.trans hnew))) rfl)
   ·obtain rfl:q=e:=by omega
    repeat (first|refine W.gob rfl ?_|refine WL.nil ?_|refine WL.bf rfl rfl rfl z47o ?_|refine WL.e1 rfl ?_|refine W.condF rfl ?_)
    refine (?_:W _ _ _ _ _)
    refine W.tr (σ':=⟨[],[(0,.row 83 2 ((A++S.take q++t::(S.drop q++Z)).map eRw))],1⟩) (zqt id) ?_
    exact W.ret (finM rfl rfl rfl rfl rfl)
 obtain ⟨mid,hmid,hm1,hm2,hm3,hm4⟩:=half_of (i:=a) (j:=b) z47o z47o
 have hrs:∀ (z:Int) (i:Nat) (hi:i < S.length),z=a+i→((A++S++T++Z).map eRw)[z.toNat]?=some (eRw S[i]):=fun z i hi hz=>seg_l z47o hi
 have hrt:∀ (z:Int) (i:Nat) (hi:i < T.length),z=m+i→((A++S++T++Z).map eRw)[z.toNat]?=some (eRw T[i]):=fun z i hi hz=>seg_r z47o hi
 obtain ⟨lo,hi,hlh⟩:∃ lo hi:Int,(m > mid∧lo=mid+m - b∧hi=mid)∨(¬ m > mid∧lo=a∧hi=m):=by
  by_cases h:m > mid
  ·exact ⟨_,_,.inl ⟨h,rfl,rfl⟩⟩
  ·exact ⟨_,_,.inr ⟨h,rfl,rfl⟩⟩
 have hend:∀ (s e:Nat) (hs:s≤S.length) (he:e≤T.length),(∀ (_:0 < s) (q:e < T.length),¬ cm T[e] (S[s - 1]' z47o) < 0)→(∀ (q:s < S.length) (_:0 < e),cm (T[e - 1]' z47o) S[s] < 0) →
   srt cm en (S.take s++T.take e)++srt cm en (S.drop s++T.drop e)=srt cm en (S++T):=fun s e hs he h1 h2=>mrg_cut hcm hd hS hT hST hs he h1 h2
 obtain ⟨R,hR⟩:∃ z,srt cm en (S++T)=z:=⟨_,rfl⟩
 rw [hR] at hend ⊢
 obtain ⟨D,hD⟩:∃ z,(A++S++T++Z).map eRw=z:=⟨_,rfl⟩
 rw [hD] at hDl hrs hrt ⊢
 refine Cto.intro truS Tryz.func228 rfl Tryz.ntmps228 (Nat.le_of_ble_eq_true rfl) rfl fun w0 F0 fp pg hB=>?_
 dsimp only [number,Nat.reduceAdd]
 repeat (first|refine W.gob rfl ?_|refine WL.nil ?_|refine WL.bf rfl rfl rfl z47o ?_|refine WL.e1 rfl ?_|refine WL.ar rfl rfl z47i ?_|refine W.condF rfl ?_)
 refine (?_:WL _ _ _ _ _ _)
 refine WL.cvt rfl rfl rfl (wrapU_of z47o z47o) ?_
 refine WL.shr rfl rfl hmid ?_
 refine WL.cvt rfl rfl rfl (wrapI_of z47o z47o) ?_
 repeat (first|refine W.gob rfl ?_|refine WL.nil ?_|refine WL.e1 rfl ?_|refine WL.ar rfl rfl z47i ?_)
 refine (?_:W _ _ _ _ _)
 refine W.meet ⟨[(0,.sl 0),(1,.sc (.int .i64 a)),(2,.sc (.int .i64 m)),(3,.sc (.int .i64 b)),(4,.sc (.func (.func f) #[] #[])),(18,.sc (.int .i64 mid)),(19,.sc (.int .i64 (mid+m))),(20,.sc (.int .i64 lo)),(21,.sc (.int .i64 hi))],[(0,.row 83 2 D)],1⟩ ?_ ?_
 ·clear hrs hrt hend ih
  (refine W.cond rfl (fun hif=>?_) (fun hif=>?_)<;>(try simp only [decide_eq_true_eq,decide_eq_false_iff_not,Int.not_lt,Int.not_le,Bool.not_eq_true',Bool.not_eq_false'] at hif))
  ·obtain ⟨rfl,rfl⟩:lo=mid+m - b∧hi=mid:=by omega
   repeat (first|refine W.gob rfl ?_|refine WL.nil ?_|refine WL.e1 rfl ?_|refine WL.ar rfl rfl z47i ?_)
   refine (?_:Tr _ _ _)
   exact (zqt id)
  ·obtain ⟨rfl,rfl⟩:lo=a∧hi=m:=by omega
   repeat (first|refine W.gob rfl ?_|refine WL.nil ?_|refine WL.e1 rfl ?_)
   refine (?_:Tr _ _ _)
   exact (zqt id)
 have hb2:a≤lo∧lo≤hi∧hi≤m∧hi≤mid∧mid+m - b≤lo:=by omega
 repeat (first|refine W.gob rfl ?_|refine WL.nil ?_|refine WL.e1 rfl ?_|refine WL.ar rfl rfl z47i ?_)
 refine (?_:W _ _ _ _ _)
 refine W.loop (fun s':Int×Int=>lo≤s'.1∧s'.1≤s'.2∧s'.2≤hi∧(s'.1=lo∨∀ i (h1:i < S.length) j (h2:j < T.length),s'.1=a+i+1→mid=s'.1+j→¬ cm T[j] S[i] < 0)∧(s'.2=hi∨∀ i (h1:i < S.length) j (h2:j < T.length),s'.2=a+i→mid=s'.2+j+1→cm T[j] S[i] < 0))
  (fun s'=>⟨[(0,.sl 0),(1,.sc (.int .i64 a)),(2,.sc (.int .i64 m)),(3,.sc (.int .i64 b)),(4,.sc (.func (.func f) #[] #[])),(18,.sc (.int .i64 mid)),(19,.sc (.int .i64 (mid+m))),(20,.sc (.int .i64 s'.1)),(21,.sc (.int .i64 s'.2)),(22,.sc (.int .i64 (mid+m - 1)))],[(0,.row 83 2 D)],1⟩) (fun s'=>(s'.2 - s'.1).toNat) (lo,hi) ⟨by show lo≤lo;omega,by show lo≤hi;omega,by show hi≤hi;omega,.inl rfl,.inl rfl⟩ (zqt id) fun s' hs'=>?_
 obtain ⟨i,j⟩:=s'
 obtain ⟨hi0,hij,hjb,hlo,hhi⟩:=hs'
 dsimp only at hi0 hij hjb hlo hhi ⊢
 by_cases hlt:i < j
 ·obtain ⟨c,hc,c1,c2,_,_⟩:=half_of (i:=i) (j:=j) z47o hlt
  obtain ⟨q,hq⟩:∃ q:Nat,c=a+q:=⟨(c - a).toNat,by omega⟩
  obtain ⟨p,hp⟩:∃ p:Nat,mid - 1 - c=p:=⟨(mid - 1 - c).toNat,by omega⟩
  have hqS:q < S.length:=by omega
  have hpT:p < T.length:=by omega
  have hrc:=hrs c q hqS hq
  have hrp:=hrt (mid+m - 1 - c) p hpT z47o
  have hCc:=hC T[p] S[q]
  by_cases hcc:cm T[p] S[q] < 0
  ·clear hhi hend hrs hrt ih hlh
   repeat (first|refine W.gob rfl ?_|refine WL.nil ?_|refine WL.bt rfl rfl rfl z47o ?_|refine WL.e1 rfl ?_|refine WL.ar rfl rfl z47i ?_|refine W.condT rfl ?_)
   refine (?_:WL _ _ _ _ _ _)
   refine WL.cvt rfl rfl rfl (wrapU_of z47o z47o) ?_
   refine WL.shr rfl rfl hc ?_
   refine WL.cvt rfl rfl rfl (wrapI_of z47o z47o) ?_
   repeat (first|refine W.gob rfl ?_|refine WL.nil ?_|refine WL.e1 rfl ?_)
   refine (?_:W _ _ _ _ _)
   refine W.drawK z47k z47k ?_
   repeat (first|refine DK.st rfl ?_|refine DK.ar rfl rfl z47i ?_|refine DK.ixs rfl rfl z47s ?_)
   refine DK.lda rfl rfl hrp rfl ?_
   repeat (first|refine DK.st rfl ?_|refine DK.ixs rfl rfl z47s ?_)
   refine DK.lda rfl rfl hrc rfl ?_
   refine DK.vl rfl (WV.callV (truH _) rfl hcf rfl rfl rfl rfl rfl hCc.g) ?_
   repeat (first|refine DK.bt rfl rfl (by omega) ?_|refine DK.ff rfl (by first|(simp;done)|fail) ?_|refine DK.nil ?_)
   repeat (first|refine W.gob rfl ?_|refine WL.nil ?_|refine WL.e1 rfl ?_|refine W.condF rfl ?_)
   refine ⟨(i,c),⟨hi0,by show i≤c;omega,by show c≤hi;omega,hlo,.inr fun i' hi' j' hj' h1 h2=>?_⟩,by show (c - i).toNat < (j - i).toNat;omega,?_⟩
   ·have e1:i'=q:=by dsimp only at h1;omega
    have e2:j'=p:=by dsimp only at h2;omega
    subst e1 e2;exact hcc
   ·exact (zqt id)
  ·clear hlo hend hrs hrt ih hlh
   repeat (first|refine W.gob rfl ?_|refine WL.nil ?_|refine WL.bt rfl rfl rfl z47o ?_|refine WL.e1 rfl ?_|refine WL.ar rfl rfl z47i ?_|refine W.condT rfl ?_)
   refine (?_:WL _ _ _ _ _ _)
   refine WL.cvt rfl rfl rfl (wrapU_of z47o z47o) ?_
   refine WL.shr rfl rfl hc ?_
   refine WL.cvt rfl rfl rfl (wrapI_of z47o z47o) ?_
   repeat (first|refine W.gob rfl ?_|refine WL.nil ?_|refine WL.e1 rfl ?_)
   refine (?_:W _ _ _ _ _)
   refine W.drawK z47k z47k ?_
   repeat (first|refine DK.st rfl ?_|refine DK.ar rfl rfl z47i ?_|refine DK.ixs rfl rfl z47s ?_)
   refine DK.lda rfl rfl hrp rfl ?_
   repeat (first|refine DK.st rfl ?_|refine DK.ixs rfl rfl z47s ?_)
   refine DK.lda rfl rfl hrc rfl ?_
   refine DK.vl rfl (WV.callV (truH _) rfl hcf rfl rfl rfl rfl rfl hCc.g) ?_
   repeat (first|refine DK.bf rfl rfl (by omega) ?_|refine DK.tt rfl (by first|(simp;done)|fail) ?_|refine DK.nil ?_)
   repeat (first|refine W.gob rfl ?_|refine WL.nil ?_|refine WL.e1 rfl ?_|refine WL.ar rfl rfl z47i ?_|refine W.condT rfl ?_)
   refine ⟨(c+1,j),⟨by show lo≤c+1;omega,by show c+1≤j;omega,hjb,.inr fun i' hi' j' hj' h1 h2=>?_,hhi⟩,by show (j - (c+1)).toNat < (j - i).toNat;omega,?_⟩
   ·have e1:i'=q:=by dsimp only at h1;omega
    have e2:j'=p:=by dsimp only at h2;omega
    subst e1 e2;exact hcc
   ·exact (zqt id)
 obtain rfl:i=j:=by omega
 obtain ⟨s,hs⟩:∃ s:Nat,i=a+s:=⟨(i - a).toNat,by omega⟩
 obtain ⟨e,he⟩:∃ e:Nat,mid - i=e:=⟨(mid - i).toNat,by omega⟩
 have hsS:s≤S.length:=by omega
 have heT:e≤T.length:=by omega
 have hres:=hend s e hsS heT (fun h0 q=>by
   rcases hlo with h|h
   ·omega
   ·exact h (s - 1) z47o e q z47o z47o) (fun q h0=>by
   rcases hhi with h|h
   ·omega
   ·exact h s q (e - 1) z47o z47o z47o)
 have hS1':(S.take s).length=s:=by rw [List.length_take];omega
 have hS2':(S.drop s).length=S.length - s:=List.length_drop
 have hT1':(T.take e).length=e:=by rw [List.length_take];omega
 have hT2':(T.drop e).length=T.length - e:=List.length_drop
 have hdd:Dis en (S.take s++T.take e)∧Dis en (S.drop s++T.drop e):=by
  obtain ⟨d1,d2,d3⟩:=List.pairwise_append.1 hd
  exact ⟨List.pairwise_append.2 ⟨d1.sublist (List.take_sublist _ _),d2.sublist (List.take_sublist _ _),fun x hx y hy=>d3 x (List.mem_of_mem_take hx) y (List.mem_of_mem_take hy)⟩,
   List.pairwise_append.2 ⟨d1.sublist (List.drop_sublist _ _),d2.sublist (List.drop_sublist _ _),fun x hx y hy=>d3 x (List.mem_of_mem_drop hx) y (List.mem_of_mem_drop hy)⟩⟩
 have q1:Srd cm en (S.take s):=hS.sublist (List.take_sublist _ _)
 have q2:Srd cm en (S.drop s):=hS.sublist (List.drop_sublist _ _)
 have q3:Srd cm en (T.take e):=hT.sublist (List.take_sublist _ _)
 have q4:Srd cm en (T.drop e):=hT.sublist (List.drop_sublist _ _)
 have hl1:(¬ (a < i∧i < mid))→srt cm en (S.take s++T.take e)=S.take s++T.take e:=fun h=>by
  refine srt_own hcm hdd.1 ?_
  by_cases h1:s=0
  ·subst h1;rw [List.take_zero,List.nil_append];exact q3
  ·have:e=0:=by omega
   subst this;rw [List.take_zero,List.append_nil];exact q1
 have hl2:(¬ (mid < mid+m - i∧mid+m - i < b))→srt cm en (S.drop s++T.drop e)=S.drop s++T.drop e:=fun h=>by
  refine srt_own hcm hdd.2 ?_
  by_cases h1:s=S.length
  ·subst h1;rw [List.drop_length,List.nil_append];exact q4
  ·have:e=T.length:=by omega
   subst this;rw [List.drop_length,List.append_nil];exact q2
 have hr1:a < i∧i < mid→∀ Y:List Rw,Y.length=S.length - s+(T.length - e)+Z.length→_:=fun h Y hY=>ih A (S.take s) (T.take e) Y a i mid z47o ha z47o z47o z47o z47o z47o q1 q3 (fun x hx y hy=>hST x (List.mem_of_mem_take hx) y (List.mem_of_mem_take hy)) hdd.1
 have hr2:mid < mid+m - i∧mid+m - i < b→∀ Y:List Rw,Y.length=A.length+s+e→_:=fun h Y hY=>ih Y (S.drop s) (T.drop e) Z mid (mid+m - i) b z47o z47o z47o z47o z47o z47o z47o q2 q4 (fun x hx y hy=>hST x (List.mem_of_mem_drop hx) y (List.mem_of_mem_drop hy)) hdd.2
 have hro:=rotate_G (f:=f) (A++S.take s) (S.drop s) (T.take e) (T.drop e++Z) i m (mid+m - i) (by rw [List.length_append];omega) (by rw [List.length_append];omega) (by rw [List.length_append];omega)
 have hD1:D=((A++S.take s)++S.drop s++T.take e++(T.drop e++Z)).map eRw:=by
  rw [← hD]
  have e1:=List.take_append_drop s S
  have e2:=List.take_append_drop e T
  have:A++S++T++Z=(A++S.take s)++S.drop s++T.take e++(T.drop e++Z):=by
   simp only [List.append_assoc]
   rw [← List.append_assoc (S.take s),e1,← List.append_assoc (T.take e),e2]
  rw [this]
 have hD2:¬ (i < m∧m < mid+m - i)→D=((A++S.take s)++T.take e++S.drop s++(T.drop e++Z)).map eRw:=fun h=>by
  rw [hD1]
  by_cases h1:s=S.length
  ·subst h1;rw [List.drop_length];simp
  ·have:e=0:=by omega
   subst this;rw [List.take_zero];simp
 obtain ⟨S1,hS1e⟩:∃ z,S.take s=z:=⟨_,rfl⟩
 obtain ⟨S2,hS2e⟩:∃ z,S.drop s=z:=⟨_,rfl⟩
 obtain ⟨T1,hT1e⟩:∃ z,T.take e=z:=⟨_,rfl⟩
 obtain ⟨T2,hT2e⟩:∃ z,T.drop e=z:=⟨_,rfl⟩
 rw [hS1e,hT1e] at hl1 hr1
 rw [hS2e,hT2e] at hl2 hr2
 rw [hS1e,hS2e,hT1e,hT2e] at hres hro hD1 hD2
 rw [hS1e] at hS1'
 rw [hS2e] at hS2'
 rw [hT1e] at hT1'
 rw [hT2e] at hT2'
 obtain ⟨R1,hR1⟩:∃ z,srt cm en (S1++T1)=z:=⟨_,rfl⟩
 obtain ⟨R2,hR2⟩:∃ z,srt cm en (S2++T2)=z:=⟨_,rfl⟩
 rw [hR1] at hl1 hr1 hres
 rw [hR2] at hl2 hr2 hres
 have hR1l:R1.length=s+e:=by rw [← hR1,srt_len,List.length_append];omega
 have f1:((A++S1)++T1++S2++(T2++Z)).map eRw=(A++S1++T1++(S2++T2++Z)).map eRw:=by simp
 have f2:¬ (a < i∧i < mid)→(A++S1++T1++(S2++T2++Z)).map eRw=(A++R1++(S2++T2++Z)).map eRw:=fun h=>by rw [hl1 h];simp
 have f3:(A++R1++(S2++T2++Z)).map eRw=((A++R1)++S2++T2++Z).map eRw:=by simp
 have f4:¬ (mid < mid+m - i∧mid+m - i < b)→((A++R1)++S2++T2++Z).map eRw=((A++R1)++R2++Z).map eRw:=fun h=>by rw [hl2 h];simp
 have f5:(A++R++Z).map eRw=((A++R1)++R2++Z).map eRw:=by rw [← hres];simp
 rw [f5]
 clear hlo hhi hend hrs hrt ih hlh hS1e hS2e hT1e hT2e hR1 hR2 hl1 hl2 hres hD hdd q1 q2 q3 q4 hS hT hST hd hR hDl
 by_cases h1:i < m∧m < mid+m - i
 ·have hc1:=hro (by omega) (by omega) (by rw [List.length_append,List.length_append];omega)
  rw [hD1]
  repeat (first|refine W.gob rfl ?_|refine WL.nil ?_|refine WL.bt rfl rfl rfl z47o ?_|refine WL.bf rfl rfl rfl z47o ?_|refine WL.e1 rfl ?_|refine WL.gyes rfl rfl rfl rfl ?_|refine WL.ar rfl rfl z47i ?_|refine W.condT rfl ?_|refine W.condF rfl ?_)
  refine (?_:WL _ _ _ _ _ _)
  refine WL.cto (truH _) [0] rfl rfl (callF Tryz.func245 rfl rfl) hc1 rfl rfl rfl ⟨⟨rfl,rfl,rfl⟩,trivial⟩ rfl rfl rfl rfl ?_
  rw [f1]
  by_cases h2:a < i∧i < mid
  ·have hc2:=hr1 h2 (S2++T2++Z) (by rw [List.length_append,List.length_append];omega)
   repeat (first|refine W.gob rfl ?_|refine WL.nil ?_|refine WL.bt rfl rfl rfl z47o ?_|refine WL.e1 rfl ?_|refine WL.gyes rfl rfl rfl rfl ?_|refine W.condT rfl ?_)
   refine (?_:WL _ _ _ _ _ _)
   refine WL.cto (truH _) [0] rfl rfl (callF Tryz.func228 rfl rfl) hc2 rfl rfl rfl ⟨⟨rfl,rfl,rfl⟩,trivial⟩ rfl rfl rfl rfl ?_
   rw [f3]
   by_cases h3:mid < mid+m - i∧mid+m - i < b
   ·have hc3:=hr2 h3 (A++R1) (by rw [List.length_append];omega)
    clear hr1 hr2 f2 f4 hD2 hro
    repeat (first|refine W.gob rfl ?_|refine WL.nil ?_|refine WL.bt rfl rfl rfl z47o ?_|refine WL.e1 rfl ?_|refine WL.gyes rfl rfl rfl rfl ?_|refine W.condT rfl ?_)
    refine (?_:WL _ _ _ _ _ _)
    refine WL.cto (truH _) [0] rfl rfl (callF Tryz.func228 rfl rfl) hc3 rfl rfl rfl ⟨⟨rfl,rfl,rfl⟩,trivial⟩ rfl rfl rfl rfl ?_
    repeat refine WL.nil ?_
    refine finTr (σ':=⟨[],[(0,.row 83 2 (((A++R1)++R2++Z).map eRw))],1⟩) (zqt id) ?_
    exact finMu rfl rfl rfl rfl rfl
   ·rw [f4 h3]
    clear hr1 hr2 f2 f4 hD2 hro
    repeat (first|refine W.gob rfl ?_|refine WL.nil ?_|refine WL.bt rfl rfl rfl z47o ?_|refine WL.bf rfl rfl rfl z47o ?_|refine WL.e1 rfl ?_|refine WL.gyes rfl rfl rfl rfl ?_|refine W.condF rfl ?_)
    refine finTr (σ':=⟨[],[(0,.row 83 2 (((A++R1)++R2++Z).map eRw))],1⟩) (zqt id) ?_
    exact finMu rfl rfl rfl rfl rfl
  ·rw [f2 h2]
   rw [f3]
   by_cases h3:mid < mid+m - i∧mid+m - i < b
   ·have hc3:=hr2 h3 (A++R1) (by rw [List.length_append];omega)
    clear hr1 hr2 f2 f4 hD2 hro
    repeat (first|refine W.gob rfl ?_|refine WL.nil ?_|refine WL.bt rfl rfl rfl z47o ?_|refine WL.bf rfl rfl rfl z47o ?_|refine WL.e1 rfl ?_|refine WL.gyes rfl rfl rfl rfl ?_|refine WL.opno rfl rfl rfl rfl rfl rfl rfl ?_|refine W.condT rfl ?_|refine W.condF rfl ?_)
    refine (?_:WL _ _ _ _ _ _)
    refine WL.cto (truH _) [0] rfl rfl (callF Tryz.func228 rfl rfl) hc3 rfl rfl rfl ⟨⟨rfl,rfl,rfl⟩,trivial⟩ rfl rfl rfl rfl ?_
    repeat refine WL.nil ?_
    refine finTr (σ':=⟨[],[(0,.row 83 2 (((A++R1)++R2++Z).map eRw))],1⟩) (zqt id) ?_
    exact finMu rfl rfl rfl rfl rfl
   ·rw [f4 h3]
    clear hr1 hr2 f2 f4 hD2 hro
    repeat (first|refine W.gob rfl ?_|refine WL.nil ?_|refine WL.bt rfl rfl rfl z47o ?_|refine WL.bf rfl rfl rfl z47o ?_|refine WL.e1 rfl ?_|refine WL.gyes rfl rfl rfl rfl ?_|refine WL.opno rfl rfl rfl rfl rfl rfl rfl ?_|refine W.condF rfl ?_)
    refine finTr (σ':=⟨[],[(0,.row 83 2 (((A++R1)++R2++Z).map eRw))],1⟩) (zqt id) ?_
    exact finMu rfl rfl rfl rfl rfl
 ·rw [hD2 h1]
  rw [f1]
  by_cases h2:a < i∧i < mid
  ·have hc2:=hr1 h2 (S2++T2++Z) (by rw [List.length_append,List.length_append];omega)
   repeat (first|refine W.gob rfl ?_|refine WL.nil ?_|refine WL.bt rfl rfl rfl z47o ?_|refine WL.bf rfl rfl rfl z47o ?_|refine WL.e1 rfl ?_|refine WL.gyes rfl rfl rfl rfl ?_|refine WL.opno rfl rfl rfl rfl rfl rfl rfl ?_|refine WL.ar rfl rfl z47i ?_|refine W.condT rfl ?_|refine W.condF rfl ?_)
   refine (?_:WL _ _ _ _ _ _)
   refine WL.cto (truH _) [0] rfl rfl (callF Tryz.func228 rfl rfl) hc2 rfl rfl rfl ⟨⟨rfl,rfl,rfl⟩,trivial⟩ rfl rfl rfl rfl ?_
   rw [f3]
   by_cases h3:mid < mid+m - i∧mid+m - i < b
   ·have hc3:=hr2 h3 (A++R1) (by rw [List.length_append];omega)
    clear hr1 hr2 f2 f4 hD2 hro
    repeat (first|refine W.gob rfl ?_|refine WL.nil ?_|refine WL.bt rfl rfl rfl z47o ?_|refine WL.e1 rfl ?_|refine WL.gyes rfl rfl rfl rfl ?_|refine W.condT rfl ?_)
    refine (?_:WL _ _ _ _ _ _)
    refine WL.cto (truH _) [0] rfl rfl (callF Tryz.func228 rfl rfl) hc3 rfl rfl rfl ⟨⟨rfl,rfl,rfl⟩,trivial⟩ rfl rfl rfl rfl ?_
    repeat refine WL.nil ?_
    refine finTr (σ':=⟨[],[(0,.row 83 2 (((A++R1)++R2++Z).map eRw))],1⟩) (zqt id) ?_
    exact finMu rfl rfl rfl rfl rfl
   ·rw [f4 h3]
    clear hr1 hr2 f2 f4 hD2 hro
    repeat (first|refine W.gob rfl ?_|refine WL.nil ?_|refine WL.bf rfl rfl rfl z47o ?_|refine WL.e1 rfl ?_|refine WL.opno rfl rfl rfl rfl rfl rfl rfl ?_|refine W.condF rfl ?_)
    refine finTr (σ':=⟨[],[(0,.row 83 2 (((A++R1)++R2++Z).map eRw))],1⟩) (zqt id) ?_
    exact finMu rfl rfl rfl rfl rfl
  ·rw [f2 h2]
   rw [f3]
   by_cases h3:mid < mid+m - i∧mid+m - i < b
   ·have hc3:=hr2 h3 (A++R1) (by rw [List.length_append];omega)
    clear hr1 hr2 f2 f4 hD2 hro
    repeat (first|refine W.gob rfl ?_|refine WL.nil ?_|refine WL.bt rfl rfl rfl z47o ?_|refine WL.bf rfl rfl rfl z47o ?_|refine WL.e1 rfl ?_|refine WL.gyes rfl rfl rfl rfl ?_|refine WL.ar rfl rfl z47i ?_|refine W.condT rfl ?_|refine W.condF rfl ?_)
    refine (?_:WL _ _ _ _ _ _)
    refine WL.cto (truH _) [0] rfl rfl (callF Tryz.func228 rfl rfl) hc3 rfl rfl rfl ⟨⟨rfl,rfl,rfl⟩,trivial⟩ rfl rfl rfl rfl ?_
    repeat refine WL.nil ?_
    refine finTr (σ':=⟨[],[(0,.row 83 2 (((A++R1)++R2++Z).map eRw))],1⟩) (zqt id) ?_
    exact finMu rfl rfl rfl rfl rfl
   ·rw [f4 h3]
    clear hr1 hr2 f2 f4 hD2 hro
    repeat (first|refine W.gob rfl ?_|refine WL.nil ?_|refine WL.bt rfl rfl rfl z47o ?_|refine WL.bf rfl rfl rfl z47o ?_|refine WL.e1 rfl ?_|refine WL.gyes rfl rfl rfl rfl ?_|refine WL.opno rfl rfl rfl rfl rfl rfl rfl ?_|refine WL.ar rfl rfl z47i ?_|refine W.condF rfl ?_)
    refine finTr (σ':=⟨[],[(0,.row 83 2 (((A++R1)++R2++Z).map eRw))],1⟩) (zqt id) ?_
    exact finMu rfl rfl rfl rfl rfl
end
section
open Go.RowKit
def chk (cm:Rw→Rw→Int)(en:Rw→Int)(k:Nat):Nat→List Rw→List Rw
 | 0,l=>l
 | f+1,l=>if l.length<k then srt cm en l else srt cm en (l.take k)++chk cm en k f (l.drop k)
theorem chk_fuel {cm:Rw→Rw→Int} {en:Rw→Int} {k:Nat} (hk:0<k):∀ {f g:Nat} {l:List Rw},l.length<f→l.length<g→chk cm en k f l=chk cm en k g l
 | 0,g,l,h,_=>by omega
 | f+1,0,l,_,h=>by omega
 | f+1,g+1,l,hf,hg=>by
  show (if l.length<k then _ else _)=(if l.length<k then _ else _)
  by_cases h:l.length<k
  ·rw [if_pos h,if_pos h]
  ·rw [if_neg h,if_neg h,chk_fuel hk (f:=f) (g:=g) (l:=l.drop k) (by rw [List.length_drop];omega) (by rw [List.length_drop];omega)]
def CK (cm:Rw→Rw→Int)(en:Rw→Int)(k:Nat)(l:List Rw):List Rw:=chk cm en k (l.length+1) l
theorem CK_lt {cm:Rw→Rw→Int} {en:Rw→Int} {k:Nat} {l:List Rw} (h:l.length<k):CK cm en k l=srt cm en l:=if_pos h
theorem CK_ge {cm:Rw→Rw→Int} {en:Rw→Int} {k:Nat} {l:List Rw} (hk:0<k) (h:¬ l.length<k):CK cm en k l=srt cm en (l.take k)++CK cm en k (l.drop k):=by
 show (if l.length<k then _ else _)=_
 rw [if_neg h]
 unfold CK
 rw [chk_fuel hk (f:=l.length) (g:=(l.drop k).length+1) (l:=l.drop k) (by rw [List.length_drop];omega) (by omega)]
theorem srt_nil {cm:Rw→Rw→Int} {en:Rw→Int}:srt cm en []=[]:=List.length_eq_zero_iff.1 (srt_len (cm:=cm) (en:=en) [])
theorem CK_le {cm:Rw→Rw→Int} {en:Rw→Int} {k:Nat} {l:List Rw} (hk:0<k) (h:l.length≤k):CK cm en k l=srt cm en l:=by
 by_cases h1:l.length<k
 ·exact CK_lt h1
 ·have e:l.length=k:=by omega
  rw [CK_ge hk h1,CK_lt (k:=k) (l:=l.drop k) (by rw [List.length_drop];omega),← e,List.take_length,List.drop_length,srt_nil,List.append_nil]
theorem CK_len {cm:Rw→Rw→Int} {en:Rw→Int} {k:Nat} (hk:0<k):∀ (n:Nat) {l:List Rw},l.length≤n→(CK cm en k l).length=l.length
 | 0,l,h=>by rw [CK_lt (by omega),srt_len]
 | n+1,l,h=>by
  by_cases h1:l.length<k
  ·rw [CK_lt h1,srt_len]
  ·rw [CK_ge hk h1,List.length_append,srt_len,CK_len hk n (by rw [List.length_drop];omega),List.length_take,List.length_drop];omega
abbrev Asc (en:Rw→Int)(l:List Rw):Prop:=l.Pairwise (fun x y=>en x<en y)
theorem Asc.dis {en:Rw→Int} {l:List Rw} (h:Asc en l):Dis en l:=h.imp fun h=>Int.ne_of_lt h
theorem srt_srt {cm:Rw→Rw→Int} {en:Rw→Int} (hcm:CmOk cm) {S T:List Rw} (h:Asc en (S++T)):srt cm en (srt cm en S++srt cm en T)=srt cm en (S++T) :=
 srt_uniq hcm h.dis ((srt_perm _).trans ((srt_perm S).append (srt_perm T))) (srt_pw hcm _)
theorem asc_mem {en:Rw→Int} {S T:List Rw} (h:Asc en (S++T)):∀ x∈S,∀ y∈T,en x<en y:=(List.pairwise_append.1 h).2.2
theorem stable_G {f:FuncId} {cm:Rw→Rw→Int} {en:Rw→Int} (hcm:CmOk cm) (hcf:∀ vs w,(callFunc f vs).run Tryz.prog w=.ok (.enter f vs) w) (hC:∀ a b,Ctr Tryz.prog f [.ag (eRw a),.ag (eRw b)] (.sc (.int .i64 (cm a b)))) (l:List Rw) (hn:l.length≤100) (hl:Asc en l) :
  Cto truB 0 Tryz.prog 206 [.sl 0,.sc (.int .i64 l.length),.sc (.func (.func f) #[] #[])] [(0,.row 83 2 (l.map eRw))] 1 (.tu []) [(0,.row 83 2 ((srt cm en l).map eRw))] 1:=by
 refine Cto.intro truS Tryz.func206 rfl Tryz.ntmps206 (Nat.le_of_ble_eq_true rfl) rfl fun w0 F0 fp pg hB=>?_
 dsimp only [number,Nat.reduceAdd]
 repeat (first|refine W.gob rfl ?_|refine WL.nil ?_|refine WL.e1 rfl ?_)
 refine (?_:W _ _ _ _ _)
 refine W.loop (fun s:(List Rw×List Rw)×Int×Int=>s.1.1++CK cm en 20 s.1.2=CK cm en 20 l∧s.2.1=s.1.1.length∧s.2.2=s.2.1+20∧s.1.1.length+s.1.2.length=l.length∧Asc en s.1.2) (fun s=>⟨[(0,.sl 0),(1,.sc (.int .i64 l.length)),(2,.sc (.func (.func f) #[] #[])),(6,.sc (.int .i64 20)),(7,.sc (.int .i64 s.2.1)),(8,.sc (.int .i64 s.2.2))],[(0,.row 83 2 ((s.1.1++s.1.2).map eRw))],1⟩) (fun s=>s.1.2.length) (([],l),0,20) ⟨rfl,rfl,rfl,by simp,hl⟩ (zqt id) fun s hs=>?_
 obtain ⟨⟨P,R⟩,a,b⟩:=s
 obtain ⟨hP,ha,hb,hPR,hR⟩:=hs
 dsimp only at hP ha hb hPR hR ⊢
 by_cases hle:20≤R.length
 ·have e1:=CK_ge (cm:=cm) (en:=en) (k:=20) (l:=R) z47o z47o
  have ht:(R.take 20).length=20:=by rw [List.length_take];omega
  have hd:(R.drop 20).length=R.length - 20:=List.length_drop
  have hR1:Asc en (R.take 20):=hR.sublist (List.take_sublist _ _)
  have hR2:Asc en (R.drop 20):=hR.sublist (List.drop_sublist _ _)
  have hi:=insSort_G hcm hcf hC P (R.take 20) (R.drop 20) a b ha z47o z47o hR1
  have e2:(P++R).map eRw=(P++R.take 20++R.drop 20).map eRw:=by rw [List.append_assoc,List.take_append_drop]
  have hsl:=srt_len (cm:=cm) (en:=en) (R.take 20)
  obtain ⟨S,hS⟩:∃ z,srt cm en (R.take 20)=z:=⟨_,rfl⟩
  rw [hS] at e1 hi hsl
  rw [e1] at hP
  rw [e2]
  repeat (first|refine W.gob rfl ?_|refine WL.nil ?_|refine WL.bt rfl rfl rfl z47o ?_|refine WL.e1 rfl ?_|refine W.condT rfl ?_)
  refine (?_:WL _ _ _ _ _ _)
  refine WL.cto (truH _) [0] rfl rfl (callF Tryz.func227 rfl rfl) hi rfl rfl rfl ⟨⟨rfl,rfl,rfl⟩,trivial⟩ rfl rfl rfl rfl ?_
  repeat (first|refine W.gob rfl ?_|refine WL.nil ?_|refine WL.e1 rfl ?_|refine WL.ar rfl rfl z47i ?_)
  refine ⟨((P++S,R.drop 20),b,b+20),⟨by show (P++S)++CK cm en 20 (R.drop 20)=_;rw [List.append_assoc];exact hP,by show b=((P++S).length:Int);rw [List.length_append];omega,rfl,by show (P++S).length+(R.drop 20).length=_;rw [List.length_append];omega,hR2⟩,by show (R.drop 20).length < R.length;omega,?_⟩
  exact (zqt id)
 have hi:=insSort_G hcm hcf hC P R [] a l.length ha (by omega) (by simp;omega) hR
 have e1:=CK_lt (cm:=cm) (en:=en) (k:=20) (l:=R) z47o
 rw [← e1,List.append_nil,List.append_nil,hP] at hi
 clear hP e1
 repeat (first|refine W.gob rfl ?_|refine WL.nil ?_|refine WL.bf rfl rfl rfl z47o ?_|refine WL.e1 rfl ?_|refine W.condF rfl ?_)
 refine (?_:WL _ _ _ _ _ _)
 refine WL.cto (truH _) [0] rfl rfl (callF Tryz.func227 rfl rfl) hi rfl rfl rfl ⟨⟨rfl,rfl,rfl⟩,trivial⟩ rfl rfl rfl rfl ?_
 repeat (first|refine W.gob rfl ?_|refine WL.nil ?_)
 refine (?_:W _ _ _ _ _)
 refine W.loop (fun s:Nat×Int=>20≤s.1∧s.1≤200∧s.2=s.1) (fun s=>⟨[(0,.sl 0),(1,.sc (.int .i64 l.length)),(2,.sc (.func (.func f) #[] #[])),(6,.sc (.int .i64 s.2))],[(0,.row 83 2 ((CK cm en s.1 l).map eRw))],1⟩) (fun s=>l.length - s.1) (20,20) ⟨by show 20≤20;omega,by show 20≤200;omega,rfl⟩ (zqt id) fun s hs=>?_
 obtain ⟨s,z⟩:=s
 obtain ⟨hs1,hs2,hz⟩:=hs
 dsimp only at hs1 hs2 hz ⊢
 clear hi ha hb hPR hR hle
 by_cases hlt:s < l.length
 rotate_left
 ·rw [CK_le (cm:=cm) (en:=en) (k:=s) (l:=l) (by omega) (by omega)]
  repeat (first|refine W.gob rfl ?_|refine WL.nil ?_|refine WL.bf rfl rfl rfl z47o ?_|refine WL.e1 rfl ?_|refine W.condF rfl ?_)
  refine finTr (σ':=⟨[],[(0,.row 83 2 ((srt cm en l).map eRw))],1⟩) (zqt id) ?_
  exact finMu rfl rfl rfl rfl rfl
 repeat (first|refine W.gob rfl ?_|refine WL.nil ?_|refine WL.bt rfl rfl rfl z47o ?_|refine WL.e1 rfl ?_|refine WL.ar rfl rfl z47i ?_|refine W.condT rfl ?_)
 refine (?_:W _ _ _ _ _)
 refine W.loop (fun q:(List Rw×List Rw)×Int×Int=>q.1.1++CK cm en (2*s) q.1.2=CK cm en (2*s) l∧q.2.1=q.1.1.length∧q.2.2=q.2.1+2*z∧q.1.1.length+q.1.2.length=l.length∧Asc en q.1.2) (fun q=>⟨[(0,.sl 0),(1,.sc (.int .i64 l.length)),(2,.sc (.func (.func f) #[] #[])),(6,.sc (.int .i64 z)),(7,.sc (.int .i64 q.2.1)),(8,.sc (.int .i64 q.2.2))],[(0,.row 83 2 ((q.1.1++CK cm en s q.1.2).map eRw))],1⟩) (fun q=>q.1.2.length) (([],l),0,2*z) ⟨rfl,rfl,by show 2*z=0+2*z;omega,by simp,hl⟩ (zqt id) fun q hq=>?_
 obtain ⟨⟨P,R⟩,a,b⟩:=q
 obtain ⟨hP,ha,hb,hPR,hR⟩:=hq
 dsimp only at hP ha hb hPR hR ⊢
 by_cases hle:2*s≤R.length
 ·have e0:=CK_ge (cm:=cm) (en:=en) (k:=2*s) (l:=R) z47o z47o
  have e1:=CK_ge (cm:=cm) (en:=en) (k:=s) (l:=R) z47o z47o
  have e2:=CK_ge (cm:=cm) (en:=en) (k:=s) (l:=R.drop s) (by omega) (by rw [List.length_drop];omega)
  have hdd:(R.drop s).drop s=R.drop (2*s):=by rw [List.drop_drop];congr 1;omega
  have htt:R.take s++(R.drop s).take s=R.take (2*s):=by
   rw [show 2*s=s+s by omega,List.take_add]
  rw [hdd] at e2
  have lt1:(R.take s).length=s:=by rw [List.length_take];omega
  have lt2:((R.drop s).take s).length=s:=by rw [List.length_take,List.length_drop];omega
  have ld:(R.drop (2*s)).length=R.length - 2*s:=List.length_drop
  have hA1:Asc en (R.take s++(R.drop s).take s):=by rw [htt];exact hR.sublist (List.take_sublist _ _)
  have hR2:Asc en (R.drop (2*s)):=hR.sublist (List.drop_sublist _ _)
  have lS:=srt_len (cm:=cm) (en:=en) (R.take s)
  have lT:=srt_len (cm:=cm) (en:=en) ((R.drop s).take s)
  have lU:=srt_len (cm:=cm) (en:=en) (R.take (2*s))
  have lK:=CK_len (cm:=cm) (en:=en) (k:=s) z47o _ (Nat.le_refl (R.drop (2*s)).length)
  have hm:=symM_G hcm hcf hC (2*s) P (srt cm en (R.take s)) (srt cm en ((R.drop s).take s)) (CK cm en s (R.drop (2*s))) a (a+z) b z47o ha z47o z47o z47o z47o z47o (srt_pw hcm _) (srt_pw hcm _) (fun x hx y hy=>asc_mem hA1 x ((srt_perm _).mem_iff.1 hx) y ((srt_perm _).mem_iff.1 hy)) (hA1.dis.perm ((srt_perm _).append (srt_perm _)))
  rw [srt_srt hcm hA1,htt] at hm
  rw [e2] at e1
  have e3:(P++CK cm en s R).map eRw=(P++srt cm en (R.take s)++srt cm en ((R.drop s).take s)++CK cm en s (R.drop (2*s))).map eRw:=by rw [e1];simp
  rw [e0] at hP
  rw [e3]
  have lt3:(R.take (2*s)).length=2*s:=by rw [List.length_take];omega
  obtain ⟨S,hS⟩:∃ z,srt cm en (R.take (2*s))=z:=⟨_,rfl⟩
  rw [hS] at hm hP lU
  clear e0 e1 e2 e3 hdd htt hA1 hS
  repeat (first|refine W.gob rfl ?_|refine WL.nil ?_|refine WL.bt rfl rfl rfl z47o ?_|refine WL.e1 rfl ?_|refine WL.ar rfl rfl z47i ?_|refine W.condT rfl ?_)
  refine (?_:WL _ _ _ _ _ _)
  refine WL.cto (truH _) [0] rfl rfl (callF Tryz.func228 rfl rfl) hm rfl rfl rfl ⟨⟨rfl,rfl,rfl⟩,trivial⟩ rfl rfl rfl rfl ?_
  repeat (first|refine W.gob rfl ?_|refine WL.nil ?_|refine WL.e1 rfl ?_|refine WL.ar rfl rfl z47i ?_)
  refine ⟨((P++S,R.drop (2*s)),b,b+2*z),⟨by show (P++S)++CK cm en (2*s) (R.drop (2*s))=_;rw [List.append_assoc];exact hP,by show b=((P++S).length:Int);rw [List.length_append];omega,rfl,by show (P++S).length+(R.drop (2*s)).length=_;rw [List.length_append];omega,hR2⟩,by show (R.drop (2*s)).length < R.length;omega,?_⟩
  exact (zqt id)
 have e0:=CK_lt (cm:=cm) (en:=en) (k:=2*s) (l:=R) z47o
 rw [e0] at hP
 by_cases hgt:s < R.length
 ·have e1:=CK_ge (cm:=cm) (en:=en) (k:=s) (l:=R) z47o z47o
  have lt1:(R.take s).length=s:=by rw [List.length_take];omega
  have ld:(R.drop s).length=R.length - s:=List.length_drop
  have e2:=CK_le (cm:=cm) (en:=en) (k:=s) (l:=R.drop s) z47o z47o
  rw [e2] at e1
  have hA1:Asc en (R.take s++R.drop s):=by rw [List.take_append_drop];exact hR
  have lS:=srt_len (cm:=cm) (en:=en) (R.take s)
  have lT:=srt_len (cm:=cm) (en:=en) (R.drop s)
  have hm:=symM_G hcm hcf hC (2*s) P (srt cm en (R.take s)) (srt cm en (R.drop s)) [] a (a+z) l.length (by omega) ha (by omega) (by omega) (by omega) (by omega) (by simp;omega) (srt_pw hcm _) (srt_pw hcm _) (fun x hx y hy=>asc_mem hA1 x ((srt_perm _).mem_iff.1 hx) y ((srt_perm _).mem_iff.1 hy)) (hA1.dis.perm ((srt_perm _).append (srt_perm _)))
  rw [srt_srt hcm hA1,List.take_append_drop,List.append_nil,List.append_nil,hP] at hm
  have e3:(P++CK cm en s R).map eRw=(P++srt cm en (R.take s)++srt cm en (R.drop s)).map eRw:=by rw [e1];simp
  rw [e3]
  clear e0 e1 e2 e3 hA1 hP
  repeat (first|refine W.gob rfl ?_|refine WL.nil ?_|refine WL.bt rfl rfl rfl z47o ?_|refine WL.bf rfl rfl rfl z47o ?_|refine WL.e1 rfl ?_|refine WL.ar rfl rfl z47i ?_|refine W.condT rfl ?_|refine W.condF rfl ?_)
  refine (?_:WL _ _ _ _ _ _)
  refine WL.cto (truH _) [0] rfl rfl (callF Tryz.func228 rfl rfl) hm rfl rfl rfl ⟨⟨rfl,rfl,rfl⟩,trivial⟩ rfl rfl rfl rfl ?_
  repeat (first|refine W.gob rfl ?_|refine WL.nil ?_|refine WL.e1 rfl ?_|refine WL.ar rfl rfl z47i ?_)
  refine ⟨(2*s,z*2),⟨by show 20≤2*s;omega,by show 2*s≤200;omega,by show z*2=((2*s:Nat):Int);omega⟩,by show l.length - 2*s < l.length - s;omega,?_⟩
  exact (zqt id)
 ·have e1:=CK_le (cm:=cm) (en:=en) (k:=s) (l:=R) z47o z47o
  rw [e1,hP]
  clear e0 e1 hP
  repeat (first|refine W.gob rfl ?_|refine WL.nil ?_|refine WL.bf rfl rfl rfl z47o ?_|refine WL.e1 rfl ?_|refine WL.ar rfl rfl z47i ?_|refine W.condF rfl ?_)
  refine ⟨(2*s,z*2),⟨by show 20≤2*s;omega,by show 2*s≤200;omega,by show z*2=((2*s:Nat):Int);omega⟩,by show l.length - 2*s < l.length - s;omega,?_⟩
  exact (zqt id)
theorem sortS_G {f:FuncId} {cm:Rw→Rw→Int} {en:Rw→Int} (hcm:CmOk cm) (hcf:∀ vs w,(callFunc f vs).run Tryz.prog w=.ok (.enter f vs) w) (hC:∀ a b,Ctr Tryz.prog f [.ag (eRw a),.ag (eRw b)] (.sc (.int .i64 (cm a b)))) (l:List Rw) (hn:l.length≤100) (hl:Asc en l) :
  Cto truB 0 Tryz.prog 155 [.sl 0,.sc (.func (.func f) #[] #[])] [(0,.row 83 2 (l.map eRw))] 1 (.tu []) [(0,.row 83 2 ((srt cm en l).map eRw))] 1:=by
 refine Cto.intro truS Tryz.func155 rfl Tryz.ntmps155 (Nat.le_of_ble_eq_true rfl) rfl fun w0 F0 fp pg hB=>?_
 dsimp only [number,Nat.reduceAdd]
 have hi:=stable_G hcm hcf hC l hn hl
 have hml:(l.map eRw).length=l.length:=List.length_map _
 repeat (first|refine W.gob rfl ?_|refine WL.e1 rfl ?_|refine WL.len rfl rfl zql ?_)
 refine (?_:WL _ _ _ _ _ _)
 refine WL.cto (truH _) [0] rfl rfl (callF Tryz.func206 rfl rfl) hi rfl rfl rfl ⟨⟨rfl,rfl,rfl⟩,trivial⟩ rfl rfl rfl rfl ?_
 repeat refine WL.nil ?_
 refine finTr (σ':=⟨[],[(0,.row 83 2 ((srt cm en l).map eRw))],1⟩) (zqt id) ?_
 exact finMu rfl rfl rfl rfl rfl
end
section
open Go.RowKit
def cmpZ(a b:Int):Int:=if a<b then -1 else if b<a then 1 else 0
def cmpQ:List Int→List Int→Int
 | [],[]=>0
 | [],_::_=>-1
 | _::_,[]=>1
 | a::l,b::m=>if cmpZ a b=0 then cmpQ l m else cmpZ a b
theorem cmpZ_b(a b:Int):(cmpZ a b=-1∧a<b)∨(cmpZ a b=1∧b<a)∨(cmpZ a b=0∧a=b):=by
 unfold cmpZ
 split
 ·omega
 ·split<;>omega
theorem cmpZ_n(a b:Int):cmpZ b a=- cmpZ a b:=by
 have:=cmpZ_b a b;have:=cmpZ_b b a;omega
theorem cmpQ_n:∀ l m:List Int,cmpQ m l=- cmpQ l m
 | [],[]=>rfl
 | [],_::_=>rfl
 | _::_,[]=>rfl
 | a::l,b::m=>by
  have ih:=cmpQ_n l m
  have hz:=cmpZ_n a b
  show (if cmpZ b a=0 then cmpQ m l else cmpZ b a)=- (if cmpZ a b=0 then cmpQ l m else cmpZ a b)
  by_cases h:cmpZ a b=0
  ·rw [if_pos h,if_pos (by omega),ih]
  ·rw [if_neg h,if_neg (by omega),hz]
theorem cmpQ_e:∀ l m:List Int,cmpQ l m=0→l=m
 | [],[],_=>rfl
 | [],_::_,h=>by simp [cmpQ]at h
 | _::_,[],h=>by simp [cmpQ]at h
 | a::l,b::m,h=>by
  have h:(if cmpZ a b=0 then cmpQ l m else cmpZ a b)=0:=h
  by_cases h1:cmpZ a b=0
  ·rw [if_pos h1]at h
   have:=cmpZ_b a b
   have e:a=b:=by omega
   rw [e,cmpQ_e l m h]
  ·rw [if_neg h1]at h;exact absurd h h1
theorem cmpQ_t:∀ l m q:List Int,cmpQ l m≤0→cmpQ m q≤0→cmpQ l q≤0
 | [],[],q,_,h=>h
 | [],_::_,[],_,h=>by simp [cmpQ]at h
 | [],_::_,_::_,_,_=>by simp [cmpQ]
 | _::_,[],q,h,_=>by simp [cmpQ]at h
 | a::l,b::m,[],_,h=>by simp [cmpQ]at h
 | a::l,b::m,c::q,h1,h2=>by
  have h1:(if cmpZ a b=0 then cmpQ l m else cmpZ a b)≤0:=h1
  have h2:(if cmpZ b c=0 then cmpQ m q else cmpZ b c)≤0:=h2
  show (if cmpZ a c=0 then cmpQ l q else cmpZ a c)≤0
  have x:=cmpZ_b a b;have y:=cmpZ_b b c;have z:=cmpZ_b a c
  by_cases e1:cmpZ a b=0
  ·rw [if_pos e1]at h1
   by_cases e2:cmpZ b c=0
   ·rw [if_pos e2]at h2
    rw [if_pos (by omega)]
    exact cmpQ_t l m q h1 h2
   ·rw [if_neg e2]at h2
    rw [if_neg (by omega)];omega
  ·rw [if_neg e1]at h1
   by_cases e2:cmpZ b c=0
   ·rw [if_neg (by omega)];omega
   ·rw [if_neg e2]at h2
    rw [if_neg (by omega)];omega
def cmR(a b:Rw):Int:=cmpQ a.2 b.2
theorem cmR_ok:CmOk cmR:=⟨fun a b=>by unfold cmR;have:=cmpQ_n a.2 b.2;omega,fun a b c h1 h2=>cmpQ_t _ _ _ h1 h2,fun a b c h1 h2 h=>by
 have e:=cmpQ_e _ _ h
 unfold cmR at *
 have n1:=cmpQ_n a.2 b.2
 have n2:=cmpQ_n b.2 c.2
 rw [← e]at h2 n2 ⊢
 omega⟩
def cmN(a b:Rw):Int:=cmpZ a.1 b.1
theorem cmN_ok:CmOk cmN:=⟨fun a b=>by unfold cmN;have:=cmpZ_n a.1 b.1;omega,fun a b c h1 h2=>by
 unfold cmN at *
 have:=cmpZ_b a.1 b.1;have:=cmpZ_b b.1 c.1;have:=cmpZ_b a.1 c.1;omega,fun a b c h1 h2 h=>by
 unfold cmN at *
 have:=cmpZ_b a.1 b.1;have:=cmpZ_b b.1 c.1;have:=cmpZ_b a.1 c.1;omega⟩
theorem nan_FS (a:Int):Ctr Tryz.prog 158 [.sc (.int .i64 a)] (.sc (.bool false)):=by
 refine Ctr.intro Tryz.func158 rfl Tryz.ntmps158 (Nat.le_of_ble_eq_true rfl) (bd_all rfl) fun w0 F0=>?_;dsimp only [St.init,number,Nat.reduceAdd]
 repeat (first|refine W.gob rfl ?_|refine WL.nil ?_|refine WL.nf rfl rfl rfl z47o ?_|refine WL.e1 rfl ?_)
 refine (?_:W _ _ _ _ _)
 exact W.ret (fin1 rfl rfl rfl rfl)
theorem cmpZ_FS (a b:Int):Ctr Tryz.prog 102 [.sc (.int .i64 a),.sc (.int .i64 b)] (.sc (.int .i64 (cmpZ a b))):=by
 have hz:=cmpZ_b a b
 by_cases h1:a < b
 ·have e:cmpZ a b=-1:=by omega
  rw [e]
  clear hz e
  refine Ctr.intro Tryz.func102 rfl Tryz.ntmps102 (Nat.le_of_ble_eq_true rfl) (bd_all rfl) fun w0 F0=>?_;dsimp only [St.init,number,Nat.reduceAdd]
  repeat (first|refine W.gob rfl ?_|refine WL.nil ?_|refine WL.e1 rfl ?_)
  refine (?_:WL _ _ _ _ _ _)
  refine WL.vl rfl (WV.call rfl (callF Tryz.func158 rfl rfl) rfl rfl (nan_FS a)) ?_
  repeat (first|refine W.gob rfl ?_|refine WL.nil ?_|refine WL.e1 rfl ?_)
  refine (?_:WL _ _ _ _ _ _)
  refine WL.vl rfl (WV.call rfl (callF Tryz.func158 rfl rfl) rfl rfl (nan_FS b)) ?_
  repeat (first|refine W.gob rfl ?_|refine WL.nil ?_|refine WL.bt rfl rfl rfl z47o ?_|refine WL.e1 rfl ?_|refine W.condT rfl ?_|refine W.condF rfl ?_)
  refine (?_:W _ _ _ _ _)
  exact W.ret (fin1 rfl rfl rfl rfl)
 ·by_cases h2:b < a
  ·have e:cmpZ a b=1:=by omega
   rw [e]
   clear hz e
   refine Ctr.intro Tryz.func102 rfl Tryz.ntmps102 (Nat.le_of_ble_eq_true rfl) (bd_all rfl) fun w0 F0=>?_;dsimp only [St.init,number,Nat.reduceAdd]
   repeat (first|refine W.gob rfl ?_|refine WL.nil ?_|refine WL.e1 rfl ?_)
   refine (?_:WL _ _ _ _ _ _)
   refine WL.vl rfl (WV.call rfl (callF Tryz.func158 rfl rfl) rfl rfl (nan_FS a)) ?_
   repeat (first|refine W.gob rfl ?_|refine WL.nil ?_|refine WL.e1 rfl ?_)
   refine (?_:WL _ _ _ _ _ _)
   refine WL.vl rfl (WV.call rfl (callF Tryz.func158 rfl rfl) rfl rfl (nan_FS b)) ?_
   repeat (first|refine W.gob rfl ?_|refine WL.nil ?_|refine WL.bt rfl rfl rfl z47o ?_|refine WL.bf rfl rfl rfl z47o ?_|refine WL.e1 rfl ?_|refine W.condT rfl ?_|refine W.condF rfl ?_)
   refine (?_:W _ _ _ _ _)
   exact W.ret (fin1 rfl rfl rfl rfl)
  ·have e:cmpZ a b=0:=by omega
   rw [e]
   clear hz e
   refine Ctr.intro Tryz.func102 rfl Tryz.ntmps102 (Nat.le_of_ble_eq_true rfl) (bd_all rfl) fun w0 F0=>?_;dsimp only [St.init,number,Nat.reduceAdd]
   repeat (first|refine W.gob rfl ?_|refine WL.nil ?_|refine WL.e1 rfl ?_)
   refine (?_:WL _ _ _ _ _ _)
   refine WL.vl rfl (WV.call rfl (callF Tryz.func158 rfl rfl) rfl rfl (nan_FS a)) ?_
   repeat (first|refine W.gob rfl ?_|refine WL.nil ?_|refine WL.e1 rfl ?_)
   refine (?_:WL _ _ _ _ _ _)
   refine WL.vl rfl (WV.call rfl (callF Tryz.func158 rfl rfl) rfl rfl (nan_FS b)) ?_
   repeat (first|refine W.gob rfl ?_|refine WL.nil ?_|refine WL.bf rfl rfl rfl z47o ?_|refine WL.e1 rfl ?_|refine W.condF rfl ?_)
   refine (?_:W _ _ _ _ _)
   exact W.ret (fin1 rfl rfl rfl rfl)
theorem cmpQ_at {l m:List Int} {k:Nat} (h1:k<l.length) (h2:k<m.length):cmpQ (l.drop k) (m.drop k)=if cmpZ l[k] m[k]=0 then cmpQ (l.drop (k+1)) (m.drop (k+1)) else cmpZ l[k] m[k]:=by
 rw [List.drop_eq_getElem_cons h1,List.drop_eq_getElem_cons h2];rfl
theorem cmpQ_1 {l m:List Int} {k:Nat} (h1:k<l.length) (h2:m.length≤k):cmpQ (l.drop k) (m.drop k)=1:=by
 rw [List.drop_eq_getElem_cons h1,List.drop_eq_nil_of_le h2];rfl
theorem cmpQ_0 {l m:List Int} {k:Nat} (h1:l.length≤k) (h2:k<m.length):cmpQ (l.drop k) (m.drop k)=-1:=by
 rw [List.drop_eq_getElem_cons h2,List.drop_eq_nil_of_le h1];rfl
theorem cmpQ_z {l m:List Int} {k:Nat} (h1:l.length≤k) (h2:m.length≤k):cmpQ (l.drop k) (m.drop k)=0:=by
 rw [List.drop_eq_nil_of_le h1,List.drop_eq_nil_of_le h2];rfl
theorem cmpQ_FS (l m:List Int) (hl:l.length≤100000) (hm:m.length≤100000):Ctr Tryz.prog 95 [.ls 1 (l.map eInt),.ls 1 (m.map eInt)] (.sc (.int .i64 (cmpQ l m))):=by
 have hL:(l.map eInt).length=l.length:=List.length_map _
 have hM:(m.map eInt).length=m.length:=List.length_map _
 have aL:∀ k (h:k < l.length),(l.map eInt)[((k:Nat):Int).toNat]?=some [.sc (.int .i64 l[k])]:=fun k h=>map_at h
 have aM:∀ k (h:k < m.length),(m.map eInt)[((k:Nat):Int).toNat]?=some [.sc (.int .i64 m[k])]:=fun k h=>map_at h
 obtain ⟨LL,hLL⟩:∃ z,l.map eInt=z:=⟨_,rfl⟩
 obtain ⟨MM,hMM⟩:∃ z,m.map eInt=z:=⟨_,rfl⟩
 rw [hLL] at hL aL ⊢
 rw [hMM] at hM aM ⊢
 refine Ctr.intro Tryz.func95 rfl Tryz.ntmps95 (Nat.le_of_ble_eq_true rfl) (bd_all rfl) fun w0 F0=>?_;dsimp only [St.init,number,Nat.reduceAdd]
 repeat (first|refine W.go rfl ?_|refine WL.ev rfl ?_|refine WL.len rfl rfl zql ?_)
 refine (?_:W _ _ _ _ _)
 refine W.loop (fun k:Nat=>k≤l.length∧k≤m.length∧cmpQ (l.drop k) (m.drop k)=cmpQ l m) (fun k=>⟨[(0,.ls 1 LL),(1,.ls 1 MM),(9,.ls 1 LL),(10,.sc (.int .i64 LL.length)),(11,.sc (.int .i64 k))],[],0⟩) (fun k=>l.length - k) 0 ⟨by omega,by omega,rfl⟩ (zqt id) fun k hk=>?_
 obtain ⟨hk1,hk2,hc⟩:=hk
 by_cases h1:k < l.length
 ·have ha:=aL k h1
  by_cases h2:k < m.length
  ·have hb:=aM k h2
   rw [cmpQ_at h1 h2] at hc
   have hF:=cmpZ_FS l[k] m[k]
   obtain ⟨c,hcc⟩:∃ c,cmpZ l[k] m[k]=c:=⟨_,rfl⟩
   rw [hcc] at hc hF
   by_cases h0:c=0
   ·rw [if_pos h0] at hc
    clear aL aM hcc
    repeat (first|refine W.gob rfl ?_|refine WL.nil ?_|refine WL.bt rfl rfl rfl z47o ?_|refine WL.e1 rfl ?_|refine W.condT rfl ?_)
    refine (?_:WL _ _ _ _ _ _)
    refine WL.idx rfl rfl z47o ha ?_
    repeat (first|refine W.gob rfl ?_|refine WL.nil ?_|refine WL.bf rfl rfl rfl z47o ?_|refine WL.e1 rfl ?_|refine WL.len rfl rfl zql ?_|refine W.condF rfl ?_)
    refine (?_:WL _ _ _ _ _ _)
    refine WL.idx rfl rfl z47o hb ?_
    repeat (first|refine W.gob rfl ?_|refine WL.nil ?_|refine WL.e1 rfl ?_)
    refine (?_:WL _ _ _ _ _ _)
    refine WL.vl rfl (WV.call rfl (callF Tryz.func102 rfl rfl) rfl rfl hF) ?_
    repeat (first|refine W.gob rfl ?_|refine WL.nil ?_|refine WL.nf rfl rfl rfl z47o ?_|refine WL.e1 rfl ?_|refine WL.ar rfl rfl z47i ?_|refine W.condF rfl ?_)
    exact ⟨k+1,⟨by omega,by omega,hc⟩,by omega,(zqt id)⟩
   ·rw [if_neg h0] at hc
    rw [← hc]
    clear aL aM hcc hc
    repeat (first|refine W.gob rfl ?_|refine WL.nil ?_|refine WL.bt rfl rfl rfl z47o ?_|refine WL.e1 rfl ?_|refine W.condT rfl ?_)
    refine (?_:WL _ _ _ _ _ _)
    refine WL.idx rfl rfl z47o ha ?_
    repeat (first|refine W.gob rfl ?_|refine WL.nil ?_|refine WL.bf rfl rfl rfl z47o ?_|refine WL.e1 rfl ?_|refine WL.len rfl rfl zql ?_|refine W.condF rfl ?_)
    refine (?_:WL _ _ _ _ _ _)
    refine WL.idx rfl rfl z47o hb ?_
    repeat (first|refine W.gob rfl ?_|refine WL.nil ?_|refine WL.e1 rfl ?_)
    refine (?_:WL _ _ _ _ _ _)
    refine WL.vl rfl (WV.call rfl (callF Tryz.func102 rfl rfl) rfl rfl hF) ?_
    repeat (first|refine W.gob rfl ?_|refine WL.nil ?_|refine WL.nt rfl rfl rfl z47o ?_|refine WL.e1 rfl ?_|refine W.condT rfl ?_)
    refine (?_:W _ _ _ _ _)
    exact W.ret (fin1 rfl rfl rfl rfl)
  ·rw [cmpQ_1 h1 (by omega)] at hc
   rw [← hc]
   clear aL aM hc
   repeat (first|refine W.gob rfl ?_|refine WL.nil ?_|refine WL.bt rfl rfl rfl z47o ?_|refine WL.e1 rfl ?_|refine W.condT rfl ?_)
   refine (?_:WL _ _ _ _ _ _)
   refine WL.idx rfl rfl z47o ha ?_
   repeat (first|refine W.gob rfl ?_|refine WL.nil ?_|refine WL.bt rfl rfl rfl z47o ?_|refine WL.e1 rfl ?_|refine WL.len rfl rfl zql ?_|refine W.condT rfl ?_)
   refine (?_:W _ _ _ _ _)
   exact W.ret (fin1 rfl rfl rfl rfl)
 ·by_cases h2:l.length < m.length
  ·rw [cmpQ_0 (by omega) (by omega)] at hc
   rw [← hc]
   clear aL aM hc
   repeat (first|refine W.gob rfl ?_|refine WL.nil ?_|refine WL.bt rfl rfl rfl z47o ?_|refine WL.bf rfl rfl rfl z47o ?_|refine WL.e1 rfl ?_|refine WL.len rfl rfl zql ?_|refine W.condT rfl ?_|refine W.condF rfl ?_)
   refine (?_:W _ _ _ _ _)
   exact W.ret (fin1 rfl rfl rfl rfl)
  ·rw [cmpQ_z (by omega) (by omega)] at hc
   rw [← hc]
   clear aL aM hc
   repeat (first|refine W.gob rfl ?_|refine WL.nil ?_|refine WL.bf rfl rfl rfl z47o ?_|refine WL.e1 rfl ?_|refine WL.len rfl rfl zql ?_|refine W.condF rfl ?_)
   refine (?_:W _ _ _ _ _)
   exact W.ret (fin1 rfl rfl rfl rfl)
end
end Go.Proofs.YtgelfflighgajaaGreatDoor
