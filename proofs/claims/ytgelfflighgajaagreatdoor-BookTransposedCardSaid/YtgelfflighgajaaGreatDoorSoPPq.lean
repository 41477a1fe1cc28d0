/- Sorting, plain: what a stable sort by a comparison answers. -/
import Derived.Test.YtgelfflighgajaaGreatDoorEVPq
import Derived.Test.YtgelfflighgajaaGreatDoorSayPq
set_option maxHeartbeats 1600000
set_option maxRecDepth 100000
set_option linter.unusedVariables false
set_option linter.unusedSimpArgs false
namespace Go.Proofs.YtgelfflighgajaaGreatDoor
section
open Go.RowKit
def eStp (x:Stp):List AV:=[.sc (.int .i64 x.1),.sc (.int .i64 x.2.1),.sc (.int .i64 x.2.2.1),.sc (.int .i64 x.2.2.2.1),.sc (.int .i64 x.2.2.2.2)]
def eStps (l:List Stp):AV:=.ls 5 (l.map eStp)
def eEv (e:Ev):List AV:=[.sc (.bool e.bar),.sc (.int .i64 e.val),.sc (.bool e.dot),.sc (.bool e.three),.sc (.bool e.tie),eStps e.stops]
def eCrs (x:Int×Int×Bool):List AV:=[.sc (.int .i64 x.1),.sc (.int .i64 x.2.1),.sc (.bool x.2.2)]
def eInt (x:Int):List AV:=[.sc (.int .i64 x)]
def eIns (cs:List (Int×Int×Bool))(st:List Int):List AV:=[.ls 3 (cs.map eCrs),.ls 1 (st.map eInt)]
def ePce (p:Pce):AV:=.ag [.ls 3 (p.cs.map eCrs),.ls 1 (p.st.map eInt),.ls 6 (p.evs.map eEv)]
theorem map_at {α β:Type} {f:α→β} {l:List α} {k:Nat} (h:k<l.length):(l.map f)[((k:Nat):Int).toNat]?=some (f l[k]):=by rw [Int.toNat_natCast];simp [h]
theorem map_atZ {α β:Type} {f:α→β} {l:List α} {z:Int} (h0:0≤z)(h:z<l.length):(l.map f)[z.toNat]?=some (f (l[z.toNat]'(by omega))):=by
 have:z.toNat<l.length:=by omega
 simp [this]
theorem zqm {α:Type} {l:List α} {i:Nat} {x:Option α} (h:l[i]? = x:=by first|exact map_at (by omega)|exact map_atZ (by omega) (by omega)):l[i]? = x:=h
theorem take_map_succ {α β:Type} {f:α→β} {l:List α} {k:Nat} (h:k<l.length):(l.take k).map f++[f l[k]]=(l.take (k+1)).map f:=by
 rw [List.take_succ_eq_append_getElem h,List.map_append];rfl
theorem bd_all {l:List AV} (h:l.all AV.pu2=true):∀ (i:Nat) av,l[i]?=some av→Bd 0 av:=fun i av x=>pu2_bd (List.all_eq_true.1 h av (List.mem_of_getElem? x)) 0
theorem fin1 {P:Program} {fn:Func} {C:Cx} {σ:St} {t:Tmp} {av res:AV} (h:fn.results=#[.tmp t]) (ht:look t σ.t=some av) (he:av=res) (hp:res.pu2=true):QFin P fn C res .ret σ :=
 ⟨.inr rfl,Fin.one h (he ▸ ht) (pu2_bd hp 0)⟩
theorem fin2 {P:Program} {fn:Func} {C:Cx} {σ:St} {t u:Tmp} {a1 a2 r1 r2:AV} (h:fn.results=#[.tmp t,.tmp u]) (h1:look t σ.t=some a1) (h2:look u σ.t=some a2) (e1:a1=r1) (e2:a2=r2) (p1:r1.pu2=true) (p2:r2.pu2=true):QFin P fn C (.tu [r1,r2]) .ret σ :=
 ⟨.inr rfl,Fin.two h (e1 ▸ h1) (e2 ▸ h2) (pu2_bd p1 0) (pu2_bd p2 0)⟩
theorem sc_bool {a b:Bool} (h:a=b):AV.sc (.bool a)=.sc (.bool b):=by rw [h]
theorem sc_int {k:IntKind} {a b:Int} (h:a=b):AV.sc (.int k a)=.sc (.int k b):=by rw [h]
end
section
open Go.RowKit
attribute [local go_sem]mk_bs bs_size bs_toList bs_append bs_extract
attribute [local simp]run_cut run_cut_to run_cut_from run_add_bs
theorem right_any (v:Int) (d t:Bool) (w:World):Calls Tryz.prog 137 #[.agg #[.int .i64 v,.bool d,.bool t]] w (Ret (.bool (sgOk v d t)) w):=by
 by_cases h0:v=0
 ·subst h0
  cases d<;>cases t
  all_goals
   go_enter Tryz.func137,Tryz.ntmps137
   go_wp2
   go_ret
   exact Ret.mk' rfl zqb
 ·have hb:(v == 0)=false:=by simpa using h0
  have e:sgOk v d t=(decide (1≤v) && decide (v≤7) && !(d && t)):=by unfold sgOk;rw [hb];simp
  rw [e]
  clear e
  by_cases h1:1≤v
  ·by_cases h7:v≤7
   ·cases d<;>cases t
    all_goals
     go_enter Tryz.func137,Tryz.ntmps137
     go_wp2
     go_ret
     exact Ret.mk' (by simp [h1,h7]) zqb
   ·rw [show (decide (1≤v) && decide (v≤7) && !(d && t))=false from by rw [decide_eq_false h7];simp]
    go_enter Tryz.func137,Tryz.ntmps137
    go_wp2
    go_ret
    exact Ret.mk' rfl zqb
  ·rw [show (decide (1≤v) && decide (v≤7) && !(d && t))=false from by rw [decide_eq_false h1];simp]
   go_enter Tryz.func137,Tryz.ntmps137
   go_wp2
   go_ret
   exact Ret.mk' rfl zqb
end
section
open Go.RowKit
section
variable {α:Type} (cm:α→α→Int)(en:α→Int)
structure CmOk:Prop where
 lg:∀ a b,cm a b<0↔0<cm b a
 tr:∀ a b c,cm a b≤0→cm b c≤0→cm a c≤0
 ts:∀ a b c,cm a b≤0→cm b c≤0→cm a c=0→cm a b=0∧cm b c=0
def leB (a b:α):Bool:=decide (cm a b<0∨(cm a b=0∧en a≤en b))
def srt (l:List α):List α:=l.mergeSort (leB cm en)
variable {cm en}
theorem leB_tot(h:CmOk cm)(a b:α):(leB cm en a b|| leB cm en b a)=true:=by
 have h1:=h.lg a b;have h2:=h.lg b a
 unfold leB
 rw [Bool.or_eq_true,decide_eq_true_eq,decide_eq_true_eq]
 omega
theorem leB_tr (h:CmOk cm) (a b c:α) (h1:leB cm en a b=true) (h2:leB cm en b c=true):leB cm en a c=true:=by
 unfold leB at *
 rw [decide_eq_true_eq]at *
 have t:=h.tr a b c (by omega) (by omega)
 have s:=h.ts a b c (by omega) (by omega)
 by_cases e:cm a c=0
 ·have:=s e;omega
 ·omega
theorem srt_perm(l:List α):(srt cm en l).Perm l:=List.mergeSort_perm l _
theorem srt_pw (h:CmOk cm) (l:List α):(srt cm en l).Pairwise (fun a b=>leB cm en a b=true):=List.pairwise_mergeSort (leB_tr h) (leB_tot h) l
theorem srt_len(l:List α):(srt cm en l).length=l.length:=(srt_perm l).length_eq
def Dis (en:α→Int)(l:List α):Prop:=l.Pairwise (fun a b=>en a≠en b)
theorem Dis.perm {l m:List α} (h:Dis en l)(p:m.Perm l):Dis en m:=(p.pairwise_iff (fun {a b} h=>Ne.symm h)).2 h
theorem Dis.inj {l:List α} (h:Dis en l) {a b:α} (ha:a∈l) (hb:b∈l) (e:en a=en b):a=b:=by
 induction l with
 | nil=>cases ha
 | cons x r ih =>
  obtain ⟨h1,h2⟩:=List.pairwise_cons.1 h
  rcases List.mem_cons.1 ha with e1|ha<;>rcases List.mem_cons.1 hb with e2|hb
  ·exact e1.trans e2.symm
  ·exact absurd (by rw [← e,e1]) (h1 b hb)
  ·exact absurd (by rw [e,e2]) (h1 a ha)
  ·exact ih h2 ha hb
theorem srt_uniq (h:CmOk cm) {l m:List α} (hd:Dis en l) (hp:m.Perm l) (hs:m.Pairwise (fun a b=>leB cm en a b=true)):m=srt cm en l:=by
 refine List.Perm.eq_of_pairwise (le:=fun a b=>leB cm en a b=true) (fun a b ha hb h1 h2=>?_) hs (srt_pw h l) (hp.trans (srt_perm l).symm)
 have ha':=hp.mem_iff.1 ha
 have hb':=(srt_perm l).mem_iff.1 hb
 refine hd.inj ha' hb' ?_
 unfold leB at h1 h2
 rw [decide_eq_true_eq] at h1 h2
 have:=h.lg a b;have:=h.lg b a;omega
abbrev Srd (cm:α→α→Int)(en:α→Int)(l:List α):Prop:=l.Pairwise (fun a b=>leB cm en a b=true)
theorem srt_own (h:CmOk cm) {l:List α} (hd:Dis en l)(hs:Srd cm en l):srt cm en l=l:=(srt_uniq h hd (List.Perm.refl l) hs).symm
theorem le_of {a b:α} (h:CmOk cm)(he:en a<en b)(hn:¬ cm b a<0):leB cm en a b=true:=by
 unfold leB;rw [decide_eq_true_eq];have:=h.lg a b;have:=h.lg b a;omega
theorem le_lt {a b:α} (h:cm a b<0):leB cm en a b=true:=by
 unfold leB;rw [decide_eq_true_eq];omega
theorem Srd.last {l:List α} (hs:Srd cm en l)(h:CmOk cm) {n:Nat} (hn:n<l.length) {x:α} (hx:leB cm en l[n] x=true):∀ y∈l.take (n+1),leB cm en y x=true:=fun y hy=>by
 obtain⟨i,hi,rfl⟩:=List.getElem_of_mem hy
 rw [List.length_take] at hi
 rw [List.getElem_take]
 by_cases e:i=n
 ·subst e;exact hx
 ·exact leB_tr h _ _ _ ((List.pairwise_iff_getElem.1 hs) i n (by omega) hn (by omega)) hx
theorem Srd.first {l:List α} (hs:Srd cm en l) (h:CmOk cm) {n:Nat} (hn:n<l.length) {x:α} (hx:leB cm en x l[n]=true):∀ y∈l.drop n,leB cm en x y=true:=fun y hy=>by
 obtain ⟨i,hi,rfl⟩:=List.getElem_of_mem hy
 rw [List.length_drop] at hi
 rw [List.getElem_drop]
 by_cases e:i=0
 ·subst e;simpa using hx
 ·exact leB_tr h _ _ _ hx ((List.pairwise_iff_getElem.1 hs) n (n+i) hn (by omega) (by omega))
theorem ins_end (h:CmOk cm) {L R:List α} {x:α} (hs:Srd cm en (L++R)) (hL:∀ n (hn:n<L.length),n+1=L.length→leB cm en L[n] x=true) (hR:∀ y∈R,leB cm en x y=true):Srd cm en (L++x::R):=by
 obtain ⟨h1,h2,h3⟩:=List.pairwise_append.1 hs
 refine List.pairwise_append.2 ⟨h1,List.pairwise_cons.2 ⟨hR,h2⟩,fun a ha b hb=>?_⟩
 rcases List.mem_cons.1 hb with rfl|hb
 ·cases hl:L.length with
  | zero=>rw [List.length_eq_zero_iff.1 hl] at ha;cases ha
  | succ n =>
   have:=Srd.last h1 h (n:=n) (by omega) (hL n (by omega) (by omega))
   rw [← hl,List.take_length] at this
   exact this a ha
 ·exact h3 a ha b hb
theorem ins_perm {L R:List α} {x:α}:(L++x::R).Perm (L++R++[x]):=by
 have:(x::R).Perm (R++[x]):=(List.perm_append_singleton x R).symm
 rw [List.append_assoc]
 exact List.Perm.append_left L this
theorem mrg_eq (h:CmOk cm) {S1 S2 T1 T2:List α} (hd:Dis en (S1++S2++(T1++T2))) (hx:∀ a∈S1++T1,∀ b∈S2++T2,leB cm en a b=true) :
  srt cm en (S1++T1)++srt cm en (S2++T2)=srt cm en (S1++S2++(T1++T2)):=by
 refine srt_uniq h hd ?_ ?_
 ·refine ((srt_perm _).append (srt_perm _)).trans ?_
  rw [List.append_assoc,List.append_assoc]
  refine List.Perm.append_left S1 ?_
  rw [← List.append_assoc,← List.append_assoc]
  exact List.Perm.append_right T2 List.perm_append_comm
 ·refine List.pairwise_append.2 ⟨srt_pw h _,srt_pw h _,fun a ha b hb=>hx a ((srt_perm _).mem_iff.1 ha) b ((srt_perm _).mem_iff.1 hb)⟩
theorem cut_ok (h:CmOk cm) {S T:List α} {s e:Nat} (hS:Srd cm en S) (hT:Srd cm en T) (he:∀ a∈S,∀ b∈T,en a<en b) (hs:s≤S.length) (hE:e≤T.length)
  (h1:∀ (_:0<s) (q:e<T.length),¬ cm T[e] (S[s-1]'(by omega))<0) (h2:∀ (q:s<S.length) (_:0<e),cm (T[e-1]'(by omega)) S[s]<0) :
  ∀ a∈S.take s++T.take e,∀ b∈S.drop s++T.drop e,leB cm en a b=true:=by
 have pS:=hS
 rw [← List.take_append_drop s S] at pS
 have pT:=hT
 rw [← List.take_append_drop e T] at pT
 have qS:=(List.pairwise_append.1 pS).2.2
 have qT:=(List.pairwise_append.1 pT).2.2
 intro a ha b hb
 rcases List.mem_append.1 ha with ha|ha<;>rcases List.mem_append.1 hb with hb|hb
 ·exact qS a ha b hb
 ·-- S1 before T2
  have hs0:0<s:=by
   rcases Nat.eq_zero_or_pos s with e0|e0
   ·subst e0;simp at ha
   ·exact e0
  have hq:e<T.length:=by
   rcases Nat.lt_or_ge e T.length with q|q
   ·exact q
   ·rw [List.drop_eq_nil_of_le q] at hb;cases hb
  have hl:leB cm en (S[s-1]'(by omega)) T[e]=true:=le_of h (he _ (List.getElem_mem _) _ (List.getElem_mem _)) (h1 hs0 hq)
  have ha2:=Srd.last hS h (n:=s-1) (by omega) hl a (by rw [show s-1+1=s by omega];exact ha)
  exact Srd.first hT h hq ha2 b hb
 ·-- T1 before S2
  have he0:0<e:=by
   rcases Nat.eq_zero_or_pos e with e0|e0
   ·subst e0;simp at ha
   ·exact e0
  have hq:s<S.length:=by
   rcases Nat.lt_or_ge s S.length with q|q
   ·exact q
   ·rw [List.drop_eq_nil_of_le q] at hb;cases hb
  have hl:leB cm en (T[e-1]'(by omega)) S[s]=true:=le_lt (h2 hq he0)
  have ha2:=Srd.last hT h (n:=e-1) (by omega) hl a (by rw [show e-1+1=e by omega];exact ha)
  exact Srd.first hS h hq ha2 b hb
 ·exact qT a ha b hb
theorem mrg_cut (h:CmOk cm) {S T:List α} {s e:Nat} (hd:Dis en (S++T)) (hS:Srd cm en S) (hT:Srd cm en T) (he:∀ a∈S,∀ b∈T,en a<en b) (hs:s≤S.length) (hE:e≤T.length)
  (h1:∀ (_:0<s) (q:e<T.length),¬ cm T[e] (S[s-1]'(by omega))<0) (h2:∀ (q:s<S.length) (_:0<e),cm (T[e-1]'(by omega)) S[s]<0) :
  srt cm en (S.take s++T.take e)++srt cm en (S.drop s++T.drop e)=srt cm en (S++T):=by
 have e1:=mrg_eq (S1:=S.take s) (S2:=S.drop s) (T1:=T.take e) (T2:=T.drop e) h (by rw [List.take_append_drop,List.take_append_drop];exact hd) (cut_ok h hS hT he hs hE h1 h2)
 rw [List.take_append_drop,List.take_append_drop] at e1
 exact e1
end
theorem sw_0 {α:Type} {U V:List α} {y x:α} {n:Nat} (h:n=U.length):(U++y::x::V)[n]?=some y:=by subst h;simp
theorem sw_1 {α:Type} {U V:List α} {y x:α} {n:Nat} (h:n=U.length+1):(U++y::x::V)[n]?=some x:=by subst h;simp
theorem sw_s {α:Type} {U V:List α} {y x:α} {n m:Nat} (h:n=U.length+1)(hm:m=U.length):((U++y::x::V).set n y).set m x=U++x::y::V:=by
 subst h hm
 rw [List.set_append_right _ _ (by omega),List.set_append_right _ _ (by omega)]
 simp
theorem sw_2 {α:Type} {U V:List α} {y x:α} {n m:Nat} (h:n=U.length+1)(hm:m=U.length):((U++y::x::V).set n y)[m]?=some y:=by
 subst h hm
 rw [List.getElem?_set_ne (by omega)];simp
end
end Go.Proofs.YtgelfflighgajaaGreatDoor
