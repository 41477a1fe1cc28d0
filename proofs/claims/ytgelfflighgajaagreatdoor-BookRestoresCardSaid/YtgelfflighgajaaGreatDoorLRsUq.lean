/- The law BookRestores. -/
import Derived.Test.YtgelfflighgajaaGreatDoorVrUq
set_option maxHeartbeats 8000000
set_option maxRecDepth 100000
set_option linter.unusedVariables false
set_option linter.unusedSimpArgs false
namespace Go.Proofs.YtgelfflighgajaaGreatDoor
open Go.RowKit
def vaB (n:Int)(v:Va):Bool:=decide (1≤v.kd∧v.kd≤3∧0≤v.pl∧v.pl≤n∧(v.pl=n→v.kd=3))
def vaA (u v:Va):Bool:=decide (u.pl<v.pl∨(u.pl=v.pl∧¬ u.kd<3))
def vaOk(l:List Va)(n:Int)(i:Nat):Bool:=match l[i]? with
 | none=>true
 | some v=>vaB n v && match i with
  | 0=>true
  | j+1=>match l[j]? with
   | none=>true
   | some u=>vaA u v
def fitV (l:List Va)(n:Int):Bool:=(List.range l.length).all (vaOk l n)
theorem fitV_no {l:List Va} {n:Int} {i:Nat} (h:i<l.length)(h2:vaOk l n i=false):fitV l n=false:=by
 unfold fitV
 rw [List.all_eq_false]
 exact⟨i,List.mem_range.2 h,by simp [h2]⟩
theorem fitV_yes {l:List Va} {n:Int} (h:∀ i,i<l.length→vaOk l n i=true):fitV l n=true:=by
 unfold fitV
 rw [List.all_eq_true]
 exact fun i hi=>h i (List.mem_range.1 hi)
theorem vaOk_0 {l:List Va} {n:Int} (h:0<l.length):vaOk l n 0=vaB n l[0]:=by
 unfold vaOk
 rw [List.getElem?_eq_getElem h]
 simp
theorem vaOk_s {l:List Va} {n:Int} {i:Nat} (h:i+1<l.length):vaOk l n (i+1)=(vaB n l[i+1] && vaA (l[i]'(by omega)) l[i+1]):=by
 unfold vaOk
 rw [List.getElem?_eq_getElem h]
 simp only [List.getElem?_eq_getElem (show i<l.length by omega)]
def atV (i:Nat)(v:Va):Bool:=decide (v.pl=(i:Int))
def hdV (i:Nat)(l:List Va):List Va:=l.takeWhile (atV i)
def tlV (i:Nat)(l:List Va):List Va:=l.dropWhile (atV i)
def vaE(l:List Va):List Ev:=(l.filter fun v=>!(v.kd == 2)).map Va.ev
def stV(l:List Va):Bool:=l.all fun v=>v.kd == 3
def outV (evs:List Ev)(i:Nat)(l:List Va):List Ev:=vaE (hdV i l)++match evs[i]? with
 | some e=>if stV (hdV i l)=true then [e]else []
 | none=>[]
def appS (evs:List Ev)(l:List Va):Nat→List Ev×List Va
 | 0=>([],l)
 | i+1=>((appS evs l i).1++outV evs i (appS evs l i).2,tlV i (appS evs l i).2)
def apvE (evs:List Ev)(l:List Va):List Ev:=(appS evs l (evs.length+1)).1
theorem outV_at {evs:List Ev} {i:Nat} {l:List Va} (h:i<evs.length):outV evs i l=vaE (hdV i l)++if stV (hdV i l)=true then [evs[i]]else []:=by
 unfold outV;rw [List.getElem?_eq_getElem h]
theorem outV_end {evs:List Ev} {l:List Va}:outV evs evs.length l=vaE (hdV evs.length l):=by
 unfold outV;rw [List.getElem?_eq_none (Nat.le_refl _),List.append_nil]
theorem vaE_len(l:List Va):(vaE l).length≤l.length:=by
 unfold vaE;rw [List.length_map];exact List.length_filter_le _ _
theorem hd_tl (i:Nat) (l:List Va):(hdV i l).length+(tlV i l).length=l.length:=by
 unfold hdV tlV
 have:=congrArg List.length (List.takeWhile_append_dropWhile (p:=atV i) (l:=l))
 rw [List.length_append]at this;exact this
theorem appS_len (evs:List Ev)(l:List Va):∀ i,(appS evs l i).1.length+(appS evs l i).2.length≤l.length+i
 | 0=>by simp [appS]
 | i+1=>by
  have h1:=appS_len evs l i
  have h2:=hd_tl i (appS evs l i).2
  have h3:=vaE_len (hdV i (appS evs l i).2)
  have h4:(outV evs i (appS evs l i).2).length≤(vaE (hdV i (appS evs l i).2)).length+1:=by
   unfold outV
   rw [List.length_append]
   split
   ·split<;>simp
   ·simp
  show ((appS evs l i).1++outV evs i (appS evs l i).2).length+(tlV i (appS evs l i).2).length≤_
  rw [List.length_append]
  omega
theorem apvE_len (evs:List Ev)(l:List Va):(apvE evs l).length≤l.length+evs.length+1:=by
 have:=appS_len evs l (evs.length+1)
 unfold apvE;omega
theorem tlV_drop (i:Nat) (l:List Va):tlV i l=l.drop (hdV i l).length:=by
 have h:=List.takeWhile_append_dropWhile (p:=atV i) (l:=l)
 have h2:=List.drop_left (l₁:=l.takeWhile (atV i)) (l₂:=l.dropWhile (atV i))
 rw [h]at h2
 exact h2.symm
theorem appS_drop (evs:List Ev)(l:List Va):∀ i,∃ k,k≤l.length∧(appS evs l i).2=l.drop k
 | 0=>⟨0,Nat.zero_le _,rfl⟩
 | i+1=>by
  obtain⟨k,hk,e⟩:=appS_drop evs l i
  have h2:=hd_tl i (appS evs l i).2
  have h3:(appS evs l i).2.length=l.length-k:=by rw [e,List.length_drop]
  refine⟨k+(hdV i (appS evs l i).2).length,by omega,?_⟩
  show tlV i _=_
  rw [tlV_drop,e,List.drop_drop]
theorem appS_mem (evs:List Ev) (l:List Va):∀ i,∀ e∈(appS evs l i).1,e∈evs∨∃ v∈l,e=v.ev
 | 0,e,h=>by cases h
 | i+1,e,h=>by
  rcases List.mem_append.1 h with h|h
  ·exact appS_mem evs l i e h
  ·unfold outV at h
   rcases List.mem_append.1 h with h|h
   ·obtain ⟨v,hv,rfl⟩:=List.mem_map.1 h
    obtain ⟨k,hk,e⟩:=appS_drop evs l i
    have h1:=(List.mem_filter.1 hv).1
    have h2:v∈(appS evs l i).2:=(List.takeWhile_sublist _).mem h1
    rw [e]at h2
    exact .inr ⟨v,List.mem_of_mem_drop h2,rfl⟩
   ·split at h
    ·split at h
     ·rw [List.mem_singleton]at h
      rename_i e' he _
      rw [h]
      exact .inl (List.mem_of_getElem? he)
     ·cases h
    ·cases h
theorem take_drop_w {α:Type} {f:α→Bool}:∀ {l:List α} {q:Nat},q≤l.length→(∀ x∈l.take q,f x=true)→(∀ h:q<l.length,f l[q]=false)→l.takeWhile f=l.take q∧l.dropWhile f=l.drop q
 | [],q,h,_,_=>by simp at h;simp
 | x::r,0,h,h1,h2=>by
  have:=h2 (by simp)
  simp at this
  simp [List.takeWhile_cons,List.dropWhile_cons,this]
 | x::r,q+1,h,h1,h2=>by
  have hx:=h1 x (by simp)
  obtain ⟨a,b⟩:=take_drop_w (l:=r) (q:=q) (by simpa using h) (fun y hy=>h1 y (by simp [hy])) (fun hq=>by have:=h2 (by simpa using hq);simpa using this)
  simp [List.takeWhile_cons,List.dropWhile_cons,hx,a,b]
theorem take_wh {f:Va→Bool} {l:List Va} {j:Nat} (hj:j≤l.length)(h1:∀ v∈l.take j,f v=true)(h2:∀ h:j<l.length,f l[j]=false):l.takeWhile f=l.take j∧l.dropWhile f=l.drop j:=by
 have h:=take_drop_w (f:=f) hj h1 h2
 exact h
def apO (a:Pce)(l:List Va):Pce:=⟨a.cs,a.st,apvE (plE a) l⟩
def apX (a:Pce)(l:List Va):Int:=if pceE a≠0 then pceE a else if fitV l a.evs.length=false then 111 else pceE (apO a l)
def apP(a:Pce)(l:List Va):Pce:=if apX a l=0 then apO a l else noP
theorem apX_bad {a:Pce} {l:List Va} (h:pceE a≠0):apX a l=pceE a∧apP a l=noP:=by
 have e:apX a l=pceE a:=if_pos h
 exact⟨e,by unfold apP;rw [e,if_neg h]⟩
theorem apX_no {a:Pce} {l:List Va} (h:pceE a=0)(h2:fitV l a.evs.length=false):apX a l=111∧apP a l=noP:=by
 have e:apX a l=111:=by unfold apX;rw [if_neg (fun k=>k h),if_pos h2]
 exact⟨e,by unfold apP;rw [e];rfl⟩
theorem apX_ok {a:Pce} {l:List Va} (h:pceE a=0)(h2:fitV l a.evs.length=true):apX a l=pceE (apO a l):=by
 unfold apX;rw [if_neg (fun k=>k h),if_neg (by simp [h2])]
end Go.Proofs.YtgelfflighgajaaGreatDoor
namespace Go.Proofs.YtgelfflighgajaaGreatDoor
open Go.RowKit
theorem evEq_iff {e f:Ev}:evEq e f=true↔e=f:=by
 unfold evEq
 rw [decide_eq_true_iff]
 obtain⟨a,b,c,d,t,s⟩:=e
 obtain⟨a',b',c',d',t',s'⟩:=f
 simp only [Ev.mk.injEq]
 constructor
 ·rintro⟨h1,⟨h2,h3,h4⟩,h5,h6⟩;exact⟨h1,h2,h3,h4,h5,h6⟩
 ·rintro⟨h1,h2,h3,h4,h5,h6⟩;exact⟨h1,⟨h2,h3,h4⟩,h5,h6⟩
end Go.Proofs.YtgelfflighgajaaGreatDoor
namespace Go.Proofs.YtgelfflighgajaaGreatDoor
open Go.RowKit
inductive Aln (a b:List Ev):Nat→Nat→List (Int×Int)→Prop
 | nil:Aln a b a.length b.length []
 | both (i k:Nat) (P:List (Int×Int)):i<a.length→k<b.length→Aln a b (i+1) (k+1) P→Aln a b i k (((i:Int),(k:Int))::P)
 | left (i k:Nat) (P:List (Int×Int)):i<a.length→Aln a b (i+1) k P→Aln a b i k (((i:Int),-1)::P)
 | right (i k:Nat) (P:List (Int×Int)):k<b.length→Aln a b i (k+1) P→Aln a b i k ((-1,(k:Int))::P)
theorem prs_aln {a b:List Ev}:∀ (f i k:Nat),i≤a.length→k≤b.length→a.length-i+(b.length-k)≤f→Aln a b i k (prs a b f i k)
 | 0,i,k,hi,hk,h=>by
  obtain rfl:i=a.length:=by omega
  obtain rfl:k=b.length:=by omega
  exact .nil
 | f+1,i,k,hi,hk,h=>by
  unfold prs
  by_cases h1:i<a.length∧k<b.length∧csA a b i k=dsA a b i k+csA a b (i+1) (k+1)
  ·rw [if_pos h1]
   exact .both i k _ h1.1 h1.2.1 (prs_aln f (i+1) (k+1) (by omega) (by omega) (by omega))
  ·rw [if_neg h1]
   by_cases h2:i<a.length∧csA a b i k=alA a i+csA a b (i+1) k
   ·rw [if_pos h2]
    exact .left i k _ h2.1 (prs_aln f (i+1) k (by omega) hk (by omega))
   ·rw [if_neg h2]
    by_cases h3:k<b.length
    ·rw [if_pos h3]
     exact .right i k _ h3 (prs_aln f i (k+1) hi (by omega) (by omega))
    ·rw [if_neg h3]
     obtain rfl:k=b.length:=by omega
     have hi2:i=a.length:=by
      by_cases h4:i<a.length
      ·exact absurd ⟨h4,by rw [alA_at h4];exact csA_l h4⟩ h2
      ·omega
     rw [hi2];exact .nil
theorem aln_le {a b:List Ev} {i k:Nat} {P:List (Int×Int)} (h:Aln a b i k P):i≤a.length∧k≤b.length:=by
 induction h with
 | nil=>exact⟨Nat.le_refl _,Nat.le_refl _⟩
 | both i k P h1 h2 _ _=>omega
 | left i k P h1 _ ih=>omega
 | right i k P h1 _ ih=>omega
theorem evG_get {l:List Ev} {k:Nat} (h:k<l.length):evG l (k:Int)=l[k]:=by
 unfold evG
 rw [Int.toNat_natCast,List.getD_eq_getElem?_getD,List.getElem?_eq_getElem h];rfl
theorem vrS_both {a b:List Ev} {i k:Nat} {P:List (Int×Int)} (h1:i<a.length) (h2:k<b.length):vrS a b (((i:Int),(k:Int))::P) i=if evEq a[i] b[k]=true then vrS a b P ((i+1:Nat):Int) else ⟨1,i,b[k]⟩::vrS a b P ((i+1:Nat):Int):=by
 show (if (i:Int)<0 then _ else if (k:Int)<0 then _ else if evEq (evG a i) (evG b k)=true then _ else _)=_
 rw [if_neg (by omega),if_neg (by omega),evG_get h1,evG_get h2];rfl
theorem vrS_left {a b:List Ev} {i:Nat} {P:List (Int×Int)}:vrS a b (((i:Int),-1)::P) i =⟨2,i,ev0⟩::vrS a b P ((i+1:Nat):Int):=by
 show (if (i:Int)<0 then _ else if (-1:Int)<0 then _ else _)=_
 rw [if_neg (by omega),if_pos (by omega)];rfl
theorem vrS_right {a b:List Ev} {i k:Nat} {P:List (Int×Int)} (h2:k<b.length):vrS a b ((-1,(k:Int))::P) i =⟨3,i,b[k]⟩::vrS a b P i:=by
 show (if (-1:Int)<0 then _ else _)=_
 rw [if_pos (by omega),evG_get h2]
theorem vrS_ge {a b:List Ev} {i k:Nat} {P:List (Int×Int)} (h:Aln a b i k P):∀ v∈vrS a b P i,(i:Int)≤v.pl:=by
 induction h with
 | nil=>intro v hv;cases hv
 | both i k P h1 h2 _ ih =>
  intro v hv
  rw [vrS_both h1 h2]at hv
  split at hv
  ·have:=ih v hv;omega
  ·rcases List.mem_cons.1 hv with rfl|hv
   ·exact Int.le_refl _
   ·have:=ih v hv;omega
 | left i k P h1 _ ih =>
  intro v hv
  rw [vrS_left]at hv
  rcases List.mem_cons.1 hv with rfl|hv
  ·exact Int.le_refl _
  ·have:=ih v hv;omega
 | right i k P h2 _ ih =>
  intro v hv
  rw [vrS_right h2]at hv
  rcases List.mem_cons.1 hv with rfl|hv
  ·exact Int.le_refl _
  ·exact ih v hv
def appT (evs:List Ev):Nat→Nat→List Va→List Ev
 | 0,_,_=>[]
 | f+1,i,R=>outV evs i R++appT evs f (i+1) (tlV i R)
theorem appT_S {evs:List Ev} {l:List Va}:∀ f m,(appS evs l m).1++appT evs f m (appS evs l m).2=(appS evs l (m+f)).1
 | 0,m=>by simp [appT]
 | f+1,m=>by
  have h:=appT_S (evs:=evs) (l:=l) f (m+1)
  rw [show m+(f+1)=m+1+f by omega,← h]
  show _++(outV evs m (appS evs l m).2++_)=((appS evs l m).1++outV evs m (appS evs l m).2)++_
  rw [List.append_assoc];rfl
theorem hd_none {i:Nat} {l:List Va} (h:∀ v∈l,((i+1:Nat):Int)≤v.pl):hdV i l=[]∧tlV i l=l:=by
 cases l with
 | nil=>exact⟨rfl,rfl⟩
 | cons v r =>
  have hv:=h v (by simp)
  have e:atV i v=false:=decide_eq_false (by omega)
  unfold hdV tlV
  rw [List.takeWhile_cons,List.dropWhile_cons,e]
  exact⟨rfl,rfl⟩
theorem hd_cons {i:Nat} {v:Va} {l:List Va} (h:v.pl=(i:Int)):hdV i (v::l)=v::hdV i l∧tlV i (v::l)=tlV i l:=by
 have e:atV i v=true:=decide_eq_true h
 unfold hdV tlV
 rw [List.takeWhile_cons,List.dropWhile_cons,e]
 exact⟨rfl,rfl⟩
theorem restore_ {a b:List Ev} {i k:Nat} {P:List (Int×Int)} (h:Aln a b i k P):appT a (a.length+1-i) i (vrS a b P i)=b.drop k:=by
 induction h with
 | nil =>
  rw [show a.length+1-a.length=1 by omega,List.drop_length]
  show outV a a.length []++[]=[]
  rw [outV_end];rfl
 | both i k P h1 h2 hA ih =>
  have hge:=vrS_ge hA
  obtain ⟨e1,e2⟩:=hd_none hge
  rw [vrS_both h1 h2,show a.length+1-i=(a.length+1-(i+1))+1 by omega,List.drop_eq_getElem_cons h2,← ih]
  by_cases he:evEq a[i] b[k]=true
  ·rw [if_pos he]
   show outV a i _++_=_
   rw [outV_at h1,e1,e2]
   have:a[i]=b[k]:=evEq_iff.1 he
   rw [← this];rfl
  ·rw [if_neg he]
   obtain ⟨f1,f2⟩:=hd_cons (i:=i) (v:=⟨1,i,b[k]⟩) (l:=vrS a b P ((i+1:Nat):Int)) rfl
   show outV a i _++_=_
   rw [outV_at h1,f1,f2,e1,e2];rfl
 | left i k P h1 hA ih =>
  have hge:=vrS_ge hA
  obtain ⟨e1,e2⟩:=hd_none hge
  obtain ⟨f1,f2⟩:=hd_cons (i:=i) (v:=⟨2,i,ev0⟩) (l:=vrS a b P ((i+1:Nat):Int)) rfl
  rw [vrS_left,show a.length+1-i=(a.length+1-(i+1))+1 by omega,← ih]
  show outV a i _++_=_
  rw [outV_at h1,f1,f2,e1,e2];rfl
 | right i k P h2 hA ih =>
  have hle:=(aln_le hA).1
  obtain ⟨f1,f2⟩:=hd_cons (i:=i) (v:=⟨3,i,b[k]⟩) (l:=vrS a b P i) rfl
  rw [vrS_right h2,List.drop_eq_getElem_cons h2,← ih,show a.length+1-i=(a.length-i)+1 by omega]
  show outV a i _++appT a _ (i+1) (tlV i _)=b[k]::(outV a i _++appT a _ (i+1) (tlV i _))
  rw [f2]
  have e:outV a i (⟨3,i,b[k]⟩::vrS a b P i)=b[k]::outV a i (vrS a b P i):=by
   unfold outV
   rw [f1]
   have ev:vaE ((⟨3,i,b[k]⟩:Va)::hdV i (vrS a b P i))=b[k]::vaE (hdV i (vrS a b P i)):=rfl
   have es:stV ((⟨3,i,b[k]⟩:Va)::hdV i (vrS a b P i))=stV (hdV i (vrS a b P i)):=rfl
   rw [ev,es];rfl
  rw [e];rfl
theorem restores {a b:List Ev}:apvE a (vrS a b (prsA a b) 0)=b:=by
 have h:=restore_ (prs_aln (a:=a) (b:=b) (a.length+b.length) 0 0 (Nat.zero_le _) (Nat.zero_le _) (by omega))
 have h2:=appT_S (evs:=a) (l:=vrS a b (prsA a b) 0) (a.length+1) 0
 rw [Nat.zero_add] at h2
 unfold apvE
 rw [← h2]
 exact h
def gdV(n:Int):List Va→Prop
 | []=>True
 | v::r=>vaB n v=true∧(∀ u,r.head?=some u→vaA v u=true)∧gdV n r
theorem gdV_at {n:Int}:∀ {l:List Va},gdV n l→∀ i (h:i<l.length),vaB n l[i]=true∧∀ h2:i+1<l.length,vaA l[i] l[i+1]=true
 | [],_,i,h=>by simp at h
 | v::r,hg,0,h=>by
  refine⟨hg.1,fun h2=>?_⟩
  cases r with
  | nil=>simp at h2
  | cons u r=>exact hg.2.1 u rfl
 | v::r,hg,i+1,h=>by
  have h1:i<r.length:=by simpa using h
  obtain⟨q1,q2⟩:=gdV_at hg.2.2 i h1
  exact⟨q1,fun h2=>q2 (by simpa using h2)⟩
theorem fitV_of {n:Int} {l:List Va} (hg:gdV n l):fitV l n=true:=fitV_yes fun i hi=>by
 cases i with
 | zero=>rw [vaOk_0 hi];exact (gdV_at hg 0 hi).1
 | succ i =>
  rw [vaOk_s hi,(gdV_at hg (i+1) hi).1,(gdV_at hg i (by omega)).2 hi];rfl
theorem k13 {z:Int} (h:z=1∨z=2∨z=3):1≤z∧z≤3:=by omega
theorem vrS_gd {a b:List Ev} {i k:Nat} {P:List (Int×Int)} (h:Aln a b i k P):gdV a.length (vrS a b P i):=by
 induction h with
 | nil=>trivial
 | both i k P h1 h2 hA ih =>
  rw [vrS_both h1 h2]
  split
  ·exact ih
  ·refine ⟨decide_eq_true ⟨(k13 (z:=1) (.inl rfl)).1,(k13 (z:=1) (.inl rfl)).2,by show 0≤(i:Int);omega,by show (i:Int)≤_;omega,fun e=>by exfalso;have e:(i:Int)=a.length:=e;omega⟩,fun u hu=>?_,ih⟩
   have:=vrS_ge hA u (List.mem_of_mem_head? hu)
   exact decide_eq_true (.inl (by show (i:Int)<u.pl;omega))
 | left i k P h1 hA ih =>
  rw [vrS_left]
  refine ⟨decide_eq_true ⟨(k13 (z:=2) (.inr (.inl rfl))).1,(k13 (z:=2) (.inr (.inl rfl))).2,by show 0≤(i:Int);omega,by show (i:Int)≤_;omega,fun e=>by exfalso;have e:(i:Int)=a.length:=e;omega⟩,fun u hu=>?_,ih⟩
  have:=vrS_ge hA u (List.mem_of_mem_head? hu)
  exact decide_eq_true (.inl (by show (i:Int)<u.pl;omega))
 | right i k P h2 hA ih =>
  have hle:=(aln_le hA).1
  rw [vrS_right h2]
  refine ⟨decide_eq_true ⟨(k13 (z:=3) (.inr (.inr rfl))).1,(k13 (z:=3) (.inr (.inr rfl))).2,by show 0≤(i:Int);omega,by show (i:Int)≤_;omega,fun _=>rfl⟩,fun u hu=>?_,ih⟩
  have:=vrS_ge hA u (List.mem_of_mem_head? hu)
  by_cases e:(i:Int)<u.pl
  ·exact decide_eq_true (.inl e)
  ·exact decide_eq_true (.inr ⟨by show (i:Int)=u.pl;omega,by show ¬ (3:Int)<3;omega⟩)
theorem vrS_fit {a b:List Ev}:fitV (vrS a b (prsA a b) 0) a.length=true :=
 fitV_of (vrS_gd (prs_aln (a:=a) (b:=b) (a.length+b.length) 0 0 (Nat.zero_le _) (Nat.zero_le _) (by omega)))
theorem extN_self(l:List Stp):extN l l=0:=by
 unfold extN
 rw [List.length_eq_zero_iff,List.filter_eq_nil_iff]
 intro s hs
 have:hasP l s=true:=List.any_eq_true.2 ⟨s,hs,by simp [ple]⟩
 simp [this]
theorem dstE_self(e:Ev):dstE e e=0:=by
 unfold dstE
 rw [extN_self,if_pos rfl,if_pos rfl];rfl
theorem cst_self:∀ l:List Ev,cst l l=0
 | []=>rfl
 | x::r=>by
  have h1:=cst_nn (x::r) (x::r)
  have h2:=cst_self r
  have h3:=dstE_self x
  have h4:cst (x::r) (x::r)=min (min (dstE x x+cst r r) (alnE x+cst r (x::r))) (alnE x+csI x (cst r) r):=rfl
  rw [h4] at h1 ⊢
  omega
theorem csA_self(a:List Ev)(i:Nat):csA a a i i=0:=cst_self _
theorem vrS_self {a:List Ev}:∀ (f i:Nat) (n:Int),i≤a.length→vrS a a (prs a a f i i) n=[]
 | 0,i,n,h=>rfl
 | f+1,i,n,h=>by
  by_cases hi:i<a.length
  ·have e:csA a a i i=dsA a a i i+csA a a (i+1) (i+1):=by rw [csA_self,csA_self,dsA_at hi hi,dstE_self];rfl
   rw [prs_b hi hi e]
   show (if (i:Int)<0 then _ else if (i:Int)<0 then _ else if evEq (evG a i) (evG a i)=true then _ else _)=_
   rw [if_neg (by omega),if_neg (by omega),if_pos (evEq_iff.2 rfl)]
   exact vrS_self f (i+1) (n+1) (by omega)
  ·obtain rfl:i=a.length:=by omega
   rw [prs_end];rfl
theorem own_none (a:List Ev):vrS a a (prsA a a) 0=[]:=vrS_self _ 0 0 (Nat.zero_le _)
end Go.Proofs.YtgelfflighgajaaGreatDoor
namespace Go.Proofs.YtgelfflighgajaaGreatDoor
open Go.RowKit
def stripE(e:Ev):List Stp×Bool:=(e.stops,e.tie)
theorem runL_strip {c:Int}:∀ (k:Nat) {l m:List Ev},l.map stripE=m.map stripE→runL c k l=runL c k m
 | 0,l,m,_=>by simp [runL]
 | k+1,[],[],_=>rfl
 | k+1,[],y::m,h=>by simp at h
 | k+1,x::l,[],h=>by simp at h
 | k+1,x::l,y::m,h=>by
  rw [List.map_cons,List.map_cons] at h
  obtain⟨h1,h2⟩:=List.cons.inj h
  unfold stripE at h1
  obtain⟨h3,h4⟩:=Prod.mk.inj h1
  have ih:=runL_strip (c:=c) k h2
  unfold runL restB
  rw [h3,h4,ih]
theorem longestN_strip {l m:List Ev} (h:l.map stripE=m.map stripE) (i c:Int):longestN l i c=longestN m i c:=by
 have hl:l.length=m.length:=by have:=congrArg List.length h;simpa using this
 unfold longestN
 rw [hl,runL_strip 15 (l:=l.drop (i.toNat+1)) (m:=m.drop (i.toNat+1)) (by rw [List.map_drop,List.map_drop,h])]
theorem stopE_strip {p q:Pce} (hc:p.cs=q.cs)(h:p.evs.map stripE=q.evs.map stripE)(i:Int)(s:Stp)(last:Int):stopE p i s last=stopE q i s last:=by
 unfold stopE
 rw [hc,longestN_strip h]
theorem stopsE_strip {p q:Pce} (hc:p.cs=q.cs)(h:p.evs.map stripE=q.evs.map stripE)(i:Int):∀ (l:List Stp)(last:Int),stopsE p i last l=stopsE q i last l
 | [],_=>rfl
 | s::r,last=>by
  show(if stopE p i s last≠0 then _ else _)=(if stopE q i s last≠0 then _ else _)
  rw [stopE_strip hc h,stopsE_strip hc h i r]
theorem plN_get {evs:List Ev}:∀ {n k:Nat} (h:k<n) (hn:n≤evs.length),(plN evs n)[k]'(by rw [plN_length hn];exact h)=sgW (evs[k]'(by omega)) (sgF evs (k+1))
 | 0,k,h,_=>absurd h (Nat.not_lt_zero k)
 | n+1,k,h,hn=>by
  have e:=plN_at (evs:=evs) (k:=n) (by omega)
  have hl:(plN evs n).length=n:=plN_length (by omega)
  have key:(plN evs (n+1))[k]?=some (sgW (evs[k]'(by omega)) (sgF evs (k+1))):=by
   rw [e]
   by_cases hk:k<n
   ·rw [List.getElem?_append_left (by omega),List.getElem?_eq_getElem (by omega),plN_get hk (by omega)]
   ·obtain rfl:k=n:=by omega
    rw [List.getElem?_append_right (by omega),hl,Nat.sub_self];rfl
  rw [List.getElem?_eq_getElem (by rw [plN_length hn];exact h)]at key
  exact Option.some.inj key
theorem plE_strip (p:Pce):(plE p).map stripE=p.evs.map stripE:=by
 apply List.ext_getElem (by rw [List.length_map,List.length_map,plE_length])
 intro k h1 h2
 have hk:k<p.evs.length:=by simpa using h2
 rw [List.getElem_map,List.getElem_map]
 have:=plN_get (evs:=p.evs) hk (Nat.le_refl _)
 unfold plE
 rw [this];rfl
theorem sgF_val {p:Pce} (h0:pceE p=0):∀ k,k<p.evs.length→(sgF p.evs (k+1)).1≠0∧sgOk (sgF p.evs (k+1)).1 (sgF p.evs (k+1)).2.1 (sgF p.evs (k+1)).2.2=true
 | 0,h=>by
  obtain ⟨a,b,_,_⟩:=evE_zero ((pceE_zero h0).2.2 0 h)
  rw [sgF_at h]
  have hv:p.evs[0].val≠0:=fun hv=>b ⟨rfl,hv⟩
  rw [if_neg hv]
  exact ⟨hv,a⟩
 | k+1,h=>by
  obtain ⟨a,b,_,_⟩:=evE_zero ((pceE_zero h0).2.2 (k+1) h)
  rw [sgF_at h]
  by_cases hv:p.evs[k+1].val=0
  ·rw [if_pos hv]
   exact sgF_val h0 k (by omega)
  ·rw [if_neg hv]
   exact ⟨hv,a⟩
theorem evsE_all {p:Pce}:∀ {l:List Ev} {n:Nat},(∀ k (h:k<l.length),evE p ((n+k:Nat):Int) l[k]=0)→evsE p n l=0
 | [],n,_=>rfl
 | e::r,n,h=>by
  have h0:=h 0 (by simp)
  simp only [Nat.add_zero,List.getElem_cons_zero] at h0
  have e1:evsE p n (e::r)=evsE p (n+1) r:=if_neg (by rw [h0];simp)
  rw [e1]
  refine evsE_all fun k hk=>?_
  have:=h (k+1) (by simpa using hk)
  rw [show n+1+k=n+(k+1) by omega]
  simpa using this
theorem pceE_pl {p:Pce} (h0:pceE p=0):pceE ⟨p.cs,p.st,plE p⟩=0:=by
 obtain ⟨h1,h2,h3⟩:=pceE_zero h0
 have hl:=plE_length p
 unfold pceE
 rw [if_neg (by simpa using h1),if_neg (by show ¬ 400<(plE p).length;omega)]
 refine evsE_all fun k hk=>?_
 have hk':k<p.evs.length:=by rw [← hl];exact hk
 obtain ⟨a,b,c,d⟩:=evE_zero (h3 k hk')
 obtain ⟨s1,s2⟩:=sgF_val h0 k hk'
 have he:(plE p)[k]'hk=sgW p.evs[k] (sgF p.evs (k+1)):=plN_get hk' (Nat.le_refl _)
 have hst:=stopsE_strip (p:=⟨p.cs,p.st,plE p⟩) (q:=p) rfl (plE_strip p) (k:Int) p.evs[k].stops 0
 show evE ⟨p.cs,p.st,plE p⟩ ((0+k:Nat):Int) ((plE p)[k]'hk)=0
 rw [Nat.zero_add,he]
 unfold evE
 rw [if_neg (by
  rintro (h|h)
  ·have h:sgOk (sgF p.evs (k+1)).1 (sgF p.evs (k+1)).2.1 (sgF p.evs (k+1)).2.2=false:=h
   rw [s2] at h;cases h
  ·exact s1 h.2),if_neg (show ¬ ((sgW p.evs[k] (sgF p.evs (k+1))).tie=true∧(0<(sgW p.evs[k] (sgF p.evs (k+1))).stops.length∨(k:Int)=0)) from c)]
 show stopsE ⟨p.cs,p.st,plE p⟩ k 0 p.evs[k].stops=0
 rw [hst];exact d
end Go.Proofs.YtgelfflighgajaaGreatDoor
namespace Go.Proofs.YtgelfflighgajaaGreatDoor
open Go.RowKit
structure VaLs(l:List Va):Prop where
 n:l.length≤200
 s:∀ v∈l,v.ev.stops.length≤20
theorem apO_ok {a:Pce} {l:List Va} (hO:PcOk a) (h60:a.evs.length≤60) (hl:VaLs l):PcOk (apO a l):=by
 have h1:=apvE_len (plE a) l
 have h2:=plE_length a
 have h3:=hl.n
 refine ⟨hO.n1,hO.n2,by show (apvE (plE a) l).length≤420;omega,fun k hk=>?_⟩
 have hk':k<(apvE (plE a) l).length:=hk
 have hm:=appS_mem (plE a) l ((plE a).length+1) (apvE (plE a) l)[k] (List.getElem_mem hk')
 rcases hm with hm|⟨v,hv,e⟩
 ·obtain ⟨f,hf,e⟩:=plN_stops (Nat.le_refl _) _ hm
  obtain ⟨q,hq,rfl⟩:=List.getElem_of_mem hf
  show (apvE (plE a) l)[k].stops.length≤20
  rw [e];exact hO.n4 q hq
 ·show (apvE (plE a) l)[k].stops.length≤20
  rw [e];exact hl.s v hv
theorem appS_mem2(evs:List Ev)(l:List Va)(i:Nat)(v:Va)(h:v∈(appS evs l i).2):v∈l:=by
 obtain⟨k,_,e⟩:=appS_drop evs l i
 rw [e]at h
 exact List.mem_of_mem_drop h
theorem stV_snoc (l:List Va)(v:Va):stV (l++[v])=(stV l && (v.kd == 3)):=by unfold stV;rw [List.all_append];simp
theorem vaE_snoc (l:List Va)(v:Va):vaE (l++[v])=vaE l++if v.kd=2 then []else [v.ev]:=by
 unfold vaE
 rw [List.filter_append,List.map_append]
 by_cases h:v.kd=2
 ·simp [h]
 ·simp [h]
theorem drop_next {α:Type} {R:List α} {j:Nat} {x:α} {r:List α} (hj:j≤R.length)(h:R.drop j=x::r):j<R.length∧R.drop (j+1)=r∧R.take (j+1)=R.take j++[x]:=by
 have hl:(R.drop j).length=r.length+1:=by rw [h];rfl
 rw [List.length_drop]at hl
 have hlt:j<R.length:=by omega
 have h2:=List.drop_eq_getElem_cons hlt
 rw [h]at h2
 obtain⟨e1,e2⟩:=List.cons.inj h2
 exact⟨hlt,e2.symm,by rw [List.take_succ_eq_append_getElem hlt,← e1]⟩
theorem vaB_no {n:Int} {v:Va} (h:¬ (1≤v.kd∧v.kd≤3∧0≤v.pl∧v.pl≤n∧(v.pl=n→v.kd=3))):vaB n v=false:=decide_eq_false h
theorem vaOk_no {l:List Va} {n:Int} {k:Nat} (hk:k<l.length)(h:¬ (1≤l[k].kd∧l[k].kd≤3∧0≤l[k].pl∧l[k].pl≤n∧(l[k].pl=n→l[k].kd=3))):vaOk l n k=false:=by
 cases k with
 | zero=>rw [vaOk_0 hk];exact vaB_no h
 | succ k=>rw [vaOk_s hk,vaB_no h];rfl
theorem vaOk_yes0 {l:List Va} {n:Int} (hk:0<l.length)(h:1≤l[0].kd∧l[0].kd≤3∧0≤l[0].pl∧l[0].pl≤n∧(l[0].pl=n→l[0].kd=3)):vaOk l n 0=true:=by
 rw [vaOk_0 hk];exact decide_eq_true h
theorem vaOk_yes {l:List Va} {n:Int} {k:Nat} (hk:k+1<l.length)(h:1≤l[k+1].kd∧l[k+1].kd≤3∧0≤l[k+1].pl∧l[k+1].pl≤n∧(l[k+1].pl=n→l[k+1].kd=3))
  (h2:(l[k]'(by omega)).pl<l[k+1].pl∨((l[k]'(by omega)).pl=l[k+1].pl∧¬ (l[k]'(by omega)).kd<3)):vaOk l n (k+1)=true:=by
 rw [vaOk_s hk]
 have e1:vaB n l[k+1]=true:=decide_eq_true h
 have e2:vaA (l[k]'(by omega)) l[k+1]=true:=decide_eq_true h2
 rw [e1,e2];rfl
theorem vaOk_adj {l:List Va} {n:Int} {k:Nat} (hk:k+1<l.length)(h2:¬ ((l[k]'(by omega)).pl<l[k+1].pl∨((l[k]'(by omega)).pl=l[k+1].pl∧¬ (l[k]'(by omega)).kd<3))):vaOk l n (k+1)=false:=by
 rw [vaOk_s hk]
 have e2:vaA (l[k]'(by omega)) l[k+1]=false:=decide_eq_false h2
 rw [e2,Bool.and_false]
end Go.Proofs.YtgelfflighgajaaGreatDoor
namespace Go.Proofs.YtgelfflighgajaaGreatDoor
open Go.RowKit
theorem pApply_bad (a:Pce) (hO:PcOk a) (l:List Va) (h0:pceE a≠0):Ctr Tryz.prog 16 [ePce a,.ls 8 (l.map eVa)] (.tu [ePce (apP a l),.sc (.int .i64 (apX a l))]):=by
 have hP:=pPlain_FS a hO
 rw [(apX_bad h0).1,(apX_bad h0).2]
 obtain ⟨E,hE⟩:∃ E,pceE a=E:=⟨_,rfl⟩
 rw [hE] at hP h0 ⊢
 obtain ⟨Z,hZ⟩:∃ Z,plP a=Z:=⟨_,rfl⟩
 rw [hZ] at hP
 refine Ctr.intro Tryz.func16 rfl Tryz.ntmps16 (Nat.le_of_ble_eq_true rfl) (bd_all rfl) fun w0 F0=>?_;dsimp only [St.init,number,Nat.reduceAdd]
 repeat refine W.go rfl ?_
 refine (?_:WL _ _ _ _ _ _)
 dsimp only [St.put,Nat.reduceAdd]
 refine WL.vl rfl (WV.call rfl (callF Tryz.func40 rfl rfl) rfl rfl hP) ?_
 repeat (first|refine W.gob rfl ?_|refine WL.nil ?_|refine WL.nt rfl rfl rfl (by omega) ?_|refine WL.e1 rfl ?_|refine W.condT rfl ?_)
 refine (?_:W _ _ _ _ _)
 dsimp only [St.put,Nat.reduceAdd]
 refine W.tr (Tr.nilC 1 0 3 rfl rfl rfl) ?_
 refine W.tr (Tr.nilC 1 1 1 rfl rfl rfl) ?_
 refine W.tr (Tr.nilC 1 2 6 rfl rfl rfl) ?_
 exact W.ret (finN rfl rfl rfl rfl)
theorem pApply_FS (a:Pce) (hO:PcOk a) (h60:a.evs.length ≤ 60) (l:List Va) (hl:VaLs l):Ctr Tryz.prog 16 [ePce a, .ls 8 (l.map eVa)] (.tu [ePce (apP a l), .sc (.int .i64 (apX a l))]):=by
  by_cases h0:pceE a = 0
  rotate_left
  · exact pApply_bad a hO l h0
  have hP:=pPlain_FS a hO
  have e1:plP a = ⟨a.cs, a.st, plE a⟩:=if_pos h0
  have hpl:=plE_length a
  have hOk:=apO_ok hO h60 hl
  have hln:=hl.n
  rw [e1, h0] at hP
  have hNo:∀ k, k < l.length → vaOk l a.evs.length k = false → apX a l = 111 ∧ apP a l = noP:=fun k h1 h2 => apX_no h0 (fitV_no h1 h2)
  have hYes:(∀ k, k < l.length → vaOk l a.evs.length k = true) → apX a l = pceE (apO a l):=fun h => apX_ok h0 (fitV_yes h)
  have hAP:apP a l = if apX a l = 0 then apO a l else noP:=rfl
  obtain ⟨AO_, hAO⟩:∃ z, apO a l = z:=⟨_, rfl⟩
  have hAO2:AO_ = ⟨a.cs, a.st, apvE (plE a) l⟩:=by rw [← hAO];rfl
  rw [hAO] at hOk hYes hAP
  have hCk:=pCheck_FS AO_ hOk
  obtain ⟨X, hX⟩:∃ z, apX a l = z:=⟨_, rfl⟩
  obtain ⟨Y, hY⟩:∃ z, apP a l = z:=⟨_, rfl⟩
  rw [hX] at hNo hYes hAP ⊢
  rw [hY] at hNo hAP ⊢
  obtain ⟨PE, hPE⟩:∃ z, plE a = z:=⟨_, rfl⟩
  rw [hPE] at hP hpl hAO2
  obtain ⟨LL, hLL⟩:∃ z, l.map eVa = z:=⟨_, rfl⟩
  have hLLl:LL.length = l.length:=by rw [← hLL, List.length_map]
  have hLat:∀ (z:Int) (k:Nat) (hk:k < l.length), z.toNat = k → LL[z.toNat]? = some (eVa l[k]):=fun z k hk e => by rw [e, ← hLL];simp [hk]
  rw [hLL]
  refine Ctr.intro Tryz.func16 rfl Tryz.ntmps16 (Nat.le_of_ble_eq_true rfl) (bd_all rfl) fun w0 F0 => ?_;dsimp only [St.init, number, Nat.reduceAdd]
  repeat refine W.go rfl ?_
  refine (?_:WL _ _ _ _ _ _)
  dsimp only [St.put, Nat.reduceAdd]
  refine WL.vl rfl (WV.call rfl (callF Tryz.func40 rfl rfl) rfl rfl hP) ?_
  repeat (first|refine W.gob rfl ?_|refine WL.nil ?_|refine WL.nf rfl rfl rfl (by omega) ?_|refine WL.e1 rfl ?_|refine WL.len rfl rfl (by first|exact List.length_map _|exact List.length_replicate| rfl) ?_|refine W.condF rfl ?_)
  refine (?_:W _ _ _ _ _)
  dsimp only [St.put, Nat.reduceAdd]
  refine W.loop (fun k:Nat => k ≤ l.length ∧ ∀ i, i < k → vaOk l a.evs.length i = true) (fun k => ⟨[(1, .ls 8 LL), (2, .pt 0 0 0), (4, .pt 1 0 0), (24, .ls 8 LL), (25, .sc (.int .i64 LL.length)), (26, .sc (.int .i64 k))], [(0, .box 28 [.ls 3 (a.cs.map eCrs), .ls 1 (a.st.map eInt), .ls 6 (PE.map eEv)]), (1, .box 28 [.sc (.slice none 0 0), .sc (.slice none 0 0), .sc (.slice none 0 0)])], 2⟩) (fun k => l.length - k) 0 ⟨by omega, fun i hi => by omega⟩ (Tr.ren id (by repeat (first|exact trivial|refine ⟨⟨?_, ?_⟩, ?_⟩| rfl)) (by repeat (first|exact trivial|refine ⟨⟨?_, ?_, ?_⟩, ?_⟩| rfl)) rfl) fun k hk => ?_
  obtain ⟨hk, hgood⟩:=hk
  by_cases hlt:k < l.length
  · have hat:=hLat (k:Nat) k hlt (Int.toNat_natCast k)
    obtain ⟨v, hv⟩:∃ v, l[k] = v:=⟨_, rfl⟩
    rw [hv] at hat
    obtain ⟨m, hm⟩:∃ m:Int, (if v.kd = 3 then (PE.length:Int) - 1 + 1 else (PE.length:Int) - 1) = m:=⟨_, rfl⟩
    repeat (first|refine W.gob rfl ?_|refine WL.nil ?_|refine WL.bt rfl rfl rfl (by omega) ?_|refine WL.e1 rfl ?_|refine W.condT rfl ?_)
    refine (?_:WL _ _ _ _ _ _)
    dsimp only [St.put, Nat.reduceAdd]
    refine WL.idx rfl rfl (by omega) hat ?_
    repeat (first|refine W.gob rfl ?_|refine WL.nil ?_|refine WL.e1 rfl ?_|refine WL.ar rfl rfl (by unfold I64;omega) ?_|refine WL.len rfl rfl (by first|exact List.length_map _|exact List.length_replicate| rfl) ?_)
    refine (?_:W _ _ _ _ _)
    dsimp only [St.put, Nat.reduceAdd]
    refine W.meet ⟨[(7, .sc (.int .i64 k)), (8, .pt 2 0 0), (9, .sc (.int .i64 m)), (1, .ls 8 LL), (2, .pt 0 0 0), (4, .pt 1 0 0), (24, .ls 8 LL), (25, .sc (.int .i64 LL.length)), (26, .sc (.int .i64 k))], [(0, .box 28 [.ls 3 (a.cs.map eCrs), .ls 1 (a.st.map eInt), .ls 6 (PE.map eEv)]), (1, .box 28 [.sc (.slice none 0 0), .sc (.slice none 0 0), .sc (.slice none 0 0)]), (2, .box 38 (eVa v))], 3⟩ ?_ ?_
    · (refine W.cond rfl (fun hif => ?_) (fun hif => ?_) <;> (try simp only [decide_eq_true_eq, decide_eq_false_iff_not, Int.not_lt, Int.not_le, Bool.not_eq_true', Bool.not_eq_false'] at hif))
      · rw [if_pos hif] at hm
        subst hm
        repeat (first|refine W.go rfl ?_|refine WL.ev rfl ?_|refine WL.ar rfl rfl (by unfold I64;omega) ?_)
        dsimp only [St.put, Nat.reduceAdd]
        refine (?_:Tr _ _ _)
        exact (Tr.ren id (by repeat (first|exact trivial|refine ⟨⟨?_, ?_⟩, ?_⟩| rfl)) (by repeat (first|exact trivial|refine ⟨⟨?_, ?_, ?_⟩, ?_⟩| rfl)) rfl)
      · rw [if_neg hif] at hm
        subst hm
        repeat refine W.go rfl ?_
        refine (?_:Tr _ _ _)
        exact (Tr.ren id (by repeat (first|exact trivial|refine ⟨⟨?_, ?_⟩, ?_⟩| rfl)) (by repeat (first|exact trivial|refine ⟨⟨?_, ?_, ?_⟩, ?_⟩| rfl)) rfl)
    have hNo2:¬ (1 ≤ v.kd ∧ v.kd ≤ 3 ∧ 0 ≤ v.pl ∧ v.pl ≤ (a.evs.length:Int) ∧ (v.pl = (a.evs.length:Int) → v.kd = 3)) → X = 111 ∧ Y = noP:=fun h => hNo k hlt (vaOk_no hlt (by rw [hv];exact h))
    by_cases h1:v.kd < 1
    · obtain ⟨rfl, rfl⟩:=hNo2 (by omega)
      repeat (first|refine W.gob rfl ?_|refine WL.nil ?_|refine WL.bt rfl rfl rfl (by omega) ?_|refine WL.e1 rfl ?_|refine WL.opno rfl rfl rfl rfl rfl rfl rfl ?_|refine W.condT rfl ?_)
      refine (?_:W _ _ _ _ _)
      dsimp only [St.put, Nat.reduceAdd]
      refine W.tr (Tr.nilC 1 0 3 rfl rfl rfl) ?_
      refine W.tr (Tr.nilC 1 1 1 rfl rfl rfl) ?_
      refine W.tr (Tr.nilC 1 2 6 rfl rfl rfl) ?_
      exact W.ret (finN rfl rfl rfl rfl)
    by_cases h2:3 < v.kd
    · obtain ⟨rfl, rfl⟩:=hNo2 (by omega)
      repeat (first|refine W.gob rfl ?_|refine WL.nil ?_|refine WL.bt rfl rfl rfl (by omega) ?_|refine WL.bf rfl rfl rfl (by omega) ?_|refine WL.e1 rfl ?_|refine WL.gyes rfl rfl rfl rfl ?_|refine WL.opno rfl rfl rfl rfl rfl rfl rfl ?_|refine W.condT rfl ?_)
      refine (?_:W _ _ _ _ _)
      dsimp only [St.put, Nat.reduceAdd]
      refine W.tr (Tr.nilC 1 0 3 rfl rfl rfl) ?_
      refine W.tr (Tr.nilC 1 1 1 rfl rfl rfl) ?_
      refine W.tr (Tr.nilC 1 2 6 rfl rfl rfl) ?_
      exact W.ret (finN rfl rfl rfl rfl)
    by_cases h3:v.pl < 0
    · obtain ⟨rfl, rfl⟩:=hNo2 (by omega)
      repeat (first|refine W.gob rfl ?_|refine WL.nil ?_|refine WL.bt rfl rfl rfl (by omega) ?_|refine WL.bf rfl rfl rfl (by omega) ?_|refine WL.e1 rfl ?_|refine WL.gyes rfl rfl rfl rfl ?_|refine WL.opno rfl rfl rfl rfl rfl rfl rfl ?_|refine W.condT rfl ?_)
      refine (?_:W _ _ _ _ _)
      dsimp only [St.put, Nat.reduceAdd]
      refine W.tr (Tr.nilC 1 0 3 rfl rfl rfl) ?_
      refine W.tr (Tr.nilC 1 1 1 rfl rfl rfl) ?_
      refine W.tr (Tr.nilC 1 2 6 rfl rfl rfl) ?_
      exact W.ret (finN rfl rfl rfl rfl)
    by_cases h4:m < v.pl
    · obtain ⟨rfl, rfl⟩:=hNo2 (by split at hm <;> omega)
      repeat (first|refine W.gob rfl ?_|refine WL.nil ?_|refine WL.bt rfl rfl rfl (by omega) ?_|refine WL.bf rfl rfl rfl (by omega) ?_|refine WL.e1 rfl ?_|refine WL.gyes rfl rfl rfl rfl ?_|refine W.condT rfl ?_)
      refine (?_:W _ _ _ _ _)
      dsimp only [St.put, Nat.reduceAdd]
      refine W.tr (Tr.nilC 1 0 3 rfl rfl rfl) ?_
      refine W.tr (Tr.nilC 1 1 1 rfl rfl rfl) ?_
      refine W.tr (Tr.nilC 1 2 6 rfl rfl rfl) ?_
      exact W.ret (finN rfl rfl rfl rfl)
    have hB:1 ≤ v.kd ∧ v.kd ≤ 3 ∧ 0 ≤ v.pl ∧ v.pl ≤ (a.evs.length:Int) ∧ (v.pl = (a.evs.length:Int) → v.kd = 3):=by split at hm <;> omega
    cases k with
    | zero =>
      have hy:=vaOk_yes0 (n:=(a.evs.length:Int)) hlt (by rw [hv];exact hB)
      repeat (first|refine W.gob rfl ?_|refine WL.nil ?_|refine WL.bf rfl rfl rfl (by omega) ?_|refine WL.e1 rfl ?_|refine WL.gyes rfl rfl rfl rfl ?_|refine W.condF rfl ?_)
      refine (?_:W _ _ _ _ _)
      dsimp only [St.put, Nat.reduceAdd]
      refine W.drawK (by kernel_rfl) (by kernel_rfl) ?_
      repeat (first|refine DK.bf rfl rfl (by omega) ?_|refine DK.ff rfl (by first| (simp;done)| fail) ?_|refine DK.st rfl ?_|refine DK.nil ?_)
      repeat (first|refine W.gob rfl ?_|refine WL.nil ?_|refine WL.e1 rfl ?_|refine WL.ar rfl rfl (by unfold I64;omega) ?_|refine W.condF rfl ?_)
      dsimp only [St.put, Nat.reduceAdd]
      exact ⟨0 + 1, ⟨by omega, fun i hi => by obtain rfl:i = 0:=by omega
                                              exact hy⟩, by omega, (Tr.ren id (by repeat (first|exact trivial|refine ⟨⟨?_, ?_⟩, ?_⟩| rfl)) (by repeat (first|exact trivial|refine ⟨⟨?_, ?_, ?_⟩, ?_⟩| rfl)) rfl)⟩
    | succ j =>
      have hat2:=hLat (((j + 1:Nat):Int) - 1) j (by omega) (by omega)
      have hy:((l[j]'(by omega)).pl < v.pl ∨ ((l[j]'(by omega)).pl = v.pl ∧ ¬ (l[j]'(by omega)).kd < 3)) → vaOk l a.evs.length (j + 1) = true:=fun h => vaOk_yes hlt (by rw [hv];exact hB) (by rw [hv];exact h)
      have hn:¬ ((l[j]'(by omega)).pl < v.pl ∨ ((l[j]'(by omega)).pl = v.pl ∧ ¬ (l[j]'(by omega)).kd < 3)) → X = 111 ∧ Y = noP:=fun h => hNo (j + 1) hlt (vaOk_adj hlt (by rw [hv];exact h))
      obtain ⟨u, hu⟩:∃ u, l[j]'(by omega) = u:=⟨_, rfl⟩
      rw [hu] at hat2 hy hn
      by_cases h5:v.pl < u.pl
      · obtain ⟨rfl, rfl⟩:=hn (by omega)
        repeat (first|refine W.gob rfl ?_|refine WL.nil ?_|refine WL.bf rfl rfl rfl (by omega) ?_|refine WL.e1 rfl ?_|refine WL.gyes rfl rfl rfl rfl ?_|refine W.condF rfl ?_)
        refine (?_:W _ _ _ _ _)
        dsimp only [St.put, Nat.reduceAdd]
        refine W.drawK (by kernel_rfl) (by kernel_rfl) ?_
        repeat (first|refine DK.bt rfl rfl (by omega) ?_|refine DK.tt rfl (by first| (simp;done)| fail) ?_|refine DK.st rfl ?_|refine DK.ar rfl rfl (by unfold I64;omega) ?_)
        refine DK.idx rfl rfl (by omega) hat2 ?_
        repeat (first|refine DK.bt rfl rfl (by omega) ?_|refine DK.tt rfl (by first| (simp;done)| fail) ?_|refine DK.st rfl ?_|refine DK.nil ?_)
        repeat (first|refine W.gob rfl ?_|refine WL.nil ?_|refine WL.e1 rfl ?_|refine W.condT rfl ?_)
        refine (?_:W _ _ _ _ _)
        dsimp only [St.put, Nat.reduceAdd]
        refine W.tr (Tr.nilC 1 0 3 rfl rfl rfl) ?_
        refine W.tr (Tr.nilC 1 1 1 rfl rfl rfl) ?_
        refine W.tr (Tr.nilC 1 2 6 rfl rfl rfl) ?_
        exact W.ret (finN rfl rfl rfl rfl)
      by_cases h6:u.kd < 3
      · by_cases h7:v.pl = u.pl
        · obtain ⟨rfl, rfl⟩:=hn (by omega)
          repeat (first|refine W.gob rfl ?_|refine WL.nil ?_|refine WL.bf rfl rfl rfl (by omega) ?_|refine WL.e1 rfl ?_|refine WL.gyes rfl rfl rfl rfl ?_|refine W.condF rfl ?_)
          refine (?_:W _ _ _ _ _)
          dsimp only [St.put, Nat.reduceAdd]
          refine W.drawK (by kernel_rfl) (by kernel_rfl) ?_
          repeat (first|refine DK.bt rfl rfl (by omega) ?_|refine DK.tt rfl (by first| (simp;done)| fail) ?_|refine DK.st rfl ?_|refine DK.ar rfl rfl (by unfold I64;omega) ?_)
          refine DK.idx rfl rfl (by omega) hat2 ?_
          repeat (first|refine DK.bf rfl rfl (by omega) ?_|refine DK.ff rfl (by first| (simp;done)| fail) ?_|refine DK.st rfl ?_|refine DK.ar rfl rfl (by unfold I64;omega) ?_)
          refine DK.idx rfl rfl (by omega) hat2 ?_
          repeat (first|refine DK.bt rfl rfl (by omega) ?_|refine DK.tt rfl (by first| (simp;done)| fail) ?_|refine DK.st rfl ?_|refine DK.ar rfl rfl (by unfold I64;omega) ?_)
          refine DK.idx rfl rfl (by omega) hat2 ?_
          repeat (first|refine DK.bt rfl rfl (by omega) ?_|refine DK.tt rfl (by first| (simp;done)| fail) ?_|refine DK.st rfl ?_|refine DK.nil ?_)
          repeat (first|refine W.gob rfl ?_|refine WL.nil ?_|refine WL.e1 rfl ?_|refine W.condT rfl ?_)
          refine (?_:W _ _ _ _ _)
          dsimp only [St.put, Nat.reduceAdd]
          refine W.tr (Tr.nilC 1 0 3 rfl rfl rfl) ?_
          refine W.tr (Tr.nilC 1 1 1 rfl rfl rfl) ?_
          refine W.tr (Tr.nilC 1 2 6 rfl rfl rfl) ?_
          exact W.ret (finN rfl rfl rfl rfl)
        · have hy:=hy (by omega)
          repeat (first|refine W.gob rfl ?_|refine WL.nil ?_|refine WL.bf rfl rfl rfl (by omega) ?_|refine WL.e1 rfl ?_|refine WL.gyes rfl rfl rfl rfl ?_|refine W.condF rfl ?_)
          refine (?_:W _ _ _ _ _)
          dsimp only [St.put, Nat.reduceAdd]
          refine W.drawK (by kernel_rfl) (by kernel_rfl) ?_
          repeat (first|refine DK.bt rfl rfl (by omega) ?_|refine DK.tt rfl (by first| (simp;done)| fail) ?_|refine DK.st rfl ?_|refine DK.ar rfl rfl (by unfold I64;omega) ?_)
          refine DK.idx rfl rfl (by omega) hat2 ?_
          repeat (first|refine DK.bf rfl rfl (by omega) ?_|refine DK.ff rfl (by first| (simp;done)| fail) ?_|refine DK.st rfl ?_|refine DK.ar rfl rfl (by unfold I64;omega) ?_)
          refine DK.idx rfl rfl (by omega) hat2 ?_
          repeat (first|refine DK.bt rfl rfl (by omega) ?_|refine DK.tt rfl (by first| (simp;done)| fail) ?_|refine DK.st rfl ?_|refine DK.ar rfl rfl (by unfold I64;omega) ?_)
          refine DK.idx rfl rfl (by omega) hat2 ?_
          repeat (first|refine DK.bf rfl rfl (by omega) ?_|refine DK.ff rfl (by first| (simp;done)| fail) ?_|refine DK.st rfl ?_|refine DK.nil ?_)
          repeat (first|refine W.gob rfl ?_|refine WL.nil ?_|refine WL.e1 rfl ?_|refine WL.ar rfl rfl (by unfold I64;omega) ?_|refine W.condF rfl ?_)
          dsimp only [St.put, Nat.reduceAdd]
          exact ⟨j + 1 + 1, ⟨by omega, fun i hi => by
            by_cases e:i = j + 1
            · subst e;exact hy
            · exact hgood i (by omega)⟩, by omega, (Tr.ren id (by repeat (first|exact trivial|refine ⟨⟨?_, ?_⟩, ?_⟩| rfl)) (by repeat (first|exact trivial|refine ⟨⟨?_, ?_, ?_⟩, ?_⟩| rfl)) rfl)⟩
      · have hy:=hy (by omega)
        repeat (first|refine W.gob rfl ?_|refine WL.nil ?_|refine WL.bf rfl rfl rfl (by omega) ?_|refine WL.e1 rfl ?_|refine WL.gyes rfl rfl rfl rfl ?_|refine W.condF rfl ?_)
        refine (?_:W _ _ _ _ _)
        dsimp only [St.put, Nat.reduceAdd]
        refine W.drawK (by kernel_rfl) (by kernel_rfl) ?_
        repeat (first|refine DK.bt rfl rfl (by omega) ?_|refine DK.tt rfl (by first| (simp;done)| fail) ?_|refine DK.st rfl ?_|refine DK.ar rfl rfl (by unfold I64;omega) ?_)
        refine DK.idx rfl rfl (by omega) hat2 ?_
        repeat (first|refine DK.bf rfl rfl (by omega) ?_|refine DK.ff rfl (by first| (simp;done)| fail) ?_|refine DK.st rfl ?_|refine DK.ar rfl rfl (by unfold I64;omega) ?_)
        refine DK.idx rfl rfl (by omega) hat2 ?_
        repeat (first|refine DK.bf rfl rfl (by omega) ?_|refine DK.ff rfl (by first| (simp;done)| fail) ?_|refine DK.st rfl ?_|refine DK.nil ?_)
        repeat (first|refine W.gob rfl ?_|refine WL.nil ?_|refine WL.e1 rfl ?_|refine WL.ar rfl rfl (by unfold I64;omega) ?_|refine W.condF rfl ?_)
        dsimp only [St.put, Nat.reduceAdd]
        exact ⟨j + 1 + 1, ⟨by omega, fun i hi => by
          by_cases e:i = j + 1
          · subst e;exact hy
          · exact hgood i (by omega)⟩, by omega, (Tr.ren id (by repeat (first|exact trivial|refine ⟨⟨?_, ?_⟩, ?_⟩| rfl)) (by repeat (first|exact trivial|refine ⟨⟨?_, ?_, ?_⟩, ?_⟩| rfl)) rfl)⟩
  have hke:k = l.length:=by omega
  have hXY:=hYes fun q hq => hgood q (by omega)
  repeat (first|refine W.gob rfl ?_|refine WL.nil ?_|refine WL.bf rfl rfl rfl (by omega) ?_|refine WL.e1 rfl ?_|refine W.condF rfl ?_)
  refine (?_:W _ _ _ _ _)
  dsimp only [St.put, Nat.reduceAdd]
  refine W.tr (Tr.nilBox (k:=2) (j:=2) 36 6 rfl rfl rfl rfl) ?_
  refine W.loop (fun i:Nat => i ≤ PE.length + 1) (fun i => ⟨[(1, .ls 8 ((appS PE l i).2.map eVa)), (2, .pt 0 0 0), (4, .pt 1 0 0), (10, .pt 2 0 0), (11, .sc (.int .i64 (i:Nat)))], [(0, .box 28 [.ls 3 (a.cs.map eCrs), .ls 1 (a.st.map eInt), .ls 6 (PE.map eEv)]), (1, .box 28 [.sc (.slice none 0 0), .sc (.slice none 0 0), .sc (.slice none 0 0)]), (2, .box 28 [.ls 3 (a.cs.map eCrs), .ls 1 (a.st.map eInt), .sl 3]), (3, .row 36 6 ((appS PE l i).1.map eEv))], 4⟩) (fun i => PE.length + 1 - i) 0 (by omega) (by rw [← hLL];exact (Tr.ren id (by repeat (first|exact trivial|refine ⟨⟨?_, ?_⟩, ?_⟩| rfl)) (by repeat (first|exact trivial|refine ⟨⟨?_, ?_, ?_⟩, ?_⟩| rfl)) rfl)) fun i hi => ?_
  have hln1:=appS_len PE l i
  by_cases hin:i ≤ PE.length
  rotate_left
  · have hie:i = PE.length + 1:=by omega
    have hap:(appS PE l i).1 = apvE PE l:=by rw [hie];rfl
    rw [hap]
    rw [hAO2] at hCk hXY hAP
    obtain ⟨AV_, hAV⟩:∃ z, apvE PE l = z:=⟨_, rfl⟩
    rw [hAV] at hCk hXY hAP ⊢
    repeat (first|refine W.gob rfl ?_|refine WL.nil ?_|refine WL.bf rfl rfl rfl (by omega) ?_|refine WL.e1 rfl ?_|refine WL.len rfl rfl (by first|exact List.length_map _|exact List.length_replicate| rfl) ?_|refine W.condF rfl ?_)
    refine (?_:WL _ _ _ _ _ _)
    dsimp only [St.put, Nat.reduceAdd]
    refine WL.tr (Tr.freeze 3 rfl) ?_
    refine WL.vl rfl (WV.call rfl (callF Tryz.func52 rfl rfl) rfl rfl hCk) ?_
    rw [← hXY]
    by_cases hz:X = 0
    · rw [if_pos hz] at hAP
      rw [hAP, hz]
      repeat (first|refine W.gob rfl ?_|refine WL.nil ?_|refine WL.nf rfl rfl rfl (by omega) ?_|refine WL.e1 rfl ?_|refine W.condF rfl ?_)
      refine (?_:W _ _ _ _ _)
      dsimp only [St.put, Nat.reduceAdd]
      exact W.ret (finN rfl rfl rfl rfl)
    · rw [if_neg hz] at hAP
      rw [hAP]
      repeat (first|refine W.gob rfl ?_|refine WL.nil ?_|refine WL.nt rfl rfl rfl (by omega) ?_|refine WL.e1 rfl ?_|refine W.condT rfl ?_)
      refine (?_:W _ _ _ _ _)
      dsimp only [St.put, Nat.reduceAdd]
      refine W.tr (Tr.nilC 1 0 3 rfl rfl rfl) ?_
      refine W.tr (Tr.nilC 1 1 1 rfl rfl rfl) ?_
      refine W.tr (Tr.nilC 1 2 6 rfl rfl rfl) ?_
      exact W.ret (finN rfl rfl rfl rfl)
  have hS1:(appS PE l (i + 1)).1 = (appS PE l i).1 ++ outV PE i (appS PE l i).2:=rfl
  have hS2:(appS PE l (i + 1)).2 = tlV i (appS PE l i).2:=rfl
  have hst20:∀ v ∈ (appS PE l i).2, v.ev.stops.length ≤ 20:=fun v hv => hl.s v (appS_mem2 PE l i v hv)
  obtain ⟨R, hR⟩:∃ z, (appS PE l i).2 = z:=⟨_, rfl⟩
  obtain ⟨O, hOq⟩:∃ z, (appS PE l i).1 = z:=⟨_, rfl⟩
  rw [hR] at hS1 hS2 hst20 hln1 ⊢
  rw [hOq] at hS1 hln1 ⊢
  obtain ⟨sb, hsb⟩:∃ b:Bool, decide ((i:Int) < (PE.length:Int)) = b:=⟨_, rfl⟩
  repeat (first|refine W.gob rfl ?_|refine WL.nil ?_|refine WL.bt rfl rfl rfl (by omega) ?_|refine WL.e1 rfl ?_|refine WL.len rfl rfl (by first|exact List.length_map _|exact List.length_replicate| rfl) ?_|refine W.condT rfl ?_)
  refine (?_:W _ _ _ _ _)
  dsimp only [St.put, Nat.reduceAdd]
  rw [hsb]
  refine W.loop (fun j:Nat => j ≤ R.length ∧ ∀ v ∈ R.take j, atV i v = true) (fun j => ⟨[(1, .ls 8 ((R.drop j).map eVa)), (12, .sc (.bool (stV (R.take j) && sb))), (2, .pt 0 0 0), (4, .pt 1 0 0), (10, .pt 2 0 0), (11, .sc (.int .i64 (i:Nat)))], [(0, .box 28 [.ls 3 (a.cs.map eCrs), .ls 1 (a.st.map eInt), .ls 6 (PE.map eEv)]), (1, .box 28 [.sc (.slice none 0 0), .sc (.slice none 0 0), .sc (.slice none 0 0)]), (2, .box 28 [.ls 3 (a.cs.map eCrs), .ls 1 (a.st.map eInt), .sl 3]), (3, .row 36 6 ((O ++ vaE (R.take j)).map eEv))], 4⟩) (fun j => R.length - j) 0 ⟨by omega, fun v hv => by simp at hv⟩ (Tr.ren (fun q => q) (by repeat (first|exact trivial|refine ⟨⟨?_, ?_⟩, ?_⟩| rfl)) (by repeat (first|exact trivial|refine ⟨⟨?_, ?_, ?_⟩, ?_⟩| rfl|exact congrArg (fun q => some (AO.row _ _ q)) (by simp [vaE]))) rfl) fun j hj => ?_
  obtain ⟨hj1, hj2⟩:=hj
  have hvl:=vaE_len (R.take j)
  rw [List.length_take] at hvl
  obtain ⟨D, hD⟩:∃ D, R.drop j = D:=⟨_, rfl⟩
  by_cases hgo:∃ x r, D = x :: r ∧ x.pl = (i:Int)
  · obtain ⟨x, r, rfl, hx⟩:=hgo
    obtain ⟨d1, d2, d3⟩:=drop_next hj1 hD
    have hx20:=hst20 x (List.mem_of_mem_drop (by rw [hD];simp:x ∈ R.drop j))
    have hsn:=stV_snoc (R.take j) x
    have hvn:=vaE_snoc (R.take j) x
    rw [← d3] at hsn hvn
    have hall:∀ v ∈ R.take (j + 1), atV i v = true:=fun v hv => by
      rw [d3] at hv
      rcases List.mem_append.1 hv with hv| hv
      · exact hj2 v hv
      · rw [List.mem_singleton] at hv;rw [hv];exact decide_eq_true hx
    have hpr:prt (eVa x :: r.map eVa) 1 ((eVa x :: r.map eVa).length:Nat) = r.map eVa:=by unfold prt;simp;rw [List.take_of_length_le (by simp)]
    have hlc:(eVa x :: r.map eVa).length = r.length + 1:=by simp
    have hcl:=clnStp_FS x.ev.stops (by omega)
    obtain ⟨V0, hV0⟩:∃ z, vaE (R.take j) = z:=⟨_, rfl⟩
    obtain ⟨V1, hV1⟩:∃ z, vaE (R.take (j + 1)) = z:=⟨_, rfl⟩
    rw [hV0] at hvl hvn ⊢
    rw [hV1] at hvn
    have hOV:(O ++ V0).length ≤ 300:=by rw [List.length_append];omega
    obtain ⟨OV, hOVq⟩:∃ z, O ++ V0 = z:=⟨_, rfl⟩
    rw [hOVq] at hOV ⊢
    rw [hD, List.map_cons]
    repeat (first|refine W.gob rfl ?_|refine WL.bt rfl rfl rfl (by omega) ?_|refine WL.e1 rfl ?_|refine WL.gyes rfl rfl rfl rfl ?_|refine WL.len rfl rfl (by first|exact List.length_map _|exact List.length_replicate| rfl) ?_)
    refine (?_:WL _ _ _ _ _ _)
    dsimp only [St.put, Nat.reduceAdd]
    refine WL.idx rfl rfl (by decide) (r:=eVa x) rfl ?_
    repeat (first|refine W.gob rfl ?_|refine WL.nil ?_|refine WL.bt rfl rfl rfl (by omega) ?_|refine WL.e1 rfl ?_|refine WL.gyes rfl rfl rfl rfl ?_|refine W.condT rfl ?_)
    refine (?_:WL _ _ _ _ _ _)
    dsimp only [St.put, Nat.reduceAdd]
    refine WL.idx rfl rfl (by decide) (r:=eVa x) rfl ?_
    repeat (first|refine WL.nil ?_|refine WL.e1 rfl ?_)
    refine (?_:W _ _ _ _ _)
    dsimp only [St.put, Nat.reduceAdd]
    refine W.meet ⟨[(1, .ls 8 (eVa x :: r.map eVa)), (12, .sc (.bool (stV (R.take j) && sb))), (2, .pt 0 0 0), (4, .pt 1 0 0), (10, .pt 2 0 0), (11, .sc (.int .i64 (i:Nat)))], [(0, .box 28 [.ls 3 (a.cs.map eCrs), .ls 1 (a.st.map eInt), .ls 6 (PE.map eEv)]), (1, .box 28 [.sc (.slice none 0 0), .sc (.slice none 0 0), .sc (.slice none 0 0)]), (2, .box 28 [.ls 3 (a.cs.map eCrs), .ls 1 (a.st.map eInt), .sl 3]), (3, .row 36 6 ((O ++ V1).map eEv))], 4⟩ ?_ ?_
    · (refine W.cond rfl (fun hif => ?_) (fun hif => ?_) <;> (try simp only [decide_eq_true_eq, decide_eq_false_iff_not, Int.not_lt, Int.not_le, Bool.not_eq_true', Bool.not_eq_false'] at hif))
      · have hk2:¬ x.kd = 2:=by simpa using hif
        rw [if_neg hk2] at hvn
        have hrow:OV.map eEv ++ [eEv x.ev] = (O ++ V1).map eEv:=by rw [hvn, ← hOVq];simp
        repeat (first|refine W.gob rfl ?_|refine WL.e1 rfl ?_)
        refine (?_:WL _ _ _ _ _ _)
        dsimp only [St.put, Nat.reduceAdd]
        refine WL.idx rfl rfl (by decide) (r:=eVa x) rfl ?_
        repeat (first|refine W.go rfl ?_|refine WL.ev rfl ?_)
        refine (?_:WL _ _ _ _ _ _)
        dsimp only [St.put, Nat.reduceAdd]
        refine WL.vl rfl (WV.call rfl (callF Tryz.func51 rfl rfl) rfl rfl hcl) ?_
        repeat (first|refine W.go rfl ?_|refine WL.ev rfl ?_|refine WL.app rfl rfl rfl (by first| omega| (simp;done)| (simp;omega)) ?_)
        dsimp only [St.put, Nat.reduceAdd]
        refine (?_:Tr _ _ _)
        exact (Tr.ren (fun q => bif Nat.beq q 3 then 6 else q) (by repeat (first|exact trivial|refine ⟨⟨?_, ?_⟩, ?_⟩| rfl)) (by repeat (first|exact trivial|refine ⟨⟨?_, ?_, ?_⟩, ?_⟩| rfl|exact congrArg (fun q => some (AO.row _ _ q)) hrow)) rfl)
      · have hk2:x.kd = 2:=by simpa using hif
        rw [if_pos hk2, List.append_nil] at hvn
        rw [hvn, hOVq]
        repeat refine W.gob rfl ?_
        refine (?_:Tr _ _ _)
        exact (Tr.ren id (by repeat (first|exact trivial|refine ⟨⟨?_, ?_⟩, ?_⟩| rfl)) (by repeat (first|exact trivial|refine ⟨⟨?_, ?_, ?_⟩, ?_⟩| rfl)) rfl)
    repeat (first|refine W.gob rfl ?_|refine WL.e1 rfl ?_)
    refine (?_:WL _ _ _ _ _ _)
    dsimp only [St.put, Nat.reduceAdd]
    refine WL.partG rfl rfl rfl rfl (fun hp => ?_) (fun hp => ?_)
    · simp only [Bool.and_eq_true] at hp
      refine WL.gyes rfl rfl rfl rfl ?_
      repeat (first|refine WL.e1 rfl ?_|refine WL.gyes rfl rfl rfl rfl ?_)
      refine (?_:WL _ _ _ _ _ _)
      dsimp only [St.put, Nat.reduceAdd]
      refine WL.idx rfl rfl (by decide) (r:=eVa x) rfl ?_
      by_cases hk3:x.kd = 3
      · have hb:(stV (R.take (j + 1)) && sb) = true:=by rw [hsn, hp.1, hp.2, hk3];rfl
        repeat (first|refine W.gob rfl ?_|refine WL.nil ?_|refine WL.bt rfl rfl rfl (by omega) ?_|refine WL.e1 rfl ?_|refine WL.gyes rfl rfl rfl rfl ?_)
        refine (?_:WL _ _ _ _ _ _)
        dsimp only [St.put, Nat.reduceAdd]
        refine WL.part_ rfl rfl ⟨by decide, by simp;omega, Int.le_refl _⟩ hpr ?_
        repeat (first|refine WL.nil ?_|refine WL.e1 rfl ?_)
        dsimp only [St.put, Nat.reduceAdd]
        refine ⟨j + 1, ⟨by omega, hall⟩, by omega, ?_⟩
        rw [d2, hb, hV1]
        exact (Tr.ren id (by repeat (first|exact trivial|refine ⟨⟨?_, ?_⟩, ?_⟩| rfl)) (by repeat (first|exact trivial|refine ⟨⟨?_, ?_, ?_⟩, ?_⟩| rfl)) rfl)
      · have hb:(stV (R.take (j + 1)) && sb) = false:=by
          have:(x.kd == 3) = false:=by simpa using hk3
          rw [hsn, this];simp
        repeat (first|refine W.gob rfl ?_|refine WL.nil ?_|refine WL.bf rfl rfl rfl (by omega) ?_|refine WL.e1 rfl ?_|refine WL.gyes rfl rfl rfl rfl ?_)
        refine (?_:WL _ _ _ _ _ _)
        dsimp only [St.put, Nat.reduceAdd]
        refine WL.part_ rfl rfl ⟨by decide, by simp;omega, Int.le_refl _⟩ hpr ?_
        repeat (first|refine WL.nil ?_|refine WL.e1 rfl ?_)
        dsimp only [St.put, Nat.reduceAdd]
        refine ⟨j + 1, ⟨by omega, hall⟩, by omega, ?_⟩
        rw [d2, hb, hV1]
        exact (Tr.ren id (by repeat (first|exact trivial|refine ⟨⟨?_, ?_⟩, ?_⟩| rfl)) (by repeat (first|exact trivial|refine ⟨⟨?_, ?_, ?_⟩, ?_⟩| rfl)) rfl)
    · have hb:(stV (R.take (j + 1)) && sb) = false:=by
        rw [hsn]
        cases h1:stV (R.take j) with
        | false => simp
        | true =>
          rw [h1] at hp
          have:sb = false:=by simpa using hp
          rw [this];simp
      repeat (first|refine W.gob rfl ?_|refine WL.nil ?_|refine WL.e1 rfl ?_|refine WL.opno rfl rfl rfl rfl rfl rfl rfl ?_)
      refine (?_:WL _ _ _ _ _ _)
      dsimp only [St.put, Nat.reduceAdd]
      refine WL.part_ rfl rfl ⟨by decide, by simp;omega, Int.le_refl _⟩ hpr ?_
      repeat (first|refine WL.nil ?_|refine WL.e1 rfl ?_)
      dsimp only [St.put, Nat.reduceAdd]
      refine ⟨j + 1, ⟨by omega, hall⟩, by omega, ?_⟩
      rw [d2, hb, hV1]
      exact (Tr.ren id (by repeat (first|exact trivial|refine ⟨⟨?_, ?_⟩, ?_⟩| rfl)) (by repeat (first|exact trivial|refine ⟨⟨?_, ?_, ?_⟩, ?_⟩| rfl)) rfl)
  have htw:=take_wh (f:=atV i) hj1 hj2 (fun h => by
    have:=List.drop_eq_getElem_cons h
    rw [hD] at this
    refine decide_eq_false fun hz => hgo ⟨_, _, this, hz⟩)
  have hhd:hdV i R = R.take j:=htw.1
  have htl:tlV i R = D:=by rw [← hD];exact htw.2
  rw [htl] at hS2
  unfold outV at hS1
  rw [hhd] at hS1
  rw [hD]
  obtain ⟨V0, hV0⟩:∃ z, vaE (R.take j) = z:=⟨_, rfl⟩
  rw [hV0] at hvl hS1 ⊢
  obtain ⟨st, hst⟩:∃ z, stV (R.take j) = z:=⟨_, rfl⟩
  rw [hst] at hS1 ⊢
  rw [← List.append_assoc] at hS1
  have hOV:(O ++ V0).length ≤ 300:=by rw [List.length_append];omega
  obtain ⟨OV, hOVq⟩:∃ z, O ++ V0 = z:=⟨_, rfl⟩
  rw [hOVq] at hOV hS1 ⊢
  refine W.seq ?_
  refine W.seqM ⟨[(120, .sc (.bool false)), (1, .ls 8 (D.map eVa)), (12, .sc (.bool (st && sb))), (2, .pt 0 0 0), (4, .pt 1 0 0), (10, .pt 2 0 0), (11, .sc (.int .i64 (i:Nat)))], [(0, .box 28 [.ls 3 (a.cs.map eCrs), .ls 1 (a.st.map eInt), .ls 6 (PE.map eEv)]), (1, .box 28 [.sc (.slice none 0 0), .sc (.slice none 0 0), .sc (.slice none 0 0)]), (2, .box 28 [.ls 3 (a.cs.map eCrs), .ls 1 (a.st.map eInt), .sl 3]), (3, .row 36 6 (OV.map eEv))], 4⟩ ?_ ?_
  · have hno:D = [] ∨ (∃ x r, D = x :: r ∧ ¬ x.pl = (i:Int)):=by
      cases hDc:D with
      | nil => exact .inl rfl
      | cons x r => exact .inr ⟨x, r, rfl, fun h => hgo ⟨x, r, hDc, h⟩⟩
    rcases hno with h| ⟨x, r, h1, h2⟩
    · subst h
      rw [List.map_nil]
      repeat (first|refine W.gob rfl ?_|refine WL.nil ?_|refine WL.e1 rfl ?_|refine WL.opno rfl rfl rfl rfl rfl rfl rfl ?_|refine WL.len rfl rfl (by first|exact List.length_map _|exact List.length_replicate| rfl) ?_)
      dsimp only [St.put, Nat.reduceAdd]
      refine (?_:Tr _ _ _)
      exact (Tr.ren id (by repeat (first|exact trivial|refine ⟨⟨?_, ?_⟩, ?_⟩| rfl)) (by repeat (first|exact trivial|refine ⟨⟨?_, ?_, ?_⟩, ?_⟩| rfl)) rfl)
    · subst h1
      have hlc:(eVa x :: r.map eVa).length = r.length + 1:=by simp
      rw [List.map_cons]
      repeat (first|refine W.gob rfl ?_|refine WL.bt rfl rfl rfl (by omega) ?_|refine WL.e1 rfl ?_|refine WL.gyes rfl rfl rfl rfl ?_|refine WL.len rfl rfl (by first|exact List.length_map _|exact List.length_replicate| rfl) ?_)
      refine (?_:WL _ _ _ _ _ _)
      dsimp only [St.put, Nat.reduceAdd]
      refine WL.idx rfl rfl (by decide) (r:=eVa x) rfl ?_
      repeat (first|refine WL.nil ?_|refine WL.bf rfl rfl rfl (by omega) ?_|refine WL.e1 rfl ?_|refine WL.gyes rfl rfl rfl rfl ?_)
      dsimp only [St.put, Nat.reduceAdd]
      refine (?_:Tr _ _ _)
      exact (Tr.ren id (by repeat (first|exact trivial|refine ⟨⟨?_, ?_⟩, ?_⟩| rfl)) (by repeat (first|exact trivial|refine ⟨⟨?_, ?_, ?_⟩, ?_⟩| rfl)) rfl)
  repeat (first|refine W.go rfl ?_|refine W.condF rfl ?_)
  refine (?_:W _ _ _ _ _)
  dsimp only [St.put, Nat.reduceAdd]
  (refine W.cond rfl (fun hif => ?_) (fun hif => ?_) <;> (try simp only [decide_eq_true_eq, decide_eq_false_iff_not, Int.not_lt, Int.not_le, Bool.not_eq_true', Bool.not_eq_false'] at hif))
  · simp only [Bool.and_eq_true] at hif
    have hil:i < PE.length:=by
      have:=hif.2
      rw [← hsb] at this
      have:=of_decide_eq_true this
      omega
    rw [List.getElem?_eq_getElem hil, hif.1] at hS1
    simp only [if_true] at hS1
    have hrow:OV.map eEv ++ [eEv PE[i]] = (appS PE l (i + 1)).1.map eEv:=by rw [hS1, List.map_append];rfl
    refine (?_:W _ _ _ _ _)
    refine W.dmT 10 [0, 2] (by kernel_rfl) (by kernel_rfl) (by kernel_rfl) (by kernel_rfl) (by kernel_rfl) (by repeat constructor) ?_
    repeat (first|refine DMK.st rfl rfl ?_|refine DMK.idx rfl rfl (by omega) (by first|exact map_at (by omega)|exact map_atZ (by omega) (by omega)) ?_|refine DMK.bd rfl rfl rfl (by repeat constructor) ?_|refine DMK.ap rfl rfl (by first| omega| (simp;done)| (simp;omega)) (by repeat constructor) ?_|refine DMK.nil ?_)
    refine ⟨rfl, ?_⟩
    repeat (first|refine W.go rfl ?_|refine WL.ev rfl ?_|refine WL.ar rfl rfl (by unfold I64;omega) ?_)
    dsimp only [St.put, Nat.reduceAdd]
    refine ⟨i + 1, by omega, by omega, ?_⟩
    rw [hS2]
    exact (Tr.ren (fun q => bif Nat.beq q 3 then 5 else q) (by repeat (first|exact trivial|refine ⟨⟨?_, ?_⟩, ?_⟩| rfl)) (by repeat (first|exact trivial|refine ⟨⟨?_, ?_, ?_⟩, ?_⟩| rfl|exact congrArg (fun q => some (AO.row _ _ q)) hrow)) rfl)
  · have hrow:OV.map eEv = (appS PE l (i + 1)).1.map eEv:=by
      rw [hS1]
      by_cases hil:i < PE.length
      · have hs:sb = true:=by rw [← hsb];exact decide_eq_true (by omega)
        rw [hs, Bool.and_true] at hif
        rw [List.getElem?_eq_getElem hil]
        have:st = false:=by simpa using hif
        rw [this];simp
      · rw [List.getElem?_eq_none (by omega), List.append_nil]
    repeat (first|refine W.gob rfl ?_|refine WL.nil ?_|refine WL.e1 rfl ?_|refine WL.ar rfl rfl (by unfold I64;omega) ?_)
    dsimp only [St.put, Nat.reduceAdd]
    refine ⟨i + 1, by omega, by omega, ?_⟩
    rw [hS2]
    exact (Tr.ren (fun q => q) (by repeat (first|exact trivial|refine ⟨⟨?_, ?_⟩, ?_⟩| rfl)) (by repeat (first|exact trivial|refine ⟨⟨?_, ?_, ?_⟩, ?_⟩| rfl|exact congrArg (fun q => some (AO.row _ _ q)) hrow)) rfl)
end Go.Proofs.YtgelfflighgajaaGreatDoor
namespace Go.Proofs.YtgelfflighgajaaGreatDoor
open Go.RowKit
theorem sm1_FS (e:Ev) (h:e.stops.length≤20):Ctr Tryz.prog 91 [.ag (eEv e),.ag (eEv e)] (.sc (.bool true)):=by
 have hS:=eqStp_FS e.stops e.stops (by omega) (by omega)
 have hd:decide (e.stops=e.stops)=true:=decide_eq_true rfl
 rw [hd] at hS
 refine Ctr.intro Tryz.func91 rfl Tryz.ntmps91 (Nat.le_of_ble_eq_true rfl) (bd_all rfl) fun w0 F0=>?_;dsimp only [St.init,number,Nat.reduceAdd]
 repeat refine W.go rfl ?_
 refine (?_:WL _ _ _ _ _ _)
 dsimp only [St.put,Nat.reduceAdd]
 refine WL.partG rfl rfl rfl rfl (fun hp=>?_) (fun hp=>absurd hp (by simp))
 repeat (first|refine WL.ev rfl ?_|refine WL.gyes rfl rfl rfl rfl ?_)
 refine (?_:WL _ _ _ _ _ _)
 dsimp only [St.put,Nat.reduceAdd]
 refine WL.vl rfl (WV.aeq rfl rfl rfl rfl rfl (by kernel_rfl) (fun w=>eqs_sign _ _ _ _ _ _ w)) ?_
 repeat refine WL.ev rfl ?_
 refine (?_:WL _ _ _ _ _ _)
 dsimp only [St.put,Nat.reduceAdd]
 refine WL.partG rfl rfl rfl rfl (fun hp=>?_) (fun hp=>absurd hp (by simp))
 repeat (first|refine WL.ev rfl ?_|refine WL.gyes rfl rfl rfl rfl ?_)
 refine (?_:WL _ _ _ _ _ _)
 dsimp only [St.put,Nat.reduceAdd]
 refine WL.partG rfl rfl rfl rfl (fun hp=>?_) (fun hp=>absurd hp (by simp))
 repeat (first|refine WL.ev rfl ?_|refine WL.gyes rfl rfl rfl rfl ?_)
 refine (?_:WL _ _ _ _ _ _)
 dsimp only [St.put,Nat.reduceAdd]
 refine WL.vl rfl (WV.call rfl (callF Tryz.func92 rfl rfl) rfl rfl hS) ?_
 repeat refine WL.ev rfl ?_
 refine (?_:W _ _ _ _ _)
 dsimp only [St.put,Nat.reduceAdd]
 exact W.ret (fin1 rfl rfl rfl rfl)
theorem eqF_FS (l:List Ev) (hl:l.length≤1000) (h20:∀ e∈l,e.stops.length≤20):Ctr Tryz.prog 90 [.ls 6 (l.map eEv),.ls 6 (l.map eEv),.sc (.func (.func 91) #[] #[])] (.sc (.bool true)):=by
 refine Ctr.intro Tryz.func90 rfl Tryz.ntmps90 (Nat.le_of_ble_eq_true rfl) (bd_all rfl) fun w0 F0=>?_;dsimp only [St.init,number,Nat.reduceAdd]
 repeat (first|refine W.gob rfl ?_|refine WL.nil ?_|refine WL.nf rfl rfl rfl (by omega) ?_|refine WL.e1 rfl ?_|refine WL.len rfl rfl (by first|exact List.length_map _|exact List.length_replicate|rfl) ?_|refine W.condF rfl ?_)
 refine (?_:W _ _ _ _ _)
 dsimp only [St.put,Nat.reduceAdd]
 refine W.loop (fun k:Nat=>k≤l.length) (fun k=>⟨[(1,.ls 6 (l.map eEv)),(2,.sc (.func (.func 91) #[] #[])),(15,.ls 6 (l.map eEv)),(16,.sc (.int .i64 l.length)),(17,.sc (.int .i64 k))],[],0⟩) (fun k=>l.length - k) 0 (by omega) (Tr.ren id (by repeat (first|exact trivial|refine ⟨⟨?_,?_⟩,?_⟩|rfl)) (by repeat (first|exact trivial|refine ⟨⟨?_,?_,?_⟩,?_⟩|rfl)) rfl) fun k hk=>?_
 by_cases hlt:k < l.length
 ·have h1:=sm1_FS l[k] (h20 _ (List.getElem_mem hlt))
  repeat (first|refine W.gob rfl ?_|refine WL.nil ?_|refine WL.bt rfl rfl rfl (by omega) ?_|refine WL.e1 rfl ?_|refine WL.idx rfl rfl (by omega) (by first|exact map_at (by omega)|exact map_atZ (by omega) (by omega)) ?_|refine W.condT rfl ?_)
  refine (?_:WL _ _ _ _ _ _)
  dsimp only [St.put,Nat.reduceAdd]
  refine WL.vl rfl (WV.callV (truH _) rfl (callF Tryz.func91 rfl rfl) rfl rfl rfl rfl rfl h1.g) ?_
  repeat (first|refine W.go rfl ?_|refine WL.ev rfl ?_|refine WL.ar rfl rfl (by unfold I64;omega) ?_|refine W.condF rfl ?_)
  dsimp only [St.put,Nat.reduceAdd]
  exact ⟨k+1,by omega,by omega,(Tr.ren id (by repeat (first|exact trivial|refine ⟨⟨?_,?_⟩,?_⟩|rfl)) (by repeat (first|exact trivial|refine ⟨⟨?_,?_,?_⟩,?_⟩|rfl)) rfl)⟩
 ·obtain rfl:k=l.length:=by omega
  repeat (first|refine W.gob rfl ?_|refine WL.nil ?_|refine WL.bf rfl rfl rfl (by omega) ?_|refine WL.e1 rfl ?_|refine W.condF rfl ?_)
  refine (?_:W _ _ _ _ _)
  dsimp only [St.put,Nat.reduceAdd]
  exact W.ret (fin1 rfl rfl rfl rfl)
theorem pSame_FS (p:Pce) (hO:PcOk p):Ctr Tryz.prog 41 [ePce p,ePce p] (.sc (.bool true)):=by
 have hI:=pSameI_FS p.cs p.st p.cs p.st hO.n1 hO.n2 hO.n1 hO.n2
 have hd:sameI p.cs p.st p.cs p.st=true:=decide_eq_true ⟨rfl,rfl⟩
 rw [hd] at hI
 have hn:=hO.n3
 have hE:=eqF_FS p.evs (by omega) (fun e he=>by
  obtain ⟨k,hk,rfl⟩:=List.getElem_of_mem he
  exact hO.n4 k hk)
 refine Ctr.intro Tryz.func41 rfl Tryz.ntmps41 (Nat.le_of_ble_eq_true rfl) (bd_all rfl) fun w0 F0=>?_;dsimp only [St.init,number,Nat.reduceAdd]
 repeat refine W.go rfl ?_
 refine (?_:WL _ _ _ _ _ _)
 dsimp only [St.put,Nat.reduceAdd]
 refine WL.vl rfl (WV.call rfl (callF Tryz.func89 rfl rfl) rfl rfl hI) ?_
 repeat (first|refine WL.ev rfl ?_|refine WL.gyes rfl rfl rfl rfl ?_)
 refine (?_:WL _ _ _ _ _ _)
 dsimp only [St.put,Nat.reduceAdd]
 refine WL.vl rfl (WV.call rfl (callF Tryz.func90 rfl rfl) rfl rfl hE) ?_
 repeat refine WL.ev rfl ?_
 refine (?_:W _ _ _ _ _)
 dsimp only [St.put,Nat.reduceAdd]
 exact W.ret (fin1 rfl rfl rfl rfl)
end Go.Proofs.YtgelfflighgajaaGreatDoor
namespace Go.Proofs.YtgelfflighgajaaGreatDoor
open Go.RowKit
theorem longR60 {p:Pce} (h:longB p=false):p.evs.length≤60:=by
 unfold longB at h
 simp only [Bool.or_eq_false_iff,decide_eq_false_iff_not]at h
 omega
theorem rs_va {a b:Pce} (hOb:PcOk b) (h60a:a.evs.length≤60) (h60b:b.evs.length≤60):VaLs (vrsL a b):=by
 unfold vrsL
 split
 ·have h1:=vrS_len (x:=plE a) (y:=plE b) (prsA (plE a) (plE b)) 0
  have h2:=prs_len' (a:=plE a) (b:=plE b) ((plE a).length+(plE b).length) 0 0
  have e1:=plE_length a
  have e2:=plE_length b
  unfold prsA at h1 ⊢
  exact ⟨by omega,vrS_20 (plE_20 hOb) _ _⟩
 ·exact ⟨by simp,fun v hv=>by cases hv⟩
theorem rs_ap {a b:Pce} (ha:pceE a=0) (hb:pceE b=0) (hs:sameI a.cs a.st b.cs b.st=true):apX a (vrsL a b)=0∧apP a (vrsL a b)=plP b:=by
 obtain ⟨hx,_⟩:=cll_4 ha hb hs
 obtain ⟨h1,h2⟩:a.cs=b.cs∧a.st=b.st:=of_decide_eq_true hs
 have e1:vrsL a b=vrS (plE a) (plE b) (prsA (plE a) (plE b)) 0:=if_pos hx
 have hf:=vrS_fit (a:=plE a) (b:=plE b)
 rw [plE_length] at hf
 have hO:apO a (vrsL a b)=⟨b.cs,b.st,plE b⟩:=by
  unfold apO
  rw [e1,restores,h1,h2]
 have hX:apX a (vrsL a b)=0:=by
  rw [apX_ok ha (by rw [e1];exact hf),hO,pceE_pl hb]
 refine ⟨hX,?_⟩
 unfold apP plP
 rw [if_pos hX,if_pos hb,hO]
theorem rs_own {a:Pce} (ha:pceE a=0):cllX a a=0∧vrsL a a=[]:=by
 obtain ⟨hx,_⟩:=cll_4 ha ha (show sameI a.cs a.st a.cs a.st=true from decide_eq_true ⟨rfl,rfl⟩)
 refine ⟨hx,?_⟩
 unfold vrsL
 rw [if_pos hx,own_none]
theorem plP_ok {p:Pce} (hO:PcOk p)(h0:pceE p=0):PcOk (plP p):=by
 have e:plP p =⟨p.cs,p.st,plE p⟩:=if_pos h0
 have hl:=plE_length p
 have hn:=hO.n3
 rw [e]
 refine⟨hO.n1,hO.n2,by show (plE p).length≤_;omega,fun k hk=>plE_20 hO _ (List.getElem_mem hk)⟩
theorem restores_G (a b:Pce):Ctg tabB Tryz.prog 11 [ePce a,ePce b] (.sc (.bool true)):=by
 have hLa:=long_FS a
 have hLb:=long_FS b
 cases hla:longB a with
 | true =>
  rw [hla] at hLa
  refine Ctg.intro stabB Tryz.func11 rfl Tryz.ntmps11 (Nat.le_of_ble_eq_true rfl) (bd_all rfl) fun w0 F0 hB=>?_;dsimp only [St.init,number,Nat.reduceAdd]
  repeat refine W.go rfl ?_
  refine (?_:WL _ _ _ _ _ _)
  dsimp only [St.put,Nat.reduceAdd]
  refine WL.vl rfl (WV.call rfl (callF Tryz.func14 rfl rfl) rfl rfl hLa) ?_
  repeat (first|refine W.gob rfl ?_|refine WL.nil ?_|refine WL.e1 rfl ?_|refine WL.opno rfl rfl rfl rfl rfl rfl rfl ?_|refine W.condT rfl ?_)
  refine (?_:WL _ _ _ _ _ _)
  dsimp only [St.put,Nat.reduceAdd]
  refine WL.vl rfl (WV.callG hB rfl (callF Tryz.func15 rfl rfl) rfl rfl works11_G) ?_
  repeat refine WL.ev rfl ?_
  refine (?_:W _ _ _ _ _)
  dsimp only [St.put,Nat.reduceAdd]
  exact W.ret (fin1 rfl rfl rfl rfl)
 | false =>
 rw [hla] at hLa
 cases hlb:longB b with
 | true =>
  rw [hlb] at hLb
  refine Ctg.intro stabB Tryz.func11 rfl Tryz.ntmps11 (Nat.le_of_ble_eq_true rfl) (bd_all rfl) fun w0 F0 hB=>?_;dsimp only [St.init,number,Nat.reduceAdd]
  repeat refine W.go rfl ?_
  refine (?_:WL _ _ _ _ _ _)
  dsimp only [St.put,Nat.reduceAdd]
  refine WL.vl rfl (WV.call rfl (callF Tryz.func14 rfl rfl) rfl rfl hLa) ?_
  repeat (first|refine WL.e1 rfl ?_|refine WL.gyes rfl rfl rfl rfl ?_)
  refine (?_:WL _ _ _ _ _ _)
  dsimp only [St.put,Nat.reduceAdd]
  refine WL.vl rfl (WV.call rfl (callF Tryz.func14 rfl rfl) rfl rfl hLb) ?_
  repeat (first|refine W.gob rfl ?_|refine WL.nil ?_|refine WL.e1 rfl ?_|refine WL.opno rfl rfl rfl rfl rfl rfl rfl ?_|refine W.condT rfl ?_)
  refine (?_:WL _ _ _ _ _ _)
  dsimp only [St.put,Nat.reduceAdd]
  refine WL.vl rfl (WV.callG hB rfl (callF Tryz.func15 rfl rfl) rfl rfl works11_G) ?_
  repeat refine WL.ev rfl ?_
  refine (?_:W _ _ _ _ _)
  dsimp only [St.put,Nat.reduceAdd]
  exact W.ret (fin1 rfl rfl rfl rfl)
 | false =>
 rw [hlb] at hLb
 have hOa:=pcOk_of3 hla
 have hOb:=pcOk_of3 hlb
 have h60a:=longR60 hla
 have h60b:=longR60 hlb
 have hCa:=rCheck_FS a hOa
 have hCb:=rCheck_FS b hOb
 by_cases ha:pceE a=0
 rotate_left
 ·obtain ⟨E,hE⟩:∃ E,pceE a=E:=⟨_,rfl⟩
  rw [hE] at ha hCa
  refine Ctg.intro stabB Tryz.func11 rfl Tryz.ntmps11 (Nat.le_of_ble_eq_true rfl) (bd_all rfl) fun w0 F0 hB=>?_;dsimp only [St.init,number,Nat.reduceAdd]
  repeat refine W.go rfl ?_
  refine (?_:WL _ _ _ _ _ _)
  dsimp only [St.put,Nat.reduceAdd]
  refine WL.vl rfl (WV.call rfl (callF Tryz.func14 rfl rfl) rfl rfl hLa) ?_
  repeat (first|refine WL.e1 rfl ?_|refine WL.gyes rfl rfl rfl rfl ?_)
  refine (?_:WL _ _ _ _ _ _)
  dsimp only [St.put,Nat.reduceAdd]
  refine WL.vl rfl (WV.call rfl (callF Tryz.func14 rfl rfl) rfl rfl hLb) ?_
  repeat (first|refine WL.e1 rfl ?_|refine WL.gyes rfl rfl rfl rfl ?_)
  refine (?_:WL _ _ _ _ _ _)
  dsimp only [St.put,Nat.reduceAdd]
  refine WL.vl rfl (WV.call rfl (callF Tryz.func28 rfl rfl) rfl rfl hCa) ?_
  repeat (first|refine W.gob rfl ?_|refine WL.nil ?_|refine WL.nt rfl rfl rfl (by omega) ?_|refine WL.e1 rfl ?_|refine WL.gyes rfl rfl rfl rfl ?_|refine WL.opno rfl rfl rfl rfl rfl rfl rfl ?_|refine W.condT rfl ?_)
  refine (?_:WL _ _ _ _ _ _)
  dsimp only [St.put,Nat.reduceAdd]
  refine WL.vl rfl (WV.callG hB rfl (callF Tryz.func15 rfl rfl) rfl rfl works11_G) ?_
  repeat refine WL.ev rfl ?_
  refine (?_:W _ _ _ _ _)
  dsimp only [St.put,Nat.reduceAdd]
  exact W.ret (fin1 rfl rfl rfl rfl)
 rw [ha] at hCa
 by_cases hb:pceE b=0
 rotate_left
 ·obtain ⟨E,hE⟩:∃ E,pceE b=E:=⟨_,rfl⟩
  rw [hE] at hb hCb
  refine Ctg.intro stabB Tryz.func11 rfl Tryz.ntmps11 (Nat.le_of_ble_eq_true rfl) (bd_all rfl) fun w0 F0 hB=>?_;dsimp only [St.init,number,Nat.reduceAdd]
  repeat refine W.go rfl ?_
  refine (?_:WL _ _ _ _ _ _)
  dsimp only [St.put,Nat.reduceAdd]
  refine WL.vl rfl (WV.call rfl (callF Tryz.func14 rfl rfl) rfl rfl hLa) ?_
  repeat (first|refine WL.e1 rfl ?_|refine WL.gyes rfl rfl rfl rfl ?_)
  refine (?_:WL _ _ _ _ _ _)
  dsimp only [St.put,Nat.reduceAdd]
  refine WL.vl rfl (WV.call rfl (callF Tryz.func14 rfl rfl) rfl rfl hLb) ?_
  repeat (first|refine WL.e1 rfl ?_|refine WL.gyes rfl rfl rfl rfl ?_)
  refine (?_:WL _ _ _ _ _ _)
  dsimp only [St.put,Nat.reduceAdd]
  refine WL.vl rfl (WV.call rfl (callF Tryz.func28 rfl rfl) rfl rfl hCa) ?_
  repeat (first|refine WL.nf rfl rfl rfl (by omega) ?_|refine WL.e1 rfl ?_|refine WL.gyes rfl rfl rfl rfl ?_)
  refine (?_:WL _ _ _ _ _ _)
  dsimp only [St.put,Nat.reduceAdd]
  refine WL.vl rfl (WV.call rfl (callF Tryz.func28 rfl rfl) rfl rfl hCb) ?_
  repeat (first|refine W.gob rfl ?_|refine WL.nil ?_|refine WL.nt rfl rfl rfl (by omega) ?_|refine WL.e1 rfl ?_|refine WL.gyes rfl rfl rfl rfl ?_|refine WL.opno rfl rfl rfl rfl rfl rfl rfl ?_|refine W.condT rfl ?_)
  refine (?_:WL _ _ _ _ _ _)
  dsimp only [St.put,Nat.reduceAdd]
  refine WL.vl rfl (WV.callG hB rfl (callF Tryz.func15 rfl rfl) rfl rfl works11_G) ?_
  repeat refine WL.ev rfl ?_
  refine (?_:W _ _ _ _ _)
  dsimp only [St.put,Nat.reduceAdd]
  exact W.ret (fin1 rfl rfl rfl rfl)
 rw [hb] at hCb
 have hSI:=rSameI_FS a.cs a.st b.cs b.st hOa.n1 hOa.n2 hOb.n1 hOb.n2
 cases hs:sameI a.cs a.st b.cs b.st with
 | false =>
  rw [hs] at hSI
  refine Ctg.intro stabB Tryz.func11 rfl Tryz.ntmps11 (Nat.le_of_ble_eq_true rfl) (bd_all rfl) fun w0 F0 hB=>?_;dsimp only [St.init,number,Nat.reduceAdd]
  repeat refine W.go rfl ?_
  refine (?_:WL _ _ _ _ _ _)
  dsimp only [St.put,Nat.reduceAdd]
  refine WL.vl rfl (WV.call rfl (callF Tryz.func14 rfl rfl) rfl rfl hLa) ?_
  repeat (first|refine WL.e1 rfl ?_|refine WL.gyes rfl rfl rfl rfl ?_)
  refine (?_:WL _ _ _ _ _ _)
  dsimp only [St.put,Nat.reduceAdd]
  refine WL.vl rfl (WV.call rfl (callF Tryz.func14 rfl rfl) rfl rfl hLb) ?_
  repeat (first|refine WL.e1 rfl ?_|refine WL.gyes rfl rfl rfl rfl ?_)
  refine (?_:WL _ _ _ _ _ _)
  dsimp only [St.put,Nat.reduceAdd]
  refine WL.vl rfl (WV.call rfl (callF Tryz.func28 rfl rfl) rfl rfl hCa) ?_
  repeat (first|refine WL.nf rfl rfl rfl (by omega) ?_|refine WL.e1 rfl ?_|refine WL.gyes rfl rfl rfl rfl ?_)
  refine (?_:WL _ _ _ _ _ _)
  dsimp only [St.put,Nat.reduceAdd]
  refine WL.vl rfl (WV.call rfl (callF Tryz.func28 rfl rfl) rfl rfl hCb) ?_
  repeat (first|refine WL.nf rfl rfl rfl (by omega) ?_|refine WL.e1 rfl ?_|refine WL.gyes rfl rfl rfl rfl ?_)
  refine (?_:WL _ _ _ _ _ _)
  dsimp only [St.put,Nat.reduceAdd]
  refine WL.vl rfl (WV.call rfl (callF Tryz.func29 rfl rfl) rfl rfl hSI) ?_
  repeat (first|refine W.gob rfl ?_|refine WL.nil ?_|refine WL.e1 rfl ?_|refine WL.gyes rfl rfl rfl rfl ?_|refine W.condT rfl ?_)
  refine (?_:WL _ _ _ _ _ _)
  dsimp only [St.put,Nat.reduceAdd]
  refine WL.vl rfl (WV.callG hB rfl (callF Tryz.func15 rfl rfl) rfl rfl works11_G) ?_
  repeat refine WL.ev rfl ?_
  refine (?_:W _ _ _ _ _)
  dsimp only [St.put,Nat.reduceAdd]
  exact W.ret (fin1 rfl rfl rfl rfl)
 | true =>
 rw [hs] at hSI
 have hV:=pVariants_FS a b hOa hOb h60a h60b
 rw [(cll_4 ha hb hs).1] at hV
 have hA:=pApply_FS a hOa h60a (vrsL a b) (rs_va hOb h60a h60b)
 rw [(rs_ap ha hb hs).1,(rs_ap ha hb hs).2] at hA
 have hPl:=pPlain_FS b hOb
 rw [hb] at hPl
 have hOw:=pVariants_FS a a hOa hOa h60a h60a
 rw [(rs_own ha).1,(rs_own ha).2] at hOw
 have hS:=pSame_FS (plP b) (plP_ok hOb hb)
 obtain ⟨L,hL⟩:∃ z,vrsL a b=z:=⟨_,rfl⟩
 obtain ⟨Y,hY⟩:∃ z,plP b=z:=⟨_,rfl⟩
 rw [hL] at hV hA
 rw [hY] at hA hPl hS
 refine Ctg.intro stabB Tryz.func11 rfl Tryz.ntmps11 (Nat.le_of_ble_eq_true rfl) (bd_all rfl) fun w0 F0 hB=>?_;dsimp only [St.init,number,Nat.reduceAdd]
 repeat refine W.go rfl ?_
 refine (?_:WL _ _ _ _ _ _)
 dsimp only [St.put,Nat.reduceAdd]
 refine WL.vl rfl (WV.call rfl (callF Tryz.func14 rfl rfl) rfl rfl hLa) ?_
 repeat (first|refine WL.e1 rfl ?_|refine WL.gyes rfl rfl rfl rfl ?_)
 refine (?_:WL _ _ _ _ _ _)
 dsimp only [St.put,Nat.reduceAdd]
 refine WL.vl rfl (WV.call rfl (callF Tryz.func14 rfl rfl) rfl rfl hLb) ?_
 repeat (first|refine WL.e1 rfl ?_|refine WL.gyes rfl rfl rfl rfl ?_)
 refine (?_:WL _ _ _ _ _ _)
 dsimp only [St.put,Nat.reduceAdd]
 refine WL.vl rfl (WV.call rfl (callF Tryz.func28 rfl rfl) rfl rfl hCa) ?_
 repeat (first|refine WL.nf rfl rfl rfl (by omega) ?_|refine WL.e1 rfl ?_|refine WL.gyes rfl rfl rfl rfl ?_)
 refine (?_:WL _ _ _ _ _ _)
 dsimp only [St.put,Nat.reduceAdd]
 refine WL.vl rfl (WV.call rfl (callF Tryz.func28 rfl rfl) rfl rfl hCb) ?_
 repeat (first|refine WL.nf rfl rfl rfl (by omega) ?_|refine WL.e1 rfl ?_|refine WL.gyes rfl rfl rfl rfl ?_)
 refine (?_:WL _ _ _ _ _ _)
 dsimp only [St.put,Nat.reduceAdd]
 refine WL.vl rfl (WV.call rfl (callF Tryz.func29 rfl rfl) rfl rfl hSI) ?_
 repeat (first|refine W.gob rfl ?_|refine WL.nil ?_|refine WL.e1 rfl ?_|refine WL.gyes rfl rfl rfl rfl ?_|refine W.condF rfl ?_)
 refine (?_:W _ _ _ _ _)
 dsimp only [St.put,Nat.reduceAdd]
 refine W.drawK (by kernel_rfl) (by kernel_rfl) ?_
 repeat refine DK.st rfl ?_
 refine DK.vl rfl (WV.call rfl (callF Tryz.func17 rfl rfl) rfl rfl (pcCopy_FS a hOa)) ?_
 repeat refine DK.st rfl ?_
 refine DK.vl rfl (WV.call rfl (callF Tryz.func17 rfl rfl) rfl rfl (pcCopy_FS b hOb)) ?_
 refine DK.vl rfl (WV.call rfl (callF Tryz.func35 rfl rfl) rfl rfl hV) ?_
 repeat (first|refine DK.st rfl ?_|refine DK.nil ?_)
 repeat refine W.go rfl ?_
 refine (?_:WL _ _ _ _ _ _)
 dsimp only [St.put,Nat.reduceAdd]
 refine WL.vl rfl (WV.call rfl (callF Tryz.func17 rfl rfl) rfl rfl (pcCopy_FS a hOa)) ?_
 repeat refine WL.ev rfl ?_
 refine (?_:WL _ _ _ _ _ _)
 dsimp only [St.put,Nat.reduceAdd]
 refine WL.vl rfl (WV.call rfl (callF Tryz.func16 rfl rfl) rfl rfl hA) ?_
 repeat (first|refine W.go rfl ?_|refine WL.ev rfl ?_)
 refine (?_:WL _ _ _ _ _ _)
 dsimp only [St.put,Nat.reduceAdd]
 refine WL.vl rfl (WV.call rfl (callF Tryz.func17 rfl rfl) rfl rfl (pcCopy_FS b hOb)) ?_
 refine (?_:WL _ _ _ _ _ _)
 dsimp only [St.put,Nat.reduceAdd]
 refine WL.vl rfl (WV.call rfl (callF Tryz.func40 rfl rfl) rfl rfl hPl) ?_
 repeat (first|refine W.go rfl ?_|refine WL.ev rfl ?_)
 refine (?_:W _ _ _ _ _)
 dsimp only [St.put,Nat.reduceAdd]
 refine W.drawK (by kernel_rfl) (by kernel_rfl) ?_
 repeat refine DK.st rfl ?_
 refine DK.vl rfl (WV.call rfl (callF Tryz.func17 rfl rfl) rfl rfl (pcCopy_FS a hOa)) ?_
 repeat refine DK.st rfl ?_
 refine DK.vl rfl (WV.call rfl (callF Tryz.func17 rfl rfl) rfl rfl (pcCopy_FS a hOa)) ?_
 refine DK.vl rfl (WV.call rfl (callF Tryz.func35 rfl rfl) rfl rfl hOw) ?_
 repeat (first|refine DK.st rfl ?_|refine DK.nil ?_)
 repeat (first|refine W.gob rfl ?_|refine WL.bt rfl rfl rfl (by omega) ?_|refine WL.e1 rfl ?_|refine WL.gyes rfl rfl rfl rfl ?_)
 refine (?_:WL _ _ _ _ _ _)
 dsimp only [St.put,Nat.reduceAdd]
 refine WL.vl rfl (WV.call rfl (callF Tryz.func41 rfl rfl) rfl rfl hS) ?_
 repeat (first|refine WL.e1 rfl ?_|refine WL.gyes rfl rfl rfl rfl ?_|refine WL.len rfl rfl (by first|exact List.length_map _|exact List.length_replicate|rfl) ?_)
 refine (?_:WL _ _ _ _ _ _)
 dsimp only [St.put,Nat.reduceAdd]
 refine WL.vl rfl (WV.callG hB rfl (callF Tryz.func15 rfl rfl) rfl rfl works11_G) ?_
 repeat refine WL.ev rfl ?_
 refine (?_:W _ _ _ _ _)
 dsimp only [St.put,Nat.reduceAdd]
 exact W.ret (fin1 rfl rfl rfl rfl)
end Go.Proofs.YtgelfflighgajaaGreatDoor
