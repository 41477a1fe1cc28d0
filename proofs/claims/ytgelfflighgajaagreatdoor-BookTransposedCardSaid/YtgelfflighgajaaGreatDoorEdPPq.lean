/- book.Edition: the plain part. -/
import Derived.Test.YtgelfflighgajaaGreatDoorEdAPq
import Derived.Test.YtgelfflighgajaaGreatDoorClmPq
set_option maxHeartbeats 4000000
set_option maxRecDepth 100000
set_option linter.unusedVariables false
set_option linter.unusedSimpArgs false
namespace Go.Proofs.YtgelfflighgajaaGreatDoor
open Go.RowKit
def mAt (MS:List Me):Nat→Nat
 | 0=>0
 | k+1=>nextF MS k (mAt MS k)
def rsT (L:List Sf):Nat→List Sf
 | 0=>L
 | k+1=>(rsT L k).dropWhile fun x=>decide (x.1=(k:Int))
def nmK (L:List Sf)(k:Nat):List (List UInt8):=((rsT L k).takeWhile fun x=>decide (x.1=(k:Int))).map sfT
def evT (L:List Sf)(k:Nat)(e:Ev):List UInt8:=if nmK L k=[] then (if e.tie=true then [126] else [37]) else Lib.join (nmK L k) [43]
def fstK (MS:List Me)(k:Nat):Nat:=(((MS[mAt MS (k+1)-1]?).map fun x:Me=>x.1).getD 0).toNat
def sinK (evs:List Ev)(MS:List Me)(k:Nat):Int:=onsAt evs k-onsAt evs (fstK MS k)
def edR (evs:List Ev)(MS:List Me)(L:List Sf)(c:List UInt8)(k:Nat)(e:Ev):List UInt8 :=
 Lib.itoa (mAt MS (k+1):Nat)++[58]++Lib.itoa (sinK evs MS k)++[32]++evT L k e++[32,59,32]++c++[10]
def edN (s:Int)(p:Pce)(MS:List Me)(L:List Sf)(k:Nat):List UInt8:=(match p.evs[k]? with
 | some e=>edR p.evs MS L (colS s p k e) k e
 | none=>[])
def edB(s:Int)(p:Pce)(MS:List Me)(L:List Sf):Nat→List UInt8
 | 0=>[]
 | k+1=>edB s p MS L k++edN s p MS L k
def edX(s:Int)(p:Pce)(key:Int):Int:=if 1≤s∧s≤4 then(if engX p key≠0 then engX p key else if lksR s p=[]then 0 else 31)else 30
def edT (s:Int) (p:Pce) (key:Int):List UInt8:=if edX s p key=0 then edB s p (mea p.evs p.evs.length) (engL p key) p.evs.length else []
theorem edN_at {s:Int} {p:Pce} {MS:List Me} {L:List Sf} {k:Nat} (h:k<p.evs.length):edN s p MS L k=edR p.evs MS L (colS s p k p.evs[k]) k p.evs[k]:=by unfold edN;rw [List.getElem?_eq_getElem h]
theorem rsT_sub (L:List Sf):∀ k,(∀ x∈rsT L k,x∈L)∧(rsT L k).length≤L.length
 | 0=>⟨fun _ h=>h,Nat.le_refl _⟩
 | k+1=>by
  obtain ⟨h1,h2⟩:=rsT_sub L k
  refine ⟨fun x hx=>h1 x ((List.dropWhile_sublist _).subset hx),?_⟩
  have:=(List.dropWhile_sublist (fun x:Sf=>decide (x.1=(k:Int))) (l:=rsT L k)).length_le
  unfold rsT
  omega
theorem sfT_len {x:Sf} (h:SfOk x):(sfT x).length≤22:=by
 have h1:(cut ltrs x.2.1 (x.2.1+1)).length≤1:=cut_ltr
 have h2:(sgX x.2.2.2).length≤1:=by unfold sgX;split<;>(try split)<;>(try split)<;>simp
 have h3:=itoa_len (n:=x.2.2.1) (by have:=h.2.1;unfold I64 at this;omega)
 unfold sfT
 simp only [List.length_append];omega
theorem joinTail_len (sep:List UInt8)(hs:sep.length≤1):∀ (l:List (List UInt8)),(∀ t∈l,t.length≤22)→(Lib.joinTail sep l).length≤23*l.length
 | [],_=>by simp [Lib.joinTail]
 | a::r,h=>by
  have h1:=h a (by simp)
  have h2:=joinTail_len sep hs r fun t ht=>h t (by simp [ht])
  unfold Lib.joinTail at h2 ⊢
  rw [List.map_cons,List.flatten_cons,List.length_append,List.length_append,List.length_cons]
  omega
theorem join_len (sep:List UInt8)(hs:sep.length≤1)(l:List (List UInt8))(h:∀ t∈l,t.length≤22):(Lib.join l sep).length≤23*l.length:=by
 cases l with
 | nil=>rw [Lib.join_nil];simp
 | cons x r =>
  rw [Lib.join_cons,List.length_append,List.length_cons]
  have h1:=h x (by simp)
  have h2:=joinTail_len sep hs r fun t ht=>h t (by simp [ht])
  omega
theorem nmK_len {L:List Sf} (h:∀ x∈L,SfOk x) (hl:L.length≤8400) (k:Nat):(nmK L k).length≤8400∧∀ t∈nmK L k,t.length≤22:=by
 obtain ⟨h1,h2⟩:=rsT_sub L k
 have h3:=List.takeWhile_sublist (fun x:Sf=>decide (x.1=(k:Int))) (l:=rsT L k)
 refine ⟨?_,fun t ht=>?_⟩
 ·unfold nmK
  rw [List.length_map]
  have:=h3.length_le
  omega
 ·unfold nmK at ht
  obtain ⟨x,hx,rfl⟩:=List.mem_map.1 ht
  exact sfT_len (h x (h1 x (h3.subset hx)))
theorem evT_len {L:List Sf} (h:∀ x∈L,SfOk x) (hl:L.length≤8400) (k:Nat) (e:Ev):(evT L k e).length≤200000:=by
 obtain ⟨h1,h2⟩:=nmK_len h hl k
 have h3:=join_len [43] (by simp) (nmK L k) h2
 unfold evT
 split
 ·split<;>simp
 ·omega
theorem accN_bd(a:Int):0≤accN a∧accN a≤3:=by unfold accN;split<;>(try split)<;>omega
theorem spV_sf {q key:Int} (h:spX q key=0) (ev a:Int) (ha:0≤a∧a≤3):SfOk (ev,(spV q key).1,(spV q key).2.2,a):=by
 have hI:∀ z:Int,-1≤z∧z≤9→I64 z:=fun z hz=>by unfold I64;omega
 unfold spV
 rw [if_pos h]
 cases hp:spP q key with
 | none=>exact ⟨⟨Int.le_refl 0,by show (0:Int)≤6;decide⟩,hI 0 ⟨by decide,by decide⟩,ha⟩
 | some r =>
  have:=(sndOk_of (spP_of hp).1).1
  exact ⟨this.1,hI _ this.2.2,ha⟩
theorem engS_sf {key:Int} {MS:List Me}:∀ (L:List Nt)(s:ES),(∀ n∈L,spX n.2.2.1 key=0)→(∀ x∈s.out,SfOk x)→∀ x∈(L.foldl (engN key MS) s).out,SfOk x
 | [],s,_,h=>h
 | n::r,s,hl,h=>by
  rw [List.foldl_cons]
  refine engS_sf r _ (fun y hy=>hl y (by simp [hy])) fun x hx=>?_
  have hn:=hl n (by simp)
  unfold engN putE at hx
  split at hx
  ·rcases List.mem_append.1 hx with hx|hx
   ·exact h x hx
   ·rw [List.mem_singleton] at hx;subst hx;exact spV_sf hn _ _ (by decide)
  ·rcases List.mem_append.1 hx with hx|hx
   ·exact h x hx
   ·rw [List.mem_singleton] at hx;subst hx;exact spV_sf hn _ _ (accN_bd _)
theorem engL_ok {p:Pce} (hO:PcOk p) {key:Int} (h:engX p key=0):pceE p=0∧(∀ x∈engL p key,SfOk x)∧(engL p key).length≤8400:=by
 have h0:pceE p=0:=by
  by_cases h1:pceE p=0
  ·exact h1
  ·unfold engX at h;rw [if_neg h1] at h;exact absurd h h1
 have hb:engB key (notesR p p.evs.length)=false:=by
  unfold engX at h
  rw [if_pos h0] at h
  split at h
  ·cases h
  ·cases hq:engB key (notesR p p.evs.length) with
   | false=>rfl
   | true=>rw [hq] at h;cases h
 have hall:∀ n∈notesR p p.evs.length,spX n.2.2.1 key=0:=fun n hn=>by
  have:=(List.any_eq_false.1 hb) n hn
  simpa using this
 have e:engL p key=(engS key (mea p.evs p.evs.length) (notesR p p.evs.length)).out:=if_pos h
 rw [e]
 refine ⟨h0,engS_sf _ _ hall (fun x hx=>by cases hx),?_⟩
 have h2:=(engS_ok (key:=key) (MS:=mea p.evs p.evs.length) _ ⟨[],0,[]⟩ hall AltOk.nil).2
 have h3:=notesR_len hO h0
 unfold engS
 rw [h2]
 simp;omega
theorem bumpM_head (t:Int)(x:Me)(r:List Me):∃ y q,bumpM t (x::r)=y::q∧y.1=x.1:=by
 cases r with
 | nil=>exact⟨_,_,rfl,rfl⟩
 | cons z q=>exact⟨_,_,rfl,rfl⟩
theorem mea_head (evs:List Ev):∀ k,∃ x r,mea evs (k+1)=x::r∧x.1=0
 | 0=>by
  obtain ⟨y,q,h1,h2⟩:=bumpM_head (frc 0 (evs.take 1)) (0,0,0) []
  exact ⟨y,q,h1,h2⟩
 | k+1=>by
  obtain ⟨x,r,h1,h2⟩:=mea_head evs k
  rw [mea]
  split
  ·rw [h1]
   obtain ⟨y,q,h3,h4⟩:=bumpM_head (frc 0 (evs.take (k+1+1))) x (r++[(((k+1:Nat):Int),0,0)])
   exact ⟨y,q,h3,h4.trans h2⟩
  ·rw [h1]
   obtain ⟨y,q,h3,h4⟩:=bumpM_head (frc 0 (evs.take (k+1+1))) x r
   exact ⟨y,q,h3,h4.trans h2⟩
theorem take_drop_while {α:Type} {f:α→Bool}:∀ {l:List α} {q:Nat},q≤l.length→(∀ x∈l.take q,f x=true)→(∀ h:q<l.length,f l[q]=false)→l.takeWhile f=l.take q∧l.dropWhile f=l.drop q
 | [],q,h,_,_=>by simp at h;simp
 | x::r,0,h,h1,h2=>by
  have:=h2 (by simp)
  simp at this
  simp [List.takeWhile_cons,List.dropWhile_cons,this]
 | x::r,q+1,h,h1,h2=>by
  have hx:=h1 x (by simp)
  obtain ⟨a,b⟩:=take_drop_while (l:=r) (q:=q) (by simpa using h) (fun y hy=>h1 y (by simp [hy])) (fun hq=>by have:=h2 (by simpa using hq);simpa using this)
  simp [List.takeWhile_cons,List.dropWhile_cons,hx,a,b]
end Go.Proofs.YtgelfflighgajaaGreatDoor
