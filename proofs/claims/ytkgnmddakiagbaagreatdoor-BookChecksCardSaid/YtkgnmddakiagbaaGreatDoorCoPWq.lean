/- The column of an event: plain words. -/
import Derived.Test.YtkgnmddakiagbaaGreatDoorSmWq
import Derived.Test.YtkgnmddakiagbaaGreatDoorNtQWq
set_option linter.unusedVariables false
set_option linter.unusedSimpArgs false
namespace Go.Proofs.YtkgnmddakiagbaaGreatDoor
open Go.RowKit
set_option maxHeartbeats 4000000
set_option maxRecDepth 100000
theorem crsE_p {st:List Int}:∀ {cs:List (Int×Int×Bool)},crsE st cs=0→∀ k (h:k<cs.length),0≤cs[k].1∧cs[k].1≤127:=by
 intro cs
 induction cs with
 | nil=>intro _ k h;simp at h
 | cons x r ih =>
  intro h k hk
  unfold crsE at h
  by_cases h1:x.2.1<0∨(st.length:Int)<x.2.1
  ·rw [if_pos h1] at h;cases h
  ·rw [if_neg h1] at h
   by_cases h2:(x.1<0∨127<x.1)∨127<topOf st x
   ·rw [if_pos h2] at h;cases h
   ·rw [if_neg h2] at h
    cases k with
    | zero=>simp;omega
    | succ k=>simpa using ih h k (by simpa using hk)
theorem stopped_FS (cs:List (Int×Int×Bool)) (st:List Int) (x:Int×Int×Bool) (f:Int) (hx:0≤x.1∧x.1≤127) (hf:0≤f∧f≤st.length) (hl:st.length≤18) (hs:∀ k (h:k < st.length),1≤st[k]∧st[k]≤127) :
  Ctr Tryz.prog 187 [.ag (eIns cs st),.ag (eCrs x),.sc (.int .i64 f)] (.sc (.int .i64 (x.1+if 0 < f then st.getD (f - 1).toNat 0 else 0))):=by
 refine Ctr.intro Tryz.func187 rfl Tryz.ntmps187 (Nat.le_of_ble_eq_true rfl) (bd_all rfl) fun w0 F0=>?_;dsimp only [St.init,number,Nat.reduceAdd]
 by_cases h0:f=0
 ·subst h0
  have e0:x.1+(if (0:Int) < 0 then st.getD ((0:Int) - 1).toNat 0 else 0)=x.1:=by simp
  rw [e0]
  repeat (first|refine W.go rfl ?_|refine W.condT rfl ?_)
  refine (?_:W _ _ _ _ _)
  dsimp only [St.put,Nat.reduceAdd]
  exact W.ret (fin1 rfl rfl rfl rfl)
 ·have hlt:(f - 1).toNat < st.length:=by omega
  have hs1:=hs _ hlt
  have hg:st.getD (f - 1).toNat 0=st[(f - 1).toNat]:=by rw [List.getD_eq_getElem?_getD,List.getElem?_eq_getElem hlt];rfl
  rw [if_pos (by omega),hg]
  repeat (first|refine W.gob rfl ?_|refine WL.nil ?_|refine WL.bf rfl rfl rfl (by omega) ?_|refine WL.e1 rfl ?_|refine W.condF rfl ?_)
  refine (?_:W _ _ _ _ _)
  dsimp only [St.put,Nat.reduceAdd]
  refine W.drawK (by kernel_rfl) (by kernel_rfl) ?_
  repeat (first|refine DK.st rfl ?_|refine DK.ar rfl rfl (by unfold I64;omega) ?_|refine DK.idx rfl rfl (by omega) (by first|exact map_at (by omega)|exact map_atZ (by omega) (by omega)) ?_|refine DK.nil ?_)
  refine (?_:W _ _ _ _ _)
  dsimp only [St.put,Nat.reduceAdd]
  exact W.ret (fin1 rfl rfl rfl rfl)
theorem pAt_FS (cs:List (Int×Int×Bool)) (st:List Int) (c f:Int) (hI:insE cs st=0) (hc:1≤c∧c≤cs.length) (hf:0≤f∧f≤fretsOf cs c) :
  Ctr Tryz.prog 156 [.ag (eIns cs st),.ag [.sc (.int .i64 c),.sc (.int .i64 f)]] (.tu [.sc (.int .i64 (pitN cs st c f)),.sc (.int .i64 0)]):=by
 obtain ⟨l1,l2,l3,l4,l5⟩:=insE_len hI
 have hC:=pInsCheck_FS cs st
 rw [hI] at hC
 have hk:(c - 1).toNat < cs.length:=by omega
 have hfr:=crsE_fr l5 _ hk
 have hp:=crsE_p l5 _ hk
 have ef:fretsOf cs c=cs[(c - 1).toNat].2.1:=by
  have:=fretsOf_at hk
  rw [← this];congr 1;omega
 rw [ef] at hf
 have ep:pitN cs st c f=cs[(c - 1).toNat].1+if 0 < f then st.getD (f - 1).toNat 0 else 0:=by
  unfold pitN
  rw [List.getD_eq_getElem?_getD,List.getElem?_eq_getElem hk];rfl
 rw [ep]
 have hS:=stopped_FS cs st cs[(c - 1).toNat] f hp ⟨hf.1,by omega⟩ l3 (stepsBad_bd (Int.le_refl 0) l4)
 refine Ctr.intro Tryz.func156 rfl Tryz.ntmps156 (Nat.le_of_ble_eq_true rfl) (bd_all rfl) fun w0 F0=>?_;dsimp only [St.init,number,Nat.reduceAdd]
 repeat refine W.go rfl ?_
 refine (?_:WL _ _ _ _ _ _)
 dsimp only [St.put,Nat.reduceAdd]
 refine WL.vl rfl (WV.call rfl (callF Tryz.func116 rfl rfl) rfl rfl hC) ?_
 repeat (first|refine W.gob rfl ?_|refine WL.nil ?_|refine WL.bf rfl rfl rfl (by omega) ?_|refine WL.nf rfl rfl rfl (by omega) ?_|refine WL.e1 rfl ?_|refine WL.gyes rfl rfl rfl rfl ?_|refine WL.ar rfl rfl (by unfold I64;omega) ?_|refine WL.len rfl rfl (by first|exact List.length_map _|exact List.length_replicate|rfl) ?_|refine WL.idx rfl rfl (by omega) (by first|exact map_at (by omega)|exact map_atZ (by omega) (by omega)) ?_|refine W.condF rfl ?_)
 refine (?_:WL _ _ _ _ _ _)
 dsimp only [St.put,Nat.reduceAdd]
 refine WL.vl rfl (WV.call rfl (callF Tryz.func187 rfl rfl) rfl rfl hS) ?_
 repeat (first|refine WL.nil ?_|refine WL.e1 rfl ?_)
 refine (?_:W _ _ _ _ _)
 dsimp only [St.put,Nat.reduceAdd]
 exact W.ret (fin2 rfl rfl rfl rfl rfl rfl rfl)
end Go.Proofs.YtkgnmddakiagbaaGreatDoor
namespace Go.Proofs.YtkgnmddakiagbaaGreatDoor
open Go.RowKit
def sp (t:List UInt8):List UInt8:=32::t
def stT (s:Int) (L:Int→Nat) (x:Stp):List UInt8:=cellS s x.1 x.2.1 x.2.2.1 x.2.2.2.1 x.2.2.2.2 (L x.1)
def stOn (l:List Stp) (c:Int):Option Stp:=l.find? fun x=>x.1 == c
def stF (s:Int) (L:Int→Nat) (l:List Stp) (c:Int):List UInt8 :=
 match stOn l c with
 | some x=>stT s L x
 | none=>[45]
def asc:Int→List Stp→Prop
 | _,[]=>True
 | m,x::r=>m<x.1∧asc x.1 r
theorem asc_of {p:Pce} {i:Int}:∀ {l:List Stp} {last:Int},stopsE p i last l=0→asc last l
 | [],_,_=>trivial
 | x::r,last,h=>by
  unfold stopsE at h
  by_cases h1:stopE p i x last≠0
  ·rw [if_pos h1] at h;exact absurd h h1
  ·rw [if_neg h1] at h
   refine ⟨?_,asc_of h⟩
   by_cases h2:last<x.1
   ·exact h2
   ·exfalso;apply h1
    unfold stopE
    split
    ·decide
    ·split
     ·decide
     ·rw [if_pos (by omega)];decide
theorem asc_lt:∀ {l:List Stp} {m:Int},asc m l→∀ x∈l,m<x.1
 | y::r,m,h,x,hx=>by
  rcases List.mem_cons.1 hx with rfl|hx
  ·exact h.1
  ·have:=asc_lt h.2 x hx;have:=h.1;omega
theorem asc_take {l:List Stp}:∀ {m:Int} (k:Nat) (h:k<l.length),asc m l→∀ x∈l.take k,x.1<l[k].1:=by
 induction l with
 | nil=>intro m k h;simp at h
 | cons y r ih =>
  intro m k h ha x hx
  cases k with
  | zero=>simp at hx
  | succ k =>
   simp only [List.take_succ_cons,List.mem_cons] at hx
   rcases hx with rfl|hx
   ·exact asc_lt ha.2 _ (by simp)
   ·simpa using ih k (by simpa using h) ha.2 x hx
theorem stOn_none {l:List Stp} {c:Int} (h:∀ x∈l,x.1≠c):stOn l c=none:=by
 unfold stOn
 rw [List.find?_eq_none]
 intro x hx
 simpa using h x hx
theorem stOn_snoc (l:List Stp) (x:Stp) (c:Int) (h:∀ y∈l,y.1<x.1):stOn (l++[x]) c=if c=x.1 then some x else stOn l c:=by
 by_cases e:c=x.1
 ·rw [if_pos e]
  have h0:stOn l c=none:=stOn_none fun y hy=>by have:=h y hy;omega
  unfold stOn at h0 ⊢
  rw [List.find?_append,h0]
  simp [e]
 ·rw [if_neg e]
  unfold stOn
  rw [List.find?_append]
  have:[x].find? (fun y=>y.1 == c)=none:=by simp;omega
  rw [this,Option.or_none]
theorem stF_snoc (s:Int) (L:Int→Nat) (l:List Stp) (x:Stp) (c:Int) (h:∀ y∈l,y.1<x.1):stF s L (l++[x]) c=if c=x.1 then stT s L x else stF s L l c:=by
 unfold stF
 rw [stOn_snoc l x c h]
 by_cases e:c=x.1
 ·rw [if_pos e,if_pos e]
 ·rw [if_neg e,if_neg e]
def cAt (s:Int) (n j:Nat):Int:=if s=2 then (n:Int)-j else (j:Int)+1
def staffL (s:Int) (L:Int→Nat) (n:Nat) (l:List Stp):List (List UInt8):=(List.range n).map fun j=>stF s L l (cAt s n j)
theorem staffL_nil (s:Int) (L:Int→Nat) (n:Nat):staffL s L n []=List.replicate n [45]:=by
 unfold staffL
 apply List.ext_getElem
 ·simp
 ·intro i h1 h2;simp [stF,stOn]
theorem staffL_snoc (s:Int) (L:Int→Nat) (n:Nat) (l:List Stp) (x:Stp) (hs:s≠4) (h:∀ y∈l,y.1<x.1) (h1:1≤x.1) (hn:x.1≤n):staffL s L n (l++[x])=(staffL s L n l).set (lineV s x.1 n-1).toNat (stT s L x):=by
 apply List.ext_getElem
 ·simp [staffL]
 ·intro j h2 h3
  have hj:j<n:=by simpa [staffL] using h2
  rw [List.getElem_set]
  simp only [staffL,List.getElem_map,List.getElem_range]
  rw [stF_snoc s L l x _ h]
  have e:cAt s n j=x.1↔(lineV s x.1 n-1).toNat=j:=by
   unfold cAt lineV
   rw [if_neg hs]
   by_cases e2:s=2
   ·rw [if_pos e2,if_pos e2];omega
   ·rw [if_neg e2,if_neg e2];omega
  by_cases e3:cAt s n j=x.1
  ·rw [if_pos e3,if_pos (e.1 e3)]
  ·rw [if_neg e3,if_neg (fun q=>e3 (e.2 q))]
def outL (s:Int) (L:Int→Nat) (n:Nat) (l:List Stp):List (List UInt8) :=
 if s=2 then ((l.filter fun x=>decide ((n:Int)<x.1)).map (stT s L)).reverse else (l.filter fun x=>decide ((n:Int)<x.1)).map (stT s L)
theorem outL_in (s:Int) (L:Int→Nat) (n:Nat) (l:List Stp) (x:Stp) (h:x.1≤n):outL s L n (l++[x])=outL s L n l:=by
 unfold outL
 have:[x].filter (fun x=>decide ((n:Int)<x.1))=[]:=by simp;omega
 rw [List.filter_append,this,List.append_nil]
theorem outL_out (s:Int) (L:Int→Nat) (n:Nat) (l:List Stp) (x:Stp) (h:¬ x.1≤n):outL s L n (l++[x])=if s=2 then stT s L x::outL s L n l else outL s L n l++[stT s L x]:=by
 unfold outL
 have:[x].filter (fun x=>decide ((n:Int)<x.1))=[x]:=by simp;omega
 rw [List.filter_append,this]
 by_cases e:s=2
 ·rw [if_pos e,if_pos e,if_pos e];simp
 ·rw [if_neg e,if_neg e,if_neg e];simp
theorem outL_len (s:Int) (L:Int→Nat) (n:Nat) (l:List Stp):(outL s L n l).length≤l.length:=by
 unfold outL
 split
 ·simp;exact List.length_filter_le _ _
 ·simp;exact List.length_filter_le _ _
def headW (s:Int) (e:Ev):List (List UInt8):=if e.bar=true then [[124],tW e.val (sgI e.dot e.three)] else [tW e.val (sgI e.dot e.three)]
def staffN (s:Int) (p:Pce):Nat:=if s=4 then 0 else min p.cs.length 6
def colW (s:Int) (p:Pce) (i:Int) (e:Ev):List (List UInt8) :=
 headW s e++(if e.tie=true then [[126]] else if e.stops.length=0 then [[37]] else
  if s=2 then outL s (fun c=>longestN p.evs i c) (staffN s p) e.stops++staffL s (fun c=>longestN p.evs i c) (staffN s p) e.stops
  else staffL s (fun c=>longestN p.evs i c) (staffN s p) e.stops++outL s (fun c=>longestN p.evs i c) (staffN s p) e.stops)
def spW (l:List (List UInt8)):List UInt8:=l.flatMap sp
def joinW:List (List UInt8)→List UInt8
 | []=>[]
 | x::r=>x++spW r
theorem joinW_lib (l:List (List UInt8)):Lib.join l [32]=joinW l:=by
 cases l with
 | nil=>rfl
 | cons x r =>
  rw [Lib.join_cons]
  show x++Lib.joinTail [32] r=x++r.flatMap sp
  unfold Lib.joinTail
  rw [List.flatMap_def];rfl
def colS (s:Int) (p:Pce) (i:Int) (e:Ev):List UInt8:=joinW (colW s p i e)
/-! The reference goes over the courses. -/
theorem stOn_eq {l:List Stp} {c:Int} {x:Stp} (h:stOn l c=some x):x∈l∧x.1=c:=by
 unfold stOn at h
 exact ⟨List.mem_of_find?_eq_some h,by simpa using List.find?_some h⟩
/-! Lengths; no cell is a dash. -/
theorem cellS_len (s c f r g h L:Int) (hs:1≤s∧s≤4) (hc:1≤c∧c≤14) (hf:0≤f∧f≤18):(cellS s c f r g h L).length≤12:=by
 unfold cellS
 have h1:=(pS_len s c f hs hc hf).1
 have h2:=rR_len s r
 have h3:=rG_len s g
 have h4:=pH_len s h L
 simp only [List.length_append];omega
theorem spW_len {n:Nat}:∀ {l:List (List UInt8)},(∀ t∈l,t.length≤n)→(spW l).length≤(n+1)*l.length
 | [],_=>by simp [spW]
 | x::r,h=>by
  have h1:=spW_len (l:=r) fun t ht=>h t (by simp [ht])
  have h2:=h x (by simp)
  unfold spW at h1 ⊢
  rw [List.flatMap_cons,List.length_append,List.length_cons,Nat.mul_succ]
  have:(sp x).length=x.length+1:=by simp [sp]
  omega
end Go.Proofs.YtkgnmddakiagbaaGreatDoor
