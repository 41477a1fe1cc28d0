/- The column of an event: the program, over trees. -/
import Derived.Test.YtgelfflighgajaaGreatDoorSmAq
import Derived.Test.YtgelfflighgajaaGreatDoorNtQAq
import Derived.Test.YtgelfflighgajaaGreatDoorPnAq
set_option linter.unusedVariables false
set_option linter.unusedSimpArgs false
namespace Go.Proofs.YtgelfflighgajaaGreatDoor
open Go.RowKit
set_option maxHeartbeats 4000000
set_option maxRecDepth 100000
theorem crsE_p {st:List Int}:∀ {cs:List (Int×Int×Bool)},crsE st cs=0→∀ k (h:k<cs.length),0≤cs[k].1∧cs[k].1≤127:=by
 intro cs
 induction cs with
 | nil=>intro _ k h;simp at h
 | cons x r ih =>
  intro h k hk
  unfold crsE at h
  by_cases h1:x.2.1<0∨(st.length:Int)<x.2.1
  ·rw [if_pos h1] at h;cases h
  ·rw [if_neg h1] at h
   by_cases h2:(x.1<0∨127<x.1)∨127<topOf st x
   ·rw [if_pos h2] at h;cases h
   ·rw [if_neg h2] at h
    cases k with
    | zero=>simp;omega
    | succ k=>simpa using ih h k (by simpa using hk)
theorem stopped_FS (cs:List (Int×Int×Bool)) (st:List Int) (x:Int×Int×Bool) (f:Int) (hx:0≤x.1∧x.1≤127) (hf:0≤f∧f≤st.length) (hl:st.length≤18) (hs:∀ k (h:k < st.length),1≤st[k]∧st[k]≤127) :
  Ctr Tryz.prog 247 [.ag (eIns cs st),.ag (eCrs x),.sc (.int .i64 f)] (.sc (.int .i64 (x.1+if 0 < f then st.getD (f - 1).toNat 0 else 0))):=by
 refine Ctr.intro Tryz.func247 rfl Tryz.ntmps247 (Nat.le_of_ble_eq_true rfl) (bd_all rfl) fun w0 F0=>?_;dsimp only [St.init,number,Nat.reduceAdd]
 by_cases h0:f=0
 ·subst h0
  have e0:x.1+(if (0:Int) < 0 then st.getD ((0:Int) - 1).toNat 0 else 0)=x.1:=by simp
  rw [e0]
  repeat (first|refine W.go rfl ?_|refine W.condT rfl ?_)
  refine (?_:W _ _ _ _ _)
  dsimp only [St.put,Nat.reduceAdd]
  exact W.ret (fin1 rfl rfl rfl rfl)
 ·have hlt:(f - 1).toNat < st.length:=by omega
  have hs1:=hs _ hlt
  have hg:st.getD (f - 1).toNat 0=st[(f - 1).toNat]:=by rw [List.getD_eq_getElem?_getD,List.getElem?_eq_getElem hlt];rfl
  rw [if_pos (by omega),hg]
  repeat (first|refine W.gob rfl ?_|refine WL.nil ?_|refine WL.bf rfl rfl rfl (by omega) ?_|refine WL.e1 rfl ?_|refine W.condF rfl ?_)
  refine (?_:W _ _ _ _ _)
  dsimp only [St.put,Nat.reduceAdd]
  refine W.drawK (by kernel_rfl) (by kernel_rfl) ?_
  repeat (first|refine DK.st rfl ?_|refine DK.ar rfl rfl (by unfold I64;omega) ?_|refine DK.idx rfl rfl (by omega) (by first|exact map_at (by omega)|exact map_atZ (by omega) (by omega)) ?_|refine DK.nil ?_)
  refine (?_:W _ _ _ _ _)
  dsimp only [St.put,Nat.reduceAdd]
  exact W.ret (fin1 rfl rfl rfl rfl)
theorem pAt_FS (cs:List (Int×Int×Bool)) (st:List Int) (c f:Int) (hI:insE cs st=0) (hc:1≤c∧c≤cs.length) (hf:0≤f∧f≤fretsOf cs c) :
  Ctr Tryz.prog 231 [.ag (eIns cs st),.ag [.sc (.int .i64 c),.sc (.int .i64 f)]] (.tu [.sc (.int .i64 (pitN cs st c f)),.sc (.int .i64 0)]):=by
 obtain ⟨l1,l2,l3,l4,l5⟩:=insE_len hI
 have hC:=pInsCheck_FS cs st
 rw [hI] at hC
 have hk:(c - 1).toNat < cs.length:=by omega
 have hfr:=crsE_fr l5 _ hk
 have hp:=crsE_p l5 _ hk
 have ef:fretsOf cs c=cs[(c - 1).toNat].2.1:=by
  have:=fretsOf_at hk
  rw [← this];congr 1;omega
 rw [ef] at hf
 have ep:pitN cs st c f=cs[(c - 1).toNat].1+if 0 < f then st.getD (f - 1).toNat 0 else 0:=by
  unfold pitN
  rw [List.getD_eq_getElem?_getD,List.getElem?_eq_getElem hk];rfl
 rw [ep]
 have hS:=stopped_FS cs st cs[(c - 1).toNat] f hp ⟨hf.1,by omega⟩ l3 (stepsBad_bd (Int.le_refl 0) l4)
 refine Ctr.intro Tryz.func231 rfl Tryz.ntmps231 (Nat.le_of_ble_eq_true rfl) (bd_all rfl) fun w0 F0=>?_;dsimp only [St.init,number,Nat.reduceAdd]
 repeat refine W.go rfl ?_
 refine (?_:WL _ _ _ _ _ _)
 dsimp only [St.put,Nat.reduceAdd]
 refine WL.vl rfl (WV.call rfl (callF Tryz.func117 rfl rfl) rfl rfl hC) ?_
 repeat (first|refine W.gob rfl ?_|refine WL.nil ?_|refine WL.bf rfl rfl rfl (by omega) ?_|refine WL.nf rfl rfl rfl (by omega) ?_|refine WL.e1 rfl ?_|refine WL.gyes rfl rfl rfl rfl ?_|refine WL.ar rfl rfl (by unfold I64;omega) ?_|refine WL.len rfl rfl (by first|exact List.length_map _|exact List.length_replicate|rfl) ?_|refine WL.idx rfl rfl (by omega) (by first|exact map_at (by omega)|exact map_atZ (by omega) (by omega)) ?_|refine W.condF rfl ?_)
 refine (?_:WL _ _ _ _ _ _)
 dsimp only [St.put,Nat.reduceAdd]
 refine WL.vl rfl (WV.call rfl (callF Tryz.func247 rfl rfl) rfl rfl hS) ?_
 repeat (first|refine WL.nil ?_|refine WL.e1 rfl ?_)
 refine (?_:W _ _ _ _ _)
 dsimp only [St.put,Nat.reduceAdd]
 exact W.ret (fin2 rfl rfl rfl rfl rfl rfl rfl)
end Go.Proofs.YtgelfflighgajaaGreatDoor
namespace Go.Proofs.YtgelfflighgajaaGreatDoor
open Go.RowKit
def sp (t:List UInt8):List UInt8:=32::t
def stT (s:Int) (L:Int→Nat) (x:Stp):List UInt8:=cellS s x.1 x.2.1 x.2.2.1 x.2.2.2.1 x.2.2.2.2 (L x.1)
def stOn (l:List Stp) (c:Int):Option Stp:=l.find? fun x=>x.1 == c
def stF (s:Int) (L:Int→Nat) (l:List Stp) (c:Int):List UInt8 :=
 match stOn l c with
 | some x=>stT s L x
 | none=>[45]
def asc:Int→List Stp→Prop
 | _,[]=>True
 | m,x::r=>m<x.1∧asc x.1 r
theorem asc_of {p:Pce} {i:Int}:∀ {l:List Stp} {last:Int},stopsE p i last l=0→asc last l
 | [],_,_=>trivial
 | x::r,last,h=>by
  unfold stopsE at h
  by_cases h1:stopE p i x last≠0
  ·rw [if_pos h1] at h;exact absurd h h1
  ·rw [if_neg h1] at h
   refine ⟨?_,asc_of h⟩
   by_cases h2:last<x.1
   ·exact h2
   ·exfalso;apply h1
    unfold stopE
    split
    ·decide
    ·split
     ·decide
     ·rw [if_pos (by omega)];decide
theorem asc_lt:∀ {l:List Stp} {m:Int},asc m l→∀ x∈l,m<x.1
 | y::r,m,h,x,hx=>by
  rcases List.mem_cons.1 hx with rfl|hx
  ·exact h.1
  ·have:=asc_lt h.2 x hx;have:=h.1;omega
theorem asc_take {l:List Stp}:∀ {m:Int} (k:Nat) (h:k<l.length),asc m l→∀ x∈l.take k,x.1<l[k].1:=by
 induction l with
 | nil=>intro m k h;simp at h
 | cons y r ih =>
  intro m k h ha x hx
  cases k with
  | zero=>simp at hx
  | succ k =>
   simp only [List.take_succ_cons,List.mem_cons] at hx
   rcases hx with rfl|hx
   ·exact asc_lt ha.2 _ (by simp)
   ·simpa using ih k (by simpa using h) ha.2 x hx
theorem stOn_none {l:List Stp} {c:Int} (h:∀ x∈l,x.1≠c):stOn l c=none:=by
 unfold stOn
 rw [List.find?_eq_none]
 intro x hx
 simpa using h x hx
theorem stOn_snoc (l:List Stp) (x:Stp) (c:Int) (h:∀ y∈l,y.1<x.1):stOn (l++[x]) c=if c=x.1 then some x else stOn l c:=by
 by_cases e:c=x.1
 ·rw [if_pos e]
  have h0:stOn l c=none:=stOn_none fun y hy=>by have:=h y hy;omega
  unfold stOn at h0 ⊢
  rw [List.find?_append,h0]
  simp [e]
 ·rw [if_neg e]
  unfold stOn
  rw [List.find?_append]
  have:[x].find? (fun y=>y.1 == c)=none:=by simp;omega
  rw [this,Option.or_none]
theorem stF_snoc (s:Int) (L:Int→Nat) (l:List Stp) (x:Stp) (c:Int) (h:∀ y∈l,y.1<x.1):stF s L (l++[x]) c=if c=x.1 then stT s L x else stF s L l c:=by
 unfold stF
 rw [stOn_snoc l x c h]
 by_cases e:c=x.1
 ·rw [if_pos e,if_pos e]
 ·rw [if_neg e,if_neg e]
def cAt (s:Int) (n j:Nat):Int:=if s=2 then (n:Int)-j else (j:Int)+1
def staffL (s:Int) (L:Int→Nat) (n:Nat) (l:List Stp):List (List UInt8):=(List.range n).map fun j=>stF s L l (cAt s n j)
theorem staffL_nil (s:Int) (L:Int→Nat) (n:Nat):staffL s L n []=List.replicate n [45]:=by
 unfold staffL
 apply List.ext_getElem
 ·simp
 ·intro i h1 h2;simp [stF,stOn]
theorem staffL_snoc (s:Int) (L:Int→Nat) (n:Nat) (l:List Stp) (x:Stp) (hs:s≠4) (h:∀ y∈l,y.1<x.1) (h1:1≤x.1) (hn:x.1≤n):staffL s L n (l++[x])=(staffL s L n l).set (lineV s x.1 n-1).toNat (stT s L x):=by
 apply List.ext_getElem
 ·simp [staffL]
 ·intro j h2 h3
  have hj:j<n:=by simpa [staffL] using h2
  rw [List.getElem_set]
  simp only [staffL,List.getElem_map,List.getElem_range]
  rw [stF_snoc s L l x _ h]
  have e:cAt s n j=x.1↔(lineV s x.1 n-1).toNat=j:=by
   unfold cAt lineV
   rw [if_neg hs]
   by_cases e2:s=2
   ·rw [if_pos e2,if_pos e2];omega
   ·rw [if_neg e2,if_neg e2];omega
  by_cases e3:cAt s n j=x.1
  ·rw [if_pos e3,if_pos (e.1 e3)]
  ·rw [if_neg e3,if_neg (fun q=>e3 (e.2 q))]
def outL (s:Int) (L:Int→Nat) (n:Nat) (l:List Stp):List (List UInt8) :=
 if s=2 then ((l.filter fun x=>decide ((n:Int)<x.1)).map (stT s L)).reverse else (l.filter fun x=>decide ((n:Int)<x.1)).map (stT s L)
theorem outL_in (s:Int) (L:Int→Nat) (n:Nat) (l:List Stp) (x:Stp) (h:x.1≤n):outL s L n (l++[x])=outL s L n l:=by
 unfold outL
 have:[x].filter (fun x=>decide ((n:Int)<x.1))=[]:=by simp;omega
 rw [List.filter_append,this,List.append_nil]
theorem outL_out (s:Int) (L:Int→Nat) (n:Nat) (l:List Stp) (x:Stp) (h:¬ x.1≤n):outL s L n (l++[x])=if s=2 then stT s L x::outL s L n l else outL s L n l++[stT s L x]:=by
 unfold outL
 have:[x].filter (fun x=>decide ((n:Int)<x.1))=[x]:=by simp;omega
 rw [List.filter_append,this]
 by_cases e:s=2
 ·rw [if_pos e,if_pos e,if_pos e];simp
 ·rw [if_neg e,if_neg e,if_neg e];simp
theorem outL_len (s:Int) (L:Int→Nat) (n:Nat) (l:List Stp):(outL s L n l).length≤l.length:=by
 unfold outL
 split
 ·simp;exact List.length_filter_le _ _
 ·simp;exact List.length_filter_le _ _
def headW (s:Int) (e:Ev):List (List UInt8):=if e.bar=true then [[124],tW e.val (sgI e.dot e.three)] else [tW e.val (sgI e.dot e.three)]
def staffN (s:Int) (p:Pce):Nat:=if s=4 then 0 else min p.cs.length 6
def colW (s:Int) (p:Pce) (i:Int) (e:Ev):List (List UInt8) :=
 headW s e++(if e.tie=true then [[126]] else if e.stops.length=0 then [[37]] else
  if s=2 then outL s (fun c=>longestN p.evs i c) (staffN s p) e.stops++staffL s (fun c=>longestN p.evs i c) (staffN s p) e.stops
  else staffL s (fun c=>longestN p.evs i c) (staffN s p) e.stops++outL s (fun c=>longestN p.evs i c) (staffN s p) e.stops)
def spW (l:List (List UInt8)):List UInt8:=l.flatMap sp
def joinW:List (List UInt8)→List UInt8
 | []=>[]
 | x::r=>x++spW r
theorem joinW_lib (l:List (List UInt8)):Lib.join l [32]=joinW l:=by
 cases l with
 | nil=>rfl
 | cons x r =>
  rw [Lib.join_cons]
  show x++Lib.joinTail [32] r=x++r.flatMap sp
  unfold Lib.joinTail
  rw [List.flatMap_def];rfl
def colS (s:Int) (p:Pce) (i:Int) (e:Ev):List UInt8:=joinW (colW s p i e)
/-! The reference goes over the courses. -/
theorem stOn_eq {l:List Stp} {c:Int} {x:Stp} (h:stOn l c=some x):x∈l∧x.1=c:=by
 unfold stOn at h
 exact ⟨List.mem_of_find?_eq_some h,by simpa using List.find?_some h⟩
/-! Lengths; no cell is a dash. -/
theorem cellS_len (s c f r g h L:Int) (hs:1≤s∧s≤4) (hc:1≤c∧c≤14) (hf:0≤f∧f≤18):(cellS s c f r g h L).length≤12:=by
 unfold cellS
 have h1:=(pS_len s c f hs hc hf).1
 have h2:=rR_len s r
 have h3:=rG_len s g
 have h4:=pH_len s h L
 simp only [List.length_append];omega
theorem spW_len {n:Nat}:∀ {l:List (List UInt8)},(∀ t∈l,t.length≤n)→(spW l).length≤(n+1)*l.length
 | [],_=>by simp [spW]
 | x::r,h=>by
  have h1:=spW_len (l:=r) fun t ht=>h t (by simp [ht])
  have h2:=h x (by simp)
  unfold spW at h1 ⊢
  rw [List.flatMap_cons,List.length_append,List.length_cons,Nat.mul_succ]
  have:(sp x).length=x.length+1:=by simp [sp]
  omega
end Go.Proofs.YtgelfflighgajaaGreatDoor
namespace Go.Proofs.YtgelfflighgajaaGreatDoor
open Go.RowKit
set_option maxRecDepth 100000
set_option maxHeartbeats 4000000
def plV:AV→Option Value
 | .sc v=>some v
 | .ag l =>
  match scs l with
  | some xs=>some (.agg xs.toArray)
  | none=>none
 | _=>none
def plL:List AV→Option (List Value)
 | []=>some []
 | x::r =>
  match plV x,plL r with
  | some v,some l=>some (v::l)
  | _,_=>none
theorem plV_of {F:View} {av:AV} {u v:Value} (h:plV av=some v) (r:RP F av u):u=v:=by
 cases av with
 | sc x=>cases h;exact r.sc_eq
 | ag l =>
  cases hs:scs l with
  | none=>simp [plV,hs] at h
  | some xs =>
   simp [plV,hs] at h
   subst h
   obtain ⟨cs,rfl,h1,h2⟩:=(R.pu (G:=⟨F,fun _=>0,fun _=>0,fun _=>undef,fun _ _=>False⟩) _ _ r).ag_of
   have e:cs.toList=xs:=scs_of (G:=⟨F,fun _=>0,fun _=>0,fun _=>undef,fun _ _=>False⟩) hs (by simpa using h1) (fun i av u p q=>h2 i av u p (by simpa using q))
   subst e
   simp
 | _=>cases h
theorem plL_of {F:View}:∀ {l:List AV} {xs vs:List Value},plL l=some xs→vs.length=l.length→(∀ (i:Nat) av u,l[i]?=some av→vs[i]?=some u→RP F av u)→vs=xs
 | [],xs,vs,h,hl,_=>by cases h;exact List.eq_nil_of_length_eq_zero hl
 | x::r,xs,[],h,hl,_=>by cases hl
 | x::r,xs,v::vs,h,hl,hq=>by
  unfold plL at h
  split at h
  ·rename_i u l h1 h2
   cases h
   rw [plV_of h1 (hq 0 x v rfl rfl),plL_of (F:=F) (vs:=vs) h2 (by simpa using hl) fun i av u a b=>hq (i+1) av u (by simpa using a) (by simpa using b)]
  ·cases h
theorem Ctr.of_pl {P:Program} {f:FuncId} {args:List AV} {xs:List Value} {res:AV} {v:Value} (hs:plL args=some xs) (hv:∀ F,RP F res v) (h:∀ w,Calls P f xs.toArray w (Ret v w)):Ctr P f args res:=by
 intro w F vs hF hR
 have:=plL_of hs hR.1 hR.2
 subst this
 exact (h w).mono fun e w' ⟨he,hb⟩=>⟨v,F,he,hb,fun _ _ h=>h,fun p u x=>by rw [hb.cell (cell_block (hF p u x))];exact hF p u x,fun _ _ h=>.inl h,hv F⟩
theorem rp_tu2 {F:View} {u v:Value}:RP F (.tu [.sc u,.sc v]) (.tuple #[u,v]):=.tu _ _ rfl fun i av x a b=>by
 match i with
 | 0=>cases a;cases b;exact .sc _
 | 1=>cases a;cases b;exact .sc _
 | i+2=>simp at a
def eSg (e:Ev):AV:=.ag [.sc (.int .i64 e.val),.sc (.bool e.dot),.sc (.bool e.three)]
theorem sg_cases {v:Int} {d t:Bool} (h:sgOk v d t=true):0≤v∧v≤7∧sgI d t≤2∧d=sgD (sgI d t)∧t=sgT (sgI d t)∧(v=0→sgI d t=0):=by
 have hv:0≤v∧v≤7:=by
  unfold sgOk at h
  simp only [Bool.or_eq_true,Bool.and_eq_true,beq_iff_eq,decide_eq_true_eq] at h
  omega
 refine ⟨hv.1,hv.2,?_⟩
 cases d<;>cases t
 ·exact ⟨by decide,rfl,rfl,fun _=>rfl⟩
 ·refine ⟨by decide,rfl,rfl,fun h0=>?_⟩
  subst h0;cases h
 ·refine ⟨by decide,rfl,rfl,fun h0=>?_⟩
  subst h0;cases h
 ·exfalso
  unfold sgOk at h
  by_cases h1:1≤v<;>by_cases h2:v≤7<;>simp [h1,h2] at h
theorem timeWord_FS (s:Int) (hs:1≤s∧s≤4) (e:Ev) (h:sgOk e.val e.dot e.three=true):Ctr Tryz.prog 182 [.sc (sysV s),eSg e] (.tu [.sc (.string (bs (tW e.val (sgI e.dot e.three)))),.sc (.bool (tOk s e.val (sgI e.dot e.three)))]):=by
 obtain ⟨h1,h2,h3,h4,h5,h6⟩:=sg_cases h
 obtain ⟨i,hi⟩:∃ i,sgI e.dot e.three=i:=⟨_,rfl⟩
 rw [hi] at h3 h4 h5 h6 ⊢
 unfold eSg
 rw [h4,h5]
 rcases sys_cases hs with rfl|rfl|rfl|rfl
 ·exact Ctr.of_pl rfl (fun _=>rp_tu2) fun w=>ptw_1 e.val i w ⟨h1,h2⟩ h3 h6
 ·exact Ctr.of_pl rfl (fun _=>rp_tu2) fun w=>ptw_2 e.val i w ⟨h1,h2⟩ h3 h6
 ·exact Ctr.of_pl rfl (fun _=>rp_tu2) fun w=>ptw_3 e.val i w ⟨h1,h2⟩ h3 h6
 ·exact Ctr.of_pl rfl (fun _=>rp_tu2) fun w=>ptw_4 e.val i w ⟨h1,h2⟩ h3 h6
theorem cell_FS (s:Int) (hs:1≤s∧s≤4) (x:Stp) (L:Int) (hc:1≤x.1∧x.1≤14) (hf:0≤x.2.1∧x.2.1≤18) (hr:0≤x.2.2.1∧x.2.2.1≤3) (hg:0≤x.2.2.2.1∧x.2.2.2.1≤4) (hh:0≤x.2.2.2.2∧x.2.2.2.2≤15) :
  Ctr Tryz.prog 183 [.sc (sysV s),.ag (eStp x),.sc (.int .i64 L)] (.tu [.sc (.string (bs (cellS s x.1 x.2.1 x.2.2.1 x.2.2.2.1 x.2.2.2.2 L))),.sc (.bool (cellOk s x.1 x.2.1 x.2.2.1 x.2.2.2.1 x.2.2.2.2 L))]):=by
 rcases sys_cases hs with rfl|rfl|rfl|rfl
 ·exact Ctr.of_pl rfl (fun _=>rp_tu2) fun w=>pcell_1 _ _ _ _ _ _ w hc hf hr hg hh
 ·exact Ctr.of_pl rfl (fun _=>rp_tu2) fun w=>pcell_2 _ _ _ _ _ _ w hc hf hr hg hh
 ·exact Ctr.of_pl rfl (fun _=>rp_tu2) fun w=>pcell_3 _ _ _ _ _ _ w hc hf hr hg hh
 ·exact Ctr.of_pl rfl (fun _=>rp_tu2) fun w=>pcell_4 _ _ _ _ _ _ w hc hf hr hg hh
theorem pLong_FS (p:Pce) (hO:PcOk p) (i x:Int):Ctr Tryz.prog 144 [ePce p,.sc (.int .i64 i),.sc (.int .i64 x)] (.sc (.int .i64 (longestN p.evs i x))) :=
 Ctr.of_pc (pre:=[]) (post:=[.sc (.int .i64 i),.sc (.int .i64 x)]) rfl rfl (fun _=>.sc _) fun w M hM=>pLongest_any M p i x w hM hO
theorem pstaff_FS (cs:List (Int×Int×Bool)) (st:List Int) (h:cs.length≤64):Ctr Tryz.prog 139 [.ag (eIns cs st)] (.sc (.int .i64 ((min cs.length 6:Nat):Int))):=by
 refine Ctr.intro Tryz.func139 rfl Tryz.ntmps139 (Nat.le_of_ble_eq_true rfl) (bd_all rfl) fun w0 F0=>?_;dsimp only [St.init,number,Nat.reduceAdd]
 repeat (first|refine W.go rfl ?_|refine WL.len rfl rfl (by first|exact List.length_map _|exact List.length_replicate|rfl) ?_)
 refine (?_:WL _ _ _ _ _ _)
 dsimp only [St.put,Nat.reduceAdd]
 refine WL.mm rfl rfl (show _=((min cs.length 6:Nat):Int) by split<;>omega) ?_
 repeat refine WL.ev rfl ?_
 refine (?_:W _ _ _ _ _)
 dsimp only [St.put,Nat.reduceAdd]
 exact W.ret (fin1 rfl rfl rfl rfl)
theorem WV.sys {P:Program} {C:Cx} {o:Oper} {σ:St} {s:Int} (hs:1≤s∧s≤4) {x:Operand} {name:String} {xs:Array Operand} {ts:Array TypeId} {args:List AV} {res:AV} (fs:Int→FuncId) (ho:o.op=.call { callee:=.invoke x name,args:=xs,argTypes:=ts })
  (hr:σ.ev x=some (.sc (sysV s)))
  (h1:∀ vs w,(callMethod (sysV 1) name vs).run P w=.ok (.enter (fs 1) (#[.agg #[]]++vs)) w) (h2:∀ vs w,(callMethod (sysV 2) name vs).run P w=.ok (.enter (fs 2) (#[.agg #[]]++vs)) w)
  (h3:∀ vs w,(callMethod (sysV 3) name vs).run P w=.ok (.enter (fs 3) (#[.agg #[]]++vs)) w) (h4:∀ vs w,(callMethod (sysV 4) name vs).run P w=.ok (.enter (fs 4) (#[.agg #[]]++vs)) w)
  (hx:σ.evs xs.toList=some args) (hp:args.all AV.pu2=true) (h:Ctr P (fs s) (.ag []::args) res):WV P C o σ res:=by
 rcases sys_cases hs with rfl|rfl|rfl|rfl
 ·exact WV.inv (l:=[]) ho hr h1 rfl hx hp h
 ·exact WV.inv (l:=[]) ho hr h2 rfl hx hp h
 ·exact WV.inv (l:=[]) ho hr h3 rfl hx hp h
 ·exact WV.inv (l:=[]) ho hr h4 rfl hx hp h
def lineF (s:Int):FuncId:=if s=1 then 276 else if s=2 then 286 else if s=3 then 294 else 301
def behindF (s:Int):FuncId:=if s=1 then 278 else if s=2 then 288 else if s=3 then 296 else 303
theorem line_FS (s:Int) (hs:1≤s∧s≤4) (c n:Int) (hc:1≤c∧c≤14) (hn:0≤n∧n≤6):Ctr Tryz.prog (lineF s) [.ag [],.sc (.int .i64 c),.sc (.int .i64 n)] (.sc (.int .i64 (lineV s c n))):=by
 rcases sys_cases hs with rfl|rfl|rfl|rfl
 ·show Ctr Tryz.prog 276 _ _
  refine Ctr.intro Tryz.func276 rfl Tryz.ntmps276 (Nat.le_of_ble_eq_true rfl) (bd_all rfl) fun w0 F0=>?_;dsimp only [St.init,number,Nat.reduceAdd]
  repeat refine W.go rfl ?_
  refine (?_:W _ _ _ _ _)
  dsimp only [St.put,Nat.reduceAdd]
  exact W.ret (fin1 rfl rfl rfl rfl)
 ·show Ctr Tryz.prog 286 _ _
  refine Ctr.intro Tryz.func286 rfl Tryz.ntmps286 (Nat.le_of_ble_eq_true rfl) (bd_all rfl) fun w0 F0=>?_;dsimp only [St.init,number,Nat.reduceAdd]
  repeat (first|refine W.go rfl ?_|refine WL.ev rfl ?_|refine WL.ar rfl rfl (by unfold I64;omega) ?_)
  refine (?_:W _ _ _ _ _)
  dsimp only [St.put,Nat.reduceAdd]
  exact W.ret (fin1 rfl rfl rfl rfl)
 ·show Ctr Tryz.prog 294 _ _
  refine Ctr.intro Tryz.func294 rfl Tryz.ntmps294 (Nat.le_of_ble_eq_true rfl) (bd_all rfl) fun w0 F0=>?_;dsimp only [St.init,number,Nat.reduceAdd]
  repeat refine W.go rfl ?_
  refine (?_:W _ _ _ _ _)
  dsimp only [St.put,Nat.reduceAdd]
  exact W.ret (fin1 rfl rfl rfl rfl)
 ·show Ctr Tryz.prog 301 _ _
  refine Ctr.intro Tryz.func301 rfl Tryz.ntmps301 (Nat.le_of_ble_eq_true rfl) (bd_all rfl) fun w0 F0=>?_;dsimp only [St.init,number,Nat.reduceAdd]
  repeat refine W.go rfl ?_
  refine (?_:W _ _ _ _ _)
  dsimp only [St.put,Nat.reduceAdd]
  exact W.ret (fin1 rfl rfl rfl rfl)
theorem behind_FS (s:Int) (hs:1≤s∧s≤4):Ctr Tryz.prog (behindF s) [.ag []] (.sc (.bool (!decide (s=2)))):=by
 rcases sys_cases hs with rfl|rfl|rfl|rfl
 ·show Ctr Tryz.prog 278 _ _
  refine Ctr.intro Tryz.func278 rfl Tryz.ntmps278 (Nat.le_of_ble_eq_true rfl) (bd_all rfl) fun w0 F0=>?_;dsimp only [St.init,number,Nat.reduceAdd]
  repeat refine W.go rfl ?_
  refine (?_:W _ _ _ _ _)
  dsimp only [St.put,Nat.reduceAdd]
  exact W.ret (fin1 rfl rfl rfl rfl)
 ·show Ctr Tryz.prog 288 _ _
  refine Ctr.intro Tryz.func288 rfl Tryz.ntmps288 (Nat.le_of_ble_eq_true rfl) (bd_all rfl) fun w0 F0=>?_;dsimp only [St.init,number,Nat.reduceAdd]
  repeat refine W.go rfl ?_
  refine (?_:W _ _ _ _ _)
  dsimp only [St.put,Nat.reduceAdd]
  exact W.ret (fin1 rfl rfl rfl rfl)
 ·show Ctr Tryz.prog 296 _ _
  refine Ctr.intro Tryz.func296 rfl Tryz.ntmps296 (Nat.le_of_ble_eq_true rfl) (bd_all rfl) fun w0 F0=>?_;dsimp only [St.init,number,Nat.reduceAdd]
  repeat refine W.go rfl ?_
  refine (?_:W _ _ _ _ _)
  dsimp only [St.put,Nat.reduceAdd]
  exact W.ret (fin1 rfl rfl rfl rfl)
 ·show Ctr Tryz.prog 303 _ _
  refine Ctr.intro Tryz.func303 rfl Tryz.ntmps303 (Nat.le_of_ble_eq_true rfl) (bd_all rfl) fun w0 F0=>?_;dsimp only [St.init,number,Nat.reduceAdd]
  repeat refine W.go rfl ?_
  refine (?_:W _ _ _ _ _)
  dsimp only [St.put,Nat.reduceAdd]
  exact W.ret (fin1 rfl rfl rfl rfl)
/-! strings.Join. -/
def eStr (t:List UInt8):List AV:=[.sc (.string (bs t))]
theorem join_FS (l:List (List UInt8)) (h1:l.length≤1000) (h2:(joinW l).length≤1000000):Ctr Tryz.prog 114 [.ls 1 (l.map eStr),.sc (.string (bs [32]))] (.sc (.string (bs (joinW l)))):=by
 intro w F vs hF hR
 match vs,hR.1 with
 | [v,v2],_ =>
  obtain rfl:=(hR.2 1 _ v2 rfl rfl).sc_eq
  obtain ⟨A,c,rfl,hrd,hc⟩:=rd_of_rp (n:=1) (f:=fun t=>[Value.string (bs t)]) hF (by omega) (fun _=>rfl) (fun x j u h=>by
   match j with
   | 0=>cases h;rfl
   | j+1=>simp at h) (hR.2 0 _ v rfl rfl)
  have fin:∀ e w',e=Ending.returned (.string (bs (joinW l)))→Below w.heap.size w w'→∃ v F',e=.returned v∧Below w.heap.size w w'∧View.le F F'∧(∀ p u,F' p=some u→w'.cell? p=some u)∧(∀ p u,F' p=some u→F p=some u∨w.heap.size≤p.block)∧RP F' (.sc (.string (bs (joinW l)))) v :=
   fun e w' he hb=>⟨_,F,he,hb,fun _ _ h=>h,fun p u x=>by rw [hb.cell (cell_block (hF p u x))];exact hF p u x,fun _ _ h=>.inl h,.sc _⟩
  by_cases h0:l.length=0
  ·obtain rfl:=List.eq_nil_of_length_eq_zero h0
   exact (strings_Join_none A c (bs [32]) w).mono fun e w' ⟨he,hw⟩=>fin e w' he (hw ▸ Below.refl _ _)
  ·obtain ⟨ad,had,hlt,hcell⟩:=hrd (by simp;omega)
   subst had
   have hsp:ad.spot=none:=by
    have:=hcell 0 _ (List.getElem?_eq_getElem (by simp;omega)) 0 (.string (bs (l[0]'(by omega)))) (by simp)
    rw [Nat.zero_mul,Nat.add_zero,add_zero'] at this
    unfold World.cell? at this
    cases hs:ad.spot with
    | none=>rfl
    | some q =>
     split at this
     ·rw [hs] at this;simp at this
     ·cases this
   obtain ⟨bk,off,sp⟩:=ad
   simp only at hsp hlt
   subst hsp
   have hm:(l.map bs).map (fun b=>b.data.toList)=l:=by
    rw [List.map_map]
    exact (List.map_congr_left fun t _=>rfl).trans (List.map_id l)
   have:=strings_Join bk off c (l.map bs) (bs [32]) w (fun j x hx=>?_) hlt (by simp;omega) (by simpa using hc) (by rw [hm,bs_data,joinW_lib];omega)
   ·rw [hm,bs_data,joinW_lib,List.length_map] at this
    exact this.mono fun e w' ⟨he,hb⟩=>fin e w' he hb
   ·rw [List.getElem?_map] at hx
    cases hq:l[j]? with
    | none=>simp [hq] at hx
    | some t =>
     rw [hq] at hx
     obtain rfl:bs t=x:=by simpa using hx
     have:=hcell j _ (by rw [List.getElem?_map,hq];rfl) 0 (.string (bs t)) rfl
     rw [add_flat,Nat.mul_one,Nat.add_zero] at this
     exact this
end Go.Proofs.YtgelfflighgajaaGreatDoor
