/- The pitch of a place: the program. -/
import Derived.Test.YtgelfflighgajaaGreatDoorSmTq
import Derived.Test.YtgelfflighgajaaGreatDoorNtPTq
set_option maxHeartbeats 8000000
set_option maxRecDepth 100000
set_option linter.unusedVariables false
set_option linter.unusedSimpArgs false
namespace Go.Proofs.YtgelfflighgajaaGreatDoor
open Go.RowKit
theorem z3o {p : Prop} (h : p := by omega) : p := h
def stripE(e:Ev):List Stp×Bool:=(e.stops,e.tie)
theorem runL_strip {c:Int}:∀ (k:Nat) {l m:List Ev},l.map stripE=m.map stripE→runL c k l=runL c k m
 | 0,l,m,_=>by simp [runL]
 | k+1,[],[],_=>rfl
 | k+1,[],y::m,h=>by simp at h
 | k+1,x::l,[],h=>by simp at h
 | k+1,x::l,y::m,h=>by
  rw [List.map_cons,List.map_cons] at h
  obtain⟨h1,h2⟩:=List.cons.inj h
  unfold stripE at h1
  obtain⟨h3,h4⟩:=Prod.mk.inj h1
  have ih:=runL_strip (c:=c) k h2
  unfold runL restB
  rw [h3,h4,ih]
theorem longestN_strip {l m:List Ev} (h:l.map stripE=m.map stripE) (i c:Int):longestN l i c=longestN m i c:=by
 have hl:l.length=m.length:=by have:=congrArg List.length h;simpa using this
 unfold longestN
 rw [hl,runL_strip 15 (l:=l.drop (i.toNat+1)) (m:=m.drop (i.toNat+1)) (by rw [List.map_drop,List.map_drop,h])]
theorem stopE_strip {p q:Pce} (hc:p.cs=q.cs)(h:p.evs.map stripE=q.evs.map stripE)(i:Int)(s:Stp)(last:Int):stopE p i s last=stopE q i s last:=by
 unfold stopE
 rw [hc,longestN_strip h]
theorem stopsE_strip {p q:Pce} (hc:p.cs=q.cs)(h:p.evs.map stripE=q.evs.map stripE)(i:Int):∀ (l:List Stp)(last:Int),stopsE p i last l=stopsE q i last l
 | [],_=>rfl
 | s::r,last=>by
  show(if stopE p i s last≠0 then _ else _)=(if stopE q i s last≠0 then _ else _)
  rw [stopE_strip hc h,stopsE_strip hc h i r]
theorem plN_get {evs:List Ev}:∀ {n k:Nat} (h:k<n) (hn:n≤evs.length),(plN evs n)[k]'(by rw [plN_length hn];exact h)=sgW (evs[k]'(by omega)) (sgF evs (k+1))
 | 0,k,h,_=>absurd h (Nat.not_lt_zero k)
 | n+1,k,h,hn=>by
  have e:=plN_at (evs:=evs) (k:=n) z3o
  have hl:(plN evs n).length=n:=plN_length z3o
  have key:(plN evs (n+1))[k]?=some (sgW (evs[k]' z3o) (sgF evs (k+1))):=by
   rw [e]
   by_cases hk:k<n
   ·rw [List.getElem?_append_left (by omega),List.getElem?_eq_getElem (by omega),plN_get hk (by omega)]
   ·obtain rfl:k=n:=by omega
    rw [List.getElem?_append_right (by omega),hl,Nat.sub_self];rfl
  rw [List.getElem?_eq_getElem (by rw [plN_length hn];exact h)]at key
  exact Option.some.inj key
theorem plE_strip (p:Pce):(plE p).map stripE=p.evs.map stripE:=by
 apply List.ext_getElem (by rw [List.length_map,List.length_map,plE_length])
 intro k h1 h2
 have hk:k<p.evs.length:=by simpa using h2
 rw [List.getElem_map,List.getElem_map]
 have:=plN_get (evs:=p.evs) hk (Nat.le_refl _)
 unfold plE
 rw [this];rfl
theorem sgF_val {p:Pce} (h0:pceE p=0):∀ k,k<p.evs.length→(sgF p.evs (k+1)).1≠0∧sgOk (sgF p.evs (k+1)).1 (sgF p.evs (k+1)).2.1 (sgF p.evs (k+1)).2.2=true
 | 0,h=>by
  obtain ⟨a,b,_,_⟩:=evE_zero ((pceE_zero h0).2.2 0 h)
  rw [sgF_at h]
  have hv:p.evs[0].val≠0:=fun hv=>b ⟨rfl,hv⟩
  rw [if_neg hv]
  exact ⟨hv,a⟩
 | k+1,h=>by
  obtain ⟨a,b,_,_⟩:=evE_zero ((pceE_zero h0).2.2 (k+1) h)
  rw [sgF_at h]
  by_cases hv:p.evs[k+1].val=0
  ·rw [if_pos hv]
   exact sgF_val h0 k z3o
  ·rw [if_neg hv]
   exact ⟨hv,a⟩
theorem evsE_all {p:Pce}:∀ {l:List Ev} {n:Nat},(∀ k (h:k<l.length),evE p ((n+k:Nat):Int) l[k]=0)→evsE p n l=0
 | [],n,_=>rfl
 | e::r,n,h=>by
  have h0:=h 0 (by simp)
  simp only [Nat.add_zero,List.getElem_cons_zero] at h0
  have e1:evsE p n (e::r)=evsE p (n+1) r:=if_neg (by rw [h0];simp)
  rw [e1]
  refine evsE_all fun k hk=>?_
  have:=h (k+1) (by simpa using hk)
  rw [show n+1+k=n+(k+1) by omega]
  simpa using this
theorem pceE_pl {p:Pce} (h0:pceE p=0):pceE ⟨p.cs,p.st,plE p⟩=0:=by
 obtain ⟨h1,h2,h3⟩:=pceE_zero h0
 have hl:=plE_length p
 unfold pceE
 rw [if_neg (by simpa using h1),if_neg (by show ¬ 400<(plE p).length;omega)]
 refine evsE_all fun k hk=>?_
 have hk':k<p.evs.length:=by rw [← hl];exact hk
 obtain ⟨a,b,c,d⟩:=evE_zero (h3 k hk')
 obtain ⟨s1,s2⟩:=sgF_val h0 k hk'
 have he:(plE p)[k]'hk=sgW p.evs[k] (sgF p.evs (k+1)):=plN_get hk' (Nat.le_refl _)
 have hst:=stopsE_strip (p:=⟨p.cs,p.st,plE p⟩) (q:=p) rfl (plE_strip p) (k:Int) p.evs[k].stops 0
 show evE ⟨p.cs,p.st,plE p⟩ ((0+k:Nat):Int) ((plE p)[k]'hk)=0
 rw [Nat.zero_add,he]
 unfold evE
 rw [if_neg (by
  rintro (h|h)
  ·have h:sgOk (sgF p.evs (k+1)).1 (sgF p.evs (k+1)).2.1 (sgF p.evs (k+1)).2.2=false:=h
   rw [s2] at h;cases h
  ·exact s1 h.2),if_neg (show ¬ ((sgW p.evs[k] (sgF p.evs (k+1))).tie=true∧(0<(sgW p.evs[k] (sgF p.evs (k+1))).stops.length∨(k:Int)=0)) from c)]
 show stopsE ⟨p.cs,p.st,plE p⟩ k 0 p.evs[k].stops=0
 rw [hst];exact d
end Go.Proofs.YtgelfflighgajaaGreatDoor
namespace Go.Proofs.YtgelfflighgajaaGreatDoor
open Go.RowKit
theorem crsE_p {st:List Int}:∀ {cs:List (Int×Int×Bool)},crsE st cs=0→∀ k (h:k<cs.length),0≤cs[k].1∧cs[k].1≤127:=by
 intro cs
 induction cs with
 | nil=>intro _ k h;simp at h
 | cons x r ih =>
  intro h k hk
  unfold crsE at h
  by_cases h1:x.2.1<0∨(st.length:Int)<x.2.1
  ·rw [if_pos h1]at h;cases h
  ·rw [if_neg h1]at h
   by_cases h2:(x.1<0∨127<x.1)∨127<topOf st x
   ·rw [if_pos h2]at h;cases h
   ·rw [if_neg h2]at h
    cases k with
    | zero=>simp;omega
    | succ k=>simpa using ih h k (by simpa using hk)
theorem stopped_FS (cs:List (Int×Int×Bool)) (st:List Int) (x:Int×Int×Bool) (f:Int) (hx:0≤x.1∧x.1≤127) (hf:0≤f∧f≤st.length) (hl:st.length≤18) (hs:∀ k (h:k < st.length),1≤st[k]∧st[k]≤127) :
  Ctr Tryz.prog 247 [.ag (eIns cs st),.ag (eCrs x),.sc (.int .i64 f)] (.sc (.int .i64 (x.1+if 0 < f then st.getD (f - 1).toNat 0 else 0))):=by
 refine Ctr.intro Tryz.func247 rfl Tryz.ntmps247 (Nat.le_of_ble_eq_true rfl) (bd_all rfl) fun w0 F0=>?_;dsimp only [St.init,number,Nat.reduceAdd]
 by_cases h0:f=0
 ·subst h0
  have e0:x.1+(if (0:Int) < 0 then st.getD ((0:Int) - 1).toNat 0 else 0)=x.1:=by simp
  rw [e0]
  repeat (first|refine W.go rfl ?_|refine W.condT rfl ?_)
  refine (?_:W _ _ _ _ _)
  exact W.ret (fin1 rfl rfl rfl rfl)
 ·have hlt:(f - 1).toNat < st.length:=by omega
  have hs1:=hs _ hlt
  have hg:st.getD (f - 1).toNat 0=st[(f - 1).toNat]:=by rw [List.getD_eq_getElem?_getD,List.getElem?_eq_getElem hlt];rfl
  rw [if_pos (by omega),hg]
  repeat (first|refine W.gob rfl ?_|refine WL.nil ?_|refine WL.bf rfl rfl rfl z3o ?_|refine WL.e1 rfl ?_|refine W.condF rfl ?_)
  refine (?_:W _ _ _ _ _)
  refine W.drawK (by kernel_rfl) (by kernel_rfl) ?_
  repeat (first|refine DK.st rfl ?_|refine DK.ar rfl rfl (by unfold I64;omega) ?_|refine DK.idx rfl rfl z3o (by first|exact map_at z3o|exact map_atZ z3o z3o) ?_|refine DK.nil ?_)
  refine (?_:W _ _ _ _ _)
  exact W.ret (fin1 rfl rfl rfl rfl)
theorem pAt_FS (cs:List (Int×Int×Bool)) (st:List Int) (c f:Int) (hI:insE cs st=0) (hc:1≤c∧c≤cs.length) (hf:0≤f∧f≤fretsOf cs c) :
  Ctr Tryz.prog 231 [.ag (eIns cs st),.ag [.sc (.int .i64 c),.sc (.int .i64 f)]] (.tu [.sc (.int .i64 (pitN cs st c f)),.sc (.int .i64 0)]):=by
 obtain ⟨l1,l2,l3,l4,l5⟩:=insE_len hI
 have hC:=pInsCheck_FS cs st
 rw [hI] at hC
 have hk:(c - 1).toNat < cs.length:=by omega
 have hfr:=crsE_fr l5 _ hk
 have hp:=crsE_p l5 _ hk
 have ef:fretsOf cs c=cs[(c - 1).toNat].2.1:=by
  have:=fretsOf_at hk
  rw [← this];congr 1;omega
 rw [ef] at hf
 have ep:pitN cs st c f=cs[(c - 1).toNat].1+if 0 < f then st.getD (f - 1).toNat 0 else 0:=by
  unfold pitN
  rw [List.getD_eq_getElem?_getD,List.getElem?_eq_getElem hk];rfl
 rw [ep]
 have hS:=stopped_FS cs st cs[(c - 1).toNat] f hp ⟨hf.1,by omega⟩ l3 (stepsBad_bd (Int.le_refl 0) l4)
 refine Ctr.intro Tryz.func231 rfl Tryz.ntmps231 (Nat.le_of_ble_eq_true rfl) (bd_all rfl) fun w0 F0=>?_;dsimp only [St.init,number,Nat.reduceAdd]
 repeat refine W.go rfl ?_
 refine (?_:WL _ _ _ _ _ _)
 refine WL.vl rfl (WV.call rfl (callF Tryz.func117 rfl rfl) rfl rfl hC) ?_
 repeat (first|refine W.gob rfl ?_|refine WL.nil ?_|refine WL.bf rfl rfl rfl z3o ?_|refine WL.nf rfl rfl rfl z3o ?_|refine WL.e1 rfl ?_|refine WL.gyes rfl rfl rfl rfl ?_|refine WL.ar rfl rfl (by unfold I64;omega) ?_|refine WL.len rfl rfl (by first|exact List.length_map _|exact List.length_replicate|rfl) ?_|refine WL.idx rfl rfl z3o (by first|exact map_at z3o|exact map_atZ z3o z3o) ?_|refine W.condF rfl ?_)
 refine (?_:WL _ _ _ _ _ _)
 refine WL.vl rfl (WV.call rfl (callF Tryz.func247 rfl rfl) rfl rfl hS) ?_
 repeat (first|refine WL.nil ?_|refine WL.e1 rfl ?_)
 refine (?_:W _ _ _ _ _)
 exact W.ret (fin2 rfl rfl rfl rfl rfl rfl rfl)
end Go.Proofs.YtgelfflighgajaaGreatDoor
