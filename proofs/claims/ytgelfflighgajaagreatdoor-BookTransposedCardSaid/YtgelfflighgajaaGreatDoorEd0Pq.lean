/- The text of an empty Builder that still lies in a box. -/
import Derived.Test.YtgelfflighgajaaGreatDoorEdPPq
set_option maxHeartbeats 8000000
set_option maxRecDepth 100000
set_option linter.unusedVariables false
set_option linter.unusedSimpArgs false
namespace Go.Proofs.YtgelfflighgajaaGreatDoor
section
open Go.RowKit
theorem z13o {p:Prop} (h:p:=by omega):p:=h
structure En where
 t:List UInt8
 s:Int
 p:Pce
def eEn (e:En):List AV:=[.sc (.string (bs e.t)),.sc (.int .u8 e.s),.ls 3 (e.p.cs.map eCrs),.ls 1 (e.p.st.map eInt),.ls 6 (e.p.evs.map eEv)]
def eBk (b:List En):AV:=.ag [.ls 5 (b.map eEn)]
def chOk (c:UInt8):Bool:=decide (32≤(c.toNat:Int)) && decide ((c.toNat:Int)≤126)
def ttlOk (t:List UInt8):Bool:=decide (1≤t.length∧t.length≤60) && !(((t.getD 0 0).toNat:Int) == 32) && !(((t.getD (t.length-1) 0).toNat:Int) == 32) && t.all chOk
def ttlN(b:List En)(t:List UInt8):Nat:=(b.takeWhile fun e=>!(e.t == t)).length
def ttlI(b:List En)(t:List UInt8):Int:=if ttlN b t<b.length then(ttlN b t:Int)else -1
theorem ttlN_before {b:List En} {t:List UInt8} {k:Nat} (h:k<ttlN b t) (hk:k<b.length):(b[k].t == t)=false:=by
 have h1:(b.takeWhile fun e=>!(e.t == t))[k]'h∈b.takeWhile fun e=>!(e.t == t):=List.getElem_mem _
 have h2:(b.takeWhile fun e=>!(e.t == t))[k]'h=b[k]:=(List.takeWhile_prefix _).getElem _
 have h3:=List.all_eq_true.1 (List.all_takeWhile (p:=fun e:En=>!(e.t == t)) (l:=b)) _ h1
 rw [h2] at h3
 simpa using h3
theorem ttlN_here {b:List En} {t:List UInt8} (h:ttlN b t<b.length):(b[ttlN b t].t == t)=true:=by
 have h1:b.drop (ttlN b t)=b.dropWhile fun e=>!(e.t == t):=by
  have e:=List.takeWhile_append_dropWhile (p:=fun e:En=>!(e.t == t)) (l:=b)
  have:=List.drop_left (l₁:=b.takeWhile fun e=>!(e.t == t)) (l₂:=b.dropWhile fun e=>!(e.t == t))
  rw [e] at this
  exact this
 have h2:b.drop (ttlN b t)=b[ttlN b t]::b.drop (ttlN b t+1):=List.drop_eq_getElem_cons h
 rw [h1] at h2
 have h3:=List.head?_dropWhile_not (fun e:En=>!(e.t == t)) b
 rw [h2] at h3
 simpa [List.getElem?_eq_getElem h] using h3
theorem ttlN_eq {b:List En} {t:List UInt8} {k:Nat} (hk:k<b.length) (h1:∀ i (hi:i<k),(b[i]'(by omega)).t≠t) (h2:b[k].t=t):ttlN b t=k:=by
 rcases Nat.lt_trichotomy (ttlN b t) k with h|h|h
 ·have:=ttlN_here (b:=b) (t:=t) z13o
  exact absurd (by simpa using this) (h1 _ h)
 ·exact h
 ·have:=ttlN_before h hk
  rw [h2] at this;simp at this
def enE(b:List En)(i:Nat)(e:En):Int :=
 if ttlOk e.t=false∨ttlN b e.t<i then 110 else if ¬ (1≤e.s∧e.s≤4)then 30 else if pceE e.p≠0 then pceE e.p else if lksR e.s e.p=[]then 0 else 31
def ensE (b:List En):Nat→List En→Int
 | _,[]=>0
 | i,e::r=>if enE b i e=0 then ensE b (i+1) r else enE b i e
def bkE(b:List En):Int:=if 64<b.length then 2 else ensE b 0 b
theorem ensE_all {b:List En}:∀ {l:List En} {i:Nat},(∀ k (h:k<l.length),enE b (i+k) l[k]=0)→ensE b i l=0
 | [],_,_=>rfl
 | e::r,i,h=>by
  have h0:enE b i e=0:=h 0 (by simp)
  have e1:ensE b i (e::r)=ensE b (i+1) r:=if_pos h0
  rw [e1]
  refine ensE_all fun k hk=>?_
  have:=h (k+1) (by simpa using hk)
  rw [show i+1+k=i+(k+1) by omega]
  exact this
theorem ensE_at {b:List En}:∀ {l:List En} {i k:Nat} (h:k<l.length),(∀ j (hj:j<k),enE b (i+j) (l[j]'(by omega))=0)→enE b (i+k) l[k]≠0→ensE b i l=enE b (i+k) l[k]
 | [],_,k,h,_,_=>by simp at h
 | e::r,i,0,h,_,h2=>if_neg h2
 | e::r,i,k+1,h,h1,h2=>by
  have h0:enE b i e=0:=h1 0 z13o
  have e1:ensE b i (e::r)=ensE b (i+1) r:=if_pos h0
  have e2:i+(k+1)=i+1+k:=by omega
  rw [e1]
  simp only [List.getElem_cons_succ] at h2 ⊢
  rw [e2] at h2 ⊢
  exact ensE_at (by simpa using h) (fun j hj=>by
   have:=h1 (j+1) z13o
   simp only [List.getElem_cons_succ] at this
   rw [show i+1+j=i+(j+1) by omega]
   exact this) h2
theorem bkE_ok {b:List En} (h:¬ 64<b.length)(h1:∀ k(h:k<b.length),enE b k b[k]=0):bkE b=0:=by
 unfold bkE
 rw [if_neg h]
 exact ensE_all fun k hk=>by simpa using h1 k hk
theorem bkE_at {b:List En} (h:¬ 64<b.length) {k:Nat} (hk:k<b.length) (h1:∀ j (hj:j<k),enE b j (b[j]'(by omega))=0) (h2:enE b k b[k]≠0):bkE b=enE b k b[k]:=by
 unfold bkE
 rw [if_neg h]
 have:=ensE_at (b:=b) (i:=0) hk (fun j hj=>by simpa using h1 j hj) (by simpa using h2)
 simpa using this
structure BkOk(b:List En):Prop where
 n:b.length≤70
 p:∀ k(h:k<b.length),PcOk b[k].p
 t:∀ k(h:k<b.length),b[k].t.length≤1000
end
section
open Go.RowKit
theorem ttl_step {t:List UInt8} {k:Nat} (h:k<t.length)(h1:(t.take k).all chOk=true)(h2:chOk (t.getD k 0)=true):(t.take (k+1)).all chOk=true:=by
 rw [List.take_succ_eq_append_getElem h,List.all_append,h1]
 rw [List.getD_eq_getElem?_getD,List.getElem?_eq_getElem h]at h2
 simpa using h2
theorem ttl_no {t:List UInt8} {k:Nat} (h:k<t.length)(h2:chOk (t.getD k 0)=false):t.all chOk=false:=by
 rw [List.all_eq_false]
 refine⟨t[k],List.getElem_mem h,?_⟩
 rw [List.getD_eq_getElem?_getD,List.getElem?_eq_getElem h]at h2
 simpa using h2
theorem pTitle_FS (t:List UInt8) (hl:t.length≤1000000):Ctr Tryz.prog 120 [.sc (.string (bs t))] (.sc (.bool (ttlOk t))):=by
 by_cases h1:t.length < 1
 ·have e:ttlOk t=false:=by unfold ttlOk;rw [decide_eq_false (by omega)];rfl
  rw [e]
  refine Ctr.intro Tryz.func120 rfl Tryz.ntmps120 (Nat.le_of_ble_eq_true rfl) (bd_all rfl) fun w0 F0=>?_;dsimp only [St.init,number,Nat.reduceAdd]
  repeat (first|refine W.gob rfl ?_|refine WL.nil ?_|refine WL.bt rfl rfl rfl z13o ?_|refine WL.e1 rfl ?_|refine WL.opno rfl rfl rfl rfl rfl rfl rfl ?_|refine WL.len rfl rfl zql ?_|refine W.condT rfl ?_)
  refine (?_:W _ _ _ _ _)
  exact W.ret (fin1 rfl rfl rfl rfl)
 by_cases h2:t.length > 60
 ·have e:ttlOk t=false:=by unfold ttlOk;rw [decide_eq_false (by omega)];rfl
  rw [e]
  refine Ctr.intro Tryz.func120 rfl Tryz.ntmps120 (Nat.le_of_ble_eq_true rfl) (bd_all rfl) fun w0 F0=>?_;dsimp only [St.init,number,Nat.reduceAdd]
  repeat (first|refine W.gob rfl ?_|refine WL.nil ?_|refine WL.bt rfl rfl rfl z13o ?_|refine WL.bf rfl rfl rfl z13o ?_|refine WL.e1 rfl ?_|refine WL.gyes rfl rfl rfl rfl ?_|refine WL.opno rfl rfl rfl rfl rfl rfl rfl ?_|refine WL.len rfl rfl zql ?_|refine W.condT rfl ?_)
  refine (?_:W _ _ _ _ _)
  exact W.ret (fin1 rfl rfl rfl rfl)
 have e0:decide (1≤t.length∧t.length≤60)=true:=decide_eq_true z13o
 have ez:((0:Int)).toNat=0:=rfl
 have el:(((t.length:Nat):Int) - 1).toNat=t.length - 1:=by omega
 obtain ⟨c0,hc0⟩:∃ c,((t.getD 0 0).toNat:Int)=c:=⟨_,rfl⟩
 obtain ⟨c1,hc1⟩:∃ c,((t.getD (t.length - 1) 0).toNat:Int)=c:=⟨_,rfl⟩
 by_cases h3:c0=32
 ·have e:ttlOk t=false:=by unfold ttlOk;rw [e0,hc0,h3];rfl
  rw [e]
  refine Ctr.intro Tryz.func120 rfl Tryz.ntmps120 (Nat.le_of_ble_eq_true rfl) (bd_all rfl) fun w0 F0=>?_;dsimp only [St.init,number,Nat.reduceAdd]
  repeat (first|refine W.gob rfl ?_|refine WL.nil ?_|refine WL.bf rfl rfl rfl z13o ?_|refine WL.e1 rfl ?_|refine WL.gyes rfl rfl rfl rfl ?_|refine WL.len rfl rfl zql ?_)
  refine (?_:WL _ _ _ _ _ _)
  refine WL.six rfl rfl ⟨by omega,by omega⟩ ?_
  simp only [ez,hc0]
  repeat (first|refine W.gob rfl ?_|refine WL.nil ?_|refine WL.bt rfl rfl rfl z13o ?_|refine WL.e1 rfl ?_|refine WL.gyes rfl rfl rfl rfl ?_|refine WL.opno rfl rfl rfl rfl rfl rfl rfl ?_|refine W.condT rfl ?_)
  refine (?_:W _ _ _ _ _)
  exact W.ret (fin1 rfl rfl rfl rfl)
 by_cases h4:c1=32
 ·have e:ttlOk t=false:=by unfold ttlOk;rw [e0,hc0,hc1,h4];simp
  rw [e]
  refine Ctr.intro Tryz.func120 rfl Tryz.ntmps120 (Nat.le_of_ble_eq_true rfl) (bd_all rfl) fun w0 F0=>?_;dsimp only [St.init,number,Nat.reduceAdd]
  repeat (first|refine W.gob rfl ?_|refine WL.nil ?_|refine WL.bf rfl rfl rfl z13o ?_|refine WL.e1 rfl ?_|refine WL.gyes rfl rfl rfl rfl ?_|refine WL.len rfl rfl zql ?_)
  refine (?_:WL _ _ _ _ _ _)
  refine WL.six rfl rfl ⟨by omega,by omega⟩ ?_
  simp only [ez,hc0]
  repeat (first|refine WL.bf rfl rfl rfl z13o ?_|refine WL.e1 rfl ?_|refine WL.gyes rfl rfl rfl rfl ?_|refine WL.ar rfl rfl (by unfold I64;omega) ?_|refine WL.len rfl rfl zql ?_)
  refine (?_:WL _ _ _ _ _ _)
  refine WL.six rfl rfl ⟨by omega,by omega⟩ ?_
  simp only [el,hc1]
  repeat (first|refine W.gob rfl ?_|refine WL.nil ?_|refine WL.bt rfl rfl rfl z13o ?_|refine WL.e1 rfl ?_|refine WL.gyes rfl rfl rfl rfl ?_|refine W.condT rfl ?_)
  refine (?_:W _ _ _ _ _)
  exact W.ret (fin1 rfl rfl rfl rfl)
 have e:ttlOk t=t.all chOk:=by
  unfold ttlOk;rw [e0,hc0,hc1];simp [h3,h4]
 rw [e]
 refine Ctr.intro Tryz.func120 rfl Tryz.ntmps120 (Nat.le_of_ble_eq_true rfl) (bd_all rfl) fun w0 F0=>?_;dsimp only [St.init,number,Nat.reduceAdd]
 repeat (first|refine W.gob rfl ?_|refine WL.nil ?_|refine WL.bf rfl rfl rfl z13o ?_|refine WL.e1 rfl ?_|refine WL.gyes rfl rfl rfl rfl ?_|refine WL.len rfl rfl zql ?_)
 refine (?_:WL _ _ _ _ _ _)
 refine WL.six rfl rfl ⟨by omega,by omega⟩ ?_
 simp only [ez,hc0]
 repeat (first|refine WL.bf rfl rfl rfl z13o ?_|refine WL.e1 rfl ?_|refine WL.gyes rfl rfl rfl rfl ?_|refine WL.ar rfl rfl (by unfold I64;omega) ?_|refine WL.len rfl rfl zql ?_)
 refine (?_:WL _ _ _ _ _ _)
 refine WL.six rfl rfl ⟨by omega,by omega⟩ ?_
 simp only [el,hc1]
 repeat (first|refine W.gob rfl ?_|refine WL.nil ?_|refine WL.bf rfl rfl rfl z13o ?_|refine WL.e1 rfl ?_|refine WL.gyes rfl rfl rfl rfl ?_|refine W.condF rfl ?_)
 refine (?_:W _ _ _ _ _)
 refine W.loop (fun k:Nat=>k≤t.length∧(t.take k).all chOk=true) (fun k=>⟨[(0,.sc (.string (bs t))),(3,.sc (.int .i64 k))],[],0⟩) (fun k=>t.length - k) 0 ⟨by omega,by simp⟩ (zqt id) fun k hk=>?_
 obtain ⟨hk,hall⟩:=hk
 by_cases hlt:k < t.length
 rotate_left
 ·obtain rfl:k=t.length:=by omega
  rw [List.take_length] at hall
  rw [hall]
  repeat (first|refine W.gob rfl ?_|refine WL.nil ?_|refine WL.bf rfl rfl rfl z13o ?_|refine WL.e1 rfl ?_|refine WL.len rfl rfl zql ?_|refine W.condF rfl ?_)
  refine (?_:W _ _ _ _ _)
  exact W.ret (fin1 rfl rfl rfl rfl)
 have ek:((k:Nat):Int).toNat=k:=Int.toNat_natCast k
 have hst:=fun h=>ttl_step hlt hall h
 have hno:=fun h=>ttl_no hlt h
 have hch:chOk (t.getD k 0)=(decide (32≤((t.getD k 0).toNat:Int)) && decide (((t.getD k 0).toNat:Int)≤126)):=rfl
 obtain ⟨c,hc⟩:∃ c,((t.getD k 0).toNat:Int)=c:=⟨_,rfl⟩
 rw [hc] at hch
 rw [hch] at hst hno
 by_cases h5:c < 32
 ·rw [hno (by rw [decide_eq_false (by omega)];rfl)]
  repeat (first|refine W.gob rfl ?_|refine WL.nil ?_|refine WL.bt rfl rfl rfl z13o ?_|refine WL.e1 rfl ?_|refine WL.len rfl rfl zql ?_|refine W.condT rfl ?_)
  refine (?_:WL _ _ _ _ _ _)
  refine WL.six rfl rfl ⟨by omega,by omega⟩ ?_
  simp only [ek,hc]
  repeat (first|refine W.gob rfl ?_|refine WL.nil ?_|refine WL.bt rfl rfl rfl z13o ?_|refine WL.e1 rfl ?_|refine WL.opno rfl rfl rfl rfl rfl rfl rfl ?_|refine W.condT rfl ?_)
  refine (?_:W _ _ _ _ _)
  exact W.ret (fin1 rfl rfl rfl rfl)
 by_cases h6:c > 126
 ·rw [hno (by rw [decide_eq_false (show ¬ c≤126 by omega)];simp)]
  repeat (first|refine W.gob rfl ?_|refine WL.nil ?_|refine WL.bt rfl rfl rfl z13o ?_|refine WL.e1 rfl ?_|refine WL.len rfl rfl zql ?_|refine W.condT rfl ?_)
  refine (?_:WL _ _ _ _ _ _)
  refine WL.six rfl rfl ⟨by omega,by omega⟩ ?_
  simp only [ek,hc]
  repeat (first|refine WL.bf rfl rfl rfl z13o ?_|refine WL.e1 rfl ?_|refine WL.gyes rfl rfl rfl rfl ?_)
  refine (?_:WL _ _ _ _ _ _)
  refine WL.six rfl rfl ⟨by omega,by omega⟩ ?_
  simp only [ek,hc]
  repeat (first|refine W.gob rfl ?_|refine WL.nil ?_|refine WL.bt rfl rfl rfl z13o ?_|refine WL.e1 rfl ?_|refine WL.gyes rfl rfl rfl rfl ?_|refine W.condT rfl ?_)
  refine (?_:W _ _ _ _ _)
  exact W.ret (fin1 rfl rfl rfl rfl)
 have hnext:=hst (by rw [decide_eq_true (show 32≤c by omega),decide_eq_true (show c≤126 by omega)];rfl)
 repeat (first|refine W.gob rfl ?_|refine WL.nil ?_|refine WL.bt rfl rfl rfl z13o ?_|refine WL.e1 rfl ?_|refine WL.len rfl rfl zql ?_|refine W.condT rfl ?_)
 refine (?_:WL _ _ _ _ _ _)
 refine WL.six rfl rfl ⟨by omega,by omega⟩ ?_
 simp only [ek,hc]
 repeat (first|refine WL.bf rfl rfl rfl z13o ?_|refine WL.e1 rfl ?_|refine WL.gyes rfl rfl rfl rfl ?_)
 refine (?_:WL _ _ _ _ _ _)
 refine WL.six rfl rfl ⟨by omega,by omega⟩ ?_
 simp only [ek,hc]
 repeat (first|refine W.gob rfl ?_|refine WL.nil ?_|refine WL.bf rfl rfl rfl z13o ?_|refine WL.e1 rfl ?_|refine WL.gyes rfl rfl rfl rfl ?_|refine WL.ar rfl rfl (by unfold I64;omega) ?_|refine W.condF rfl ?_)
 exact ⟨k+1,⟨by omega,hnext⟩,by omega,(zqt id)⟩
end
section
open Go.RowKit
theorem bldS0 (w:World) (b:Nat) (p:Value) (hbk:w.heap[b]?=some (.cells #[p,.slice none 0 0] 109 (0,0))) :
  Calls Tryz.prog 59 #[.pointer (some ⟨b,0,none⟩)] w fun e w'=>e=.returned (.string (bs []))∧w'=w.drew:=by
 have c1:w.drew.cell? ⟨b,1,none⟩=some (.slice none 0 0):=by
  have:w.drew.heap[b]?=some (.cells #[p,.slice none 0 0] 109 (0,0)):=hbk
  rw [Lib.cell_of_heap this];rfl
 have hUS:(Builtin.unsafeString_ #[202,3] 9 #[.pointer none,.int .i64 0]).run Tryz.prog w.drew=.ok (.string .empty) w.drew:=Lib.run_unsafeString_none _ _ _ _ _
 have hSD:(Builtin.unsafeSliceData_ #[57] 202 #[.slice none 0 0]).run Tryz.prog w.drew=.ok (.pointer none) w.drew:=Lib.run_unsafeSliceData_nil _ _ _ _ _
 have mixed:Tryz.prog.follows .mixedOrders=true:=by kernel_rfl
 go_enter Tryz.func59,Tryz.ntmps59
 go_wp2
 go_region_o
 all_goals (go_wp2;go_ret;exact ⟨rfl,rfl⟩)
theorem WV.box2 {P:Program} {C:Cx} {o:Oper} {σ:St} {f:FuncId} {k:Nat} {x:Operand} {ts:Array TypeId} {T:TypeId} {c1 c2 v:Value} (ho:o.op=.call { callee:=.value (.func f),args:=#[x],argTypes:=ts }) (hc:∀ vs w,(callFunc f vs).run P w=.ok (.enter f vs) w)
  (hx:σ.ev x=some (.pt k 0 0)) (hk:look k σ.M=some (.box T [.sc c1,.sc c2])) (h:∀ w b,w.heap[b]?=some (.cells #[c1,c2] T (0,0))→Calls P f #[.pointer (some ⟨b,0,none⟩)] w fun e w'=>e=.returned v∧w'=w.drew):WV P C o σ (.sc v):=by
 intro G a w ok N Q' hN
 obtain ⟨p,ep,p1,p2,p3⟩:=(ok.evr hx).2.pt_of
 obtain ⟨h1,cs,Φ,hB,hsz,_,_,hcs⟩:=(ok.ob k _ hk).2.2
 obtain rfl:=addr_eq p1 p2 p3
 rw [Nat.zero_mul] at ep
 have hsz:cs.size=2:=hsz
 have g:∀ i (h:i<2),cs[i]?=some (cs[i]'(by omega)):=fun i h=>Array.getElem?_eq_getElem (by omega)
 have e1:=(CR.r (hcs 0 _ _ rfl (g 0 z13o)) rfl).sc_eq
 have e2:=(CR.r (hcs 1 _ _ rfl (g 1 z13o)) rfl).sc_eq
 have ecs:cs=#[c1,c2]:=by
  apply Array.ext (by simp [hsz])
  intro i hi hi2
  match i,(show i<2 by omega) with
  | 0,_=>exact e1
  | 1,_=>exact e2
 subst ecs
 unfold Oper.wp execOp
 have ev:a.eval (.func f)=.func (.func f) #[] #[]:=rfl
 have e3:(#[]++(#[x]:Array Operand).map a.eval++#[]:Array Value)=#[.pointer (some ⟨G.b k,0,none⟩)]:=by simp [ep]
 simp only [ho,resolve,ev,Deferred.ofValue,invoke,Sem.run_bind,Sem.run_pure,Result.andThen_ok,hc,Oper.upon,e3]
 refine (h w (G.b k) hB).mono fun e w1 ⟨he,hw⟩=>?_
 subst he hw
 exact hN _ G _ (fun σ'' a'' ok''=>ok''.drew) (.pu _ _ (.sc _)) (.sc _)
end
end Go.Proofs.YtgelfflighgajaaGreatDoor
