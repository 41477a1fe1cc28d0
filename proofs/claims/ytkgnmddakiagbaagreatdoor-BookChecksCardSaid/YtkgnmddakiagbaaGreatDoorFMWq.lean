/- A walk that knows values as trees: a drawn region in which two operations do not wait for each other: one order or the other. -/
import Derived.Test.YtkgnmddakiagbaaGreatDoorFCkWq
set_option linter.unusedVariables false
set_option linter.unusedSimpArgs false
namespace Go.Proofs.YtkgnmddakiagbaaGreatDoor
open Go.RowKit
section
variable {B:World→View→Prop} {gl:Nat} {P:Program} {C:Cx} {σ:St} {o:Oper} {d:Tmp} {ops:Array Oper} {rest:List Oper} {Q:Exit→St→Prop} {mem:List Bool} {Mc:List (Nat×AO)} {nk0 k:Nat}
theorem trM_same {σ σ':St} (h:σ'.M=σ.M) {ρ:Nat→Nat} {nk:Nat}:∀ {M:List (Nat×AO)},TrM σ ρ nk M→TrM σ' ρ nk M
 | [],_=>trivial
 | x::r,⟨h1,h2⟩=>⟨by rw [h];exact h1,trM_same h h2⟩
theorem DMK.ct (hB:Holds B gl C) {f:FuncId} {args args':List AV} {res res':AV} {M M' M2:List (Nat×AO)} {nk nk' n2:Nat} (ks:List Nat) (hd:wrB mem C.N k o=some d) (he:calE σ o.op=some (f,args')) (hc:∀ vs w,(callFunc f vs).run P w=.ok (.enter f vs) w)
  (h:Cto B gl P f args M nk res M' nk') (hks:ksB ks nk σ.nk=true) (ha:args.map (AV.ren (rhoC ks nk σ.nk))=args') (hp:args.all (AV.inn nk)=true) (hM:TrM σ (rhoC ks nk σ.nk) nk M)
  (hq:(Nat.ble nk nk' && M'.all (fun x=>x.2.inn nk') && M'.all (fun x=>Nat.blt x.1 nk') && res.inn nk')=true) (hr:res.ren (rhoC ks nk σ.nk)=res') (hM2:renM (rhoC ks nk σ.nk) M'++remL ks σ.M=M2) (hn2:σ.nk+(nk'-nk)=n2) (hs:msSub Mc M2)
  (r:DMK P C ops mem Mc nk0 (k+1) rest ⟨(d,res')::σ.t,M2,n2⟩ Q):DMK P C ops mem Mc nk0 k (o::rest) σ Q:=by
 subst hM2 hn2
 obtain ⟨a,b,c,e⟩:=wrB_of hd
 simp only [Bool.and_eq_true] at hq
 unfold calE at he
 split at he
 ·rename_i y xs ts ho
  split at he
  ·rename_i fv args0 hy hx
   split at he
   ·rename_i f' caps hf
    cases he
    refine DMK.wr a b (Nat.ble_eq_true_of_le (Nat.le_add_right _ _)) hs ⟨c,fun t H=>?_⟩ r
    have hmem:∀ q∈y::xs,q∈o.op.operands.toList:=fun q hq=>by rw [ho];simp [Op.operands,Call.operands] at hq ⊢;exact hq
    have:=WO.cto (P:=P) (C:=C) (σ:=⟨t,σ.M,σ.nk⟩) (xs:=⟨xs⟩) hB ks ho hc ((ev_agree H (hmem y (by simp))).trans hy) hf ((evs_agree H fun q hq=>hmem q (List.mem_cons_of_mem _ hq)).trans hx) rfl h hks ha hp (trM_same (σ:=σ) (σ':=⟨t,σ.M,σ.nk⟩) (ρ:=rhoC ks nk σ.nk) rfl hM) hq.1.1.1 hq.1.1.2 hq.1.2 hq.2 hr (by rw [b];exact e)
    rw [b] at this
    exact this
   ·cases he
  ·cases he
 ·cases he
theorem W.dm3 {id:Nat} {l:List Oper} (mem:List Bool) (ms:List Nat) (hm:P.follows .mixedOrders=true) (hB:Region.lexB .any l.toArray=true) (hch:chainB l.toArray mem=true) (hMc:msSub (onlyM σ.M ms) σ.M)
  (h:DMK P C l.toArray mem (onlyM σ.M ms) σ.nk 0 l σ Q):W P C (.region id l.toArray true) σ Q:=W.drawMK mem (onlyM σ.M ms) hm hB hch hMc h
theorem DK.bt {φ:Prop} [i:Decidable φ] (hc:isCmp o.op=true) (h:stepD P C.N ops σ o=some (d,.sc (.bool (decide φ)))) (hφ:φ) (k:DK P C ops rest (σ.put d (.sc (.bool true))) Q):DK P C ops (o::rest) σ Q:=by
 rw [decide_eq_true hφ] at h
 exact DK.st h k
theorem DK.bf {φ:Prop} [i:Decidable φ] (hc:isCmp o.op=true) (h:stepD P C.N ops σ o=some (d,.sc (.bool (decide φ)))) (hφ:¬ φ) (k:DK P C ops rest (σ.put d (.sc (.bool false))) Q):DK P C ops (o::rest) σ Q:=by
 rw [decide_eq_false hφ] at h
 exact DK.st h k
end
end Go.Proofs.YtkgnmddakiagbaaGreatDoor
namespace Go.Proofs.YtkgnmddakiagbaaGreatDoor
open Go.RowKit
set_option maxHeartbeats 8000000
set_option maxRecDepth 100000
theorem pOnsets_bad (M:PM) (p:Pce) (w:World) (hP:PcAt w w.heap.size M p) (hO:PcOk p) (h0:pceE p≠0):Calls Tryz.prog 72 #[pcValue M p] w (Ret (.tuple #[.slice none 0 0,.int .i64 (pceE p)]) w):=by
 have hC:=fun (w':World) (hb:Below w.heap.size w w')=>pCheck_any M p w' (hP.after hb) hO
 obtain ⟨E,hE⟩:∃ E,pceE p=E:=⟨_,rfl⟩
 rw [hE] at hC h0 ⊢
 obtain ⟨A1,A2,A3,c1,c2,c3⟩:=M
 unfold pcValue at *
 simp only at *
 have HC:=Lib.hid hC
 have e1:(E == 0)=false:=by simpa using h0
 have e2:(E != 0)=true:=by simpa using h0
 clear hC hP hO h0 hE
 go_enter Tryz.func72,Tryz.ntmps72
 go_wp2_with (go_at_call 45;refine (HC.out _ (by repeat (first|exact Below.refl _ _|assumption|refine bel_drewN ?_ _|refine Below.drew ?_|refine bel_alloc ?_ _|refine Below.setCell ?_ (by first|omega|(simp;done)|(simp;omega)) _|refine bel_step ?_ (by assumption)))).mono ?_;rintro e' w1 ⟨rfl,hb1⟩;have k1:=(Blk.new _ _ _).after hb1;have l1:w.heap.size < w1.heap.size:=k1.lt;clear k1)
 go_ret2
 exact Ret.mk' rfl (by repeat (first|exact Below.refl _ _|assumption|refine bel_drewN ?_ _|refine Below.drew ?_|refine bel_alloc ?_ _|refine Below.setCell ?_ (by first|omega|(simp;done)|(simp;omega)) _|refine bel_step ?_ (by assumption)))
theorem pMeasures_bad (M:PM) (p:Pce) (w:World) (hP:PcAt w w.heap.size M p) (hO:PcOk p) (h0:pceE p≠0):Calls Tryz.prog 37 #[pcValue M p] w (Ret (.tuple #[.slice none 0 0,.int .i64 (pceE p)]) w):=by
 have hC:=fun (w':World) (hb:Below w.heap.size w w')=>pCheck_any M p w' (hP.after hb) hO
 obtain ⟨E,hE⟩:∃ E,pceE p=E:=⟨_,rfl⟩
 rw [hE] at hC h0 ⊢
 obtain ⟨A1,A2,A3,c1,c2,c3⟩:=M
 unfold pcValue at *
 simp only at *
 have HC:=Lib.hid hC
 have e1:(E == 0)=false:=by simpa using h0
 have e2:(E != 0)=true:=by simpa using h0
 clear hC hP hO h0 hE
 go_enter Tryz.func37,Tryz.ntmps37
 go_wp2_with (go_at_call 45;refine (HC.out _ (by repeat (first|exact Below.refl _ _|assumption|refine bel_drewN ?_ _|refine Below.drew ?_|refine bel_alloc ?_ _|refine Below.setCell ?_ (by first|omega|(simp;done)|(simp;omega)) _|refine bel_step ?_ (by assumption)))).mono ?_;rintro e' w1 ⟨rfl,hb1⟩;have k1:=(Blk.new _ _ _).after hb1;have l1:w.heap.size < w1.heap.size:=k1.lt;clear k1)
 go_ret2
 exact Ret.mk' rfl (by repeat (first|exact Below.refl _ _|assumption|refine bel_drewN ?_ _|refine Below.drew ?_|refine bel_alloc ?_ _|refine Below.setCell ?_ (by first|omega|(simp;done)|(simp;omega)) _|refine bel_step ?_ (by assumption)))
end Go.Proofs.YtkgnmddakiagbaaGreatDoor
namespace Go.Proofs.YtkgnmddakiagbaaGreatDoor
open Go.RowKit
def lendB (M:List (Nat×AO)):AV→AV
 | .sl k=>match look k M with
  | some (.row _ n rows)=>.ls n rows
  | _=>.sl k
 | av=>av
section
variable {B:World→View→Prop} {gl:Nat} {P:Program} {C:Cx} {ops:Array Oper} {rest:List Oper} {σ σ':St} {G G':Gh} {a:Act} {w w':World} {o:Oper} {d:Tmp} {Q:Exit→St→Prop}
theorem lend_rp (ok:Ok C σ G a w) {av:AV} {v:Value} (h:R G av v) (hp:(lendB σ.M av).pu2=true):RP (fun q=>w.cell? q) (lendB σ.M av) v:=by
 have hF:G.F.le fun q=>w.cell? q:=fun p u x=>ok.fw p u x
 have std:lendB σ.M av=av→RP (fun q=>w.cell? q) (lendB σ.M av) v:=fun e=>by
  rw [e] at hp ⊢
  exact RP.mono hF ((pu2_bd hp 0).rp h)
 cases av with
 | sl k =>
  cases hk:look k σ.M with
  | none=>exact std (by simp only [lendB,hk])
  | some ob =>
   cases ob with
   | row T n rows =>
    have e:lendB σ.M (.sl k)=.ls n rows:=by simp only [lendB,hk]
    rw [e,h.sl_of.1]
    obtain ⟨_,_,hob⟩:=ok.ob k _ hk
    have:=RowIs.fix (F':=fun q=>w.cell? q) id hob.2.2 (fun _ _=>rfl) fun i r j av u ψ _ _ _ x=>RP.mono hF x
    simpa using this
   | _=>exact std (by simp only [lendB,hk])
 | _=>exact std rfl
theorem truST:∀ w F F',View.le F F'→truB w F→truB w F':=fun _ _ _ _ h=>h
def sixV (P:Program) (σ:St):Op→Option (List UInt8×Int)
 | .index T x y =>
  match P.underlying T,σ.ev x,σ.ev y with
  | some .string,some (.sc (.string ⟨⟨s⟩⟩)),some (.sc (.int _ i))=>some (s,i)
  | _,_,_=>none
 | _=>none
theorem run_six {T:TypeId} {s:List UInt8} {k:IntKind} {i:Int} (hT:P.underlying T=some .string) (h0:0≤i) (h1:i<s.length) :
  (Instr.index T (.string (bs s)) (.int k i)).run P w=.ok (.int .u8 ((s.getD i.toNat 0).toNat:Int)) w:=by
 have hl:i.toNat<s.length:=by omega
 have e:(bs s)[i.toNat]?=some (s.getD i.toNat 0):=by
  rw [List.getD_eq_getElem?_getD,List.getElem?_eq_getElem hl]
  have hs:i.toNat<(bs s).size:=by rw [bs_size];exact hl
  rw [getElem?_pos (bs s) i.toNat hs]
  rfl
 simp [Instr.index,asIntOf,run_underlying hT,h0,e]
theorem sixV_of {s:List UInt8} {i:Int} (h:sixV P σ o.op=some (s,i)) (hb:0≤i∧i<s.length):WV P C o σ (.sc (.int .u8 ((s.getD i.toNat 0).toNat:Int))):=by
 unfold sixV at h
 split at h
 ·rename_i T x y ho
  split at h
  ·rename_i s' k i' hT hx hy
   cases h
   refine WV.sc fun G a w ok=>?_
   unfold execOp
   simp only [ho,ok.evs hx,ok.evs hy,Sem.run_bind]
   have h6:(Instr.index T (.string ⟨⟨s⟩⟩) (.int k i)).run P w=.ok (.int .u8 ((s.getD i.toNat 0).toNat:Int)) w:=run_six hT hb.1 hb.2
   rw [h6];rfl
  ·cases h
 ·cases h
theorem WL.six {s:List UInt8} {i:Int} (hd:dstB C.N o=some d) (h:sixV P σ o.op=some (s,i)) (hb:0≤i∧i<s.length) (k:WL P C ops rest (σ.put d (.sc (.int .u8 ((s.getD i.toNat 0).toNat:Int)))) Q):WL P C ops (o::rest) σ Q :=
 WL.vl hd (sixV_of h hb) k
end
end Go.Proofs.YtkgnmddakiagbaaGreatDoor
namespace Go.Proofs.YtkgnmddakiagbaaGreatDoor
open Go.RowKit
def onB:AV→Bool
 | .sc v=>v.oneCell'
 | .ls _ _=>true
 | _=>false
def lendP (M:List (Nat×AO)):AV→AV
 | .pt k 0 0=>match look k M with
  | some (.box _ cells)=>bif cells.all onB then .pr cells else .pt k 0 0
  | _=>.pt k 0 0
 | av=>lendB M av
def lendC (M:List (Nat×AO)):AV→AV
 | .fn f l=>.fn f (l.map (lendP M))
 | av=>lendP M av
section
variable {B:World→View→Prop} {gl:Nat} {P:Program} {C:Cx} {ops:Array Oper} {rest:List Oper} {σ σ':St} {G G':Gh} {a:Act} {w w':World} {o:Oper} {d:Tmp} {Q:Exit→St→Prop}
theorem onB_of {av:AV} {u:Value} (h:onB av=true) (r:R G av u):u.oneCell'=true∧RP G.F av u∧av.own=false:=by
 cases av with
 | sc v =>
  obtain rfl:=r.sc_eq
  exact ⟨h,.sc _,rfl⟩
 | ls n rows =>
  have h2:RP G.F (.ls n rows) u:=(pu2_bd (av:=.ls n rows) rfl 0).rp r
  obtain ⟨A,cap,ad,u',rfl,_⟩:=h2.ls_of
  exact ⟨rfl,h2,rfl⟩
 | _=>cases h
theorem lendP_rp (ok:Ok C σ G a w) {av:AV} {v:Value} (h:R G av v) (hp:(lendP σ.M av).pu2=true):RP (fun q=>w.cell? q) (lendP σ.M av) v:=by
 have hF:G.F.le fun q=>w.cell? q:=fun p u x=>ok.fw p u x
 cases av with
 | pt k i j =>
  cases i with
  | succ i=>exact lend_rp ok h hp
  | zero =>
   cases j with
   | succ j=>exact lend_rp ok h hp
   | zero =>
    cases hk:look k σ.M with
    | none =>
     have e:lendP σ.M (.pt k 0 0)=.pt k 0 0:=by simp only [lendP,hk]
     rw [e] at hp;cases hp
    | some ob =>
     cases ob with
     | box T cells =>
      have e:lendP σ.M (.pt k 0 0)=bif cells.all onB then .pr cells else .pt k 0 0:=by simp only [lendP,hk]
      rw [e] at hp ⊢
      cases hc:cells.all onB with
      | false=>rw [hc] at hp;cases hp
      | true =>
       obtain ⟨p,rfl,h1,h2,h3⟩:=h.pt_of
       have hcell:∀ (j:Nat) av,cells[j]?=some av→∃ u,w.cell? (p.add j)=some u∧u.oneCell'=true∧RP G.F av u:=fun j av hj=>by
        have hb:=List.all_eq_true.1 hc av (List.mem_of_getElem? hj)
        have ho:av.own=false:=by cases av<;>first|rfl|cases hb
        obtain ⟨u,hu,hr,_⟩:=ok.cell (i:=0) (j:=0) (l:=cells) hk rfl hj h1 h2 h3 ho
        obtain ⟨q1,q2,_⟩:=onB_of hb hr
        exact ⟨u,hu,q1,q2⟩
       show RP _ (.pr cells) _
       refine .pr cells p (fun j=>(w.cell? (p.add j)).getD undef) (fun j av hj=>?_) (fun j av hj=>?_)
       ·obtain ⟨u,hu,q1,q2⟩:=hcell j av hj
        rw [hu];exact ⟨rfl,q1⟩
       ·obtain ⟨u,hu,q1,q2⟩:=hcell j av hj
        rw [hu];exact q2.mono hF
     | _ =>
      have e:lendP σ.M (.pt k 0 0)=.pt k 0 0:=by simp only [lendP,hk]
      rw [e] at hp;cases hp
 | _=>exact lend_rp ok h hp
theorem lendC_rp (ok:Ok C σ G a w) {av:AV} {v:Value} (h:R G av v) (hp:(lendC σ.M av).pu2=true):RP (fun q=>w.cell? q) (lendC σ.M av) v:=by
 cases av with
 | fn f l =>
  obtain ⟨cs,rfl,h1,h2⟩:=h.fn_of
  show RP _ (.fn f (l.map (lendP σ.M))) _
  refine .fn f _ cs (by rw [h1,List.length_map]) fun i av u a b=>?_
  rw [List.getElem?_map] at a
  cases hi:l[i]? with
  | none=>simp [hi] at a
  | some av0 =>
   simp only [hi,Option.map_some,Option.some.injEq] at a
   subst a
   refine lendP_rp ok (h2 i av0 u hi b) ?_
   have hall:(l.map (lendP σ.M)).all AV.pu00=true:=hp
   have h3:(lendP σ.M av0).pu00=true:=List.all_eq_true.1 hall _ (List.mem_of_getElem? (by rw [List.getElem?_map,hi];rfl))
   generalize lendP σ.M av0=q at h3 ⊢
   cases q<;>first|rfl|cases h3
 | _=>exact lendP_rp ok h hp
theorem WV.lendV (hB:Holds B gl C) {f:FuncId} {y:Operand} {fv:AV} {xs:Array Operand} {ts:Array TypeId} {args0 caps args args':List AV} {res:Value} (ho:o.op=.call { callee:=.value y,args:=xs,argTypes:=ts }) (hc:∀ vs w,(callFunc f vs).run P w=.ok (.enter f vs) w)
  (hy:σ.ev y=some fv) (hf:fnOf fv=some (f,caps)) (hx:σ.evs xs.toList=some args0) (hcat:args0++caps=args) (hl:args.map (lendC σ.M)=args') (hp:args'.all AV.pu2=true) (hst:∀ w F F',View.le F F'→B w F→B w F') (h:Ctg B P f args' (.sc res)):WV P C o σ (.sc res):=by
 intro G a w ok N Q' hN
 obtain ⟨cs,ey,h1,h2⟩:=fnOf_of hf (ok.evr hy).2
 obtain ⟨e1,e2⟩:=ok.evl2 hx h1 h2 hcat
 subst hl
 have hF:G.F.le fun q=>w.cell? q:=fun p u x=>ok.fw p u x
 refine call_wp ho hc ey (h w (fun q=>w.cell? q) _ (hst w _ _ hF (hB.1 w G.F ok.bel ok.f0)) (fun _ _ x=>x) ⟨by rw [e1,List.length_map],fun i av u p q=>?_⟩) fun e w1 ⟨v,F',he,hb,h1,h2,h3,h4⟩=>?_
 ·rw [List.getElem?_map] at p
  cases hi:args[i]? with
  | none=>simp [hi] at p
  | some av0 =>
   simp only [hi,Option.map_some,Option.some.injEq] at p
   subst p
   exact lendC_rp ok (e2 i av0 u hi q) (List.all_eq_true.1 hp _ (List.mem_of_getElem? (by rw [List.getElem?_map,hi];rfl)))
 ·have hv:=h4.sc_eq
  subst hv
  exact ⟨_,he,hN _ { G with F:=G.F } w1 (fun σ'' a'' ok''=>ok''.called hb (fun _ _ x=>x) (fun p u x=>by rw [hb.cell (cell_block (ok.fw p u x))];exact ok.fw p u x) (fun _ _ x=>.inl x)) (.pu _ _ (.sc _)) (RP.bd (F:=G.F) (.sc _) _)⟩
end
end Go.Proofs.YtkgnmddakiagbaaGreatDoor
namespace Go.Proofs.YtkgnmddakiagbaaGreatDoor
open Go.RowKit
set_option maxHeartbeats 1600000
set_option maxRecDepth 100000
attribute [local go_sem] mk_bs bs_size bs_toList bs_append bs_extract
attribute [local simp] run_cut run_cut_to run_cut_from run_add_bs
theorem rright_any (s n:Int) (w:World) (hs:1≤s∧s≤4) (h:0≤n∧n≤3) :
  Calls Tryz.prog 204 #[.int .u8 s,.int .i64 n] w fun e w'=>e=.returned (.string (bs (rR s n)))∧w'=w:=by
 have h4:n=0∨n=1∨n=2∨n=3:=by omega
 have s4:s=1∨s=2∨s=3∨s=4:=by omega
 clear h hs
 rcases h4 with rfl|rfl|rfl|rfl<;>rcases s4 with rfl|rfl|rfl|rfl
 all_goals
  go_enter Tryz.func204,Tryz.ntmps204
  go_wp2
  go_ret
  exact ⟨rfl,rfl⟩
theorem rgrace_any (s n:Int) (w:World) (hs:1≤s∧s≤4) (h:0≤n∧n≤4) :
  Calls Tryz.prog 205 #[.int .u8 s,.int .i64 n] w fun e w'=>e=.returned (.string (bs (rG s n)))∧w'=w:=by
 have h4:n=0∨n=1∨n=2∨n=3∨n=4:=by omega
 have s4:s=1∨s=2∨s=3∨s=4:=by omega
 clear h hs
 rcases h4 with rfl|rfl|rfl|rfl|rfl<;>rcases s4 with rfl|rfl|rfl|rfl
 all_goals
  go_enter Tryz.func205,Tryz.ntmps205
  go_wp2
  go_ret
  exact ⟨rfl,rfl⟩
theorem digAll:((List.range 10).all fun n=>cut [48,49,50,51,52,53,54,55,56,57] ((n:Nat):Int) (((n:Nat):Int)+1) == [UInt8.ofNat (48+n)])=true:=by decide +kernel
theorem digOne (n:Int) (h:0≤n∧n≤9):cut [48,49,50,51,52,53,54,55,56,57] n (n+1)=[UInt8.ofNat (48+n.toNat)]:=by
 obtain ⟨k,rfl⟩:=Int.eq_ofNat_of_zero_le h.1
 have h1:=digAll
 rw [List.all_eq_true] at h1
 have:=h1 k (List.mem_range.2 (by omega))
 simpa using this
theorem decimal_one (n:Int) (w:World) (h:0≤n∧n≤9) :
  Calls Tryz.prog 128 #[.int .i64 n] w fun e w'=>e=.returned (.string (bs (dig2 n.toNat)))∧w'=w:=by
 obtain ⟨h0,h1⟩:=h
 have e:dig2 n.toNat=cut [48,49,50,51,52,53,54,55,56,57] n (n+1):=by
  rw [digOne n ⟨h0,h1⟩];unfold dig2;rw [if_pos (by omega)]
 rw [e]
 have hm:n % 10=n:=by omega
 have g1:n≤n+1:=by omega
 have g2:n+1≤10:=by omega
 have g3:n<10:=by omega
 clear e
 go_enter Tryz.func128,Tryz.ntmps128
 go_wp2
 go_ret
 exact ⟨rfl,rfl⟩
theorem decimal_two (n:Int) (w:World) (h:10≤n∧n≤99) :
  Calls Tryz.prog 128 #[.int .i64 n] w fun e w'=>e=.returned (.string (bs (dig2 n.toNat)))∧w'=w:=by
 obtain ⟨h0,h1⟩:=h
 have e:dig2 n.toNat=dig2 (n/10).toNat++cut [48,49,50,51,52,53,54,55,56,57] (n % 10) (n % 10+1):=by
  rw [digOne (n % 10) (by omega)]
  unfold dig2
  rw [if_neg (by omega),if_pos (by omega)]
  rw [show (n/10).toNat=n.toNat/10 from by omega,show (n % 10).toNat=n.toNat % 10 from by omega]
  rfl
 rw [e]
 have g0:0≤n % 10:=by omega
 have g0':0≤n:=by omega
 have g1:n % 10≤n % 10+1:=by omega
 have g2:n % 10+1≤10:=by omega
 have g2':n % 10≤9:=by omega
 have g3:¬ n < 10:=by omega
 have g4:¬ n < 0:=by omega
 have hd:0≤n/10∧n/10≤9:=by omega
 have hl:(dig2 (n/10).toNat).length+(cut [48,49,50,51,52,53,54,55,56,57] (n % 10) (n % 10+1)).length≤9223372036854775807:=by
  have:=dig2_len (n/10).toNat
  rw [digOne (n % 10) (by omega)];simp;omega
 clear e
 go_enter Tryz.func128,Tryz.ntmps128
 go_wp2_with (go_at_call 128;refine (decimal_one _ _ hd).mono ?_;rintro e w' ⟨rfl,hw⟩;rw [hw];clear hw)
 go_ret
 exact ⟨rfl,rfl⟩
theorem decimal_any (n:Int) (w:World) (h:0≤n∧n≤99) :
  Calls Tryz.prog 128 #[.int .i64 n] w fun e w'=>e=.returned (.string (bs (dig2 n.toNat)))∧w'=w:=by
 by_cases h9:n≤9
 ·exact decimal_one n w ⟨h.1,h9⟩
 ·exact decimal_two n w ⟨by omega,h.2⟩
theorem rhold_any (s n L:Int) (w:World) (hs:1≤s∧s≤4) (h:0≤n∧n≤99) :
  Calls Tryz.prog 206 #[.int .u8 s,.int .i64 n,.int .i64 L] w fun e w'=>e=.returned (.string (bs (rH s n L)))∧w'=w:=by
 have s4:s=1∨s=2∨s=3∨s=4:=by omega
 clear hs
 rcases s4 with rfl|rfl|rfl|rfl
 ·have e2:rH 1 n L=95::dig2 n.toNat:=if_pos rfl
  have hl':1+(dig2 n.toNat).length≤9223372036854775807:=by have:=dig2_len n.toNat;omega
  rw [e2]
  clear e2
  go_enter Tryz.func206,Tryz.ntmps206
  go_wp2_with (go_at_call 128;refine (decimal_any _ _ h).mono ?_;rintro e w' ⟨rfl,hw⟩;rw [hw];clear hw)
  go_ret
  exact ⟨rfl,rfl⟩
 ·by_cases hL:n=L
  ·have e2:rH 2 n L=[42]:=by unfold rH;rw [if_neg (by decide),if_pos ⟨by decide,hL⟩]
   have hbL:(n == L)=true:=by simpa using hL
   rw [e2]
   clear e2 hL
   go_enter Tryz.func206,Tryz.ntmps206
   go_wp2
   go_ret
   exact ⟨rfl,rfl⟩
  ·have e2:rH 2 n L=[]:=by unfold rH;rw [if_neg (by decide),if_neg (fun h=>hL h.2)]
   have hbL:(n == L)=false:=by simpa using hL
   rw [e2]
   clear e2 hL
   go_enter Tryz.func206,Tryz.ntmps206
   go_wp2
   go_ret
   exact ⟨rfl,rfl⟩
 ·have e2:rH 3 n L=[]:=rfl
  rw [e2]
  clear e2
  go_enter Tryz.func206,Tryz.ntmps206
  go_wp2
  go_ret
  exact ⟨rfl,rfl⟩
 ·by_cases hL:n=L
  ·have e2:rH 4 n L=[42]:=by unfold rH;rw [if_neg (by decide),if_pos ⟨by decide,hL⟩]
   have hbL:(n == L)=true:=by simpa using hL
   rw [e2]
   clear e2 hL
   go_enter Tryz.func206,Tryz.ntmps206
   go_wp2
   go_ret
   exact ⟨rfl,rfl⟩
  ·have e2:rH 4 n L=[]:=by unfold rH;rw [if_neg (by decide),if_neg (fun h=>hL h.2)]
   have hbL:(n == L)=false:=by simpa using hL
   rw [e2]
   clear e2 hL
   go_enter Tryz.func206,Tryz.ntmps206
   go_wp2
   go_ret
   exact ⟨rfl,rfl⟩
end Go.Proofs.YtkgnmddakiagbaaGreatDoor
namespace Go.Proofs.YtkgnmddakiagbaaGreatDoor
open Go.RowKit
set_option maxRecDepth 100000
set_option maxHeartbeats 8000000
theorem rRight2_FS (v:Int) (d t:Bool):Ctr Tryz.prog 153 [.ag [.sc (.int .i64 v),.sc (.bool d),.sc (.bool t)]] (.sc (.bool (sgOk v d t))):=by
 intro w F vs hF hR
 match vs,hR.1 with
 | [x],_ =>
  obtain ⟨cs,rfl,h1,h2⟩:∃ cs:Array Value,x=.agg cs∧cs.size=3∧∀ (i:Nat) av u,[AV.sc (.int .i64 v),.sc (.bool d),.sc (.bool t)][i]?=some av→cs[i]?=some u→RP F av u:=by
   cases hR.2 0 _ x rfl rfl with|ag l cs a b=>exact ⟨cs,rfl,a,b⟩
  have g:∀ i (h:i<3),cs[i]?=some (cs[i]'(by omega)):=fun i h=>Array.getElem?_eq_getElem (by omega)
  have e:cs=#[.int .i64 v,.bool d,.bool t]:=by
   apply Array.ext (by simp [h1])
   intro i hi hi2
   match i,(show i<3 by omega) with
   | 0,_=>exact (h2 0 _ _ rfl (g 0 (by omega))).sc_eq
   | 1,_=>exact (h2 1 _ _ rfl (g 1 (by omega))).sc_eq
   | 2,_=>exact (h2 2 _ _ rfl (g 2 (by omega))).sc_eq
  subst e
  exact (right_any v d t w).mono fun e w' ⟨he,hb⟩=>⟨_,F,he,hb,fun _ _ h=>h,fun p u x=>by rw [hb.cell (cell_block (hF p u x))];exact hF p u x,fun _ _ h=>.inl h,.sc _⟩
theorem ev_of_rp {F:View} {w:World} {e:Ev} {v:Value} (hF:∀ p u,F p=some u→w.cell? p=some u) (r:RP F (.ag (eEv e)) v):∃ S c,v=evVal e S c:=by
 obtain ⟨cs,rfl,h1,h2⟩:∃ cs:Array Value,v=.agg cs∧cs.size=6∧∀ (i:Nat) av u,(eEv e)[i]?=some av→cs[i]?=some u→RP F av u:=by
  cases r with|ag l cs a b=>exact ⟨cs,rfl,a,b⟩
 have g:∀ i (h:i<6),cs[i]?=some (cs[i]'(by omega)):=fun i h=>Array.getElem?_eq_getElem (by omega)
 obtain ⟨A,c,e5,_,_⟩:=stps_of_rp hF (h2 5 _ _ rfl (g 5 (by omega)))
 refine ⟨A,c,?_⟩
 unfold evVal
 congr 1
 apply Array.ext (by simp [h1])
 intro i hi hi2
 match i,(show i<6 by omega) with
 | 0,_=>exact (h2 0 _ _ rfl (g 0 (by omega))).sc_eq
 | 1,_=>exact (h2 1 _ _ rfl (g 1 (by omega))).sc_eq
 | 2,_=>exact (h2 2 _ _ rfl (g 2 (by omega))).sc_eq
 | 3,_=>exact (h2 3 _ _ rfl (g 3 (by omega))).sc_eq
 | 4,_=>exact (h2 4 _ _ rfl (g 4 (by omega))).sc_eq
 | 5,_=>exact e5
theorem rest_FS (e:Ev):Ctr Tryz.prog 130 [.ag (eEv e)] (.sc (.bool (restB e))):=by
 intro w F vs hF hR
 match vs,hR.1 with
 | [v],_ =>
  obtain ⟨S,c,rfl⟩:=ev_of_rp hF (hR.2 0 _ v rfl rfl)
  exact (rRest_any e S c w).mono fun e w' ⟨he,hb⟩=>⟨_,F,he,hb,fun _ _ h=>h,fun p u x=>by rw [hb.cell (cell_block (hF p u x))];exact hF p u x,fun _ _ h=>.inl h,.sc _⟩
theorem rLong_FS (p:Pce) (hO:PcOk p) (i x:Int):Ctr Tryz.prog 154 [ePce p,.sc (.int .i64 i),.sc (.int .i64 x)] (.sc (.int .i64 (longestN p.evs i x))) :=
 Ctr.of_pc (pre:=[]) (post:=[.sc (.int .i64 i),.sc (.int .i64 x)]) rfl rfl (fun _=>.sc _) fun w M hM=>rLongest_any M p i x w hM hO
end Go.Proofs.YtkgnmddakiagbaaGreatDoor
namespace Go.Proofs.YtkgnmddakiagbaaGreatDoor
open Go.RowKit
def tame:Op→Bool
 | .move _=>true
 | .assign _=>true
 | .alloc _=>true
 | .box _ _=>true
 | .load _ _=>true
 | .store _ _ _=>true
 | .fieldAddr _ _ _=>true
 | .field _ _ _=>true
 | .indexAddr _ _ _=>true
 | .index _ _ _=>true
 | _=>false
section
variable {P:Program} {o:Oper} {a:Act} {w:World} {K K1 K2:Act→World→Prop} {Q:Exit→Act→World→Prop}
theorem run_v (s:Sem Value) (n:Next) (w':World) (h:(do pure (Next.value (← s)):Sem Next).run P w=.ok n w'):∃ x,n=.value x:=by
 rw [Sem.run_bind] at h
 cases hs:s.run P w with
 | ok x w1=>rw [hs] at h;simp only [Result.andThen,Sem.run_pure] at h;cases h;exact ⟨x,rfl⟩
 | halt x w1=>rw [hs] at h;simp only [Result.andThen] at h;cases h
theorem run_u (s:Sem Unit) (n:Next) (w':World) (h:(do s;pure Next.skip:Sem Next).run P w=.ok n w'):n=.skip:=by
 rw [Sem.run_bind] at h
 cases hs:s.run P w with
 | ok x w1=>rw [hs] at h;simp only [Result.andThen,Sem.run_pure] at h;cases h;rfl
 | halt x w1=>rw [hs] at h;simp only [Result.andThen] at h;cases h
theorem tame_no {ev:Operand→Value} (ht:tame o.op=true) (n:Next) (w':World) (h:(execOp ev o).run P w=.ok n w'):(∃ x,n=.value x)∨n=.skip:=by
 unfold execOp at h
 cases ho:o.op<;>simp only [ho,tame] at ht h<;>first
  | (cases ht;done)
  | exact .inl (run_v _ _ _ h)
  | exact .inr (run_u _ _ _ h)
  | (cases h;exact .inl ⟨_,rfl⟩)
theorem wp_and (ht:tame o.op=true) (h1:o.wp P a w K1 Q) (h2:o.wp P a w K2 Q):o.wp P a w (fun a w=>K1 a w∧K2 a w) Q:=by
 unfold Oper.wp at *
 cases hr:(execOp a.eval o).run P w with
 | ok n w' =>
  rw [hr] at h1 h2
  rcases tame_no ht n w' hr with⟨x,rfl⟩|rfl
  ·exact ⟨h1,h2⟩
  ·exact ⟨h1,h2⟩
 | halt x w'=>rw [hr] at h1 h2;cases x<;>simp only [Oper.upon] at h1 h2 ⊢<;>exact h1
end
structure Laid (ops A:Array Oper) (π ρ:Nat→Nat) (i j:Nat):Prop where
 sz:A.size=ops.size
 lt:∀ p,p<ops.size→π p<ops.size
 inv:∀ p,p<ops.size→ρ (π p)=p
 ltr:∀ q,q<ops.size→ρ q<ops.size
 inr:∀ q,q<ops.size→π (ρ q)=q
 hi:i<ops.size
 hj:j<ops.size
 op:∀ (p:Nat) (o:Oper),ops[p]?=some o→∃ X:Array Edge,A[π p]?=some { o with after:=X }∧(∀ e∈X,Region.binds .any e=true→(∃ e'∈o.after,Region.binds .any e'=true∧e.on=π e'.on)∨(p=j∧e.on=π i)) ∧
  (∀ e'∈o.after,Region.binds .any e'=true→∃ e∈X,Region.binds .any e=true∧e.on=π e'.on)
 tm:∀ (p:Nat) (o:Oper),ops[p]?=some o→tame o.op=true∧o.guard=none∧∀ e∈o.after,e.on<ops.size
structure Agr (n:Nat) (π:Nat→Nat) (L LA:Array Bool):Prop where
 s1:L.size=n
 s2:LA.size=n
 at_:∀ p,p<n→LA.getD (π p) false=L.getD p false
section
variable {P:Program} {ops A B:Array Oper} {π ρ π' ρ':Nat→Nat} {i j k:Nat} {L LA LB:Array Bool} {a:Act} {w:World} {K K1 K2:Act→World→Prop} {Q:Exit→Act→World→Prop}
theorem getD_tf {L:Array Bool} {p:Nat} (h:p<L.size):L.getD p true=L.getD p false:=by simp [Array.getD_eq_getD_getElem?,h]
theorem Agr.put (hl:Laid ops A π ρ i j) (h:Agr ops.size π L LA) (hk:k<ops.size):Agr ops.size π (L.setIfInBounds k true) (LA.setIfInBounds (π k) true):=by
 refine ⟨by simp [h.s1],by simp [h.s2],fun p hp=>?_⟩
 by_cases e:k=p
 ·subst e
  have h1:k<L.size:=by rw [h.s1];exact hk
  have h2:π k<LA.size:=by rw [h.s2];exact hl.lt k hk
  simp [Array.getD_eq_getD_getElem?,h1,h2]
 ·have e2:π k≠π p:=fun x=>e (by rw [← hl.inv k hk,x,hl.inv p hp])
  have:=h.at_ p hp
  simp only [Array.getD_eq_getD_getElem?] at this ⊢
  rw [Array.getElem?_setIfInBounds_ne e,Array.getElem?_setIfInBounds_ne e2]
  exact this
theorem ready_lt (h:k∈Region.ready .any ops L):k<ops.size:=by
 obtain ⟨_,o,ho,_⟩:=mem_ready.1 h
 exact (Array.getElem?_eq_some_iff.1 ho).1
theorem ready_to (hl:Laid ops A π ρ i j) (h:Agr ops.size π L LA) (hij:k=j→L.getD i false=true) (hk:k∈Region.ready .any ops L):π k∈Region.ready .any A LA:=by
 have hlt:=ready_lt hk
 obtain ⟨h1,o,ho,h2⟩:=mem_ready.1 hk
 obtain ⟨X,hX,hX1,_⟩:=hl.op k o ho
 refine mem_ready.2 ⟨?_,_,hX,fun e he hb=>?_⟩
 ·rw [getD_tf (by rw [h.s2];exact hl.lt k hlt),h.at_ k hlt,← getD_tf (by rw [h.s1];exact hlt)];exact h1
 ·rcases hX1 e he hb with⟨e',he',hb',heq⟩|⟨rfl,heq⟩
  ·rw [heq,h.at_ _ ((hl.tm k o ho).2.2 e' he')];exact h2 e' he' hb'
  ·rw [heq,h.at_ _ hl.hi];exact hij rfl
theorem ready_of (hl:Laid ops A π ρ i j) (h:Agr ops.size π L LA) {q:Nat} (hq:q∈Region.ready .any A LA):ρ q∈Region.ready .any ops L:=by
 have hlt:=ready_lt hq
 rw [hl.sz] at hlt
 obtain ⟨h1,o',ho',h2⟩:=mem_ready.1 hq
 have hr:=hl.ltr q hlt
 have ho:ops[ρ q]?=some ops[ρ q]:=Array.getElem?_eq_getElem hr
 obtain ⟨X,hX,_,hX2⟩:=hl.op (ρ q) _ ho
 rw [hl.inr q hlt,ho'] at hX
 cases hX
 refine mem_ready.2 ⟨?_,_,ho,fun e' he' hb'=>?_⟩
 ·rw [getD_tf (by rw [h.s1];exact hr),← h.at_ _ hr,hl.inr q hlt,← getD_tf (by rw [h.s2];exact hlt)];exact h1
 ·obtain ⟨e,he,hb,heq⟩:=hX2 e' he' hb'
  rw [← h.at_ _ ((hl.tm _ _ ho).2.2 e' he'),← heq]
  exact h2 e he hb
theorem ready_nil (hl:Laid ops A π ρ i j) (h:Agr ops.size π L LA) (hr:Region.ready .any ops L=[]):Region.ready .any A LA=[] :=
 List.eq_nil_iff_forall_not_mem.2 fun q hq=>by have:=ready_of hl h hq;rw [hr] at this;cases this
theorem wpOp_to (hl:Laid ops A π ρ i j) (hk:k<ops.size) (h:wpOp P A Q (π k) K a w):wpOp P ops Q k K a w:=by
 have ho:ops[k]?=some ops[k]:=Array.getElem?_eq_getElem hk
 obtain ⟨X,hX,_⟩:=hl.op k _ ho
 have hg:=(hl.tm k _ ho).2.1
 unfold wpOp at h ⊢
 rw [hX] at h
 rw [ho]
 simp only [Region.wanted,hg,if_true] at h ⊢
 exact h
theorem wpOp_and (hk:k<ops.size) (ht:tame ops[k].op=true) (hg:ops[k].guard=none) (h1:wpOp P ops Q k K1 a w) (h2:wpOp P ops Q k K2 a w):wpOp P ops Q k (fun a w=>K1 a w∧K2 a w) a w:=by
 have ho:ops[k]?=some ops[k]:=Array.getElem?_eq_getElem hk
 unfold wpOp at h1 h2 ⊢
 rw [ho] at h1 h2 ⊢
 simp only [Region.wanted,hg,if_true] at h1 h2 ⊢
 rcases h1 with h1|h1
 ·rcases h2 with h2|h2
  ·exact .inl (wp_and ht h1 h2)
  ·exact .inr h2
 ·exact .inr h1
theorem wpAny_one (hl:Laid ops A π ρ i j):∀ (fuel:Nat) (L LA:Array Bool) (a:Act) (w:World),Agr ops.size π L LA→(L.getD i false=true∨L.getD j false=true)→wpAny P .any A Q fuel LA a w→wpAny P .any ops Q fuel L a w:=by
 have cond:∀ {L:Array Bool} {k:Nat},L.size=ops.size→(L.getD i false=true∨L.getD j false=true)→k∈Region.ready .any ops L→k=j→L.getD i false=true:=by
  intro L k hs h hk e
  subst e
  rcases h with h|h
  ·exact h
  ·have:=(mem_ready.1 hk).1
   rw [getD_tf (by rw [hs];exact hl.hj),h] at this;cases this
 intro fuel
 induction fuel with
 | zero =>
  intro L LA a w h hor hw
  refine ⟨List.eq_nil_iff_forall_not_mem.2 fun k hk=>?_,hw.2⟩
  have:=ready_to hl h (cond h.s1 hor hk) hk
  rw [hw.1] at this;cases this
 | succ fuel ih =>
  intro L LA a w h hor hw
  refine ⟨fun hr=>hw.1 (ready_nil hl h hr),fun k hk=>?_⟩
  have hlt:=ready_lt hk
  refine wpOp_mono (fun a' w' hw'=>ih _ _ a' w' (h.put hl hlt) ?_ hw') (wpOp_to hl hlt (hw.2 _ (ready_to hl h (cond h.s1 hor hk) hk)))
  have mono:∀ q,L.getD q false=true→(L.setIfInBounds k true).getD q false=true:=fun q hq=>by
   by_cases e:k=q
   ·subst e;simp [Array.getD_eq_getD_getElem?,show k<L.size by rw [h.s1];exact hlt]
   ·simp only [Array.getD_eq_getD_getElem?] at hq ⊢
    rw [Array.getElem?_setIfInBounds_ne e];exact hq
  exact hor.imp (mono _) (mono _)
theorem wpAny_both (hA:Laid ops A π ρ i j) (hB:Laid ops B π' ρ' j i) (hne:i≠j):∀ (fuel:Nat) (L LA LB:Array Bool) (a:Act) (w:World),Agr ops.size π L LA→Agr ops.size π' L LB→L.getD i false=false→L.getD j false=false →
  wpAny P .any A Q fuel LA a w→wpAny P .any B Q fuel LB a w→wpAny P .any ops Q fuel L a w:=by
 intro fuel
 induction fuel with
 | zero =>
  intro L LA LB a w ha hb hi hj wa wb
  refine ⟨List.eq_nil_iff_forall_not_mem.2 fun k hk=>?_,wa.2⟩
  by_cases e:k=j
  ·have:=ready_to hB hb (fun e2=>absurd (e2.symm.trans e) hne) hk
   rw [wb.1] at this;cases this
  ·have:=ready_to hA ha (fun e2=>absurd e2 e) hk
   rw [wa.1] at this;cases this
 | succ fuel ih =>
  intro L LA LB a w ha hb hi hj wa wb
  refine ⟨fun hr=>wa.1 (ready_nil hA ha hr),fun k hk=>?_⟩
  have hlt:=ready_lt hk
  have hs:(L.setIfInBounds k true).getD k false=true:=by simp [Array.getD_eq_getD_getElem?,show k<L.size by rw [ha.s1];exact hlt]
  have hso:∀ q,k≠q→(L.setIfInBounds k true).getD q false=L.getD q false:=fun q e=>by
   simp only [Array.getD_eq_getD_getElem?]
   rw [Array.getElem?_setIfInBounds_ne e]
  by_cases e1:k=i
  ·subst e1
   exact wpOp_mono (fun a' w' hw'=>wpAny_one hA fuel _ _ a' w' (ha.put hA hlt) (.inl hs) hw') (wpOp_to hA hlt (wa.2 _ (ready_to hA ha (fun e=>absurd e hne) hk)))
  ·by_cases e2:k=j
   ·subst e2
    exact wpOp_mono (fun a' w' hw'=>wpAny_one hB fuel _ _ a' w' (hb.put hB hlt) (.inl hs) hw') (wpOp_to hB hlt (wb.2 _ (ready_to hB hb (fun e=>absurd e e1) hk)))
   ·have t:=hA.tm k _ (Array.getElem?_eq_getElem hlt)
    refine wpOp_mono (fun a' w' hw'=>ih _ _ _ a' w' (ha.put hA hlt) (hb.put hB hlt) ((hso i e1).trans hi) ((hso j e2).trans hj) hw'.1 hw'.2)
     (wpOp_and hlt t.1 t.2.1 (wpOp_to hA hlt (wa.2 _ (ready_to hA ha (fun e=>absurd e e2) hk))) (wpOp_to hB hlt (wb.2 _ (ready_to hB hb (fun e=>absurd e e1) hk))))
theorem WA.either {C:Cx} {σ:St} {Q:Exit→St→Prop} (hA:Laid ops A π ρ i j) (hB:Laid ops B π' ρ' j i) (hne:i≠j) (h1:WA P C A σ Q) (h2:WA P C B σ Q):WA P C ops σ Q:=by
 intro G a w ok
 have r:∀ (n p:Nat),(Array.replicate n false).getD p false=false:=fun n p=>by
  simp only [Array.getD_eq_getD_getElem?,Array.getElem?_replicate];split<;>rfl
 have ag:∀ (π:Nat→Nat),Agr ops.size π (Array.replicate ops.size false) (Array.replicate ops.size false):=fun π=>⟨by simp,by simp,fun p _=>by rw [r,r]⟩
 have x:=h1 G a w ok
 have y:=h2 G a w ok
 rw [hA.sz] at x
 rw [hB.sz] at y
 exact wpAny_both hA hB hne _ _ _ _ a _ (ag π) (ag π') (r _ _) (r _ _) x y
end
end Go.Proofs.YtkgnmddakiagbaaGreatDoor
