/- The look at an example of chapter 11. -/
import Derived.Test.YthohlofpphjofaaGreatDoorEdiGq
set_option maxHeartbeats 8000000
set_option maxRecDepth 100000
set_option linter.unusedVariables false
set_option linter.unusedSimpArgs false
namespace Go.Proofs.YthohlofpphjofaaGreatDoor
theorem MO {p:Prop}(h:p:=by
 refine qg ?_
 exact oO):p:=h
section
open Go.RowKit
theorem U6 (w:World) (b:Nat) (p:Value) (hbk:w.heap[b]?=some (.cells #[p,.slice none 0 0] 103 (0,0))) :
  Calls Tryz.prog 55 #[.pointer (some ⟨b,0,none⟩)] w fun e w'=>e=.returned (.string (bs []))∧w'=w.drew:=by
 have c1:w.drew.cell? ⟨b,1,none⟩=some (.slice none 0 0):=by
  have:w.drew.heap[b]?=some (.cells #[p,.slice none 0 0] 103 (0,0)):=hbk
  rw [Lib.cell_of_heap this];rfl
 have hUS:(Builtin.unsafeString_ #[191,3] 9 #[.pointer none,.int .i64 0]).run Tryz.prog w.drew=.ok (.string .empty) w.drew:=Lib.run_unsafeString_none _ _ _ _ _
 have hSD:(Builtin.unsafeSliceData_ #[101] 191 #[.slice none 0 0]).run Tryz.prog w.drew=.ok (.pointer none) w.drew:=Lib.run_unsafeSliceData_nil _ _ _ _ _
 have mixed:Tryz.prog.follows .mixedOrders=true:=by kernel_rfl
 go_enter Tryz.func55,Tryz.ntmps55
 go_wp2
 go_region_o
 all_goals (go_wp2;go_ret;exact ⟨rfl,rfl⟩)
theorem WV.afL {P:Program} {C:Cx} {o:Oper} {σ:St} {f:FuncId} {k:Nat} {x:Operand} {ts:Array TypeId} {T:TypeId} {c1 c2 v:Value} (ho:o.op=.call { callee:=.value (.func f),args:=#[x],argTypes:=ts }) (hc:∀ vs w,(callFunc f vs).run P w=.ok (.enter f vs) w)
  (hx:σ.ev x=some (.pt k 0 0)) (hk:look k σ.M=some (.box T [.sc c1,.sc c2])) (h:∀ w b,w.heap[b]?=some (.cells #[c1,c2] T (0,0))→Calls P f #[.pointer (some ⟨b,0,none⟩)] w fun e w'=>e=.returned v∧w'=w.drew):WV P C o σ (.sc v):=by
 intro G a w ok N Q' hN
 obtain ⟨p,ep,p1,p2,p3⟩:=(ok.evr hx).2.pt_of
 obtain ⟨h1,cs,Φ,hB,hsz,_,_,hcs⟩:=(ok.ob k _ hk).2.2
 obtain rfl:=addr_eq p1 p2 p3
 rw [uG] at ep
 have hsz:cs.size=2:=hsz
 have g:∀ i (h:i<2),cs[i]?=some (cs[i]'(by omega)):=fun i h=>pq (by omega)
 have e1:=(CR.r (hcs 0 _ _ rfl (g 0 aj)) rfl).sc_eq
 have e2:=(CR.r (hcs 1 _ _ rfl (g 1 aj)) rfl).sc_eq
 have ecs:cs=#[c1,c2]:=by
  apply Array.ext (by simp [hsz])
  intro i hi hi2
  exact ajl
 subst ecs
 refine fU ?_
 have ev:a.eval (.func f)=.func (.func f) #[] #[]:=rfl
 have e3:(#[]++(#[x]:Array Operand).map a.eval++#[]:Array Value)=#[.pointer (some ⟨G.b k,0,none⟩)]:=by simp [ep]
 simp only [ho,resolve,ev,Deferred.ofValue,invoke,Sem.run_bind,Sem.run_pure,Result.andThen_ok,hc,Oper.upon,e3]
 refine (h w (G.b k) hB).mono fun e w1 ⟨he,hw⟩=>?_
 subst he hw
 exact hN _ G _ (fun σ'' a'' ok''=>ok''.drew) (.pu _ _ (.sc _)) (.sc _)
theorem Ph (s:Int) (p:aN) (hO:fH p) (key:Int) (hne:p.evs.length=0):Ctg qc Tryz.prog 64 [eF p,.sc (.int .i64 key),.sc (.int .u8 s)] (.tu [.sc (.string (bs (ZO s p key))),.sc (.int .i64 (Qy s p key))]):=by
 have hn3:=hO.n3
 by_cases hs:1≤s∧s≤4
 rotate_left
 ·rw [(JR hs).1,(JR hs).2]
  refine Ctg.intro jq Tryz.func64 rfl Tryz.ntmps64 (aP rfl) (aT rfl) fun w0 F0 hB=>?_;dsimp only [St.init,number,Nat.reduceAdd]
  refine WJ ?_
  refine WL.vl rfl (WV.call rfl (callF Tryz.func73 rfl rfl) rfl rfl (rU s hs)) ?_
  exact MO
 have hE:=Ah p hO key
 by_cases hx:pO p key=0
 rotate_left
 ·rw [(JQ hs hx).1,(JQ hs hx).2]
  obtain ⟨E,hEq⟩:∃ E,pO p key=E:=⟨_,rfl⟩
  rw [hEq] at hx hE ⊢
  refine Ctg.intro jq Tryz.func64 rfl Tryz.ntmps64 (aP rfl) (aT rfl) fun w0 F0 hB=>?_;dsimp only [St.init,number,Nat.reduceAdd]
  refine WJ ?_
  refine WL.vl rfl (WV.call rfl (callF Tryz.func73 rfl rfl) rfl rfl (jk s hs)) ?_
  refine qg ?_
  refine WL.vl rfl (WV.callG hB rfl (callF Tryz.func115 rfl rfl) rfl rfl hE) ?_
  exact MO
 obtain ⟨h0,hsf,hsl⟩:=Vj hO hx
 have hlE:=(mQ hs h0).2
 have hlR:=(mQ hs h0).1
 have hc:=BQ s p hO
 rw [hlE] at hc
 rw [hx] at hE
 by_cases hl:jB s p=[]
 rotate_left
 ·rw [(Vf hs hx hl).1,(Vf hs hx hl).2]
  have hb:((0:Int) == 0 && ((jB s p).length:Int) == 0)=false:=by
   exact afr
  rw [hb] at hc
  refine Ctg.intro jq Tryz.func64 rfl Tryz.ntmps64 (aP rfl) (aT rfl) fun w0 F0 hB=>?_;dsimp only [St.init,number,Nat.reduceAdd]
  refine WJ ?_
  refine WL.vl rfl (WV.call rfl (callF Tryz.func73 rfl rfl) rfl rfl (jk s hs)) ?_
  refine qg ?_
  refine WL.vl rfl (WV.callG hB rfl (callF Tryz.func115 rfl rfl) rfl rfl hE) ?_
  refine qg ?_
  refine WL.vl rfl (bU Tryz.func19 hc) ?_
  exact MO
 rw [(Vg hs hx hl).1,(Vg hs hx hl).2]
 have hb:((0:Int) == 0 && ((jB s p).length:Int) == 0)=true:=by rw [hl];rfl
 rw [hb] at hc
 have hOn:=wZ p hO
 rw [if_pos h0,h0] at hOn
 have hMe:=rQ p hO
 have e4:aaY p=nR p.evs p.evs.length:=if_pos h0
 rw [e4,h0] at hMe
 have hml:=nS p.evs p.evs.length
 have hmb:=Kr p.evs p.evs.length
 have hol:=l9 p.evs p.evs.length
 have hnil:∀ i (h:i < p.evs.length),jO s p i p.evs[i]=[]:=fun i h=>nP p.evs.length (Nat.le_refl _) (by rw [← hlR];exact hl) i h h
 obtain ⟨MS,hMS⟩:∃ L,nR p.evs p.evs.length=L:=⟨_,rfl⟩
 obtain ⟨L,hL⟩:∃ L,Bl p key=L:=⟨_,rfl⟩
 rw [hMS] at hMe hml hmb ⊢
 rw [hL] at hE hsf hsl ⊢
 refine Ctg.intro jq Tryz.func64 rfl Tryz.ntmps64 (aP rfl) (aT rfl) fun w0 F0 hB=>?_;dsimp only [St.init,number,Nat.reduceAdd]
 refine WJ ?_
 refine WL.vl rfl (WV.call rfl (callF Tryz.func73 rfl rfl) rfl rfl (jk s hs)) ?_
 refine qg ?_
 refine WL.vl rfl (WV.callG hB rfl (callF Tryz.func115 rfl rfl) rfl rfl hE) ?_
 refine qg ?_
 refine WL.vl rfl (bU Tryz.func19 hc) ?_
 refine qg ?_
 refine WL.vl rfl (bU Tryz.func79 hOn) ?_
 refine qg ?_
 refine WL.vl rfl (bU Tryz.func116 hMe) ?_
 have hev0:p.evs=[]:=kU hne
 have hB0:Xw s p MS L p.evs.length=[]:=by rw [hne];rfl
 rw [hB0]
 refine qg ?_
 refine W.loop (fun k:Nat=>k=0) (fun k=>⟨[(2,.sc (.int .u8 s)),(3,.pt 0 0 0),(16,.pt 1 0 0),(57,.ls 6 (p.evs.map iq)),(58,.sc (.int .i64 p.evs.length)),(59,.sc (.int .i64 k))],[(0,.box 30 (eF p).cells),(1,.box 103 [.sc (.pointer none),.sc (.slice none 0 0)])],2⟩) (fun k=>k) 0 rfl (zqt id) fun k hk=>?_
 subst hk
 refine qg ?_
 refine WL.vl rfl (WV.afL rfl (callF Tryz.func55 rfl rfl) rfl rfl fun w b=>U6 w b _) ?_
 exact MO
theorem SH (s:Int)(p:aN)(hO:fH p)(key:Int):Ctg qc Tryz.prog 64 [eF p,.sc (.int .i64 key),.sc (.int .u8 s)] (.tu [.sc (.string (bs (ZO s p key))),.sc (.int .i64 (Qy s p key))]):=by
 by_cases h:p.evs.length=0
 ·exact Ph s p hO key h
 ·exact Pj s p hO key aj
def p11:aN:=⟨[(67,3,false)],[1,2,3],[⟨false,4,false,false,false,[(1,1,0,0,0)]⟩,⟨false,0,false,false,false,[(1,0,0,0,0)]⟩]⟩
theorem abL:fH p11:=Px (by decide +kernel)
theorem ahY:aaN p11 4=0∧aaO p11 4=[-1]:=by decide +kernel
theorem alu:Qy 1 p11 0=0:=by decide +kernel
theorem als:ZO 1 p11 0=[49,58,48,32,71,35,52,32,59,32,67,32,98,10,49,58,52,56,32,71,61,52,32,59,32,45,32,97,10]:=by decide +kernel
theorem ZJ:Ctg qc Tryz.prog 21 [] (.sc (.bool true)):=by
 have hE:=SH 1 p11 abL 0
 have hI:=Pm p11 abL 4
 rw [als,alu] at hE
 rw [ahY.1,ahY.2] at hI
 refine Ctg.intro jq Tryz.func21 rfl Tryz.ntmps21 (aP rfl) (aT rfl) fun w0 F0 hB=>?_;dsimp only [St.init,number,Nat.reduceAdd]
 refine Uu ?_
 refine WL.tr (Tr.freeze 0 rfl) ?_
 refine WL.tr (Tr.freeze 1 rfl) ?_
 refine WL.tr (Tr.freeze 3 rfl) ?_
 refine WL.tr (Tr.freeze 4 rfl) ?_
 refine Uu ?_
 refine WL.tr (Tr.freeze 5 rfl) ?_
 refine WL.vl rfl (WV.callG hB rfl (callF Tryz.func64 rfl rfl) rfl rfl hE) ?_
 refine Uu ?_
 refine WL.vl rfl (bU Tryz.func65 hI) ?_
 refine acX ?_
 refine WL.idx rfl rfl aj rfl ?_
 refine acX ?_
 exact W.ret vJ
end
end Go.Proofs.YthohlofpphjofaaGreatDoor
