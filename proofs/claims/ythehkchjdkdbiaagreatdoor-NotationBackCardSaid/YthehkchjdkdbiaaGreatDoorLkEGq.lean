/- What a system lacks of an event: the program, over trees, in any system. -/
import Derived.Test.YthehkchjdkdbiaaGreatDoorEH0Gq
import Derived.Test.YthehkchjdkdbiaaGreatDoorHs2Gq
import Derived.Test.YthehkchjdkdbiaaGreatDoorHs3Gq
import Derived.Test.YthehkchjdkdbiaaGreatDoorHs4Gq
import Derived.Test.YthehkchjdkdbiaaGreatDoorMk1Gq
set_option maxHeartbeats 8000000
set_option maxRecDepth 100000
set_option linter.unusedVariables false
set_option linter.unusedSimpArgs false
namespace Go.Proofs.YthehkchjdkdbiaaGreatDoor
open Go.RowKit
def sysV (s:Int):Value:=if s=1 then .iface 170 (.agg #[])else if s=2 then .iface 174 (.agg #[])else if s=3 then .iface 176 (.agg #[])else if s=4 then .iface 178 (.agg #[])else .nilIface
theorem sys_cases {s:Int} (h:1≤s∧s≤4):s=1∨s=2∨s=3∨s=4:=by omega
def plV:AV→Option Value
 | .sc v=>some v
 | .ag l =>
  match scs l with
  | some xs=>some (.agg xs.toArray)
  | none=>none
 | _=>none
def plL:List AV→Option (List Value)
 | []=>some []
 | x::r =>
  match plV x,plL r with
  | some v,some l=>some (v::l)
  | _,_=>none
theorem plV_of {F:View} {av:AV} {u v:Value} (h:plV av=some v) (r:RP F av u):u=v:=by
 cases av with
 | sc x=>cases h;exact r.sc_eq
 | ag l =>
  cases hs:scs l with
  | none=>simp [plV,hs] at h
  | some xs =>
   simp [plV,hs] at h
   subst h
   obtain ⟨cs,rfl,h1,h2⟩:=(R.pu (G:=⟨F,fun _=>0,fun _=>0,fun _=>undef,fun _ _=>False⟩) _ _ r).ag_of
   have e:cs.toList=xs:=scs_of (G:=⟨F,fun _=>0,fun _=>0,fun _=>undef,fun _ _=>False⟩) hs (by simpa using h1) (fun i av u p q=>h2 i av u p (by simpa using q))
   subst e
   simp
 | _=>cases h
theorem plL_of {F:View}:∀ {l:List AV} {xs vs:List Value},plL l=some xs→vs.length=l.length→(∀ (i:Nat) av u,l[i]?=some av→vs[i]?=some u→RP F av u)→vs=xs
 | [],xs,vs,h,hl,_=>by cases h;exact List.eq_nil_of_length_eq_zero hl
 | x::r,xs,[],h,hl,_=>by cases hl
 | x::r,xs,v::vs,h,hl,hq=>by
  unfold plL at h
  split at h
  ·rename_i u l h1 h2
   cases h
   rw [plV_of h1 (hq 0 x v rfl rfl),plL_of (F:=F) (vs:=vs) h2 (by simpa using hl) fun i av u a b=>hq (i+1) av u (by simpa using a) (by simpa using b)]
  ·cases h
theorem Ctr.of_pl {P:Program} {f:FuncId} {args:List AV} {xs:List Value} {res:AV} {v:Value} (hs:plL args=some xs)(hv:∀ F,RP F res v)(h:∀ w,Calls P f xs.toArray w (Ret v w)):Ctr P f args res:=by
 intro w F vs hF hR
 have:=plL_of hs hR.1 hR.2
 subst this
 exact (h w).mono fun e w'⟨he,hb⟩=>⟨v,F,he,hb,fun _ _ h=>h,fun p u x=>by rw [hb.cell (cell_block (hF p u x))];exact hF p u x,fun _ _ h=>.inl h,hv F⟩
theorem rp_tu2 {F:View} {u v:Value}:RP F (.tu [.sc u,.sc v]) (.tuple #[u,v]):=.tu _ _ rfl fun i av x a b=>by
 match i with
 | 0=>cases a;cases b;exact .sc _
 | 1=>cases a;cases b;exact .sc _
 | i+2=>simp at a
theorem WV.sys {P:Program} {C:Cx} {o:Oper} {σ:St} {s:Int} (hs:1≤s∧s≤4) {x:Operand} {name:String} {xs:Array Operand} {ts:Array TypeId} {args:List AV} {res:AV} (fs:Int→FuncId) (ho:o.op=.call { callee:=.invoke x name,args:=xs,argTypes:=ts })
  (hr:σ.ev x=some (.sc (sysV s)))
  (h1:∀ vs w,(callMethod (sysV 1) name vs).run P w=.ok (.enter (fs 1) (#[.agg #[]]++vs)) w) (h2:∀ vs w,(callMethod (sysV 2) name vs).run P w=.ok (.enter (fs 2) (#[.agg #[]]++vs)) w)
  (h3:∀ vs w,(callMethod (sysV 3) name vs).run P w=.ok (.enter (fs 3) (#[.agg #[]]++vs)) w) (h4:∀ vs w,(callMethod (sysV 4) name vs).run P w=.ok (.enter (fs 4) (#[.agg #[]]++vs)) w)
  (hx:σ.evs xs.toList=some args) (hp:args.all AV.pu2=true) (h:Ctr P (fs s) (.ag []::args) res):WV P C o σ res:=by
 rcases sys_cases hs with rfl|rfl|rfl|rfl
 ·exact WV.inv (l:=[]) ho hr h1 rfl hx hp h
 ·exact WV.inv (l:=[]) ho hr h2 rfl hx hp h
 ·exact WV.inv (l:=[]) ho hr h3 rfl hx hp h
 ·exact WV.inv (l:=[]) ho hr h4 rfl hx hp h
theorem Tr.mvB {C:Cx} {σ:St} (k j q m:Nat) {Tb T' n:Nat} {cells cells':List AV} {rows:List (List AV)} (hk:look k σ.M=some (.box Tb cells)) (hj:cells[j]?=some (.sl q)) (hq:look q σ.M=some (.row T' n rows)) (hkq:Nat.beq k q=false) (hm:σ.nk=m) (hc:cells.set j (.sl m)=cells') :
  Tr C σ (((σ.drop q).new (.row T' n rows)).upd k (.box Tb cells')):=fun G a w ok=>by
 subst hm hc
 obtain ⟨hlt,_,hn',hg,hR⟩:=ok.ob q _ hq
 have hne:k≠q:=fun e=>by rw [e,Nat.beq_refl] at hkq;cases hkq
 have ok':=(ok.drop_ q).newObj (S:=fun _=>False) (w':=w) (b:=G.b q) (n:=n) (h:=G.h q) (φ:=G.fp q) (ob:=.row T' n rows)
  (Kept.refl _ w) (fun _ h=>h.elim) (fun _ _ _ _ _ h=>h) (fun _ _ _ h=>h)
  ⟨with_n,(fun g hgg=>by rw [with_h] at hgg;rw [with_b];exact hg g hgg),by rw [with_h,with_f];exact hR⟩ trivial (fun x hx=>⟨(ok.my q _ x hq hx).1,(ok.my q _ x hq hx).2,fun i oi hi h2=>(drop_look hi).1 (ok.dj i oi q _ x (drop_look hi).2 hq h2 hx),fun p u=>ok.dF q _ x p u hq hx⟩)
 have hkn:k≠σ.nk:=Nat.ne_of_lt (ok.ob k _ hk).1
 have hk':look k ((σ.drop q).new (.row T' n rows)).M=some (.box Tb cells):=by
  rw [show look k ((σ.drop q).new (.row T' n rows)).M=look k (rem q σ.M) from look_set_other hkn,look_rem,if_neg hne];exact hk
 obtain ⟨g1,g2,g3,cs,Φ,g4,g5,g6,g7,g8⟩:=ok'.ob k _ hk'
 refine ⟨_,ok'.reob hk' ⟨g1,fun i av x=>?_,g3,cs,Φ,g4,by simpa using g5,g6,g7,fun i av u x y=>?_⟩⟩
 ·rw [List.getElem?_set] at x
  split at x
  ·split at x
   ·cases x;exact .sl _ (Nat.lt_succ_self _)
   ·cases x
  ·exact g2 i av x
 ·by_cases e:j=i
  ·subst e
   have hjl:j<cells.length:=(List.getElem?_eq_some_iff.1 hj).1
   rw [List.getElem?_set_self hjl] at x
   cases x
   have r:=(g8 j _ u hj y).r rfl
   have hu:u=G.h q:=r.sl_of.1.trans (if_neg (show ¬ q=σ.nk by omega))
   have h3:=r.sl_of.2
   rw [hu] at h3 ⊢
   exact .inl (with_sl h3)
  ·rw [List.getElem?_set_ne e] at x
   exact g8 i av u x y
theorem WV.mkm {P:Program} {C:Cx} {σ:St} {o:Oper} {name:String} {x:Operand} {v:Value} (ho:o.op=.makeFunc (.method name) #[x] #[])(hx:σ.ev x=some (.sc v)):WV P C o σ (.sc (.func (.method name) #[v] #[])) :=
 WV.val (fun G a w ok=>.sc _) fun G a w ok=>by
  have e:a.eval x=v:=(ok.evr hx).2.sc_eq
  exact⟨.func (.method name) #[v] #[],by unfold execOp;simp [ho,Instr.makeFunc,e],.pu _ _ (.sc _)⟩
theorem WV.ncm {P:Program} {C:Cx} {σ:St} {o:Oper} {name:String} {x:Operand} {s:Int} (hs:1≤s∧s≤4)(ho:o.op=.nilCheck x)(hx:σ.ev x=some (.sc (.func (.method name) #[sysV s] #[])))
  (h1:∀ n w,Sem.run P (nilAhead (n+1) 170 (.agg #[]) name) w=.ok (some false) w)(h2:∀ n w,Sem.run P (nilAhead (n+1) 174 (.agg #[]) name) w=.ok (some false) w)
  (h3:∀ n w,Sem.run P (nilAhead (n+1) 176 (.agg #[]) name) w=.ok (some false) w)(h4:∀ n w,Sem.run P (nilAhead (n+1) 178 (.agg #[]) name) w=.ok (some false) w):WV P C o σ (.sc (.func (.method name) #[sysV s] #[])) :=
 WV.val (fun G a w ok=>.sc _) fun G a w ok=>by
  have e:a.eval x=.func (.method name) #[sysV s] #[]:=(ok.evr hx).2.sc_eq
  obtain⟨n,hn⟩:∃ n,P.types.size+Made.depth=n+1:=⟨_,rfl⟩
  refine⟨_,?_,.pu _ _ (.sc _)⟩
  rcases sys_cases hs with rfl|rfl|rfl|rfl
  ·unfold execOp;simp [ho,e,sysV,run_program,hn,h1]
  ·unfold execOp;simp [ho,e,sysV,run_program,hn,h2]
  ·unfold execOp;simp [ho,e,sysV,run_program,hn,h3]
  ·unfold execOp;simp [ho,e,sysV,run_program,hn,h4]
abbrev hasF1:FuncId:=315
abbrev symbolF1:FuncId:=321
abbrev rightF1:FuncId:=320
abbrev graceF1:FuncId:=314
abbrev holdF1:FuncId:=316
abbrev hasF2:FuncId:=331
abbrev symbolF2:FuncId:=336
abbrev rightF2:FuncId:=335
abbrev graceF2:FuncId:=330
abbrev holdF2:FuncId:=329
abbrev hasF3:FuncId:=338
abbrev symbolF3:FuncId:=344
abbrev rightF3:FuncId:=343
abbrev graceF3:FuncId:=337
abbrev holdF3:FuncId:=339
abbrev hasF4:FuncId:=346
abbrev symbolF4:FuncId:=351
abbrev rightF4:FuncId:=350
abbrev graceF4:FuncId:=345
abbrev holdF4:FuncId:=329
def hasF(s:Int):FuncId:=if s=1 then hasF1 else if s=2 then hasF2 else if s=3 then hasF3 else hasF4
def symbolF(s:Int):FuncId:=if s=1 then symbolF1 else if s=2 then symbolF2 else if s=3 then symbolF3 else symbolF4
def rightF(s:Int):FuncId:=if s=1 then rightF1 else if s=2 then rightF2 else if s=3 then rightF3 else rightF4
def graceF(s:Int):FuncId:=if s=1 then graceF1 else if s=2 then graceF2 else if s=3 then graceF3 else graceF4
def holdF(s:Int):FuncId:=if s=1 then holdF1 else if s=2 then holdF2 else if s=3 then holdF3 else holdF4
theorem has_FS (s:Int)(hs:1≤s∧s≤4)(n:Int):Ctr Tryz.prog (hasF s) [.ag [],.sc (.int .i64 n)] (.sc (.bool (hasS s n))):=by
 rcases sys_cases hs with rfl|rfl|rfl|rfl
 ·exact Ctr.of_pl rfl (fun _=>.sc _) fun w=>phas_1 n w
 ·exact Ctr.of_pl rfl (fun _=>.sc _) fun w=>phas_2 n w
 ·exact Ctr.of_pl rfl (fun _=>.sc _) fun w=>phas_3 n w
 ·exact Ctr.of_pl rfl (fun _=>.sc _) fun w=>phas_4 n w
theorem symb_FS (s:Int)(hs:1≤s∧s≤4)(c f:Int)(hc:1≤c∧c≤14)(hf:0≤f∧f≤18):Ctr Tryz.prog (symbolF s) [.ag [],.ag [.sc (.int .i64 c),.sc (.int .i64 f)]] (.tu [.sc (.string (bs (pS s c f))),.sc (.bool (pOk s c f))]):=by
 rcases sys_cases hs with rfl|rfl|rfl|rfl
 ·exact Ctr.of_pl rfl (fun _=>rp_tu2) fun w=>psym_1 c f w hc hf
 ·exact Ctr.of_pl rfl (fun _=>rp_tu2) fun w=>psym_2 c f w hc hf
 ·exact Ctr.of_pl rfl (fun _=>rp_tu2) fun w=>psym_3 c f w hc hf
 ·exact Ctr.of_pl rfl (fun _=>rp_tu2) fun w=>psym_4 c f w hc hf
theorem right_FS (s:Int)(hs:1≤s∧s≤4)(n:Int)(h:0≤n∧n≤3):Ctr Tryz.prog (rightF s) [.ag [],.sc (.int .i64 n)] (.tu [.sc (.string (bs (rR s n))),.sc (.bool (okR s n))]):=by
 rcases sys_cases hs with rfl|rfl|rfl|rfl
 ·exact Ctr.of_pl rfl (fun _=>rp_tu2) fun w=>pright_1 n w h
 ·exact Ctr.of_pl rfl (fun _=>rp_tu2) fun w=>pright_2 n w h
 ·exact Ctr.of_pl rfl (fun _=>rp_tu2) fun w=>pright_3 n w h
 ·exact Ctr.of_pl rfl (fun _=>rp_tu2) fun w=>pright_4 n w h
theorem grace_FS (s:Int)(hs:1≤s∧s≤4)(n:Int)(h:0≤n∧n≤4):Ctr Tryz.prog (graceF s) [.ag [],.sc (.int .i64 n)] (.tu [.sc (.string (bs (rG s n))),.sc (.bool (okG s n))]):=by
 rcases sys_cases hs with rfl|rfl|rfl|rfl
 ·exact Ctr.of_pl rfl (fun _=>rp_tu2) fun w=>pgrace_1 n w h
 ·exact Ctr.of_pl rfl (fun _=>rp_tu2) fun w=>pgrace_2 n w h
 ·exact Ctr.of_pl rfl (fun _=>rp_tu2) fun w=>pgrace_3 n w h
 ·exact Ctr.of_pl rfl (fun _=>rp_tu2) fun w=>pgrace_4 n w h
theorem hold_FS (s:Int)(hs:1≤s∧s≤4)(n L:Int)(h:0≤n∧n≤15):Ctr Tryz.prog (holdF s) [.ag [],.sc (.int .i64 n),.sc (.int .i64 L)] (.tu [.sc (.string (bs (pH s n L))),.sc (.bool (okH s n L))]):=by
 rcases sys_cases hs with rfl|rfl|rfl|rfl
 ·exact Ctr.of_pl rfl (fun _=>rp_tu2) fun w=>phold_1 n L w h
 ·exact Ctr.of_pl rfl (fun _=>rp_tu2) fun w=>phold_2 n L w h
 ·exact Ctr.of_pl rfl (fun _=>rp_tu2) fun w=>phold_3 n L w h
 ·exact Ctr.of_pl rfl (fun _=>rp_tu2) fun w=>phold_4 n L w h
theorem finTrL {P:Program} {C:Cx} {σ σ':St} {fn:Func} {res:AV} {M':List (Nat×AO)} {nk':Nat} {e:Exit} (h:Tr C σ σ')(k:QFinM P fn C res M' nk' e σ'):QFinM P fn C res M' nk' e σ :=
 ⟨k.1,fun G a w ok=>by obtain⟨G',ok'⟩:=h G a w ok;exact k.2 G' a w ok'⟩
theorem finMuL {P:Program} {C:Cx} {σ:St} {fn:Func} {avs:List AV} {res:AV} {M':List (Nat×AO)} {nk':Nat} (h:resL P σ fn.results.toList=some avs)(hp:avs.all (fun av=>!ownB av)=true)(e:resT avs=res)(hM:σ.M=M')(hk:σ.nk=nk'):QFinM P fn C res M' nk' .normal σ :=
 ⟨.inl rfl,(finM h hp e hM hk).2⟩
theorem say_FS (ok:Bool) (c what ev:Int) (l:List Lck) (hl:l.length≤32000):Cto truB 0 Tryz.prog 177 [.sc (.bool ok),.sc (.int .i64 c),.sc (.int .i64 what),.pt 0 0 0,.pt 1 0 0]
  [(0,.box 45 [.sl 2]),(1,.box 3 [.sc (.int .i64 ev)]),(2,.row 122 3 (l.map eLk))] 3 (.tu [])
  [(0,.box 45 [.sl 3]),(1,.box 3 [.sc (.int .i64 ev)]),(3,.row 122 3 ((l++lkIf ok ev c what).map eLk))] 4:=by
 refine Cto.intro truS Tryz.func177 rfl Tryz.ntmps177 (Nat.le_of_ble_eq_true rfl) rfl fun w0 F0 fp pg hB=>?_
 dsimp only [number,Nat.reduceAdd]
 cases ok
 ·have hmm:l.map eLk++[[.sc (.int .i64 ev),.sc (.int .i64 c),.sc (.int .i64 what)]]=(l++lkIf false ev c what).map eLk:=by rw [List.map_append];rfl
  refine zqg18 ?_
  refine finTrL (σ':=⟨[],[(0,.box 45 [.sl 3]),(1,.box 3 [.sc (.int .i64 ev)]),(3,.row 122 3 ((l++lkIf false ev c what).map eLk))],4⟩) (zqu (fun q=>bif Nat.beq q 3 then 4 else q) (by repeat (first|exact trivial|refine ⟨⟨?_,?_,?_⟩,?_⟩|rfl|exact congrArg (fun q=>some (AO.row _ _ q)) hmm)) rfl) ?_
  exact finMuL rfl rfl rfl rfl rfl
 ·have e:l++lkIf true ev c what=l:=by show l++[]=l;rw [List.append_nil]
  rw [e]
  refine zqg18 ?_
  refine finTrL (Tr.mvB 0 0 2 3 rfl rfl rfl rfl rfl rfl) ?_
  refine finTrL (σ':=⟨[],[(0,.box 45 [.sl 3]),(1,.box 3 [.sc (.int .i64 ev)]),(3,.row 122 3 (l.map eLk))],4⟩) (zqt id) ?_
  exact finMuL rfl rfl rfl rfl rfl
theorem plack_FS (s:Int) (hs:1≤s∧s≤4) (p:Pce) (i:Nat) (hi:i < p.evs.length) (hO:PcOk p) (hv:StopsIn p.evs[i]) :
  Ctr Tryz.prog 114 [.sc (sysV s),ePce p,.sc (.int .i64 i)] (.ls 3 ((lackE s p i p.evs[i]).map eLk)):=by
 have hn3:=hO.n3
 have h20:=hO.n4 i hi
 have hat:(p.evs.map eEv)[((i:Nat):Int).toNat]?=some (eEv p.evs[i]):=map_at hi
 have hLg:∀ c:Int,Ctr Tryz.prog 95 [ePce p,.sc (.int .i64 i),.sc (.int .i64 c)] (.sc (.int .i64 (longestN p.evs i c))):=fun c =>
  Ctr.of_pc (pre:=[]) (post:=[.sc (.int .i64 i),.sc (.int .i64 c)]) rfl rfl (fun _=>.sc _) fun w M hM=>pLongest_any M p i c w hM hO
 rw [lackE_eq]
 have b1:=lk1_len s i p.evs[i].val
 have b2:=lk2_len s i p.evs[i].three
 have b3:=lk3_len s i p.evs[i].tie p.evs[i].stops.length
 have hfl:=flat_len s i (fun c=>longestN p.evs i c) p.evs[i].stops
 have hEl:(p.evs.map eEv).length=p.evs.length:=List.length_map _
 refine zqe Tryz.func114 Tryz.ntmps114 fun w0 F0=>?_;dsimp only [St.init,number,Nat.reduceAdd]
 refine zqg19 ?_
 refine WL.vl rfl (WV.mkf rfl rfl) ?_
 refine zqg19 ?_
 first|refine W.tr (Tr.nilBox (k:=2) (j:=0) 122 3 rfl rfl rfl rfl) ?_|refine WL.tr (Tr.nilBox (k:=2) (j:=0) 122 3 rfl rfl rfl rfl) ?_
 dsimp only [St.put,St.new,St.upd,Nat.reduceAdd]
 refine zqg19 ?_
 refine W.meet ⟨[(0,.sc (sysV s)),(4,.pt 0 0 0),(5,.pt 1 0 0),(7,.pt 2 0 0),(8,.fn 177 [.pt 2 0 0,.pt 1 0 0]),(9,.pt 4 0 0)],[(0,.box 30 [.ls 3 (p.cs.map eCrs),.ls 1 (p.st.map eInt),.ls 6 (p.evs.map eEv)]),(1,.box 3 [.sc (.int .i64 i)]),(2,.box 45 [.sl 3]),(3,.row 122 3 ((lk1 s i p.evs[i].val).map eLk)),(4,.box 90 (eEv p.evs[i]))],5⟩ ?_ ?_
 ·(refine W.cond rfl (fun hif=>?_) (fun hif=>?_)<;>(try simp only [decide_eq_true_eq,decide_eq_false_iff_not,Int.not_lt,Int.not_le,Bool.not_eq_true',Bool.not_eq_false'] at hif))
  ·have h1:([]++lkIf (hasS s 6) i 0 6).map eLk=(lk1 s i p.evs[i].val).map eLk:=by unfold lk1;rw [if_pos hif];rfl
   refine zqg19 ?_
   refine WL.vl rfl (WV.sys hs hasF rfl rfl (fun vs w=>by kernel_rfl) (fun vs w=>by kernel_rfl) (fun vs w=>by kernel_rfl) (fun vs w=>by kernel_rfl) rfl rfl (has_FS s hs 6)) ?_
   refine zqg19 ?_
   refine WL.cto (truH _) [2,1,4] rfl rfl (callF Tryz.func177 rfl rfl) (say_FS (hasS s 6) 0 6 i ([]) (by simp)) rfl rfl rfl ⟨⟨rfl,rfl,rfl⟩,⟨rfl,rfl,rfl⟩,⟨rfl,rfl,rfl⟩,trivial⟩ rfl rfl rfl rfl ?_
   refine zqg19 ?_
   refine (?_:Tr _ _ _)
   exact (zqu (fun q=>bif Nat.beq q 3 then 5 else bif Nat.beq q 4 then 3 else q) (by repeat (first|exact trivial|refine ⟨⟨?_,?_,?_⟩,?_⟩|rfl|exact congrArg (fun q=>some (AO.row _ _ q)) h1)) rfl)
  ·have h1:([]:List (List AV))=(lk1 s i p.evs[i].val).map eLk:=by unfold lk1;rw [if_neg hif];rfl
   refine zqg19 ?_
   refine (?_:Tr _ _ _)
   exact (zqu (fun q=>bif Nat.beq q 3 then 4 else bif Nat.beq q 4 then 3 else q) (by repeat (first|exact trivial|refine ⟨⟨?_,?_,?_⟩,?_⟩|rfl|exact congrArg (fun q=>some (AO.row _ _ q)) h1)) rfl)
 obtain ⟨Y1,hY1⟩:∃ z,lk1 s i p.evs[i].val=z:=⟨_,rfl⟩
 rw [hY1] at b1 ⊢
 refine zqg19 ?_
 refine W.meet ⟨[(0,.sc (sysV s)),(4,.pt 0 0 0),(5,.pt 1 0 0),(7,.pt 2 0 0),(8,.fn 177 [.pt 2 0 0,.pt 1 0 0]),(9,.pt 4 0 0)],[(0,.box 30 [.ls 3 (p.cs.map eCrs),.ls 1 (p.st.map eInt),.ls 6 (p.evs.map eEv)]),(1,.box 3 [.sc (.int .i64 i)]),(2,.box 45 [.sl 3]),(3,.row 122 3 ((Y1++lk2 s i p.evs[i].three).map eLk)),(4,.box 90 (eEv p.evs[i]))],5⟩ ?_ ?_
 ·(refine W.cond rfl (fun hif=>?_) (fun hif=>?_)<;>(try simp only [decide_eq_true_eq,decide_eq_false_iff_not,Int.not_lt,Int.not_le,Bool.not_eq_true',Bool.not_eq_false'] at hif))
  ·have h1:(Y1++lkIf (hasS s 5) i 0 5).map eLk=(Y1++lk2 s i p.evs[i].three).map eLk:=by unfold lk2;rw [if_pos hif]
   refine zqg19 ?_
   refine WL.vl rfl (WV.sys hs hasF rfl rfl (fun vs w=>by kernel_rfl) (fun vs w=>by kernel_rfl) (fun vs w=>by kernel_rfl) (fun vs w=>by kernel_rfl) rfl rfl (has_FS s hs 5)) ?_
   refine zqg19 ?_
   refine WL.cto (truH _) [2,1,3] rfl rfl (callF Tryz.func177 rfl rfl) (say_FS (hasS s 5) 0 5 i (Y1) zqo) rfl rfl rfl ⟨⟨rfl,rfl,rfl⟩,⟨rfl,rfl,rfl⟩,⟨rfl,rfl,rfl⟩,trivial⟩ rfl rfl rfl rfl ?_
   refine zqg19 ?_
   refine (?_:Tr _ _ _)
   exact (zqu (fun q=>bif Nat.beq q 3 then 5 else q) (by repeat (first|exact trivial|refine ⟨⟨?_,?_,?_⟩,?_⟩|rfl|exact congrArg (fun q=>some (AO.row _ _ q)) h1)) rfl)
  ·have h1:Y1.map eLk=(Y1++lk2 s i p.evs[i].three).map eLk:=by unfold lk2;rw [if_neg (by simpa using hif),List.append_nil]
   refine zqg19 ?_
   refine (?_:Tr _ _ _)
   exact (zqu (fun q=>q) (by repeat (first|exact trivial|refine ⟨⟨?_,?_,?_⟩,?_⟩|rfl|exact congrArg (fun q=>some (AO.row _ _ q)) h1)) rfl)
 obtain ⟨Y2,hY2⟩:∃ z,lk2 s i p.evs[i].three=z:=⟨_,rfl⟩
 rw [hY2] at b2 ⊢
 have b12:(Y1++Y2).length≤2:=by rw [List.length_append];omega
 refine zqg19 ?_
 refine W.meet ⟨[(0,.sc (sysV s)),(4,.pt 0 0 0),(5,.pt 1 0 0),(7,.pt 2 0 0),(8,.fn 177 [.pt 2 0 0,.pt 1 0 0]),(9,.pt 4 0 0)],[(0,.box 30 [.ls 3 (p.cs.map eCrs),.ls 1 (p.st.map eInt),.ls 6 (p.evs.map eEv)]),(1,.box 3 [.sc (.int .i64 i)]),(2,.box 45 [.sl 3]),(3,.row 122 3 ((Y1++Y2++lk3 s i p.evs[i].tie p.evs[i].stops.length).map eLk)),(4,.box 90 (eEv p.evs[i]))],5⟩ ?_ ?_
 ·(refine W.cond rfl (fun hif=>?_) (fun hif=>?_)<;>(try simp only [decide_eq_true_eq,decide_eq_false_iff_not,Int.not_lt,Int.not_le,Bool.not_eq_true',Bool.not_eq_false'] at hif))
  ·have h1:(Y1++Y2++lkIf (hasS s 7) i 0 7).map eLk=(Y1++Y2++lk3 s i p.evs[i].tie p.evs[i].stops.length).map eLk:=by unfold lk3;rw [if_pos hif]
   refine zqg19 ?_
   refine WL.vl rfl (WV.sys hs hasF rfl rfl (fun vs w=>by kernel_rfl) (fun vs w=>by kernel_rfl) (fun vs w=>by kernel_rfl) (fun vs w=>by kernel_rfl) rfl rfl (has_FS s hs 7)) ?_
   refine zqg19 ?_
   refine WL.cto (truH _) [2,1,3] rfl rfl (callF Tryz.func177 rfl rfl) (say_FS (hasS s 7) 0 7 i (Y1++Y2) zqo) rfl rfl rfl ⟨⟨rfl,rfl,rfl⟩,⟨rfl,rfl,rfl⟩,⟨rfl,rfl,rfl⟩,trivial⟩ rfl rfl rfl rfl ?_
   refine zqg19 ?_
   refine (?_:Tr _ _ _)
   exact (zqu (fun q=>bif Nat.beq q 3 then 5 else q) (by repeat (first|exact trivial|refine ⟨⟨?_,?_,?_⟩,?_⟩|rfl|exact congrArg (fun q=>some (AO.row _ _ q)) h1)) rfl)
  ·have hti:¬ p.evs[i].tie=true:=by simpa using hif
   refine zqg19 ?_
   (refine W.cond rfl (fun hif=>?_) (fun hif=>?_)<;>(try simp only [decide_eq_true_eq,decide_eq_false_iff_not,Int.not_lt,Int.not_le,Bool.not_eq_true',Bool.not_eq_false'] at hif))
   ·have h1:(Y1++Y2++lkIf (hasS s 8) i 0 8).map eLk=(Y1++Y2++lk3 s i p.evs[i].tie p.evs[i].stops.length).map eLk:=by unfold lk3;rw [if_neg hti,if_pos (by omega)]
    refine zqg19 ?_
    refine WL.vl rfl (WV.sys hs hasF rfl rfl (fun vs w=>by kernel_rfl) (fun vs w=>by kernel_rfl) (fun vs w=>by kernel_rfl) (fun vs w=>by kernel_rfl) rfl rfl (has_FS s hs 8)) ?_
    refine zqg19 ?_
    refine WL.cto (truH _) [2,1,3] rfl rfl (callF Tryz.func177 rfl rfl) (say_FS (hasS s 8) 0 8 i (Y1++Y2) zqo) rfl rfl rfl ⟨⟨rfl,rfl,rfl⟩,⟨rfl,rfl,rfl⟩,⟨rfl,rfl,rfl⟩,trivial⟩ rfl rfl rfl rfl ?_
    refine zqg19 ?_
    refine (?_:Tr _ _ _)
    exact (zqu (fun q=>bif Nat.beq q 3 then 5 else q) (by repeat (first|exact trivial|refine ⟨⟨?_,?_,?_⟩,?_⟩|rfl|exact congrArg (fun q=>some (AO.row _ _ q)) h1)) rfl)
   ·have h1:(Y1++Y2).map eLk=(Y1++Y2++lk3 s i p.evs[i].tie p.evs[i].stops.length).map eLk:=by unfold lk3;rw [if_neg hti,if_neg (by omega),List.append_nil]
    refine zqg19 ?_
    refine (?_:Tr _ _ _)
    exact (zqu (fun q=>q) (by repeat (first|exact trivial|refine ⟨⟨?_,?_,?_⟩,?_⟩|rfl|exact congrArg (fun q=>some (AO.row _ _ q)) h1)) rfl)
 rw [← List.append_assoc]
 obtain ⟨H,hH⟩:∃ z,Y1++Y2++lk3 s i p.evs[i].tie p.evs[i].stops.length=z:=⟨_,rfl⟩
 have bH:H.length≤3:=by rw [← hH,List.length_append];omega
 rw [hH]
 obtain ⟨Fl,hFl⟩:∃ z,lackStop s i (fun c=>longestN p.evs i c)=z:=⟨_,rfl⟩
 have hsn:=fun k (h:k < p.evs[i].stops.length)=>flat_snoc s i (fun c=>longestN p.evs i c) p.evs[i].stops k h
 have hfk:=fun k=>flat_len s i (fun c=>longestN p.evs i c) (p.evs[i].stops.take k)
 rw [hFl] at hfl hsn hfk ⊢
 clear b1 b2 b3 b12 hY1 hY2 hH
 refine zqg19 ?_
 refine W.loop (fun k:Nat=>k≤p.evs[i].stops.length) (fun k=>⟨[(0,.sc (sysV s)),(4,.pt 0 0 0),(5,.pt 1 0 0),(7,.pt 2 0 0),(8,.fn 177 [.pt 2 0 0,.pt 1 0 0]),(9,.pt 4 0 0),(56,.ls 5 (p.evs[i].stops.map eStp)),(57,.sc (.int .i64 p.evs[i].stops.length)),(58,.sc (.int .i64 k))],[(0,.box 30 [.ls 3 (p.cs.map eCrs),.ls 1 (p.st.map eInt),.ls 6 (p.evs.map eEv)]),(1,.box 3 [.sc (.int .i64 i)]),(2,.box 45 [.sl 3]),(3,.row 122 3 ((H++(p.evs[i].stops.take k).flatMap Fl).map eLk)),(4,.box 90 (eEv p.evs[i]))],5⟩) (fun k=>p.evs[i].stops.length - k) 0 (by omega) (zqu (fun q=>q) (by repeat (first|exact trivial|refine ⟨⟨?_,?_,?_⟩,?_⟩|rfl|exact congrArg (fun q=>some (AO.row _ _ q)) (by simp))) rfl) fun k hk=>?_
 by_cases hlt:k < p.evs[i].stops.length
 rotate_left
 ·obtain rfl:k=p.evs[i].stops.length:=by omega
  rw [List.take_length]
  clear hsn hfk
  refine zqg19 ?_
  first|refine W.tr (Tr.freeze 3 rfl) ?_|refine WL.tr (Tr.freeze 3 rfl) ?_
  exact W.ret zqr
 have hs1:=hsn k hlt
 have hf1:=hfk k
 have htl:(p.evs[i].stops.take k).length=k:=by rw [List.length_take];omega
 obtain ⟨v1,v2,v3,v4,v5⟩:=hv k hlt
 have hxa:(p.evs[i].stops.map eStp)[((k:Nat):Int).toNat]?=some (eStp p.evs[i].stops[k]):=map_at hlt
 obtain ⟨x,hx⟩:∃ z,p.evs[i].stops[k]=z:=⟨_,rfl⟩
 rw [hx] at hs1 v1 v2 v3 v4 v5 hxa
 have hsym:=symb_FS s hs x.1 x.2.1 v1 v2
 have hri:=right_FS s hs x.2.2.1 v3
 have hgr:=grace_FS s hs x.2.2.2.1 v4
 have hho:=hold_FS s hs x.2.2.2.2 (longestN p.evs i x.1) v5
 have hL1:=hLg x.1
 obtain ⟨LL,hLL⟩:∃ z,H++(p.evs[i].stops.take k).flatMap Fl=z:=⟨_,rfl⟩
 have hLn:LL.length≤63:=by rw [← hLL,List.length_append];omega
 have hnext:LL++Fl x=H++(p.evs[i].stops.take (k+1)).flatMap Fl:=by rw [hs1,← hLL,List.append_assoc]
 rw [hLL]
 obtain ⟨ST,hST⟩:∃ z,p.evs[i].stops.map eStp=z:=⟨_,rfl⟩
 rw [hST] at hxa ⊢
 clear hsn hfk hs1 hf1 hv hLL
 refine zqg19 ?_
 refine WL.idx rfl rfl zqo hxa ?_
 refine zqg19 ?_
 refine WL.vl rfl (WV.sys hs symbolF rfl rfl (fun vs w=>by kernel_rfl) (fun vs w=>by kernel_rfl) (fun vs w=>by kernel_rfl) (fun vs w=>by kernel_rfl) rfl rfl hsym) ?_
 cases hp:pOk s x.1 x.2.1 with
 | false =>
  have hF:(LL++lkIf false i x.1 1).map eLk=(H++(p.evs[i].stops.take (k+1)).flatMap Fl).map eLk:=by
   rw [← hnext,← hFl]
   unfold lackStop
   rw [if_pos hp];rfl
  refine zqg19 ?_
  refine WL.cto (truH _) [2,1,3] rfl rfl (callF Tryz.func177 rfl rfl) (say_FS false x.1 1 i (LL) zqo) rfl rfl rfl ⟨⟨rfl,rfl,rfl⟩,⟨rfl,rfl,rfl⟩,⟨rfl,rfl,rfl⟩,trivial⟩ rfl rfl rfl rfl ?_
  refine zqg19 ?_
  exact ⟨k+1,by omega,by omega,(zqu (fun q=>bif Nat.beq q 3 then 6 else q) (by repeat (first|exact trivial|refine ⟨⟨?_,?_,?_⟩,?_⟩|rfl|exact congrArg (fun q=>some (AO.row _ _ q)) hF)) rfl)⟩
 | true =>
  have hF:(LL++lkIf (okR s x.2.2.1) i x.1 2++lkIf (okG s x.2.2.2.1) i x.1 3++lkIf (okH s x.2.2.2.2 (longestN p.evs i x.1)) i x.1 4).map eLk=(H++(p.evs[i].stops.take (k+1)).flatMap Fl).map eLk:=by
   rw [← hnext,← hFl]
   unfold lackStop
   rw [if_neg (by rw [hp];exact fun h=>by cases h)]
   simp only [List.append_assoc]
  have a1:=lkIf_len (okR s x.2.2.1) i x.1 2
  have a2:=lkIf_len (okG s x.2.2.2.1) i x.1 3
  refine zqg19 ?_
  refine WL.vl rfl (WV.sys hs rightF rfl rfl (fun vs w=>by kernel_rfl) (fun vs w=>by kernel_rfl) (fun vs w=>by kernel_rfl) (fun vs w=>by kernel_rfl) rfl rfl hri) ?_
  refine zqg19 ?_
  refine WL.cto (truH _) [2,1,3] rfl rfl (callF Tryz.func177 rfl rfl) (say_FS (okR s x.2.2.1) x.1 2 i (LL) zqo) rfl rfl rfl ⟨⟨rfl,rfl,rfl⟩,⟨rfl,rfl,rfl⟩,⟨rfl,rfl,rfl⟩,trivial⟩ rfl rfl rfl rfl ?_
  refine zqg19 ?_
  refine WL.vl rfl (WV.sys hs graceF rfl rfl (fun vs w=>by kernel_rfl) (fun vs w=>by kernel_rfl) (fun vs w=>by kernel_rfl) (fun vs w=>by kernel_rfl) rfl rfl hgr) ?_
  refine zqg19 ?_
  refine WL.cto (truH _) [2,1,6] rfl rfl (callF Tryz.func177 rfl rfl) (say_FS (okG s x.2.2.2.1) x.1 3 i (LL++lkIf (okR s x.2.2.1) i x.1 2) (by rw [List.length_append];omega)) rfl rfl rfl ⟨⟨rfl,rfl,rfl⟩,⟨rfl,rfl,rfl⟩,⟨rfl,rfl,rfl⟩,trivial⟩ rfl rfl rfl rfl ?_
  refine zqg19 ?_
  refine W.drawK zqk zqk ?_
  repeat (first|refine DK.st rfl ?_|refine DK.nil ?_)
  refine DK.vl rfl (zqc Tryz.func95 hL1) ?_
  repeat (first|refine DK.st rfl ?_|refine DK.nil ?_)
  refine DK.vl rfl (WV.mkm rfl rfl) ?_
  repeat (first|refine DK.st rfl ?_|refine DK.nil ?_)
  refine DK.vl rfl (WV.ncm hs rfl rfl (fun n w=>by kernel_rfl) (fun n w=>by kernel_rfl) (fun n w=>by kernel_rfl) (fun n w=>by kernel_rfl)) ?_
  repeat (first|refine DK.st rfl ?_|refine DK.nil ?_)
  refine DK.vl rfl (WV.sys hs holdF rfl rfl (fun vs w=>by kernel_rfl) (fun vs w=>by kernel_rfl) (fun vs w=>by kernel_rfl) (fun vs w=>by kernel_rfl) rfl rfl hho) ?_
  repeat (first|refine DK.st rfl ?_|refine DK.nil ?_)
  refine zqg19 ?_
  refine WL.cto (truH _) [2,1,7] rfl rfl (callF Tryz.func177 rfl rfl) (say_FS (okH s x.2.2.2.2 (longestN p.evs i x.1)) x.1 4 i (LL++lkIf (okR s x.2.2.1) i x.1 2++lkIf (okG s x.2.2.2.1) i x.1 3) (by rw [List.length_append,List.length_append];omega)) rfl rfl rfl ⟨⟨rfl,rfl,rfl⟩,⟨rfl,rfl,rfl⟩,⟨rfl,rfl,rfl⟩,trivial⟩ rfl rfl rfl rfl ?_
  refine zqg19 ?_
  exact ⟨k+1,by omega,by omega,(zqu (fun q=>bif Nat.beq q 3 then 8 else q) (by repeat (first|exact trivial|refine ⟨⟨?_,?_,?_⟩,?_⟩|rfl|exact congrArg (fun q=>some (AO.row _ _ q)) hF)) rfl)⟩
end Go.Proofs.YthehkchjdkdbiaaGreatDoor
