/- What a system lacks of an event: the program, over trees, in any system. -/
import Derived.Test.YthohlofpphjofaaGreatDoorGRGq
import Derived.Test.YthohlofpphjofaaGreatDoorFMGq
import Derived.Test.YthohlofpphjofaaGreatDoorRi0Gq
import Derived.Test.YthohlofpphjofaaGreatDoorGQGq
set_option maxHeartbeats 8000000
set_option maxRecDepth 100000
set_option linter.unusedVariables false
set_option linter.unusedSimpArgs false
namespace Go.Proofs.YthohlofpphjofaaGreatDoor
open Go.RowKit
theorem aix {p:Prop}(h:p:=by repeat (first|exact trivial|refine ⟨⟨?_,?_,?_⟩,?_⟩|rfl|exact congrArg (fun q=>some (AO.row _ _ q)) hF)):p:=h
theorem sV {p:Prop}(h:p:=by unfold I64;omega):p:=h
theorem ahB {p:Prop}(h:p:=by repeat (first|exact trivial|refine ⟨⟨?_,?_,?_⟩,?_⟩|rfl|exact congrArg (fun q=>some (AO.row _ _ q)) h1)):p:=h
theorem adG {p:Prop}(h:p:=by
 match i with
 | 0=>cases a;cases b;exact .sc _
 | 1=>cases a;cases b;exact .sc _
 | i+2=>simp at a):p:=h
theorem ai7 {p:Prop}(h:p:=by
 refine dG ?_
 refine (?_:Tr _ _ _)
 exact (mP (fun q=>q) ahB rfl)):p:=h
theorem afd {p:Prop}(h:p:=by
 refine dG ?_
 refine (?_:Tr _ _ _)
 exact (mP (fun q=>bif Nat.beq q 3 then 5 else q) ahB rfl)):p:=h
theorem Qu {p q:Prop}(k:q)(h:aS q→p:=by
 intro hq
 dsimp only [St.put,St.new,St.upd,Nat.reduceAdd]
 exact hq.k):p:=h ⟨k⟩
theorem yT {p q:Prop}(k:q)(h:aS q→p:=by
 intro hq
 repeat (first|refine DK.st rfl ?_|refine DK.nil ?_)
 exact hq.k):p:=h ⟨k⟩
def aU (s:Int):Value:=if s=1 then .iface 170 (.agg #[])else if s=2 then .iface 174 (.agg #[])else if s=3 then .iface 176 (.agg #[])else if s=4 then .iface 178 (.agg #[])else .nilIface
theorem bI {s:Int} (h:1≤s∧s≤4):s=1∨s=2∨s=3∨s=4:=by omega
def plV:AV→Option Value
 | .sc v=>some v
 | .ag l =>
  match scs l with
  | some xs=>some (.agg xs.toArray)
  | none=>none
 | _=>none
def plL:List AV→Option (List Value)
 | []=>some []
 | x::r =>
  match plV x,plL r with
  | some v,some l=>some (v::l)
  | _,_=>none
theorem S9 {F:View} {av:AV} {u v:Value} (h:plV av=some v) (r:RP F av u):u=v:=by
 cases av with
 | sc x=>cases h;exact r.sc_eq
 | ag l =>
  cases hs:scs l with
  | none=>simp [plV,hs] at h
  | some xs =>
   simp [plV,hs] at h
   subst h
   obtain ⟨cs,rfl,h1,h2⟩:=(R.pu (G:=⟨F,fun _=>0,fun _=>0,fun _=>undef,fun _ _=>False⟩) _ _ r).ag_of
   have e:cs.toList=xs:=scs_of (G:=⟨F,fun _=>0,fun _=>0,fun _=>undef,fun _ _=>False⟩) hs pz (fun i av u p q=>h2 i av u p pF)
   subst e
   simp
 | _=>cases h
theorem SY {F:View}:∀ {l:List AV} {xs vs:List Value},plL l=some xs→vs.length=l.length→(∀ (i:Nat) av u,l[i]?=some av→vs[i]?=some u→RP F av u)→vs=xs
 | [],xs,vs,h,hl,_=>by cases h;exact kU hl
 | x::r,xs,[],h,hl,_=>by cases hl
 | x::r,xs,v::vs,h,hl,hq=>by
  unfold plL at h
  split at h
  ·rename_i u l h1 h2
   cases h
   rw [S9 h1 (hq 0 x v rfl rfl),SY (F:=F) (vs:=vs) h2 (by simpa using hl) fun i av u a b=>hq (i+1) av u (by simpa using a) Jt]
  ·cases h
theorem Ctr.iZ {P:Program} {f:FuncId} {args:List AV} {xs:List Value} {res:AV} {v:Value} (hs:plL args=some xs)(hv:∀ F,RP F res v)(h:∀ w,Calls P f xs.toArray w (Ret v w)):Ctr P f args res:=by
 intro w F vs hF hR
 have:=SY hs hR.1 hR.2
 exact ai9
theorem iy {F:View} {u v:Value}:RP F (.tu [.sc u,.sc v]) (.tuple #[u,v]):=.tu _ _ rfl fun i av x a b=>by
 exact adG
theorem WV.sys {P:Program} {C:Cx} {o:Oper} {σ:St} {s:Int} (hs:1≤s∧s≤4) {x:Operand} {name:String} {xs:Array Operand} {ts:Array TypeId} {args:List AV} {res:AV} (fs:Int→FuncId) (ho:o.op=.call { callee:=.invoke x name,args:=xs,argTypes:=ts })
  (hr:σ.ev x=some (.sc (aU s)))
  (h1:∀ vs w,(callMethod (aU 1) name vs).run P w=.ok (.enter (fs 1) (#[.agg #[]]++vs)) w) (h2:∀ vs w,(callMethod (aU 2) name vs).run P w=.ok (.enter (fs 2) (#[.agg #[]]++vs)) w)
  (h3:∀ vs w,(callMethod (aU 3) name vs).run P w=.ok (.enter (fs 3) (#[.agg #[]]++vs)) w) (h4:∀ vs w,(callMethod (aU 4) name vs).run P w=.ok (.enter (fs 4) (#[.agg #[]]++vs)) w)
  (hx:σ.evs xs.toList=some args) (hp:args.all AV.pu2=true) (h:Ctr P (fs s) (.ag []::args) res):WV P C o σ res:=by
 rcases bI hs with rfl|rfl|rfl|rfl
 ·exact WV.inv (l:=[]) ho hr h1 rfl hx hp h
 ·exact WV.inv (l:=[]) ho hr h2 rfl hx hp h
 ·exact WV.inv (l:=[]) ho hr h3 rfl hx hp h
 ·exact WV.inv (l:=[]) ho hr h4 rfl hx hp h
theorem Tr.mvB {C:Cx} {σ:St} (k j q m:Nat) {Tb T' n:Nat} {cells cells':List AV} {rows:List (List AV)} (hk:look k σ.M=some (.box Tb cells)) (hj:cells[j]?=some (.sl q)) (hq:look q σ.M=some (.row T' n rows)) (hkq:Nat.beq k q=false) (hm:σ.nk=m) (hc:cells.set j (.sl m)=cells') :
  Tr C σ (((σ.drop q).new (.row T' n rows)).upd k (.box Tb cells')):=fun G a w ok=>by
 subst hm hc
 obtain ⟨hlt,_,hn',hg,hR⟩:=ok.ob q _ hq
 have hne:k≠q:=fun e=>by rw [e,Nat.beq_refl] at hkq;cases hkq
 have ok':=(ok.drop_ q).newObj (S:=fun _=>False) (w':=w) (b:=G.b q) (n:=n) (h:=G.h q) (φ:=G.fp q) (ob:=.row T' n rows)
  (Kept.refl _ w) (fun _ h=>h.elim) (fun _ _ _ _ _ h=>h) (fun _ _ _ h=>h)
  ⟨with_n,(fun g hgg=>by rw [with_h] at hgg;rw [with_b];exact hg g hgg),by rw [with_h,with_f];exact hR⟩ trivial (fun x hx=>⟨(ok.my q _ x hq hx).1,(ok.my q _ x hq hx).2,fun i oi hi h2=>(drop_look hi).1 (ok.dj i oi q _ x (drop_look hi).2 hq h2 hx),fun p u=>ok.dF q _ x p u hq hx⟩)
 have hkn:k≠σ.nk:=Nat.ne_of_lt (ok.ob k _ hk).1
 have hk':look k ((σ.drop q).new (.row T' n rows)).M=some (.box Tb cells):=by
  rw [show look k ((σ.drop q).new (.row T' n rows)).M=look k (rem q σ.M) from look_set_other hkn,look_rem,if_neg hne];exact hk
 obtain ⟨g1,g2,g3,cs,Φ,g4,g5,g6,g7,g8⟩:=ok'.ob k _ hk'
 refine ⟨_,ok'.reob hk' ⟨g1,fun i av x=>?_,g3,cs,Φ,g4,by simpa using g5,g6,g7,fun i av u x y=>?_⟩⟩
 ·rw [LP] at x
  exact adD
 ·by_cases e:j=i
  ·subst e
   have hjl:j<cells.length:=(List.getElem?_eq_some_iff.1 hj).1
   rw [ny hjl] at x
   cases x
   have r:=(g8 j _ u hj y).r rfl
   have hu:u=G.h q:=r.sl_of.1.trans (if_neg (show ¬ q=σ.nk by omega))
   have h3:=r.sl_of.2
   rw [hu] at h3 ⊢
   exact .inl (with_sl h3)
  ·rw [lF e] at x
   exact g8 i av u x y
theorem WV.mkm {P:Program} {C:Cx} {σ:St} {o:Oper} {name:String} {x:Operand} {v:Value} (ho:o.op=.makeFunc (.method name) #[x] #[])(hx:σ.ev x=some (.sc v)):WV P C o σ (.sc (.func (.method name) #[v] #[])) :=
 WV.val (fun G a w ok=>.sc _) fun G a w ok=>by
  have e:a.eval x=v:=(ok.evr hx).2.sc_eq
  exact⟨.func (.method name) #[v] #[],by unfold execOp;simp [ho,Instr.makeFunc,e],.pu _ _ (.sc _)⟩
theorem WV.ncm {P:Program} {C:Cx} {σ:St} {o:Oper} {name:String} {x:Operand} {s:Int} (hs:1≤s∧s≤4)(ho:o.op=.nilCheck x)(hx:σ.ev x=some (.sc (.func (.method name) #[aU s] #[])))
  (h1:∀ n w,Sem.run P (nilAhead (n+1) 170 (.agg #[]) name) w=.ok (some false) w)(h2:∀ n w,Sem.run P (nilAhead (n+1) 174 (.agg #[]) name) w=.ok (some false) w)
  (h3:∀ n w,Sem.run P (nilAhead (n+1) 176 (.agg #[]) name) w=.ok (some false) w)(h4:∀ n w,Sem.run P (nilAhead (n+1) 178 (.agg #[]) name) w=.ok (some false) w):WV P C o σ (.sc (.func (.method name) #[aU s] #[])) :=
 WV.val (fun G a w ok=>.sc _) fun G a w ok=>by
  have e:a.eval x=.func (.method name) #[aU s] #[]:=(ok.evr hx).2.sc_eq
  obtain⟨n,hn⟩:∃ n,P.types.size+Made.depth=n+1:=⟨_,rfl⟩
  refine⟨_,?_,.pu _ _ (.sc _)⟩
  rcases bI hs with rfl|rfl|rfl|rfl
  ·unfold execOp;simp [ho,e,aU,run_program,hn,h1]
  ·unfold execOp;simp [ho,e,aU,run_program,hn,h2]
  ·unfold execOp;simp [ho,e,aU,run_program,hn,h3]
  ·unfold execOp;simp [ho,e,aU,run_program,hn,h4]
abbrev alL:FuncId:=315
abbrev acN:FuncId:=321
abbrev ag7:FuncId:=320
abbrev aga:FuncId:=314
abbrev aj1:FuncId:=316
abbrev alM:FuncId:=331
abbrev acO:FuncId:=336
abbrev ag8:FuncId:=335
abbrev agb:FuncId:=330
abbrev aj2:FuncId:=329
abbrev alN:FuncId:=338
abbrev acP:FuncId:=344
abbrev ag9:FuncId:=343
abbrev agc:FuncId:=337
abbrev aj3:FuncId:=339
abbrev alO:FuncId:=346
abbrev acQ:FuncId:=351
abbrev aha:FuncId:=350
abbrev agd:FuncId:=345
abbrev aj6:FuncId:=329
def QY(s:Int):FuncId:=if s=1 then alL else if s=2 then alM else if s=3 then alN else alO
def BU(s:Int):FuncId:=if s=1 then acN else if s=2 then acO else if s=3 then acP else acQ
def zD(s:Int):FuncId:=if s=1 then ag7 else if s=2 then ag8 else if s=3 then ag9 else aha
def zh(s:Int):FuncId:=if s=1 then aga else if s=2 then agb else if s=3 then agc else agd
def Hf(s:Int):FuncId:=if s=1 then aj1 else if s=2 then aj2 else if s=3 then aj3 else aj6
theorem zi (s:Int)(hs:1≤s∧s≤4)(n:Int):Ctr Tryz.prog (QY s) [.ag [],.sc (.int .i64 n)] (.sc (.bool (pR s n))):=by
 rcases bI hs with rfl|rfl|rfl|rfl
 ·exact Ctr.iZ rfl (fun _=>.sc _) fun w=>SN n w
 ·exact Ctr.iZ rfl (fun _=>.sc _) fun w=>SQ n w
 ·exact Ctr.iZ rfl (fun _=>.sc _) fun w=>SV n w
 ·exact Ctr.iZ rfl (fun _=>.sc _) fun w=>SX n w
theorem Lj (s:Int)(hs:1≤s∧s≤4)(c f:Int)(hc:1≤c∧c≤14)(hf:0≤f∧f≤18):Ctr Tryz.prog (BU s) [.ag [],.ag [.sc (.int .i64 c),.sc (.int .i64 f)]] (.tu [.sc (.string (bs (pS s c f))),.sc (.bool (Gv s c f))]):=by
 rcases bI hs with rfl|rfl|rfl|rfl
 ·exact Ctr.iZ rfl (fun _=>iy) fun w=>akA c f w hc hf
 ·exact Ctr.iZ rfl (fun _=>iy) fun w=>akB c f w hc hf
 ·exact Ctr.iZ rfl (fun _=>iy) fun w=>akC c f w hc hf
 ·exact Ctr.iZ rfl (fun _=>iy) fun w=>akD c f w hc hf
theorem D5 (s:Int)(hs:1≤s∧s≤4)(n:Int)(h:0≤n∧n≤3):Ctr Tryz.prog (zD s) [.ag [],.sc (.int .i64 n)] (.tu [.sc (.string (bs (rR s n))),.sc (.bool (okR s n))]):=by
 rcases bI hs with rfl|rfl|rfl|rfl
 ·exact Ctr.iZ rfl (fun _=>iy) fun w=>ab4 n w h
 ·exact Ctr.iZ rfl (fun _=>iy) fun w=>ab5 n w h
 ·exact Ctr.iZ rfl (fun _=>iy) fun w=>ab6 n w h
 ·exact Ctr.iZ rfl (fun _=>iy) fun w=>ab7 n w h
theorem CP (s:Int)(hs:1≤s∧s≤4)(n:Int)(h:0≤n∧n≤4):Ctr Tryz.prog (zh s) [.ag [],.sc (.int .i64 n)] (.tu [.sc (.string (bs (rG s n))),.sc (.bool (yt s n))]):=by
 rcases bI hs with rfl|rfl|rfl|rfl
 ·exact Ctr.iZ rfl (fun _=>iy) fun w=>abX n w h
 ·exact Ctr.iZ rfl (fun _=>iy) fun w=>abY n w h
 ·exact Ctr.iZ rfl (fun _=>iy) fun w=>abZ n w h
 ·exact Ctr.iZ rfl (fun _=>iy) fun w=>ab1 n w h
theorem JY (s:Int)(hs:1≤s∧s≤4)(n L:Int)(h:0≤n∧n≤15):Ctr Tryz.prog (Hf s) [.ag [],.sc (.int .i64 n),.sc (.int .i64 L)] (.tu [.sc (.string (bs (pH s n L))),.sc (.bool (qY s n L))]):=by
 rcases bI hs with rfl|rfl|rfl|rfl
 ·exact Ctr.iZ rfl (fun _=>iy) fun w=>agZ n L w h
 ·exact Ctr.iZ rfl (fun _=>iy) fun w=>ag0 n L w h
 ·exact Ctr.iZ rfl (fun _=>iy) fun w=>ag1 n L w h
 ·exact Ctr.iZ rfl (fun _=>iy) fun w=>ag2 n L w h
theorem rF {P:Program} {C:Cx} {σ σ':St} {fn:Func} {res:AV} {M':List (Nat×AO)} {nk':Nat} {e:Exit} (h:Tr C σ σ')(k:QFinM P fn C res M' nk' e σ'):QFinM P fn C res M' nk' e σ :=
 ⟨k.1,fun G a w ok=>by obtain⟨G',ok'⟩:=h G a w ok;exact k.2 G' a w ok'⟩
theorem rE {P:Program} {C:Cx} {σ:St} {fn:Func} {avs:List AV} {res:AV} {M':List (Nat×AO)} {nk':Nat} (h:resL P σ fn.results.toList=some avs)(hp:avs.all (fun av=>!ownB av)=true)(e:resT avs=res)(hM:σ.M=M')(hk:σ.nk=nk'):QFinM P fn C res M' nk' .normal σ :=
 ⟨.inl rfl,(finM h hp e hM hk).2⟩
theorem uw (ok:Bool) (c what ev:Int) (l:List MW) (hl:l.length≤32000):Cto truB 0 Tryz.prog 177 [.sc (.bool ok),.sc (.int .i64 c),.sc (.int .i64 what),.pt 0 0 0,.pt 1 0 0]
  [(0,.box 56 [.sl 2]),(1,.box 3 [.sc (.int .i64 ev)]),(2,.row 136 3 (l.map uV))] 3 (.tu [])
  [(0,.box 56 [.sl 3]),(1,.box 3 [.sc (.int .i64 ev)]),(3,.row 136 3 ((l++kH ok ev c what).map uV))] 4:=by
 refine Cto.intro truS Tryz.func177 rfl Tryz.ntmps177 (aP rfl) rfl fun w0 F0 fp pg hB=>?_
 refine jw ?_
 cases ok
 ·have hmm:l.map uV++[[.sc (.int .i64 ev),.sc (.int .i64 c),.sc (.int .i64 what)]]=(l++kH false ev c what).map uV:=by rw [gK];rfl
  refine aic ?_
  refine rF (σ':=⟨[],[(0,.box 56 [.sl 3]),(1,.box 3 [.sc (.int .i64 ev)]),(3,.row 136 3 ((l++kH false ev c what).map uV))],4⟩) (mP (fun q=>bif Nat.beq q 3 then 4 else q) (by repeat (first|exact trivial|refine ⟨⟨?_,?_,?_⟩,?_⟩|rfl|exact congrArg (fun q=>some (AO.row _ _ q)) hmm)) rfl) ?_
  exact rE rfl rfl rfl rfl rfl
 ·have e:l++kH true ev c what=l:=by show l++[]=l;rw [mG]
  rw [e]
  refine aic ?_
  refine rF (Tr.mvB 0 0 2 3 rfl rfl rfl rfl rfl rfl) ?_
  refine rF (σ':=⟨[],[(0,.box 56 [.sl 3]),(1,.box 3 [.sc (.int .i64 ev)]),(3,.row 136 3 (l.map uV))],4⟩) (zqt id) ?_
  exact rE rfl rfl rfl rfl rfl
theorem Pz (s:Int) (hs:1≤s∧s≤4) (p:aN) (i:Nat) (hi:i < p.evs.length) (hO:fH p) (hv:BL p.evs[i]) :
  Ctr Tryz.prog 114 [.sc (aU s),eF p,.sc (.int .i64 i)] (.ls 3 ((jO s p i p.evs[i]).map uV)):=by
 have hn3:=hO.n3
 have h20:=hO.n4 i hi
 have hat:(p.evs.map iq)[((i:Nat):Int).toNat]?=some (iq p.evs[i]):=wI hi
 have XL:∀ c:Int,Ctr Tryz.prog 95 [eF p,.sc (.int .i64 i),.sc (.int .i64 c)] (.sc (.int .i64 (ah p.evs i c))):=fun c =>
  Ctr.V3 (pre:=[]) (post:=[.sc (.int .i64 i),.sc (.int .i64 c)]) rfl rfl (fun _=>.sc _) fun w M hM=>rP M p i c w hM hO
 rw [xW]
 have b1:=VB s i p.evs[i].val
 have b2:=VD s i p.evs[i].three
 have b3:=VE s i p.evs[i].tie p.evs[i].stops.length
 have hfl:=CB s i (fun c=>ah p.evs i c) p.evs[i].stops
 have hEl:(p.evs.map iq).length=p.evs.length:=dH _
 refine jc Tryz.func114 Tryz.ntmps114 fun w0 F0=>?_;dsimp only [St.init,number,Nat.reduceAdd]
 refine dG ?_
 refine WL.vl rfl (WV.mkf rfl rfl) ?_
 refine dG ?_
 first|refine W.tr (Tr.nilBox (k:=2) (j:=0) 136 3 rfl rfl rfl rfl) ?_|refine WL.tr (Tr.nilBox (k:=2) (j:=0) 136 3 rfl rfl rfl rfl) ?_
 refine Qu ?_
 refine dG ?_
 refine W.meet ⟨[(0,.sc (aU s)),(4,.pt 0 0 0),(5,.pt 1 0 0),(7,.pt 2 0 0),(8,.fn 177 [.pt 2 0 0,.pt 1 0 0]),(9,.pt 4 0 0)],[(0,.box 30 [.ls 3 (p.cs.map aW),.ls 1 (p.st.map eInt),.ls 6 (p.evs.map iq)]),(1,.box 3 [.sc (.int .i64 i)]),(2,.box 56 [.sl 3]),(3,.row 136 3 ((Yc s i p.evs[i].val).map uV)),(4,.box 90 (iq p.evs[i]))],5⟩ ?_ ?_
 ·(refine W.cond rfl (fun hif=>?_) (fun hif=>?_)<;>(try simp only [bD,bK,dM,dN,dn,dO] at hif))
  ·have h1:([]++kH (pR s 6) i 0 6).map uV=(Yc s i p.evs[i].val).map uV:=by unfold Yc;rw [if_pos hif];rfl
   refine dG ?_
   refine WL.vl rfl (WV.sys hs QY rfl rfl (fun vs w=>by kernel_rfl) (fun vs w=>by kernel_rfl) (fun vs w=>by kernel_rfl) (fun vs w=>by kernel_rfl) rfl rfl (zi s hs 6)) ?_
   refine dG ?_
   refine WL.cto (truH _) [2,1,4] rfl rfl (callF Tryz.func177 rfl rfl) (uw (pR s 6) 0 6 i ([]) (by simp)) rfl rfl rfl ⟨⟨rfl,rfl,rfl⟩,⟨rfl,rfl,rfl⟩,⟨rfl,rfl,rfl⟩,trivial⟩ rfl rfl rfl rfl ?_
   refine dG ?_
   refine (?_:Tr _ _ _)
   exact (mP (fun q=>bif Nat.beq q 3 then 5 else bif Nat.beq q 4 then 3 else q) ahB rfl)
  ·have h1:([]:List (List AV))=(Yc s i p.evs[i].val).map uV:=by unfold Yc;rw [if_neg hif];rfl
   refine dG ?_
   refine (?_:Tr _ _ _)
   exact (mP (fun q=>bif Nat.beq q 3 then 4 else bif Nat.beq q 4 then 3 else q) ahB rfl)
 obtain ⟨Y1,hY1⟩:∃ z,Yc s i p.evs[i].val=z:=⟨_,rfl⟩
 rw [hY1] at b1 ⊢
 refine dG ?_
 refine W.meet ⟨[(0,.sc (aU s)),(4,.pt 0 0 0),(5,.pt 1 0 0),(7,.pt 2 0 0),(8,.fn 177 [.pt 2 0 0,.pt 1 0 0]),(9,.pt 4 0 0)],[(0,.box 30 [.ls 3 (p.cs.map aW),.ls 1 (p.st.map eInt),.ls 6 (p.evs.map iq)]),(1,.box 3 [.sc (.int .i64 i)]),(2,.box 56 [.sl 3]),(3,.row 136 3 ((Y1++Yd s i p.evs[i].three).map uV)),(4,.box 90 (iq p.evs[i]))],5⟩ ?_ ?_
 ·(refine W.cond rfl (fun hif=>?_) (fun hif=>?_)<;>(try simp only [bD,bK,dM,dN,dn,dO] at hif))
  ·have h1:(Y1++kH (pR s 5) i 0 5).map uV=(Y1++Yd s i p.evs[i].three).map uV:=by unfold Yd;rw [if_pos hif]
   refine dG ?_
   refine WL.vl rfl (WV.sys hs QY rfl rfl (fun vs w=>by kernel_rfl) (fun vs w=>by kernel_rfl) (fun vs w=>by kernel_rfl) (fun vs w=>by kernel_rfl) rfl rfl (zi s hs 5)) ?_
   refine dG ?_
   refine WL.cto (truH _) [2,1,3] rfl rfl (callF Tryz.func177 rfl rfl) (uw (pR s 5) 0 5 i (Y1) aj) rfl rfl rfl ⟨⟨rfl,rfl,rfl⟩,⟨rfl,rfl,rfl⟩,⟨rfl,rfl,rfl⟩,trivial⟩ rfl rfl rfl rfl ?_
   exact afd
  ·have h1:Y1.map uV=(Y1++Yd s i p.evs[i].three).map uV:=by unfold Yd;rw [if_neg (by simpa using hif),mG]
   exact ai7
 obtain ⟨Y2,hY2⟩:∃ z,Yd s i p.evs[i].three=z:=⟨_,rfl⟩
 rw [hY2] at b2 ⊢
 have b12:(Y1++Y2).length≤2:=by rw [bJ];omega
 refine dG ?_
 refine W.meet ⟨[(0,.sc (aU s)),(4,.pt 0 0 0),(5,.pt 1 0 0),(7,.pt 2 0 0),(8,.fn 177 [.pt 2 0 0,.pt 1 0 0]),(9,.pt 4 0 0)],[(0,.box 30 [.ls 3 (p.cs.map aW),.ls 1 (p.st.map eInt),.ls 6 (p.evs.map iq)]),(1,.box 3 [.sc (.int .i64 i)]),(2,.box 56 [.sl 3]),(3,.row 136 3 ((Y1++Y2++Qz s i p.evs[i].tie p.evs[i].stops.length).map uV)),(4,.box 90 (iq p.evs[i]))],5⟩ ?_ ?_
 ·(refine W.cond rfl (fun hif=>?_) (fun hif=>?_)<;>(try simp only [bD,bK,dM,dN,dn,dO] at hif))
  ·have h1:(Y1++Y2++kH (pR s 7) i 0 7).map uV=(Y1++Y2++Qz s i p.evs[i].tie p.evs[i].stops.length).map uV:=by unfold Qz;rw [if_pos hif]
   refine dG ?_
   refine WL.vl rfl (WV.sys hs QY rfl rfl (fun vs w=>by kernel_rfl) (fun vs w=>by kernel_rfl) (fun vs w=>by kernel_rfl) (fun vs w=>by kernel_rfl) rfl rfl (zi s hs 7)) ?_
   refine dG ?_
   refine WL.cto (truH _) [2,1,3] rfl rfl (callF Tryz.func177 rfl rfl) (uw (pR s 7) 0 7 i (Y1++Y2) aj) rfl rfl rfl ⟨⟨rfl,rfl,rfl⟩,⟨rfl,rfl,rfl⟩,⟨rfl,rfl,rfl⟩,trivial⟩ rfl rfl rfl rfl ?_
   exact afd
  ·have hti:¬ p.evs[i].tie=true:=by simpa using hif
   refine dG ?_
   (refine W.cond rfl (fun hif=>?_) (fun hif=>?_)<;>(try simp only [bD,bK,dM,dN,dn,dO] at hif))
   ·have h1:(Y1++Y2++kH (pR s 8) i 0 8).map uV=(Y1++Y2++Qz s i p.evs[i].tie p.evs[i].stops.length).map uV:=by unfold Qz;rw [if_neg hti,if_pos (by omega)]
    refine dG ?_
    refine WL.vl rfl (WV.sys hs QY rfl rfl (fun vs w=>by kernel_rfl) (fun vs w=>by kernel_rfl) (fun vs w=>by kernel_rfl) (fun vs w=>by kernel_rfl) rfl rfl (zi s hs 8)) ?_
    refine dG ?_
    refine WL.cto (truH _) [2,1,3] rfl rfl (callF Tryz.func177 rfl rfl) (uw (pR s 8) 0 8 i (Y1++Y2) aj) rfl rfl rfl ⟨⟨rfl,rfl,rfl⟩,⟨rfl,rfl,rfl⟩,⟨rfl,rfl,rfl⟩,trivial⟩ rfl rfl rfl rfl ?_
    exact afd
   ·have h1:(Y1++Y2).map uV=(Y1++Y2++Qz s i p.evs[i].tie p.evs[i].stops.length).map uV:=by unfold Qz;rw [if_neg hti,if_neg (by omega),mG]
    exact ai7
 rw [← lD]
 obtain ⟨H,hH⟩:∃ z,Y1++Y2++Qz s i p.evs[i].tie p.evs[i].stops.length=z:=⟨_,rfl⟩
 have bH:H.length≤3:=by rw [← hH,bJ];omega
 rw [hH]
 obtain ⟨Fl,hFl⟩:∃ z,gI s i (fun c=>ah p.evs i c)=z:=⟨_,rfl⟩
 have hsn:=fun k (h:k < p.evs[i].stops.length)=>XD s i (fun c=>ah p.evs i c) p.evs[i].stops k h
 have hfk:=fun k=>CB s i (fun c=>ah p.evs i c) (p.evs[i].stops.take k)
 rw [hFl] at hfl hsn hfk ⊢
 clear b1 b2 b3 b12 hY1 hY2 hH
 refine dG ?_
 refine W.loop (fun k:Nat=>k≤p.evs[i].stops.length) (fun k=>⟨[(0,.sc (aU s)),(4,.pt 0 0 0),(5,.pt 1 0 0),(7,.pt 2 0 0),(8,.fn 177 [.pt 2 0 0,.pt 1 0 0]),(9,.pt 4 0 0),(56,.ls 5 (p.evs[i].stops.map iI)),(57,.sc (.int .i64 p.evs[i].stops.length)),(58,.sc (.int .i64 k))],[(0,.box 30 [.ls 3 (p.cs.map aW),.ls 1 (p.st.map eInt),.ls 6 (p.evs.map iq)]),(1,.box 3 [.sc (.int .i64 i)]),(2,.box 56 [.sl 3]),(3,.row 136 3 ((H++(p.evs[i].stops.take k).flatMap Fl).map uV)),(4,.box 90 (iq p.evs[i]))],5⟩) (fun k=>p.evs[i].stops.length - k) 0 (by omega) (mP (fun q=>q) (by repeat (first|exact trivial|refine ⟨⟨?_,?_,?_⟩,?_⟩|rfl|exact congrArg (fun q=>some (AO.row _ _ q)) (by simp))) rfl) fun k hk=>?_
 by_cases hlt:k < p.evs[i].stops.length
 rotate_left
 ·obtain rfl:k=p.evs[i].stops.length:=by omega
  rw [fE]
  clear hsn hfk
  refine dG ?_
  first|refine W.tr (Tr.freeze 3 rfl) ?_|refine WL.tr (Tr.freeze 3 rfl) ?_
  exact W.ret vJ
 have hs1:=hsn k hlt
 have hf1:=hfk k
 have htl:(p.evs[i].stops.take k).length=k:=by rw [jR];omega
 obtain ⟨v1,v2,v3,v4,v5⟩:=hv k hlt
 have hxa:(p.evs[i].stops.map iI)[((k:Nat):Int).toNat]?=some (iI p.evs[i].stops[k]):=wI hlt
 obtain ⟨x,hx⟩:∃ z,p.evs[i].stops[k]=z:=⟨_,rfl⟩
 rw [hx] at hs1 v1 v2 v3 v4 v5 hxa
 have an3:=Lj s hs x.1 x.2.1 v1 v2
 have hri:=D5 s hs x.2.2.1 v3
 have hgr:=CP s hs x.2.2.2.1 v4
 have hho:=JY s hs x.2.2.2.2 (ah p.evs i x.1) v5
 have hL1:=XL x.1
 obtain ⟨LL,hLL⟩:∃ z,H++(p.evs[i].stops.take k).flatMap Fl=z:=⟨_,rfl⟩
 have hLn:LL.length≤63:=by rw [← hLL,bJ];omega
 have hnext:LL++Fl x=H++(p.evs[i].stops.take (k+1)).flatMap Fl:=by rw [hs1,← hLL,lD]
 rw [hLL]
 obtain ⟨ST,hST⟩:∃ z,p.evs[i].stops.map iI=z:=⟨_,rfl⟩
 rw [hST] at hxa ⊢
 clear hsn hfk hs1 hf1 hv hLL
 refine dG ?_
 refine WL.idx rfl rfl aj hxa ?_
 refine dG ?_
 refine WL.vl rfl (WV.sys hs BU rfl rfl (fun vs w=>by kernel_rfl) (fun vs w=>by kernel_rfl) (fun vs w=>by kernel_rfl) (fun vs w=>by kernel_rfl) rfl rfl an3) ?_
 cases hp:Gv s x.1 x.2.1 with
 | false =>
  have hF:(LL++kH false i x.1 1).map uV=(H++(p.evs[i].stops.take (k+1)).flatMap Fl).map uV:=by
   rw [← hnext,← hFl]
   unfold gI
   rw [if_pos hp];rfl
  refine dG ?_
  refine WL.cto (truH _) [2,1,3] rfl rfl (callF Tryz.func177 rfl rfl) (uw false x.1 1 i (LL) aj) rfl rfl rfl ⟨⟨rfl,rfl,rfl⟩,⟨rfl,rfl,rfl⟩,⟨rfl,rfl,rfl⟩,trivial⟩ rfl rfl rfl rfl ?_
  refine dG ?_
  exact ⟨k+1,by omega,by omega,(mP (fun q=>bif Nat.beq q 3 then 6 else q) aix rfl)⟩
 | true =>
  have hF:(LL++kH (okR s x.2.2.1) i x.1 2++kH (yt s x.2.2.2.1) i x.1 3++kH (qY s x.2.2.2.2 (ah p.evs i x.1)) i x.1 4).map uV=(H++(p.evs[i].stops.take (k+1)).flatMap Fl).map uV:=by
   rw [← hnext,← hFl]
   unfold gI
   rw [if_neg (by rw [hp];exact fun h=>by cases h)]
   simp only [lD]
  have a1:=kN (okR s x.2.2.1) i x.1 2
  have a2:=kN (yt s x.2.2.2.1) i x.1 3
  refine dG ?_
  refine WL.vl rfl (WV.sys hs zD rfl rfl (fun vs w=>by kernel_rfl) (fun vs w=>by kernel_rfl) (fun vs w=>by kernel_rfl) (fun vs w=>by kernel_rfl) rfl rfl hri) ?_
  refine dG ?_
  refine WL.cto (truH _) [2,1,3] rfl rfl (callF Tryz.func177 rfl rfl) (uw (okR s x.2.2.1) x.1 2 i (LL) aj) rfl rfl rfl ⟨⟨rfl,rfl,rfl⟩,⟨rfl,rfl,rfl⟩,⟨rfl,rfl,rfl⟩,trivial⟩ rfl rfl rfl rfl ?_
  refine dG ?_
  refine WL.vl rfl (WV.sys hs zh rfl rfl (fun vs w=>by kernel_rfl) (fun vs w=>by kernel_rfl) (fun vs w=>by kernel_rfl) (fun vs w=>by kernel_rfl) rfl rfl hgr) ?_
  refine dG ?_
  refine WL.cto (truH _) [2,1,6] rfl rfl (callF Tryz.func177 rfl rfl) (uw (yt s x.2.2.2.1) x.1 3 i (LL++kH (okR s x.2.2.1) i x.1 2) (by rw [bJ];omega)) rfl rfl rfl ⟨⟨rfl,rfl,rfl⟩,⟨rfl,rfl,rfl⟩,⟨rfl,rfl,rfl⟩,trivial⟩ rfl rfl rfl rfl ?_
  refine dG ?_
  refine iT ?_
  refine yT ?_
  refine DK.vl rfl (bU Tryz.func95 hL1) ?_
  refine yT ?_
  refine DK.vl rfl (WV.mkm rfl rfl) ?_
  refine yT ?_
  refine DK.vl rfl (WV.ncm hs rfl rfl (fun n w=>by kernel_rfl) (fun n w=>by kernel_rfl) (fun n w=>by kernel_rfl) (fun n w=>by kernel_rfl)) ?_
  refine yT ?_
  refine DK.vl rfl (WV.sys hs Hf rfl rfl (fun vs w=>by kernel_rfl) (fun vs w=>by kernel_rfl) (fun vs w=>by kernel_rfl) (fun vs w=>by kernel_rfl) rfl rfl hho) ?_
  refine yT ?_
  refine dG ?_
  refine WL.cto (truH _) [2,1,7] rfl rfl (callF Tryz.func177 rfl rfl) (uw (qY s x.2.2.2.2 (ah p.evs i x.1)) x.1 4 i (LL++kH (okR s x.2.2.1) i x.1 2++kH (yt s x.2.2.2.1) i x.1 3) (by rw [bJ,bJ];omega)) rfl rfl rfl ⟨⟨rfl,rfl,rfl⟩,⟨rfl,rfl,rfl⟩,⟨rfl,rfl,rfl⟩,trivial⟩ rfl rfl rfl rfl ?_
  refine dG ?_
  exact ⟨k+1,by omega,by omega,(mP (fun q=>bif Nat.beq q 3 then 8 else q) aix rfl)⟩
end Go.Proofs.YthohlofpphjofaaGreatDoor
