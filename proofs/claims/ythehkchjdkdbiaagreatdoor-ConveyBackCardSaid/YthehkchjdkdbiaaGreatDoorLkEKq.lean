/- What a system lacks of an event: the program, over trees, in any system. -/
import Derived.Test.YthehkchjdkdbiaaGreatDoorMk1Kq
import Derived.Test.YthehkchjdkdbiaaGreatDoorK2Kq
import Derived.Test.YthehkchjdkdbiaaGreatDoorGRKq
import Derived.Test.YthehkchjdkdbiaaGreatDoorHs2Kq
import Derived.Test.YthehkchjdkdbiaaGreatDoorMk3Kq
import Derived.Test.YthehkchjdkdbiaaGreatDoorMk4Kq
set_option maxHeartbeats 8000000
set_option maxRecDepth 100000
set_option linter.unusedVariables false
set_option linter.unusedSimpArgs false
namespace Go.Proofs.YthehkchjdkdbiaaGreatDoor
theorem XL {p:Prop}(h:p:=by simpa using hif):p:=h
theorem aqn {p:Prop}(h:p:=by repeat (first|exact trivial|refine ⟨⟨?_,?_,?_⟩,?_⟩|rfl|exact congrArg (fun q=>some (AO.row _ _ q)) hF)):p:=h
theorem aql {p:Prop}(h:p:=by repeat (first|exact trivial|refine ⟨⟨?_,?_,?_⟩,?_⟩|rfl|exact congrArg (fun q=>some (AO.row _ _ q)) hmm)):p:=h
theorem apa {p:Prop}(h:p:=by repeat (first|exact trivial|refine ⟨⟨?_,?_,?_⟩,?_⟩|rfl|exact congrArg (fun q=>some (AO.row _ _ q)) h1)):p:=h
theorem ao9 {p:Prop}(h:p:=by repeat (first|exact trivial|refine ⟨⟨?_,?_,?_⟩,?_⟩|rfl|exact congrArg (fun q=>some (AO.row _ _ q)) (by simp))):p:=h
theorem akr {p:Prop}(h:p:=by
 match i with
 | 0=>cases a;cases b;exact .sc _
 | 1=>cases a;cases b;exact .sc _
 | i+2=>simp at a):p:=h
theorem arn {p:Prop}(h:p:=by
 refine fQ ?_
 refine (?_:Tr _ _ _)
 exact (kL (fun q=>q) apa rfl)):p:=h
theorem al5 {p:Prop}(h:p:=by
 refine fQ ?_
 refine (?_:Tr _ _ _)
 exact (kL (fun q=>bif Nat.beq q 3 then 5 else q) apa rfl)):p:=h
theorem yH {p q:Prop}(k:q)(h:aP q→p:=by
 intro hq
 refine WL.vl rfl (WV.mkf rfl rfl) ?_
 exact hq.k):p:=h ⟨k⟩
theorem BL {p q:Prop}(k:q)(h:aP q→p:=by
 intro hq
 repeat (first|refine DK.st rfl ?_|refine DK.nil ?_)
 exact hq.k):p:=h ⟨k⟩
theorem xk {p q:Prop}(k:q)(h:aP q→p:=by
 intro hq
 dsimp only [St.put,St.new,St.upd,Nat.reduceAdd]
 exact hq.k):p:=h ⟨k⟩
theorem gB {p q:Prop}(k:q)(h:aP q→p:=by
 intro hq
 dsimp only [number,Nat.reduceAdd]
 exact hq.k):p:=h ⟨k⟩
section
open Go.RowKit
attribute [local go_sem]wC bY gW gV dU
attribute [local simp]mV iK eF je
theorem Zy (n:Int)(w:World):Calls Tryz.prog 315 #[.agg #[],.int .i64 n] w (eG (.bool (if (1:Int)=3 then n != 8 else if (1:Int)=4 then n == 8 else true)) w):=by
 go_enter Tryz.func315,Tryz.ntmps315
 exact Dh
theorem atD (v:Int) (w:World) (hv:1≤v∧v≤7) :
  Calls Tryz.prog 110 #[(.iface 170 (.agg #[])),.agg #[.int .i64 v,.bool false,.bool true]] w (eG (.tuple #[.string (bs (tW v 2)),.bool (Aq 1 v 2)]) w):=by
 obtain ⟨hv1,hv7⟩:=hv
 have e1:tW v 2=cut [66,83,77,67,81,88,68] (v - 1) v++[51]:=by unfold tW;rw [if_neg (by omega)];rfl
 have e2:Aq 1 v 2=decide ((1:Int)≠4):=by unfold Aq;rw [if_neg (by omega)];rfl
 have H5:=Lib.hid (Zy 5)
 rw [e1,e2]
 have hb1:(v == 0)=false:=by simp;omega
 have g0:0≤v - 1:=by omega
 have g1:v - 1≤v:=by omega
 have gl:(cut [66,83,77,67,81,88,68] (v - 1) v).length+1≤9223372036854775807:=by
  exact ac8
 have w1:IntKind.i64.wrap (v - 1)=v - 1:=IntWalk.i64_in _ au
 clear e1 e2
 go_enter Tryz.func110,Tryz.ntmps110
 go_wp2_with fail
 go_region_held3 (fun w'=>w'.cell? ⟨w.heap.size,0,none⟩=some (.int .i64 v))
  (first|(simp [bc];done)|go_keep)
  ((go_at_call 315;refine (H5.out _).mono ?_;rintro e w' ⟨rfl,hb⟩;obtain ⟨bc,bf⟩:=Ov hb))
 go_wp2_with fail
 go_ret2
 exact eG.mk' (by simp) jT
theorem awv (v:Int) (i:Nat) (w:World) (hv:0≤v∧v≤7) (hi:i≤2) (hz:v=0→i=0) :
    Calls Tryz.prog 110 #[(.iface 170 (.agg #[])),.agg #[.int .i64 v,.bool (IE i),.bool (EH i)]] w (eG (.tuple #[.string (bs (tW v i)),.bool (Aq 1 v i)]) w):=by
  have h3:i=0∨i=1∨i=2:=by omega
  have h8:v=0∨v=1∨v=2∨v=3∨v=4∨v=5∨v=6∨v=7:=by omega
  have H6:=Lib.hid (Zy 6)
  have HV:=Lib.hid hv
  clear hi hv
  rcases h3 with rfl|rfl|rfl
  · rcases h8 with rfl|rfl|rfl|rfl|rfl|rfl|rfl|rfl
    all_goals
      clear hz
      simp only [IE,EH]
      go_enter Tryz.func110,Tryz.ntmps110
      go_wp2_with (go_at_call 315;refine (H6.out _).mono ?_;rintro e w' ⟨rfl,hb⟩)
      go_ret2
      exact eG.mk' rfl jT
  · exact ac5
  · exact atD v w ⟨by have:=HV.out;by_cases h0:v=0<;>omega,HV.out.2⟩
end
section
open Go.RowKit
def bG (s:Int):Value:=if s=1 then .iface 170 (.agg #[])else if s=2 then .iface 174 (.agg #[])else if s=3 then .iface 176 (.agg #[])else if s=4 then .iface 178 (.agg #[])else .nilIface
theorem bQ {s:Int} (h:1≤s∧s≤4):s=1∨s=2∨s=3∨s=4:=by omega
def plV:AV→Option Value
 | .sc v=>some v
 | .ag l =>
  match EG l with
  | some xs=>some (.agg xs.toArray)
  | none=>none
 | _=>none
def plL:List AV→Option (List Value)
 | []=>some []
 | x::r =>
  match plV x,plL r with
  | some v,some l=>some (v::l)
  | _,_=>none
theorem ZF {F:View} {av:AV} {u v:Value} (h:plV av=some v) (r:RP F av u):u=v:=by
 cases av with
 | sc x=>cases h;exact r.fB
 | ag l =>
  cases hs:EG l with
  | none=>simp [plV,hs] at h
  | some xs =>
   simp [plV,hs] at h
   subst h
   obtain ⟨cs,rfl,h1,h2⟩:=(R.pu (G:=⟨F,fun _=>0,fun _=>0,fun _=>undef,fun _ _=>False⟩) _ _ r).AX
   have e:cs.toList=xs:=xW (G:=⟨F,fun _=>0,fun _=>0,fun _=>undef,fun _ _=>False⟩) hs rO (fun i av u p q=>h2 i av u p rQ)
   subst e
   simp
 | _=>cases h
theorem ZC {F:View}:∀ {l:List AV} {xs vs:List Value},plL l=some xs→vs.length=l.length→(∀ (i:Nat) av u,l[i]?=some av→vs[i]?=some u→RP F av u)→vs=xs
 | [],xs,vs,h,hl,_=>by cases h;exact oN hl
 | x::r,xs,[],h,hl,_=>by cases hl
 | x::r,xs,v::vs,h,hl,hq=>by
  unfold plL at h
  split at h
  ·rename_i u l h1 h2
   cases h
   rw [ZF h1 (hq 0 x v rfl rfl),ZC (F:=F) (vs:=vs) h2 (by simpa using hl) fun i av u a b=>hq (i+1) av u (by simpa using a) Qw]
  ·cases h
theorem aU.kP {P:Program} {f:FuncId} {args:List AV} {xs:List Value} {res:AV} {v:Value} (hs:plL args=some xs)(hv:∀ F,RP F res v)(h:∀ w,Calls P f xs.toArray w (eG v w)):aU P f args res:=by
 intro w F vs hF hR
 have:=ZC hs hR.1 hR.2
 exact arw
theorem jR {F:View} {u v:Value}:RP F (.tu [.sc u,.sc v]) (.tuple #[u,v]):=.tu _ _ rfl fun i av x a b=>by
 exact akr
theorem WV.sys {P:Program} {C:Cx} {o:Oper} {σ:St} {s:Int} (hs:1≤s∧s≤4) {x:Operand} {name:String} {xs:Array Operand} {ts:Array TypeId} {args:List AV} {res:AV} (fs:Int→FuncId) (ho:o.op=.call { callee:=.invoke x name,args:=xs,argTypes:=ts })
  (hr:σ.ev x=some (.sc (bG s)))
  (h1:∀ vs w,(callMethod (bG 1) name vs).run P w=.ok (.enter (fs 1) (#[.agg #[]]++vs)) w) (h2:∀ vs w,(callMethod (bG 2) name vs).run P w=.ok (.enter (fs 2) (#[.agg #[]]++vs)) w)
  (h3:∀ vs w,(callMethod (bG 3) name vs).run P w=.ok (.enter (fs 3) (#[.agg #[]]++vs)) w) (h4:∀ vs w,(callMethod (bG 4) name vs).run P w=.ok (.enter (fs 4) (#[.agg #[]]++vs)) w)
  (hx:σ.evs xs.toList=some args) (hp:args.all AV.pu2=true) (h:aU P (fs s) (.ag []::args) res):WV P C o σ res:=by
 rcases bQ hs with rfl|rfl|rfl|rfl
 ·exact WV.inv (l:=[]) ho hr h1 rfl hx hp h
 ·exact WV.inv (l:=[]) ho hr h2 rfl hx hp h
 ·exact WV.inv (l:=[]) ho hr h3 rfl hx hp h
 ·exact WV.inv (l:=[]) ho hr h4 rfl hx hp h
theorem Tr.mvB {C:Cx} {σ:St} (k j q m:Nat) {Tb T' n:Nat} {cells cells':List AV} {rows:List (List AV)} (hk:look k σ.M=some (.box Tb cells)) (hj:cells[j]?=some (.sl q)) (hq:look q σ.M=some (.row T' n rows)) (hkq:Nat.beq k q=false) (hm:σ.nk=m) (hc:cells.set j (.sl m)=cells') :
  Tr C σ (((σ.drop q).new (.row T' n rows)).upd k (.box Tb cells')):=fun G a w ok=>by
 subst hm hc
 obtain ⟨hlt,_,hn',hg,hR⟩:=ok.ob q _ hq
 have hne:k≠q:=fun e=>by rw [e,Qm] at hkq;cases hkq
 have ok':=(ok.UD q).newObj (S:=fun _=>False) (w':=w) (b:=G.b q) (n:=n) (h:=G.h q) (φ:=G.fp q) (ob:=.row T' n rows)
  (Kept.refl _ w) (fun _ h=>h.elim) (fun _ _ _ _ _ h=>h) (fun _ _ _ h=>h)
  ⟨x9,(fun g hgg=>by rw [iL] at hgg;rw [xZ];exact hg g hgg),by rw [iL,vN];exact hR⟩ trivial (fun x hx=>⟨(ok.my q _ x hq hx).1,(ok.my q _ x hq hx).2,fun i oi hi h2=>(kG hi).1 (ok.dj i oi q _ x (kG hi).2 hq h2 hx),fun p u=>ok.dF q _ x p u hq hx⟩)
 have hkn:k≠σ.nk:=Nat.ne_of_lt (ok.ob k _ hk).1
 have hk':look k ((σ.drop q).new (.row T' n rows)).M=some (.box Tb cells):=by
  rw [show look k ((σ.drop q).new (.row T' n rows)).M=look k (rem q σ.M) from aj hkn,nY,if_neg hne];exact hk
 obtain ⟨g1,g2,g3,cs,Φ,g4,g5,g6,g7,g8⟩:=ok'.ob k _ hk'
 refine ⟨_,ok'.ae8 hk' ⟨g1,fun i av x=>?_,g3,cs,Φ,g4,by simpa using g5,g6,g7,fun i av u x y=>?_⟩⟩
 ·rw [List.getElem?_set] at x
  exact akp
 ·by_cases e:j=i
  ·subst e
   have hjl:j<cells.length:=(List.getElem?_eq_some_iff.1 hj).1
   rw [rM hjl] at x
   cases x
   have r:=(g8 j _ u hj y).r rfl
   have hu:u=G.h q:=r.nG.1.trans (if_neg (show ¬ q=σ.nk by omega))
   have h3:=r.nG.2
   rw [hu] at h3 ⊢
   exact .inl (uS h3)
  ·rw [uf e] at x
   exact g8 i av u x y
theorem WV.mkm {P:Program} {C:Cx} {σ:St} {o:Oper} {name:String} {x:Operand} {v:Value} (ho:o.op=.makeFunc (.method name) #[x] #[])(hx:σ.ev x=some (.sc v)):WV P C o σ (.sc (.func (.method name) #[v] #[])) :=
 WV.val (fun G a w ok=>.sc _) fun G a w ok=>by
  have e:a.eval x=v:=(ok.nO hx).2.fB
  exact⟨.func (.method name) #[v] #[],by unfold execOp;simp [ho,Instr.makeFunc,e],.pu _ _ (.sc _)⟩
theorem WV.ncm {P:Program} {C:Cx} {σ:St} {o:Oper} {name:String} {x:Operand} {s:Int} (hs:1≤s∧s≤4)(ho:o.op=.nilCheck x)(hx:σ.ev x=some (.sc (.func (.method name) #[bG s] #[])))
  (h1:∀ n w,Sem.run P (nilAhead (n+1) 170 (.agg #[]) name) w=.ok (some false) w)(h2:∀ n w,Sem.run P (nilAhead (n+1) 174 (.agg #[]) name) w=.ok (some false) w)
  (h3:∀ n w,Sem.run P (nilAhead (n+1) 176 (.agg #[]) name) w=.ok (some false) w)(h4:∀ n w,Sem.run P (nilAhead (n+1) 178 (.agg #[]) name) w=.ok (some false) w):WV P C o σ (.sc (.func (.method name) #[bG s] #[])) :=
 WV.val (fun G a w ok=>.sc _) fun G a w ok=>by
  have e:a.eval x=.func (.method name) #[bG s] #[]:=(ok.nO hx).2.fB
  obtain⟨n,hn⟩:∃ n,P.types.size+Made.depth=n+1:=⟨_,rfl⟩
  refine⟨_,?_,.pu _ _ (.sc _)⟩
  rcases bQ hs with rfl|rfl|rfl|rfl
  ·unfold execOp;simp [ho,e,bG,run_program,hn,h1]
  ·unfold execOp;simp [ho,e,bG,run_program,hn,h2]
  ·unfold execOp;simp [ho,e,bG,run_program,hn,h3]
  ·unfold execOp;simp [ho,e,bG,run_program,hn,h4]
abbrev avq:FuncId:=315
abbrev aja:FuncId:=321
abbrev aow:FuncId:=320
abbrev am9:FuncId:=314
abbrev asI:FuncId:=316
abbrev avr:FuncId:=331
abbrev ajb:FuncId:=336
abbrev aox:FuncId:=335
abbrev ana:FuncId:=330
abbrev asJ:FuncId:=329
abbrev avt:FuncId:=338
abbrev ajc:FuncId:=344
abbrev aoy:FuncId:=343
abbrev anb:FuncId:=337
abbrev asK:FuncId:=339
abbrev avu:FuncId:=346
abbrev ajd:FuncId:=351
abbrev aoz:FuncId:=350
abbrev anc:FuncId:=345
abbrev asL:FuncId:=329
def YE(s:Int):FuncId:=if s=1 then avq else if s=2 then avr else if s=3 then avt else avu
def En(s:Int):FuncId:=if s=1 then aja else if s=2 then ajb else if s=3 then ajc else ajd
def FI(s:Int):FuncId:=if s=1 then aow else if s=2 then aox else if s=3 then aoy else aoz
def EX(s:Int):FuncId:=if s=1 then am9 else if s=2 then ana else if s=3 then anb else anc
def OQ(s:Int):FuncId:=if s=1 then asI else if s=2 then asJ else if s=3 then asK else asL
theorem EZ (s:Int)(hs:1≤s∧s≤4)(n:Int):aU Tryz.prog (YE s) [.ag [],.sc (.int .i64 n)] (.sc (.bool (aO s n))):=by
 rcases bQ hs with rfl|rfl|rfl|rfl
 ·exact aU.kP rfl (fun _=>.sc _) fun w=>Zy n w
 ·exact aU.kP rfl (fun _=>.sc _) fun w=>Zz n w
 ·exact aU.kP rfl (fun _=>.sc _) fun w=>ZA n w
 ·exact aU.kP rfl (fun _=>.sc _) fun w=>ZB n w
theorem Jf (s:Int)(hs:1≤s∧s≤4)(c f:Int)(hc:1≤c∧c≤14)(hf:0≤f∧f≤18):aU Tryz.prog (En s) [.ag [],.ag [.sc (.int .i64 c),.sc (.int .i64 f)]] (.tu [.sc (.string (bs (pS s c f))),.sc (.bool (qU s c f))]):=by
 rcases bQ hs with rfl|rfl|rfl|rfl
 ·exact aU.kP rfl (fun _=>jR) fun w=>aty c f w hc hf
 ·exact aU.kP rfl (fun _=>jR) fun w=>atz c f w hc hf
 ·exact aU.kP rfl (fun _=>jR) fun w=>atA c f w hc hf
 ·exact aU.kP rfl (fun _=>jR) fun w=>atB c f w hc hf
theorem KZ (s:Int)(hs:1≤s∧s≤4)(n:Int)(h:0≤n∧n≤3):aU Tryz.prog (FI s) [.ag [],.sc (.int .i64 n)] (.tu [.sc (.string (bs (rR s n))),.sc (.bool (okR s n))]):=by
 rcases bQ hs with rfl|rfl|rfl|rfl
 ·exact aU.kP rfl (fun _=>jR) fun w=>aiv n w h
 ·exact aU.kP rfl (fun _=>jR) fun w=>aiw n w h
 ·exact aU.kP rfl (fun _=>jR) fun w=>aix n w h
 ·exact aU.kP rfl (fun _=>jR) fun w=>aiy n w h
theorem JE (s:Int)(hs:1≤s∧s≤4)(n:Int)(h:0≤n∧n≤4):aU Tryz.prog (EX s) [.ag [],.sc (.int .i64 n)] (.tu [.sc (.string (bs (rG s n))),.sc (.bool (sZ s n))]):=by
 rcases bQ hs with rfl|rfl|rfl|rfl
 ·exact aU.kP rfl (fun _=>jR) fun w=>ain n w h
 ·exact aU.kP rfl (fun _=>jR) fun w=>aio n w h
 ·exact aU.kP rfl (fun _=>jR) fun w=>aip n w h
 ·exact aU.kP rfl (fun _=>jR) fun w=>aiq n w h
theorem Rl (s:Int)(hs:1≤s∧s≤4)(n L:Int)(h:0≤n∧n≤15):aU Tryz.prog (OQ s) [.ag [],.sc (.int .i64 n),.sc (.int .i64 L)] (.tu [.sc (.string (bs (pH s n L))),.sc (.bool (qN s n L))]):=by
 rcases bQ hs with rfl|rfl|rfl|rfl
 ·exact aU.kP rfl (fun _=>jR) fun w=>aoe n L w h
 ·exact aU.kP rfl (fun _=>jR) fun w=>aof n L w h
 ·exact aU.kP rfl (fun _=>jR) fun w=>aog n L w h
 ·exact aU.kP rfl (fun _=>jR) fun w=>aoh n L w h
theorem xB {P:Program} {C:Cx} {σ σ':St} {fn:Func} {res:AV} {M':List (Nat×AO)} {dh:Nat} {e:Exit} (h:Tr C σ σ')(k:sK P fn C res M' dh e σ'):sK P fn C res M' dh e σ :=
 ⟨k.1,fun G a w ok=>by obtain⟨G',ok'⟩:=h G a w ok;exact k.2 G' a w ok'⟩
theorem sQ {P:Program} {C:Cx} {σ:St} {fn:Func} {bI:List AV} {res:AV} {M':List (Nat×AO)} {dh:Nat} (h:CP P σ fn.results.toList=some bI)(hp:bI.all (fun av=>!ownB av)=true)(e:resT bI=res)(hM:σ.M=M')(hk:σ.nk=dh):sK P fn C res M' dh .normal σ :=
 ⟨.inl rfl,(Au h hp e hM hk).2⟩
theorem zy (ok:Bool) (c what ev:Int) (l:List sJ) (hl:l.length≤32000):jI jE 0 Tryz.prog 177 [.sc (.bool ok),.sc (.int .i64 c),.sc (.int .i64 what),.pt 0 0 0,.pt 1 0 0]
  [(0,.box 45 [.sl 2]),(1,.box 3 [.sc (.int .i64 ev)]),(2,.row 122 3 (l.map iR))] 3 (.tu [])
  [(0,.box 45 [.sl 3]),(1,.box 3 [.sc (.int .i64 ev)]),(3,.row 122 3 ((l++jP ok ev c what).map iR))] 4:=by
 refine jI.intro kV Tryz.func177 rfl Tryz.ntmps177 (bU rfl) rfl fun w0 F0 fp pg hB=>?_
 refine gB ?_
 cases ok
 ·have hmm:l.map iR++[[.sc (.int .i64 ev),.sc (.int .i64 c),.sc (.int .i64 what)]]=(l++jP false ev c what).map iR:=by rw [fC];rfl
  refine ap0 ?_
  refine xB (σ':=⟨[],[(0,.box 45 [.sl 3]),(1,.box 3 [.sc (.int .i64 ev)]),(3,.row 122 3 ((l++jP false ev c what).map iR))],4⟩) (kL (fun q=>bif Nat.beq q 3 then 4 else q) aql rfl) ?_
  exact sQ rfl rfl rfl rfl rfl
 ·have e:l++jP true ev c what=l:=by show l++[]=l;rw [nI]
  rw [e]
  refine ap0 ?_
  refine xB (Tr.mvB 0 0 2 3 rfl rfl rfl rfl rfl rfl) ?_
  refine xB (σ':=⟨[],[(0,.box 45 [.sl 3]),(1,.box 3 [.sc (.int .i64 ev)]),(3,.row 122 3 (l.map iR))],4⟩) (zqt id) ?_
  exact sQ rfl rfl rfl rfl rfl
theorem WC (s:Int) (hs:1≤s∧s≤4) (p:aS) (i:Nat) (hi:i < p.evs.length) (hO:jm p) (hv:IJ p.evs[i]) :
  aU Tryz.prog 114 [.sc (bG s),bK p,.sc (.int .i64 i)] (.ls 3 ((mG s p i p.evs[i]).map iR)):=by
 have hn3:=hO.n3
 have h20:=hO.n4 i hi
 have hat:(p.evs.map dI)[((i:Nat):Int).toNat]?=some (dI p.evs[i]):=y7 hi
 have hLg:∀ c:Int,aU Tryz.prog 95 [bK p,.sc (.int .i64 i),.sc (.int .i64 c)] (.sc (.int .i64 (ah p.evs i c))):=fun c =>
  aU.PG (pre:=[]) (post:=[.sc (.int .i64 i),.sc (.int .i64 c)]) rfl rfl (fun _=>.sc _) fun w M hM=>rY M p i c w hM hO
 rw [vZ]
 have b1:=abL s i p.evs[i].val
 have b2:=abM s i p.evs[i].three
 have b3:=abN s i p.evs[i].tie p.evs[i].stops.length
 have hfl:=JA s i (fun c=>ah p.evs i c) p.evs[i].stops
 have hEl:(p.evs.map dI).length=p.evs.length:=aH _
 refine jl Tryz.func114 Tryz.ntmps114 fun w0 F0=>?_;dsimp only [St.init,number,Nat.reduceAdd]
 refine fQ ?_
 refine yH ?_
 refine fQ ?_
 first|refine W.tr (Tr.og (k:=2) (j:=0) 122 3 rfl rfl rfl rfl) ?_|refine WL.tr (Tr.og (k:=2) (j:=0) 122 3 rfl rfl rfl rfl) ?_
 refine xk ?_
 refine fQ ?_
 refine W.meet ⟨[(0,.sc (bG s)),(4,.pt 0 0 0),(5,.pt 1 0 0),(7,.pt 2 0 0),(8,.fn 177 [.pt 2 0 0,.pt 1 0 0]),(9,.pt 4 0 0)],[(0,.box 30 [.ls 3 (p.cs.map aF),.ls 1 (p.st.map eInt),.ls 6 (p.evs.map dI)]),(1,.box 3 [.sc (.int .i64 i)]),(2,.box 45 [.sl 3]),(3,.row 122 3 ((X0 s i p.evs[i].val).map iR)),(4,.box 90 (dI p.evs[i]))],5⟩ ?_ ?_
 ·(refine W.cond rfl (fun hif=>?_) (fun hif=>?_)<;>(try simp only [gu,jS,kQ,kR,iy,kS] at hif))
  ·have h1:([]++jP (aO s 6) i 0 6).map iR=(X0 s i p.evs[i].val).map iR:=by unfold X0;rw [if_pos hif];rfl
   refine fQ ?_
   refine WL.vl rfl (WV.sys hs YE rfl rfl (fun vs w=>by kernel_rfl) (fun vs w=>by kernel_rfl) (fun vs w=>by kernel_rfl) (fun vs w=>by kernel_rfl) rfl rfl (EZ s hs 6)) ?_
   refine fQ ?_
   refine WL.qo (dL _) [2,1,4] rfl rfl (ak Tryz.func177 rfl rfl) (zy (aO s 6) 0 6 i ([]) (by simp)) rfl rfl rfl ⟨⟨rfl,rfl,rfl⟩,⟨rfl,rfl,rfl⟩,⟨rfl,rfl,rfl⟩,trivial⟩ rfl rfl rfl rfl ?_
   refine fQ ?_
   refine (?_:Tr _ _ _)
   exact (kL (fun q=>bif Nat.beq q 3 then 5 else bif Nat.beq q 4 then 3 else q) apa rfl)
  ·have h1:([]:List (List AV))=(X0 s i p.evs[i].val).map iR:=by unfold X0;rw [if_neg hif];rfl
   refine fQ ?_
   refine (?_:Tr _ _ _)
   exact (kL (fun q=>bif Nat.beq q 3 then 4 else bif Nat.beq q 4 then 3 else q) apa rfl)
 obtain ⟨Y1,hY1⟩:∃ z,X0 s i p.evs[i].val=z:=⟨_,rfl⟩
 rw [hY1] at b1 ⊢
 refine fQ ?_
 refine W.meet ⟨[(0,.sc (bG s)),(4,.pt 0 0 0),(5,.pt 1 0 0),(7,.pt 2 0 0),(8,.fn 177 [.pt 2 0 0,.pt 1 0 0]),(9,.pt 4 0 0)],[(0,.box 30 [.ls 3 (p.cs.map aF),.ls 1 (p.st.map eInt),.ls 6 (p.evs.map dI)]),(1,.box 3 [.sc (.int .i64 i)]),(2,.box 45 [.sl 3]),(3,.row 122 3 ((Y1++X3 s i p.evs[i].three).map iR)),(4,.box 90 (dI p.evs[i]))],5⟩ ?_ ?_
 ·(refine W.cond rfl (fun hif=>?_) (fun hif=>?_)<;>(try simp only [gu,jS,kQ,kR,iy,kS] at hif))
  ·have h1:(Y1++jP (aO s 5) i 0 5).map iR=(Y1++X3 s i p.evs[i].three).map iR:=by unfold X3;rw [if_pos hif]
   refine fQ ?_
   refine WL.vl rfl (WV.sys hs YE rfl rfl (fun vs w=>by kernel_rfl) (fun vs w=>by kernel_rfl) (fun vs w=>by kernel_rfl) (fun vs w=>by kernel_rfl) rfl rfl (EZ s hs 5)) ?_
   refine fQ ?_
   refine WL.qo (dL _) [2,1,3] rfl rfl (ak Tryz.func177 rfl rfl) (zy (aO s 5) 0 5 i (Y1) au) rfl rfl rfl ⟨⟨rfl,rfl,rfl⟩,⟨rfl,rfl,rfl⟩,⟨rfl,rfl,rfl⟩,trivial⟩ rfl rfl rfl rfl ?_
   exact al5
  ·have h1:Y1.map iR=(Y1++X3 s i p.evs[i].three).map iR:=by unfold X3;rw [if_neg XL,nI]
   exact arn
 obtain ⟨Y2,hY2⟩:∃ z,X3 s i p.evs[i].three=z:=⟨_,rfl⟩
 rw [hY2] at b2 ⊢
 have b12:(Y1++Y2).length≤2:=by rw [aY];omega
 refine fQ ?_
 refine W.meet ⟨[(0,.sc (bG s)),(4,.pt 0 0 0),(5,.pt 1 0 0),(7,.pt 2 0 0),(8,.fn 177 [.pt 2 0 0,.pt 1 0 0]),(9,.pt 4 0 0)],[(0,.box 30 [.ls 3 (p.cs.map aF),.ls 1 (p.st.map eInt),.ls 6 (p.evs.map dI)]),(1,.box 3 [.sc (.int .i64 i)]),(2,.box 45 [.sl 3]),(3,.row 122 3 ((Y1++Y2++Rw s i p.evs[i].tie p.evs[i].stops.length).map iR)),(4,.box 90 (dI p.evs[i]))],5⟩ ?_ ?_
 ·(refine W.cond rfl (fun hif=>?_) (fun hif=>?_)<;>(try simp only [gu,jS,kQ,kR,iy,kS] at hif))
  ·have h1:(Y1++Y2++jP (aO s 7) i 0 7).map iR=(Y1++Y2++Rw s i p.evs[i].tie p.evs[i].stops.length).map iR:=by unfold Rw;rw [if_pos hif]
   refine fQ ?_
   refine WL.vl rfl (WV.sys hs YE rfl rfl (fun vs w=>by kernel_rfl) (fun vs w=>by kernel_rfl) (fun vs w=>by kernel_rfl) (fun vs w=>by kernel_rfl) rfl rfl (EZ s hs 7)) ?_
   refine fQ ?_
   refine WL.qo (dL _) [2,1,3] rfl rfl (ak Tryz.func177 rfl rfl) (zy (aO s 7) 0 7 i (Y1++Y2) au) rfl rfl rfl ⟨⟨rfl,rfl,rfl⟩,⟨rfl,rfl,rfl⟩,⟨rfl,rfl,rfl⟩,trivial⟩ rfl rfl rfl rfl ?_
   exact al5
  ·have hti:¬ p.evs[i].tie=true:=by simpa using hif
   refine fQ ?_
   (refine W.cond rfl (fun hif=>?_) (fun hif=>?_)<;>(try simp only [gu,jS,kQ,kR,iy,kS] at hif))
   ·have h1:(Y1++Y2++jP (aO s 8) i 0 8).map iR=(Y1++Y2++Rw s i p.evs[i].tie p.evs[i].stops.length).map iR:=by unfold Rw;rw [if_neg hti,if_pos (by omega)]
    refine fQ ?_
    refine WL.vl rfl (WV.sys hs YE rfl rfl (fun vs w=>by kernel_rfl) (fun vs w=>by kernel_rfl) (fun vs w=>by kernel_rfl) (fun vs w=>by kernel_rfl) rfl rfl (EZ s hs 8)) ?_
    refine fQ ?_
    refine WL.qo (dL _) [2,1,3] rfl rfl (ak Tryz.func177 rfl rfl) (zy (aO s 8) 0 8 i (Y1++Y2) au) rfl rfl rfl ⟨⟨rfl,rfl,rfl⟩,⟨rfl,rfl,rfl⟩,⟨rfl,rfl,rfl⟩,trivial⟩ rfl rfl rfl rfl ?_
    exact al5
   ·have h1:(Y1++Y2).map iR=(Y1++Y2++Rw s i p.evs[i].tie p.evs[i].stops.length).map iR:=by unfold Rw;rw [if_neg hti,if_neg (by omega),nI]
    exact arn
 rw [← jA]
 obtain ⟨H,hH⟩:∃ z,Y1++Y2++Rw s i p.evs[i].tie p.evs[i].stops.length=z:=⟨_,rfl⟩
 have bH:H.length≤3:=by rw [← hH,aY];omega
 rw [hH]
 obtain ⟨Fl,hFl⟩:∃ z,fH s i (fun c=>ah p.evs i c)=z:=⟨_,rfl⟩
 have hsn:=fun k (h:k < p.evs[i].stops.length)=>adK s i (fun c=>ah p.evs i c) p.evs[i].stops k h
 have hfk:=fun k=>JA s i (fun c=>ah p.evs i c) (p.evs[i].stops.take k)
 rw [hFl] at hfl hsn hfk ⊢
 clear b1 b2 b3 b12 hY1 hY2 hH
 refine fQ ?_
 refine W.loop (fun k:Nat=>k≤p.evs[i].stops.length) (fun k=>⟨[(0,.sc (bG s)),(4,.pt 0 0 0),(5,.pt 1 0 0),(7,.pt 2 0 0),(8,.fn 177 [.pt 2 0 0,.pt 1 0 0]),(9,.pt 4 0 0),(56,.ls 5 (p.evs[i].stops.map aC)),(57,.sc (.int .i64 p.evs[i].stops.length)),(58,.sc (.int .i64 k))],[(0,.box 30 [.ls 3 (p.cs.map aF),.ls 1 (p.st.map eInt),.ls 6 (p.evs.map dI)]),(1,.box 3 [.sc (.int .i64 i)]),(2,.box 45 [.sl 3]),(3,.row 122 3 ((H++(p.evs[i].stops.take k).flatMap Fl).map iR)),(4,.box 90 (dI p.evs[i]))],5⟩) (fun k=>p.evs[i].stops.length - k) 0 (by omega) (kL (fun q=>q) ao9 rfl) fun k hk=>?_
 by_cases hlt:k < p.evs[i].stops.length
 rotate_left
 ·obtain rfl:k=p.evs[i].stops.length:=by omega
  rw [jH]
  clear hsn hfk
  refine fQ ?_
  first|refine W.tr (Tr.freeze 3 rfl) ?_|refine WL.tr (Tr.freeze 3 rfl) ?_
  exact W.ret vS
 have hs1:=hsn k hlt
 have hf1:=hfk k
 have htl:(p.evs[i].stops.take k).length=k:=by rw [fP];omega
 obtain ⟨v1,v2,v3,v4,v5⟩:=hv k hlt
 have hxa:(p.evs[i].stops.map aC)[((k:Nat):Int).toNat]?=some (aC p.evs[i].stops[k]):=y7 hlt
 obtain ⟨x,hx⟩:∃ z,p.evs[i].stops[k]=z:=⟨_,rfl⟩
 rw [hx] at hs1 v1 v2 v3 v4 v5 hxa
 have ayT:=Jf s hs x.1 x.2.1 v1 v2
 have hri:=KZ s hs x.2.2.1 v3
 have hgr:=JE s hs x.2.2.2.1 v4
 have hho:=Rl s hs x.2.2.2.2 (ah p.evs i x.1) v5
 have hL1:=hLg x.1
 obtain ⟨LL,U0⟩:∃ z,H++(p.evs[i].stops.take k).flatMap Fl=z:=⟨_,rfl⟩
 have hLn:LL.length≤63:=by rw [← U0,aY];omega
 have hnext:LL++Fl x=H++(p.evs[i].stops.take (k+1)).flatMap Fl:=by rw [hs1,← U0,jA]
 rw [U0]
 obtain ⟨ST,hST⟩:∃ z,p.evs[i].stops.map aC=z:=⟨_,rfl⟩
 rw [hST] at hxa ⊢
 clear hsn hfk hs1 hf1 hv U0
 refine fQ ?_
 refine WL.idx rfl rfl au hxa ?_
 refine fQ ?_
 refine WL.vl rfl (WV.sys hs En rfl rfl (fun vs w=>by kernel_rfl) (fun vs w=>by kernel_rfl) (fun vs w=>by kernel_rfl) (fun vs w=>by kernel_rfl) rfl rfl ayT) ?_
 cases hp:qU s x.1 x.2.1 with
 | false =>
  have hF:(LL++jP false i x.1 1).map iR=(H++(p.evs[i].stops.take (k+1)).flatMap Fl).map iR:=by
   rw [← hnext,← hFl]
   unfold fH
   rw [if_pos hp];rfl
  refine fQ ?_
  refine WL.qo (dL _) [2,1,3] rfl rfl (ak Tryz.func177 rfl rfl) (zy false x.1 1 i (LL) au) rfl rfl rfl ⟨⟨rfl,rfl,rfl⟩,⟨rfl,rfl,rfl⟩,⟨rfl,rfl,rfl⟩,trivial⟩ rfl rfl rfl rfl ?_
  refine fQ ?_
  exact ⟨k+1,by omega,by omega,(kL (fun q=>bif Nat.beq q 3 then 6 else q) aqn rfl)⟩
 | true =>
  have hF:(LL++jP (okR s x.2.2.1) i x.1 2++jP (sZ s x.2.2.2.1) i x.1 3++jP (qN s x.2.2.2.2 (ah p.evs i x.1)) i x.1 4).map iR=(H++(p.evs[i].stops.take (k+1)).flatMap Fl).map iR:=by
   rw [← hnext,← hFl]
   unfold fH
   rw [if_neg (by rw [hp];exact fun h=>by cases h)]
   simp only [jA]
  have a1:=nV (okR s x.2.2.1) i x.1 2
  have a2:=nV (sZ s x.2.2.2.1) i x.1 3
  refine fQ ?_
  refine WL.vl rfl (WV.sys hs FI rfl rfl (fun vs w=>by kernel_rfl) (fun vs w=>by kernel_rfl) (fun vs w=>by kernel_rfl) (fun vs w=>by kernel_rfl) rfl rfl hri) ?_
  refine fQ ?_
  refine WL.qo (dL _) [2,1,3] rfl rfl (ak Tryz.func177 rfl rfl) (zy (okR s x.2.2.1) x.1 2 i (LL) au) rfl rfl rfl ⟨⟨rfl,rfl,rfl⟩,⟨rfl,rfl,rfl⟩,⟨rfl,rfl,rfl⟩,trivial⟩ rfl rfl rfl rfl ?_
  refine fQ ?_
  refine WL.vl rfl (WV.sys hs EX rfl rfl (fun vs w=>by kernel_rfl) (fun vs w=>by kernel_rfl) (fun vs w=>by kernel_rfl) (fun vs w=>by kernel_rfl) rfl rfl hgr) ?_
  refine fQ ?_
  refine WL.qo (dL _) [2,1,6] rfl rfl (ak Tryz.func177 rfl rfl) (zy (sZ s x.2.2.2.1) x.1 3 i (LL++jP (okR s x.2.2.1) i x.1 2) (by rw [aY];omega)) rfl rfl rfl ⟨⟨rfl,rfl,rfl⟩,⟨rfl,rfl,rfl⟩,⟨rfl,rfl,rfl⟩,trivial⟩ rfl rfl rfl rfl ?_
  refine fQ ?_
  refine iF ?_
  refine BL ?_
  refine DK.vl rfl (bZ Tryz.func95 hL1) ?_
  refine BL ?_
  refine DK.vl rfl (WV.mkm rfl rfl) ?_
  refine BL ?_
  refine DK.vl rfl (WV.ncm hs rfl rfl (fun n w=>by kernel_rfl) (fun n w=>by kernel_rfl) (fun n w=>by kernel_rfl) (fun n w=>by kernel_rfl)) ?_
  refine BL ?_
  refine DK.vl rfl (WV.sys hs OQ rfl rfl (fun vs w=>by kernel_rfl) (fun vs w=>by kernel_rfl) (fun vs w=>by kernel_rfl) (fun vs w=>by kernel_rfl) rfl rfl hho) ?_
  refine BL ?_
  refine fQ ?_
  refine WL.qo (dL _) [2,1,7] rfl rfl (ak Tryz.func177 rfl rfl) (zy (qN s x.2.2.2.2 (ah p.evs i x.1)) x.1 4 i (LL++jP (okR s x.2.2.1) i x.1 2++jP (sZ s x.2.2.2.1) i x.1 3) (by rw [aY,aY];omega)) rfl rfl rfl ⟨⟨rfl,rfl,rfl⟩,⟨rfl,rfl,rfl⟩,⟨rfl,rfl,rfl⟩,trivial⟩ rfl rfl rfl rfl ?_
  refine fQ ?_
  exact ⟨k+1,by omega,by omega,(kL (fun q=>bif Nat.beq q 3 then 8 else q) aqn rfl)⟩
end
end Go.Proofs.YthehkchjdkdbiaaGreatDoor
