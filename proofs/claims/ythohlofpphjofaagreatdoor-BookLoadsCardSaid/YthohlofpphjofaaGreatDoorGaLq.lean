/- A walk that knows values as trees: a contract leaves the other objects alone. -/
import Derived.Test.YthohlofpphjofaaGreatDoorGYLq
set_option maxHeartbeats 8000000
set_option maxRecDepth 100000
set_option linter.unusedVariables false
set_option linter.unusedSimpArgs false
namespace Go.Proofs.YthohlofpphjofaaGreatDoor
theorem arB {p:Prop}(h:p:=by repeat (first|exact trivial|refine ⟨⟨?_,?_,?_⟩,?_⟩|rfl|exact congrArg (λq=>some (AO.row _ _ q)) hF)):p:=h
theorem aqm {p:Prop}(h:p:=by repeat (first|exact trivial|refine ⟨⟨?_,?_,?_⟩,?_⟩|rfl|exact congrArg (λq=>some (AO.row _ _ q)) h1)):p:=h
section
variable {p:Prop}
theorem ab6(h:p:=by
 refine vH ?_;refine (?_:Tr _ _ _);exact aqo):p:=h
theorem Ic(h:p:=by
 refine vH ?_;refine (?_:Tr _ _ _);exact ano):p:=h
theorem amv(h:p:=by
 show (match look k M' with|some _=>G'.fp k|none=>G.fp k)=_;rw [h]):p:=h
theorem alJ(h:p:=by match i with
 | 0=>cases a;cases b;exact .sc _| 1=>cases a;cases b;exact .sc _| i+2=>simp at a):p:=h
theorem asU(h:p:=by
 refine fP ?_;refine (?_:Tr _ _ _);exact (ku (λq=>q) aqm rfl)):p:=h
theorem anB(h:p:=by
 refine fP ?_;refine (?_:Tr _ _ _);exact (ku (λq=>bif Nat.beq q 3 then 5 else q) aqm rfl)):p:=h
theorem aqo(h:p:=by exact (ku (λq=>bif Nat.beq q 1 then 3 else q) mJ rfl)):p:=h
end
theorem F5 {p q:Prop}(k:q)(h:iF q->p:=by
 intro hq;refine W.tr (Tr.freeze 1 rfl) ?_;exact hq.k):p:=h ⟨k⟩
theorem RG {p q:Prop}(k:q)(h:iF q->p:=by
 intro hq;dsimp only [St.put,St.new,St.upd,Nat.reduceAdd];exact hq.k):p:=h ⟨k⟩
theorem iU {p q:Prop}(k:q)(h:iF q->p:=by
 intro hq;dsimp only [number,Nat.reduceAdd];exact hq.k):p:=h ⟨k⟩
theorem wG {p q:Prop}(k:q)(h:iF q->p:=by
 intro hq;repeat (first|refine DK.st rfl ?_|refine DK.nil ?_)
 exact hq.k):p:=h ⟨k⟩
section
open Go.RowKit
def bT (s:Int):Value:=if s=1 then .iface 170 (.agg #[])else if s=2 then .iface 174 (.agg #[])else if s=3 then .iface 176 (.agg #[])else if s=4 then .iface 178 (.agg #[])else .nilIface
theorem dN {s:Int} (h:1<=s/\s<=4):s=1\/s=2\/s=3\/s=4:=by omega
theorem jI {F:View} {u v:Value}:RP F (.tu [.sc u,.sc v]) (.tuple #[u,v]):=.tu _ _ rfl λi av x a b=>by exact alJ
theorem WV.sys {P:Program} {C:Cx} {o:Oper} {σ:St} {s:Int} (hs:1<=s/\s<=4) {x:Operand} {name:String} {xs:Array Operand} {ts:Array TypeId} {args:List AV} {res:AV} (fs:Int->FuncId) (ho:o.op=.call { callee:=.invoke x name,args:=xs,argTypes:=ts })(hr:σ.ev x=some (.sc (bT s)))(h1:∀ vs w,(callMethod (bT 1) name vs).run P w=.ok (.enter (fs 1) (#[.agg #[]]++vs)) w) (h2:∀ vs w,(callMethod (bT 2) name vs).run P w=.ok (.enter (fs 2) (#[.agg #[]]++vs)) w)(h3:∀ vs w,(callMethod (bT 3) name vs).run P w=.ok (.enter (fs 3) (#[.agg #[]]++vs)) w) (h4:∀ vs w,(callMethod (bT 4) name vs).run P w=.ok (.enter (fs 4) (#[.agg #[]]++vs)) w)(hx:σ.evs xs.toList=some args) (hp:args.all AV.pu2=true) (h:bC P (fs s) (.ag []::args) res):WV P C o σ res:=by
 rcases dN hs with rfl|rfl|rfl|rfl;.exact WV.inv (l:=[]) ho hr h1 rfl hx hp h
 .exact WV.inv (l:=[]) ho hr h2 rfl hx hp h
 .exact WV.inv (l:=[]) ho hr h3 rfl hx hp h
 .exact WV.inv (l:=[]) ho hr h4 rfl hx hp h
theorem Tr.mvB {C:Cx} {σ:St} (k j q m:Nat) {Tb T' n:Nat} {cells cells':List AV} {rows:List (List AV)} (hk:look k σ.M=some (.box Tb cells)) (hj:cells[j]?=some (.sl q)) (hq:look q σ.M=some (.row T' n rows)) (hkq:Nat.beq k q=false) (hm:σ.nk=m) (hc:cells.set j (.sl m)=cells') :Tr C σ (((σ.drop q).new (.row T' n rows)).upd k (.box Tb cells')):=λG a w ok=>by
 subst hm hc;obtain ⟨hlt,_,hn',hg,hR⟩:=ok.ob q _ hq;have hne:k≠q:=λe=>by rw [e,Nat.beq_refl] at hkq;cases hkq
 have ok':=(ok.Kt q).newObj (S:=λ_=>False) (w':=w) (b:=G.b q) (n:=n) (h:=G.h q) (φ:=G.fp q) (ob:=.row T' n rows) (Kept.refl _ w) (λ_ h=>h.elim) (λ_ _ _ _ _ h=>h) (λ_ _ _ h=>h) ⟨uZ,(λg hgg=>by rw [fB] at hgg;rw [su];exact hg g hgg),by rw [fB,qH];exact hR⟩ trivial (λx hx=>⟨(ok.my q _ x hq hx).1,(ok.my q _ x hq hx).2,λi oi hi h2=>(iq hi).1 (ok.dj i oi q _ x (iq hi).2 hq h2 hx),λp u=>ok.dF q _ x p u hq hx⟩);have hkn:k≠σ.nk:=Nat.ne_of_lt (ok.ob k _ hk).1;have hk':look k ((σ.drop q).new (.row T' n rows)).M=some (.box Tb cells):=by rw [show look k ((σ.drop q).new (.row T' n rows)).M=look k (rem q σ.M) from ah hkn,mV,if_neg hne];exact hk
 obtain ⟨g1,g2,g3,cs,Φ,g4,g5,g6,g7,g8⟩:=ok'.ob k _ hk';refine ⟨_,ok'.aaM hk' ⟨g1,λi av x=>?_,g3,cs,Φ,g4,by simpa using g5,g6,g7,λi av u x y=>?_⟩⟩
 .rw [Uw] at x;exact alF
 .by_cases e:j=i
  .subst e;have hjl:j<cells.length:=(List.getElem?_eq_some_iff.1 hj).1;rw [sK hjl] at x;cases x;have r:=(g8 j _ u hj y).r rfl;have hu:u=G.h q:=r.lH.1.trans (if_neg (show ¬ q=σ.nk by omega));have h3:=r.lH.2;rw [hu] at h3 ⊢;exact .inl (tY h3)
  .rw [pV e] at x;exact g8 i av u x y
theorem WV.mkm {P:Program} {C:Cx} {σ:St} {o:Oper} {name:String} {x:Operand} {v:Value} (ho:o.op=.makeFunc (.method name) #[x] #[])(hx:σ.ev x=some (.sc v)):WV P C o σ (.sc (.func (.method name) #[v] #[])) :=WV.val (λG a w ok=>.sc _) λG a w ok=>by
  have e:a.eval x=v:=(ok.l9 hx).2.fM;exact⟨.func (.method name) #[v] #[],by unfold execOp;simp [ho,Instr.makeFunc,e],.pu _ _ (.sc _)⟩
theorem WV.ncm {P:Program} {C:Cx} {σ:St} {o:Oper} {name:String} {x:Operand} {s:Int} (hs:1<=s/\s<=4)(ho:o.op=.nilCheck x)(hx:σ.ev x=some (.sc (.func (.method name) #[bT s] #[])))(h1:∀ n w,Sem.run P (nilAhead (n+1) 170 (.agg #[]) name) w=.ok (some false) w)(h2:∀ n w,Sem.run P (nilAhead (n+1) 174 (.agg #[]) name) w=.ok (some false) w)(h3:∀ n w,Sem.run P (nilAhead (n+1) 176 (.agg #[]) name) w=.ok (some false) w)(h4:∀ n w,Sem.run P (nilAhead (n+1) 178 (.agg #[]) name) w=.ok (some false) w):WV P C o σ (.sc (.func (.method name) #[bT s] #[])) :=WV.val (λG a w ok=>.sc _) λG a w ok=>by
  have e:a.eval x=.func (.method name) #[bT s] #[]:=(ok.l9 hx).2.fM;obtain⟨n,hn⟩:∃ n,P.types.size+Made.depth=n+1:=⟨_,rfl⟩;refine⟨_,?_,.pu _ _ (.sc _)⟩;rcases dN hs with rfl|rfl|rfl|rfl;.unfold execOp;simp [ho,e,bT,run_program,hn,h1]
  .unfold execOp;simp [ho,e,bT,run_program,hn,h2]
  .unfold execOp;simp [ho,e,bT,run_program,hn,h3]
  .unfold execOp;simp [ho,e,bT,run_program,hn,h4]
abbrev awU:FuncId:=315
abbrev akk:FuncId:=321
abbrev apL:FuncId:=320
abbrev aoy:FuncId:=314
abbrev atU:FuncId:=316
abbrev awV:FuncId:=331
abbrev akl:FuncId:=336
abbrev apN:FuncId:=335
abbrev aoz:FuncId:=330
abbrev atV:FuncId:=329
abbrev awW:FuncId:=338
abbrev akm:FuncId:=344
abbrev apO:FuncId:=343
abbrev aoA:FuncId:=337
abbrev atW:FuncId:=339
abbrev awX:FuncId:=346
abbrev akn:FuncId:=351
abbrev apP:FuncId:=350
abbrev aoB:FuncId:=345
abbrev atX:FuncId:=329
def Zu(s:Int):FuncId:=if s=1 then awU else if s=2 then awV else if s=3 then awW else awX
def JY(s:Int):FuncId:=if s=1 then akk else if s=2 then akl else if s=3 then akm else akn
def Hf(s:Int):FuncId:=if s=1 then apL else if s=2 then apN else if s=3 then apO else apP
def Gq(s:Int):FuncId:=if s=1 then aoy else if s=2 then aoz else if s=3 then aoA else aoB
def PL(s:Int):FuncId:=if s=1 then atU else if s=2 then atV else if s=3 then atW else atX
theorem Gs (s:Int)(hs:1<=s/\s<=4)(n:Int):bC Tryz.prog (Zu s) [.ag [],.sc (.int .i64 n)] (.sc (.bool (wL s n))):=by
 rcases dN hs with rfl|rfl|rfl|rfl;.exact bC.kD rfl (λ_=>.sc _) λw=>aaw n w
 .exact bC.kD rfl (λ_=>.sc _) λw=>aax n w
 .exact bC.kD rfl (λ_=>.sc _) λw=>aay n w
 .exact bC.kD rfl (λ_=>.sc _) λw=>aaz n w
theorem Ug (s:Int)(hs:1<=s/\s<=4)(c f:Int)(hc:1<=c/\c<=14)(hf:0<=f/\f<=18):bC Tryz.prog (JY s) [.ag [],.ag [.sc (.int .i64 c),.sc (.int .i64 f)]] (.tu [.sc (.string (bs (pS s c f))),.sc (.bool (Qu s c f))]):=by
 rcases dN hs with rfl|rfl|rfl|rfl;.exact bC.kD rfl (λ_=>jI) λw=>auO c f w hc hf
 .exact bC.kD rfl (λ_=>jI) λw=>auP c f w hc hf
 .exact bC.kD rfl (λ_=>jI) λw=>auQ c f w hc hf
 .exact bC.kD rfl (λ_=>jI) λw=>auR c f w hc hf
theorem MK (s:Int)(hs:1<=s/\s<=4)(n:Int)(h:0<=n/\n<=3):bC Tryz.prog (Hf s) [.ag [],.sc (.int .i64 n)] (.tu [.sc (.string (bs (rR s n))),.sc (.bool (okR s n))]):=by
 rcases dN hs with rfl|rfl|rfl|rfl;.exact bC.kD rfl (λ_=>jI) λw=>ajl n w h
 .exact bC.kD rfl (λ_=>jI) λw=>ajm n w h
 .exact bC.kD rfl (λ_=>jI) λw=>ajn n w h
 .exact bC.kD rfl (λ_=>jI) λw=>ajo n w h
theorem KE (s:Int)(hs:1<=s/\s<=4)(n:Int)(h:0<=n/\n<=4):bC Tryz.prog (Gq s) [.ag [],.sc (.int .i64 n)] (.tu [.sc (.string (bs (rG s n))),.sc (.bool (zZ s n))]):=by
 rcases dN hs with rfl|rfl|rfl|rfl;.exact bC.kD rfl (λ_=>jI) λw=>ajc n w h
 .exact bC.kD rfl (λ_=>jI) λw=>ajd n w h
 .exact bC.kD rfl (λ_=>jI) λw=>aje n w h
 .exact bC.kD rfl (λ_=>jI) λw=>ajf n w h
theorem SI (s:Int)(hs:1<=s/\s<=4)(n L:Int)(h:0<=n/\n<=15):bC Tryz.prog (PL s) [.ag [],.sc (.int .i64 n),.sc (.int .i64 L)] (.tu [.sc (.string (bs (pH s n L))),.sc (.bool (xM s n L))]):=by
 rcases dN hs with rfl|rfl|rfl|rfl;.exact bC.kD rfl (λ_=>jI) λw=>apv n L w h
 .exact bC.kD rfl (λ_=>jI) λw=>apw n L w h
 .exact bC.kD rfl (λ_=>jI) λw=>apx n L w h
 .exact bC.kD rfl (λ_=>jI) λw=>apy n L w h
theorem iD {P:Program} {C:Cx} {σ σ':St} {fn:Func} {res:AV} {M':List (Nat×AO)} {bP:Nat} {e:Exit} (h:Tr C σ σ')(k:nR P fn C res M' bP e σ'):nR P fn C res M' bP e σ :=⟨k.1,λG a w ok=>by obtain⟨G',ok'⟩:=h G a w ok;exact k.2 G' a w ok'⟩
theorem yC {P:Program} {C:Cx} {σ:St} {fn:Func} {aW:List AV} {res:AV} {M':List (Nat×AO)} {bP:Nat} (h:Af P σ fn.results.toList=some aW)(hp:aW.all (λav=>!ownB av)=true)(e:resT aW=res)(hM:σ.M=M')(hk:σ.nk=bP):nR P fn C res M' bP .normal σ :=⟨.inl rfl,(BN h hp e hM hk).2⟩
theorem Aj (ok:Bool) (c what ev:Int) (l:List YX) (hl:l.length<=32000):jr jJ 0 Tryz.prog 177 [.sc (.bool ok),.sc (.int .i64 c),.sc (.int .i64 what),.pt 0 0 0,.pt 1 0 0] [(0,.box 56 [.sl 2]),(1,.box 3 [.sc (.int .i64 ev)]),(2,.row 136 3 (l.map Bg))] 3 (.tu []) [(0,.box 56 [.sl 3]),(1,.box 3 [.sc (.int .i64 ev)]),(3,.row 136 3 ((l++pq ok ev c what).map Bg))] 4:=by
 refine jr.intro mG Tryz.func177 rfl Tryz.ntmps177 (bG rfl) rfl λw0 F0 fp pg hB=>?_;refine iU ?_;cases ok
 .have hmm:l.map Bg++[[.sc (.int .i64 ev),.sc (.int .i64 c),.sc (.int .i64 what)]]=(l++pq false ev c what).map Bg:=by rw [iC];rfl
  refine arh ?_;refine iD (σ':=⟨[],[(0,.box 56 [.sl 3]),(1,.box 3 [.sc (.int .i64 ev)]),(3,.row 136 3 ((l++pq false ev c what).map Bg))],4⟩) (ku (λq=>bif Nat.beq q 3 then 4 else q) (by repeat (first|exact trivial|refine ⟨⟨?_,?_,?_⟩,?_⟩|rfl|exact congrArg (λq=>some (AO.row _ _ q)) hmm)) rfl) ?_;exact yC rfl rfl rfl rfl rfl
 .have e:l++pq true ev c what=l:=by show l++[]=l;rw [xX]
  rw [e];refine arh ?_;refine iD (Tr.mvB 0 0 2 3 rfl rfl rfl rfl rfl rfl) ?_;refine iD (σ':=⟨[],[(0,.box 56 [.sl 3]),(1,.box 3 [.sc (.int .i64 ev)]),(3,.row 136 3 (l.map Bg))],4⟩) (zqt id) ?_;exact yC rfl rfl rfl rfl rfl
theorem XA (s:Int) (hs:1<=s/\s<=4) (p:bV) (i:Nat) (hi:i < p.evs.length) (hO:jh p) (hv:JH p.evs[i]) :bC Tryz.prog 114 [.sc (bT s),iG p,.sc (.int .i64 i)] (.ls 3 ((qV s p i p.evs[i]).map Bg)):=by
 have hn3:=hO.n3;have h20:=hO.n4 i hi;have hat:(p.evs.map iO)[((i:Nat):Int).toNat]?=some (iO p.evs[i]):=zO hi;have hLg:∀ c:Int,bC Tryz.prog 95 [iG p,.sc (.int .i64 i),.sc (.int .i64 c)] (.sc (.int .i64 (ak p.evs i c))):=λc =>L6 p hO i c;rw [KR];have b1:=acX s i p.evs[i].val;have b2:=acY s i p.evs[i].three;have b3:=ac0 s i p.evs[i].tie p.evs[i].stops.length;have hfl:=Kz s i (λc=>ak p.evs i c) p.evs[i].stops;have hEl:(p.evs.map iO).length=p.evs.length:=bK _;refine dV Tryz.func114 Tryz.ntmps114 λw0 F0=>?_;dsimp only [St.init,number,Nat.reduceAdd];refine fP ?_;refine WL.vl rfl (WV.mkf rfl rfl) ?_;refine fP ?_;first|refine W.tr (Tr.oJ (k:=2) (j:=0) 136 3 rfl rfl rfl rfl) ?_|refine WL.tr (Tr.oJ (k:=2) (j:=0) 136 3 rfl rfl rfl rfl) ?_
 refine RG ?_;refine fP ?_;refine W.meet ⟨[(0,.sc (bT s)),(4,.pt 0 0 0),(5,.pt 1 0 0),(7,.pt 2 0 0),(8,.fn 177 [.pt 2 0 0,.pt 1 0 0]),(9,.pt 4 0 0)],[(0,.box 30 [.ls 3 (p.cs.map bg),.ls 1 (p.st.map eInt),.ls 6 (p.evs.map iO)]),(1,.box 3 [.sc (.int .i64 i)]),(2,.box 56 [.sl 3]),(3,.row 136 3 ((lk1 s i p.evs[i].val).map Bg)),(4,.box 90 (iO p.evs[i]))],5⟩ ?_ ?_
 ·(refine W.cond rfl (λhif=>?_) (λhif=>?_)<;>(try simp only [dH,dO,eu,eF,dP,eG] at hif))
  ·have h1:([]++pq (wL s 6) i 0 6).map Bg=(lk1 s i p.evs[i].val).map Bg:=by unfold lk1;rw [if_pos hif];rfl
   refine fP ?_;refine WL.vl rfl (WV.sys hs Zu rfl rfl (λvs w=>by kernel_rfl) (λvs w=>by kernel_rfl) (λvs w=>by kernel_rfl) (λvs w=>by kernel_rfl) rfl rfl (Gs s hs 6)) ?_;refine fP ?_;refine WL.qQ (dD _) [2,1,4] rfl rfl (aj Tryz.func177 rfl rfl) (Aj (wL s 6) 0 6 i ([]) (by simp)) rfl rfl rfl ⟨⟨rfl,rfl,rfl⟩,⟨rfl,rfl,rfl⟩,⟨rfl,rfl,rfl⟩,trivial⟩ rfl rfl rfl rfl ?_;refine fP ?_;refine (?_:Tr _ _ _);exact (ku (λq=>bif Nat.beq q 3 then 5 else bif Nat.beq q 4 then 3 else q) aqm rfl)
  ·have h1:([]:List (List AV))=(lk1 s i p.evs[i].val).map Bg:=by unfold lk1;rw [if_neg hif];rfl
   refine fP ?_;refine (?_:Tr _ _ _);exact (ku (λq=>bif Nat.beq q 3 then 4 else bif Nat.beq q 4 then 3 else q) aqm rfl)
 obtain ⟨Y1,hY1⟩:∃ z,lk1 s i p.evs[i].val=z:=⟨_,rfl⟩;rw [hY1] at b1 ⊢;refine fP ?_;refine W.meet ⟨[(0,.sc (bT s)),(4,.pt 0 0 0),(5,.pt 1 0 0),(7,.pt 2 0 0),(8,.fn 177 [.pt 2 0 0,.pt 1 0 0]),(9,.pt 4 0 0)],[(0,.box 30 [.ls 3 (p.cs.map bg),.ls 1 (p.st.map eInt),.ls 6 (p.evs.map iO)]),(1,.box 3 [.sc (.int .i64 i)]),(2,.box 56 [.sl 3]),(3,.row 136 3 ((Y1++lk2 s i p.evs[i].three).map Bg)),(4,.box 90 (iO p.evs[i]))],5⟩ ?_ ?_
 ·(refine W.cond rfl (λhif=>?_) (λhif=>?_)<;>(try simp only [dH,dO,eu,eF,dP,eG] at hif))
  ·have h1:(Y1++pq (wL s 5) i 0 5).map Bg=(Y1++lk2 s i p.evs[i].three).map Bg:=by unfold lk2;rw [if_pos hif]
   refine fP ?_;refine WL.vl rfl (WV.sys hs Zu rfl rfl (λvs w=>by kernel_rfl) (λvs w=>by kernel_rfl) (λvs w=>by kernel_rfl) (λvs w=>by kernel_rfl) rfl rfl (Gs s hs 5)) ?_;refine fP ?_;refine WL.qQ (dD _) [2,1,3] rfl rfl (aj Tryz.func177 rfl rfl) (Aj (wL s 5) 0 5 i (Y1) au) rfl rfl rfl ⟨⟨rfl,rfl,rfl⟩,⟨rfl,rfl,rfl⟩,⟨rfl,rfl,rfl⟩,trivial⟩ rfl rfl rfl rfl ?_;exact anB
  ·have h1:Y1.map Bg=(Y1++lk2 s i p.evs[i].three).map Bg:=by unfold lk2;rw [if_neg (by simpa using hif),xX]
   exact asU
 obtain ⟨Y2,hY2⟩:∃ z,lk2 s i p.evs[i].three=z:=⟨_,rfl⟩;rw [hY2] at b2 ⊢;have b12:(Y1++Y2).length<=2:=by rw [dS];omega
 refine fP ?_;refine W.meet ⟨[(0,.sc (bT s)),(4,.pt 0 0 0),(5,.pt 1 0 0),(7,.pt 2 0 0),(8,.fn 177 [.pt 2 0 0,.pt 1 0 0]),(9,.pt 4 0 0)],[(0,.box 30 [.ls 3 (p.cs.map bg),.ls 1 (p.st.map eInt),.ls 6 (p.evs.map iO)]),(1,.box 3 [.sc (.int .i64 i)]),(2,.box 56 [.sl 3]),(3,.row 136 3 ((Y1++Y2++lk3 s i p.evs[i].tie p.evs[i].stops.length).map Bg)),(4,.box 90 (iO p.evs[i]))],5⟩ ?_ ?_
 ·(refine W.cond rfl (λhif=>?_) (λhif=>?_)<;>(try simp only [dH,dO,eu,eF,dP,eG] at hif))
  ·have h1:(Y1++Y2++pq (wL s 7) i 0 7).map Bg=(Y1++Y2++lk3 s i p.evs[i].tie p.evs[i].stops.length).map Bg:=by unfold lk3;rw [if_pos hif]
   refine fP ?_;refine WL.vl rfl (WV.sys hs Zu rfl rfl (λvs w=>by kernel_rfl) (λvs w=>by kernel_rfl) (λvs w=>by kernel_rfl) (λvs w=>by kernel_rfl) rfl rfl (Gs s hs 7)) ?_;refine fP ?_;refine WL.qQ (dD _) [2,1,3] rfl rfl (aj Tryz.func177 rfl rfl) (Aj (wL s 7) 0 7 i (Y1++Y2) au) rfl rfl rfl ⟨⟨rfl,rfl,rfl⟩,⟨rfl,rfl,rfl⟩,⟨rfl,rfl,rfl⟩,trivial⟩ rfl rfl rfl rfl ?_;exact anB
  ·have hti:¬ p.evs[i].tie=true:=by simpa using hif
   refine fP ?_;(refine W.cond rfl (λhif=>?_) (λhif=>?_)<;>(try simp only [dH,dO,eu,eF,dP,eG] at hif))
   ·have h1:(Y1++Y2++pq (wL s 8) i 0 8).map Bg=(Y1++Y2++lk3 s i p.evs[i].tie p.evs[i].stops.length).map Bg:=by unfold lk3;rw [if_neg hti,if_pos (by omega)]
    refine fP ?_;refine WL.vl rfl (WV.sys hs Zu rfl rfl (λvs w=>by kernel_rfl) (λvs w=>by kernel_rfl) (λvs w=>by kernel_rfl) (λvs w=>by kernel_rfl) rfl rfl (Gs s hs 8)) ?_;refine fP ?_;refine WL.qQ (dD _) [2,1,3] rfl rfl (aj Tryz.func177 rfl rfl) (Aj (wL s 8) 0 8 i (Y1++Y2) au) rfl rfl rfl ⟨⟨rfl,rfl,rfl⟩,⟨rfl,rfl,rfl⟩,⟨rfl,rfl,rfl⟩,trivial⟩ rfl rfl rfl rfl ?_;exact anB
   ·have h1:(Y1++Y2).map Bg=(Y1++Y2++lk3 s i p.evs[i].tie p.evs[i].stops.length).map Bg:=by unfold lk3;rw [if_neg hti,if_neg (by omega),xX]
    exact asU
 rw [← vg];obtain ⟨H,hH⟩:∃ z,Y1++Y2++lk3 s i p.evs[i].tie p.evs[i].stops.length=z:=⟨_,rfl⟩;have bH:H.length<=3:=by rw [← hH,dS];omega
 rw [hH];obtain ⟨Fl,hFl⟩:∃ z,jF s i (λc=>ak p.evs i c)=z:=⟨_,rfl⟩;have hsn:=λk (h:k < p.evs[i].stops.length)=>aeG s i (λc=>ak p.evs i c) p.evs[i].stops k h;have hfk:=λk=>Kz s i (λc=>ak p.evs i c) (p.evs[i].stops.take k);rw [hFl] at hfl hsn hfk ⊢;clear b1 b2 b3 b12 hY1 hY2 hH;refine fP ?_;refine W.loop (λk:Nat=>k<=p.evs[i].stops.length) (λk=>⟨[(0,.sc (bT s)),(4,.pt 0 0 0),(5,.pt 1 0 0),(7,.pt 2 0 0),(8,.fn 177 [.pt 2 0 0,.pt 1 0 0]),(9,.pt 4 0 0),(56,.ls 5 (p.evs[i].stops.map bI)),(57,.sc (.int .i64 p.evs[i].stops.length)),(58,.sc (.int .i64 k))],[(0,.box 30 [.ls 3 (p.cs.map bg),.ls 1 (p.st.map eInt),.ls 6 (p.evs.map iO)]),(1,.box 3 [.sc (.int .i64 i)]),(2,.box 56 [.sl 3]),(3,.row 136 3 ((H++(p.evs[i].stops.take k).flatMap Fl).map Bg)),(4,.box 90 (iO p.evs[i]))],5⟩) (λk=>p.evs[i].stops.length - k) 0 (by omega) (ku (λq=>q) (by repeat (first|exact trivial|refine ⟨⟨?_,?_,?_⟩,?_⟩|rfl|exact congrArg (λq=>some (AO.row _ _ q)) (by simp))) rfl) λk hk=>?_;by_cases hlt:k < p.evs[i].stops.length;rotate_left
 ·obtain rfl:k=p.evs[i].stops.length:=by omega
  rw [jw];clear hsn hfk;refine fP ?_;first|refine W.tr (Tr.freeze 3 rfl) ?_|refine WL.tr (Tr.freeze 3 rfl) ?_
  exact W.ret kR
 have hs1:=hsn k hlt;have hf1:=hfk k;have htl:(p.evs[i].stops.take k).length=k:=by rw [jT];omega
 obtain ⟨v1,v2,v3,v4,v5⟩:=hv k hlt;have hxa:(p.evs[i].stops.map bI)[((k:Nat):Int).toNat]?=some (bI p.evs[i].stops[k]):=zO hlt;obtain ⟨x,hx⟩:∃ z,p.evs[i].stops[k]=z:=⟨_,rfl⟩;rw [hx] at hs1 v1 v2 v3 v4 v5 hxa;have aoP:=Ug s hs x.1 x.2.1 v1 v2;have hri:=MK s hs x.2.2.1 v3;have hgr:=KE s hs x.2.2.2.1 v4;have hho:=SI s hs x.2.2.2.2 (ak p.evs i x.1) v5;have hL1:=hLg x.1;obtain ⟨LL,VQ⟩:∃ z,H++(p.evs[i].stops.take k).flatMap Fl=z:=⟨_,rfl⟩;have hLn:LL.length<=63:=by rw [← VQ,dS];omega
 have hnext:LL++Fl x=H++(p.evs[i].stops.take (k+1)).flatMap Fl:=by rw [hs1,← VQ,vg]
 rw [VQ];obtain ⟨ST,hST⟩:∃ z,p.evs[i].stops.map bI=z:=⟨_,rfl⟩;rw [hST] at hxa ⊢;clear hsn hfk hs1 hf1 hv VQ;refine fP ?_;refine WL.idx rfl rfl au hxa ?_;refine fP ?_;refine WL.vl rfl (WV.sys hs JY rfl rfl (λvs w=>by kernel_rfl) (λvs w=>by kernel_rfl) (λvs w=>by kernel_rfl) (λvs w=>by kernel_rfl) rfl rfl aoP) ?_;cases hp:Qu s x.1 x.2.1 with
 | false =>
  have hF:(LL++pq false i x.1 1).map Bg=(H++(p.evs[i].stops.take (k+1)).flatMap Fl).map Bg:=by
   rw [← hnext,← hFl];unfold jF;rw [if_pos hp];rfl
  refine fP ?_;refine WL.qQ (dD _) [2,1,3] rfl rfl (aj Tryz.func177 rfl rfl) (Aj false x.1 1 i (LL) au) rfl rfl rfl ⟨⟨rfl,rfl,rfl⟩,⟨rfl,rfl,rfl⟩,⟨rfl,rfl,rfl⟩,trivial⟩ rfl rfl rfl rfl ?_;refine fP ?_;exact ⟨k+1,by omega,by omega,(ku (λq=>bif Nat.beq q 3 then 6 else q) arB rfl)⟩| true =>
  have hF:(LL++pq (okR s x.2.2.1) i x.1 2++pq (zZ s x.2.2.2.1) i x.1 3++pq (xM s x.2.2.2.2 (ak p.evs i x.1)) i x.1 4).map Bg=(H++(p.evs[i].stops.take (k+1)).flatMap Fl).map Bg:=by
   rw [← hnext,← hFl];unfold jF;rw [if_neg (by rw [hp];exact λh=>by cases h)];simp only [vg]
  have a1:=oI (okR s x.2.2.1) i x.1 2;have a2:=oI (zZ s x.2.2.2.1) i x.1 3;refine fP ?_;refine WL.vl rfl (WV.sys hs Hf rfl rfl (λvs w=>by kernel_rfl) (λvs w=>by kernel_rfl) (λvs w=>by kernel_rfl) (λvs w=>by kernel_rfl) rfl rfl hri) ?_;refine fP ?_;refine WL.qQ (dD _) [2,1,3] rfl rfl (aj Tryz.func177 rfl rfl) (Aj (okR s x.2.2.1) x.1 2 i (LL) au) rfl rfl rfl ⟨⟨rfl,rfl,rfl⟩,⟨rfl,rfl,rfl⟩,⟨rfl,rfl,rfl⟩,trivial⟩ rfl rfl rfl rfl ?_;refine fP ?_;refine WL.vl rfl (WV.sys hs Gq rfl rfl (λvs w=>by kernel_rfl) (λvs w=>by kernel_rfl) (λvs w=>by kernel_rfl) (λvs w=>by kernel_rfl) rfl rfl hgr) ?_;refine fP ?_;refine WL.qQ (dD _) [2,1,6] rfl rfl (aj Tryz.func177 rfl rfl) (Aj (zZ s x.2.2.2.1) x.1 3 i (LL++pq (okR s x.2.2.1) i x.1 2) (by rw [dS];omega)) rfl rfl rfl ⟨⟨rfl,rfl,rfl⟩,⟨rfl,rfl,rfl⟩,⟨rfl,rfl,rfl⟩,trivial⟩ rfl rfl rfl rfl ?_;refine fP ?_;refine iY ?_;refine wG ?_;refine DK.vl rfl (aS Tryz.func95 hL1) ?_;refine wG ?_;refine DK.vl rfl (WV.mkm rfl rfl) ?_;refine wG ?_;refine DK.vl rfl (WV.ncm hs rfl rfl (λn w=>by kernel_rfl) (λn w=>by kernel_rfl) (λn w=>by kernel_rfl) (λn w=>by kernel_rfl)) ?_;refine wG ?_;refine DK.vl rfl (WV.sys hs PL rfl rfl (λvs w=>by kernel_rfl) (λvs w=>by kernel_rfl) (λvs w=>by kernel_rfl) (λvs w=>by kernel_rfl) rfl rfl hho) ?_;refine wG ?_;refine fP ?_;refine WL.qQ (dD _) [2,1,7] rfl rfl (aj Tryz.func177 rfl rfl) (Aj (xM s x.2.2.2.2 (ak p.evs i x.1)) x.1 4 i (LL++pq (okR s x.2.2.1) i x.1 2++pq (zZ s x.2.2.2.1) i x.1 3) (by rw [dS,dS];omega)) rfl rfl rfl ⟨⟨rfl,rfl,rfl⟩,⟨rfl,rfl,rfl⟩,⟨rfl,rfl,rfl⟩,trivial⟩ rfl rfl rfl rfl ?_;refine fP ?_;exact ⟨k+1,by omega,by omega,(ku (λq=>bif Nat.beq q 3 then 8 else q) arB rfl)⟩
def wants(s c f r g h L:Int):List Int :=if rS s c f=[]then [1]else(if okR s r=true then []else [2])++(if zZ s g=true then []else [3])++(if xM s h L=true then []else [4])
theorem akx (s c f r g h L:Int) (hs:1<=s/\s<=4) (hc:1<=c/\c<=14) (hf:0<=f/\f<=18) (hr:0<=r/\r<=3) (hg:0<=g/\g<=4) (hh:0<=h/\h<=99) :bC Tryz.prog 145 [.sc (.int .u8 s),.ag (bI (c,f,r,g,h)),.sc (.int .i64 L)] (.ls 1 ((wants s c f r g h L).map eInt)):=by
 refine dV Tryz.func145 Tryz.ntmps145 λw0 F0=>?_;dsimp only [St.init,number,Nat.reduceAdd];refine vH ?_;refine WL.vl rfl (WV.call rfl (aj Tryz.func201 rfl rfl) rfl rfl (bC.nX (v:=.string (bs (rS s c f))) rfl (λ_=>.sc _) λw=>Ja s c f w hs hc hf)) ?_;refine vH ?_;(refine W.cond rfl (λhif=>?_) (λhif=>?_)<;>(try simp only [dH,dO,eu,eF,dP,eG] at hif))
 .have e:wants s c f r g h L=[1]:=if_pos (by simpa using hif);rw [e];refine vH ?_;refine F5 ?_;exact W.ret kR
 .have hne:=hif;have e:wants s c f r g h L=(if okR s r=true then [] else [2])++(if zZ s g=true then [] else [3])++(if xM s h L=true then [] else [4]):=if_neg (by simpa using hne);rw [e];obtain ⟨l1,e1⟩:∃ l,(if okR s r=true then [] else [2]:List Int)=l:=⟨_,rfl⟩;obtain ⟨l2,e2⟩:∃ l,(if zZ s g=true then [] else [3]:List Int)=l:=⟨_,rfl⟩;obtain ⟨l3,e3⟩:∃ l,(if xM s h L=true then [] else [4]:List Int)=l:=⟨_,rfl⟩;rw [e1,e2,e3];have b1:l1.length<=1:=by rw [← e1];split<;>simp
  have b2:l2.length<=1:=by rw [← e2];split<;>simp
  have b3:l3.length<=1:=by rw [← e3];split<;>simp
  refine vH ?_;refine WL.tr (Tr.nil (t:=7) 3 1 rfl rfl) ?_;dsimp only [St.put,St.new,Nat.reduceAdd];refine WL.ac5 ⟨[(0,.sc (.int .u8 s)),(2,.sc (.int .i64 L)),(4,.pt 0 0 0),(7,.sl 1)],[(0,.box 69 (bI (c,f,r,g,h))),(1,.row 3 1 (l1.map eInt))],2⟩ ?_ ?_
  .refine WL.aP rfl rfl rfl rfl (λhp=>?_) (λhp=>?_)
   .have hp:0 < r:=rP hp;refine vH ?_;refine WL.vl rfl (WV.call rfl (aj Tryz.func202 rfl rfl) rfl rfl (bC.nX (v:=.string (bs (rR s r))) rfl (λ_=>.sc _) λw=>(MR s r w hs hr).mono λe w2 ⟨he,hw⟩=>⟨he,hw ▸ Below.refl _ _⟩)) ?_;refine vH ?_;have hv0:(r == 0)=false:=by simp;omega
    (refine W.cond rfl (λhif=>?_) (λhif=>?_)<;>(try simp only [dH,dO,eu,eF,dP,eG] at hif))
    .obtain rfl:l1=[2]:=by
      rw [← e1,if_neg];unfold okR;rw [hv0,show rR s r=[] by simpa using hif];decide
     exact ab6
    .obtain rfl:l1=[]:=by
      rw [← e1,if_pos];unfold okR;rw [hv0,Q5];have:rR s r≠[]:=by simpa using hif
      exact lS
     exact Ic
   .have hp:¬ 0 < r:=zi hp;obtain rfl:l1=[]:=by
     rw [← e1,if_pos];obtain rfl:r=0:=by omega
     rfl
    exact Ic
  .refine vH ?_;refine WL.ac5 ⟨[(0,.sc (.int .u8 s)),(2,.sc (.int .i64 L)),(4,.pt 0 0 0),(7,.sl 1)],[(0,.box 69 (bI (c,f,r,g,h))),(1,.row 3 1 (l1.map eInt++l2.map eInt))],2⟩ ?_ ?_
   .refine WL.aP rfl rfl rfl rfl (λhp=>?_) (λhp=>?_)
    .have hp:0 < g:=rP hp;refine vH ?_;refine WL.vl rfl (WV.call rfl (aj Tryz.func203 rfl rfl) rfl rfl (bC.nX (v:=.string (bs (rG s g))) rfl (λ_=>.sc _) λw=>(MH s g w hs hg).mono λe w2 ⟨he,hw⟩=>⟨he,hw ▸ Below.refl _ _⟩)) ?_;refine vH ?_;have hv0:(g == 0)=false:=by simp;omega
     (refine W.cond rfl (λhif=>?_) (λhif=>?_)<;>(try simp only [dH,dO,eu,eF,dP,eG] at hif))
     .obtain rfl:l2=[3]:=by
       rw [← e2,if_neg];unfold zZ;rw [hv0,show rG s g=[] by simpa using hif];decide
      exact ab6
     .obtain rfl:l2=[]:=by
       rw [← e2,if_pos];unfold zZ;rw [hv0,Q5];have:rG s g≠[]:=by simpa using hif
       exact lS
      exact Ic
    .have hp:¬ 0 < g:=zi hp;obtain rfl:l2=[]:=by
      rw [← e2,if_pos];obtain rfl:g=0:=by omega
      rfl
     exact Ic
   .refine vH ?_;refine WL.ac5 ⟨[(0,.sc (.int .u8 s)),(2,.sc (.int .i64 L)),(4,.pt 0 0 0),(7,.sl 1)],[(0,.box 69 (bI (c,f,r,g,h))),(1,.row 3 1 (l1.map eInt++l2.map eInt++l3.map eInt))],2⟩ ?_ ?_
    .refine WL.aP rfl rfl rfl rfl (λhp=>?_) (λhp=>?_)
     .have hp:0 < h:=rP hp;refine vH ?_;refine WL.vl rfl (WV.call rfl (aj Tryz.func204 rfl rfl) rfl rfl (bC.nX (v:=.string (bs (rH s h L))) rfl (λ_=>.sc _) λw=>(QA s h L w hs hh).mono λe w2 ⟨he,hw⟩=>⟨he,hw ▸ Below.refl _ _⟩)) ?_;refine vH ?_;have hv0:(h == 0)=false:=by simp;omega
      (refine W.cond rfl (λhif=>?_) (λhif=>?_)<;>(try simp only [dH,dO,eu,eF,dP,eG] at hif))
      .obtain rfl:l3=[4]:=by
        rw [← e3,if_neg];unfold xM;rw [hv0,show rH s h L=[] by simpa using hif];decide
       exact ab6
      .obtain rfl:l3=[]:=by
        rw [← e3,if_pos];unfold xM;rw [hv0,Q5];have:rH s h L≠[]:=by simpa using hif
        exact lS
       exact Ic
     .have hp:¬ 0 < h:=zi hp;obtain rfl:l3=[]:=by
       rw [← e3,if_pos];obtain rfl:h=0:=by omega
       rfl
      exact Ic
    .refine vH ?_;refine F5 ?_;exact W.ret (fin1 rfl rfl (show AV.ls 1 (l1.map eInt++l2.map eInt++l3.map eInt)=_ by rw [iC,iC]) rfl)
section
variable {B:World→View→Prop} {gl:Nat} {P:Program} {C:Cx} {ops:Array Oper} {rest:List Oper} {σ σ':St} {G G':Gh} {a:Act} {w w':World} {o:Oper} {d:Tmp} {Q:Exit→St→Prop}
theorem ajR {F:View}:∀ {l:List AV} {xs:List Value},JW l=some xs->xs.length=l.length/\∀ (i:Nat) av u,l[i]?=some av->xs[i]?=some u->RP F av u
 | [],xs,h=>by cases h;simp| x::r,xs,h=>by cases x with
  | sc v =>cases hr:JW r with
   | none=>simp [JW,hr] at h| some vs =>
    simp [JW,hr] at h;subst h;obtain⟨g1,g2⟩:=ajR (F:=F) hr;refine⟨by simp [g1],λi av u p q=>?_⟩;cases i with
    | zero=>cases p;cases q;exact .sc _| succ i=>grind
  | _=>simp [JW] at h
theorem ajQ {F:View} {av:AV} {v:Value} (h:plV av=some v):RP F av v:=by cases av with
 | sc x=>cases h;exact .sc _| ag l =>cases hs:JW l with
  | none=>simp [plV,hs] at h| some xs =>
   simp [plV,hs] at h;subst h;obtain⟨g1,g2⟩:=ajR (F:=F) hs;exact .ag l _ (by simpa using g1) λi av u p q=>g2 i av u p wF
 | _=>cases h
theorem ajP {F:View}:∀ {l:List AV} {xs:List Value},plL l=some xs->xs.length=l.length/\∀ (i:Nat) av u,l[i]?=some av->xs[i]?=some u->RP F av u
 | [],xs,h=>by cases h;simp| x::r,xs,h=>by
  unfold plL at h;split at h
  .rename_i v vs h1 h2;cases h;obtain⟨g1,g2⟩:=ajP (F:=F) h2;grind[ajQ]
  .cases h
def plT:AV->Option Value
 | .tu l =>match plL l with
  | some xs=>some (.tuple xs.toArray)| none=>none
 | av=>plV av
theorem Hl {F:View} {av:AV} {v:Value} (h:plT av=some v):RP F av v:=by cases av with
 | tu l =>cases hs:plL l with
  | none=>simp [plT,hs] at h| some xs =>
   simp [plT,hs] at h;subst h;obtain⟨g1,g2⟩:=ajP (F:=F) hs;exact .tu l _ (by simpa using g1) λi av u p q=>g2 i av u p wF
 | _=>exact ajQ h
theorem auM {F:View} {av:AV} {u v:Value} (h:plT av=some v)(r:RP F av u):u=v:=by cases av with
 | tu l =>cases hs:plL l with
  | none=>simp [plT,hs] at h| some xs =>
   simp [plT,hs] at h;subst h;obtain⟨cs,rfl,h1,h2⟩:=(R.pu (G:=⟨F,λ_=>0,λ_=>0,λ_=>undef,λ_ _=>False⟩) _ _ r).Ym;have e:cs.toList=xs:=aaA (F:=F) hs yh λi av u p q=>by
    have:=h2 i av u p wF;exact (by cases r<;>grind)
   subst e;simp
 | sc x=>exact aaB (av:=.sc x) h r| ag l=>exact aaB (av:=.ag l) h r| _=>cases h
theorem WV.axw {x:Operand} {l:List AV} (ho:o.op=.nilCheck x)(hx:σ.ev x=some (.pr l)):WV P C o σ (.pr l) :=WV.val (λG a w ok=>(ok.l9 hx).1) λG a w ok=>by
  have r:=(ok.l9 hx).2;obtain⟨p,u,ep,_,_⟩:=r.oO.oO;simp_all[execOp]
theorem fG.prs {k:Nat} {T:TypeId} {cells:List AV} {l:List AV} (hk:look k σ.M=some (.box T cells)) (hl:∀ (j:Nat) x,l[j]?=some x->cells[j]?=some x) (ho:∀ x∈l,onB x=true):fG C σ (.pt k 0 0) (.pr l):=λG a w ok v h=>by
 have hF:G.F.le λq=>w.cell? q:=λp u x=>ok.fw p u x;obtain ⟨p,rfl,h1,h2,h3⟩:=h.lu;have hcell:∀ (j:Nat) av,l[j]?=some av->∃ u,w.cell? (p.add j)=some u/\u.oneCell'=true/\RP G.F av u:=λj av hj=>by
  have hb:=ho av (cZ hj);have ho:av.own=false:=by cases av<;>first|rfl|cases hb
  obtain ⟨u,hu,hr,_⟩:=ok.cell (i:=0) (j:=0) (l:=cells) hk rfl (hl j av hj) h1 h2 h3 ho;grind[ai1]
 refine .pr l p (λj=>(w.cell? (p.add j)).getD undef) (λj av hj=>?_) (λj av hj=>?_);.grind
 exact ami
theorem WV.aqO (hB:Holds B gl C) {f:FuncId} {xs:Array Operand} {ts:Array TypeId} {args args':List AV} {res:AV} {rv:Value} (ho:o.op=.call { callee:=.value (.func f),args:=xs,argTypes:=ts }) (hc:∀ vs w,(callFunc f vs).run P w=.ok (.enter f vs) w)(hx:σ.evs xs.toList=some args) (hl:Ih C σ args args') (hst:∀ w F F',View.le F F'->B w F->B w F') (hp:plT res=some rv) (h:jB B P f args' res):WV P C o σ res:=by
 intro G a w ok N Q' hN;obtain ⟨e1,e2⟩:=ok.evl hx;obtain ⟨q1,q2⟩:=hl.at_;have hF:G.F.le λq=>w.cell? q:=λp u x=>ok.fw p u x;have qo:=h w (λq=>w.cell? q) (xs.toList.map a.eval) (hst w _ _ hF (hB.1 w G.F ok.bel ok.f0)) (λ_ _ x=>x) ⟨by rw [e1,q1],λi av u p q=>by
  obtain ⟨b,hb,hL⟩:=q2 i av p;exact hL G a w ok u (e2 i b u hb q)⟩;refine Jr ?_;have ev:a.eval (.func f)=.func (.func f) #[] #[]:=rfl;have e3:(#[]++xs.map a.eval++#[]:Array Value)=(xs.toList.map a.eval).toArray:=by apply AQ;simp
 simp only [ho,resolve,ev,Deferred.ofValue,invoke,Sem.run_bind,Sem.run_pure,Result.andThen_ok,hc,Oper.upon,e3];refine qo.mono λe w1 ⟨v,F',he,hb,h1,h2,h3,h4⟩=>?_;subst he;have hv:=auM hp h4;subst hv;exact hN _ { G with F:=G.F } w1 (λBX a'' DF=>DF.called hb (λ_ _ x=>x) (λp u x=>by rw [hb.cell (aQ (ok.fw p u x))];exact ok.fw p u x) (λ_ _ x=>.inl x)) (.pu _ _ (Hl hp)) (RP.bd (F:=G.F) (Hl hp) _)
end
section
variable {B:World→View→Prop} {gl:Nat} {P:Program} {f:FuncId} {args:List AV} {res:AV} {M M' X:List (Nat×AO)} {nk bP:Nat}
theorem Kept.aqS {S S':Nat->Prop} {w w':World} (h:Kept S w w')(hs:∀ x,S x->S' x):Kept S' w w':=⟨h.os,h.tape,h.output,h.size,λi hi hn=>h.block i hi λx=>hn (hs i x)⟩
theorem Y6.fr {G:Gh} {w:World} (hO:Y6 G w (M++X) nk):Y6 G w M nk/\∀ k o,look k M=some o->look k (M++X)=some o:=by
 have hM:∀ k o,look k M=some o->look k (M++X)=some o:=λk o h=>by rw [xG,h];rfl
 exact ⟨⟨hO.fw,λk o h=>hO.ob k o (hM k o h),λk o x h=>hO.my k o x (hM k o h),λk o k' o' x h h'=>hO.dj k o k' o' x (hM k o h) (hM k' o' h'),λk o x p u h=>hO.dF k o x p u (hM k o h)⟩,hM⟩
theorem jr.frame (h:jr B gl P f args M nk res M' bP) (hX:∀ k o,look k X=some o->look k M=none/\look k M'=none):jr B gl P f args (M++X) nk res (M'++X) bP:=by
 intro w G vs hB hlo hO hl hR;obtain ⟨hO1,hM⟩:=hO.fr;have Zt:∀ k o,look k X=some o->look k (M++X)=some o:=λk o h=>by rw [xG,(hX k o h).1,h];rfl
 have hf:∀ x,yE G M x->yE G (M++X) x:=λx ⟨k,o,h1,h2⟩=>⟨k,o,hM k o h1,h2⟩;have hnX:∀ k o x,look k X=some o->G.fp k x->¬ yE G M x:=λk o x h1 h2 ⟨k',o',h3,h4⟩=>by
  have:=hO.dj k o k' o' x (Zt k o h1) (hM k' o' h3) h2 h4;subst this;rw [(hX k o h1).1] at h3;cases h3
 refine (h w G vs hB (λx hx=>hlo x (hf x hx)) hO1 hl hR).mono ?_;rintro e w1 ⟨v,G',he,q1,q2,q3,q4,q5,q6,q7,q8,q9⟩;let yu:Gh:=⟨G'.F,G'.b,G'.n,G'.h,λk=>match look k M' with
  | some _=>G'.fp k| none=>G.fp k⟩;have hfM:∀ k o,look k M'=some o->yu.fp k=G'.fp k:=λk o h=>by exact amv
 have hfX:∀ k,look k M'=none->yu.fp k=G.fp k:=λk h=>by exact amv
 have hle1:G'.le yu bP:=⟨λ_ _ h=>h,λ_ _=>rfl,λ_ _=>rfl,λ_ _=>rfl⟩;have hle0:G.le yu nk:=⟨q2,λk hk=>(q6 k hk).1,λk hk=>(q6 k hk).2.1,λk hk=>(q6 k hk).2.2⟩;have hlk:∀ k o,look k (M'++X)=some o->(look k M'=some o)\/(look k M'=none/\look k X=some o):=λk o h=>by
  rw [xG] at h;cases hm:look k M' with
  | some x=>rw [hm] at h;exact .inl h| none=>rw [hm] at h;exact .inr ⟨rfl,h⟩
 have hold:∀ k o x,look k X=some o->G.fp k x->x < w.heap.size:=λk o x h1 h2=>hO.my k o x (Zt k o h1) h2;have hnew:∀ k o x,look k M'=some o->G'.fp k x->w.heap.size<=x\/yE G M x:=q5;refine ⟨v,yu,he,q1.aqS hf,q2,λp u hp=>?_,⟨q4.fw,λk o hk=>?_,λk o x hk hx=>?_,λk o k' o' x hk hk' hx hx'=>?_,λk o x p u hk hx hp=>?_⟩,λk o x hk hx=>?_,q6,q7,q8,q9.mono hle1 q8⟩
 .rcases q3 p u hp with g|g|g;.exact .inl g
  .exact .inr (.inl g)
  .exact .inr (.inr (hf _ g))
 .rcases hlk k o hk with g|⟨g1,g2⟩
  .obtain ⟨a1,a2,a3⟩:=q4.ob k o g;exact ⟨a1,a2,a3.keep hle1 a1 a2 (hfM k o g) λ_ _=>rfl⟩
  .obtain ⟨a1,a2,a3⟩:=hO.ob k o (Zt k o g2);exact ⟨oD a1 q7,AO.RV q7 a2,a3.keep hle0 a1 a2 (hfX k g1) λx hx=>q1.block x (hold k o x g2 hx) (hnX k o x g2 hx)⟩
 .rcases hlk k o hk with g|⟨g1,g2⟩;.rw [hfM k o g] at hx;exact q4.my k o x g hx
  .rw [hfX k g1] at hx;exact oD (hold k o x g2 hx) q1.size
 .rcases hlk k o hk with g|⟨g1,g2⟩<;>rcases hlk k' o' hk' with g'|⟨g1',g2'⟩;.rw [hfM k o g] at hx;rw [hfM k' o' g'] at hx';exact q4.dj k o k' o' x g g' hx hx'
  .rw [hfM k o g] at hx;rw [hfX k' g1'] at hx';rcases hnew k o x g hx with z|z;.have:=hold k' o' x g2' hx';omega
   .exact absurd z (hnX k' o' x g2' hx')
  .rw [hfM k' o' g'] at hx';rw [hfX k g1] at hx;rcases hnew k' o' x g' hx' with z|z;.have:=hold k o x g2 hx;omega
   .exact absurd z (hnX k o x g2 hx)
  .rw [hfX k g1] at hx;rw [hfX k' g1'] at hx';exact hO.dj k o k' o' x (Zt k o g2) (Zt k' o' g2') hx hx'
 .rcases hlk k o hk with g|⟨g1,g2⟩;.rw [hfM k o g] at hx;exact q4.dF k o x p u g hx hp
  .rw [hfX k g1] at hx;rcases q3 p u hp with z|z|z;.exact hO.dF k o x p u (Zt k o g2) hx z
   .have:=hold k o x g2 hx;omega
   .exact λe=>hnX k o x g2 hx (e ▸ z)
 .rcases hlk k o hk with g|⟨g1,g2⟩
  .rw [hfM k o g] at hx;rcases hnew k o x g hx with z|z;.exact .inl z
   .exact .inr (hf _ z)
  .rw [hfX k g1] at hx;exact .inr ⟨k,o,Zt k o g2,hx⟩
theorem aiu {k:Nat} {o a b:AO} (h:look k [(1,a),(2,b)]=some o):k=1\/k=2:=by
 by_cases e:k=1;.exact .inl e
 .by_cases e2:k=2;.exact .inr e2
  .rw [ah e,ah e2]at h;cases h
theorem jr.fr2 {o o' a b:AO} (h:jr B gl P f args [(0,o)] nk res [(0,o')] bP):jr B gl P f args [(0,o),(1,a),(2,b)] nk res [(0,o'),(1,a),(2,b)] bP :=jr.frame (X:=[(1,a),(2,b)]) h λk ob hk=>by rcases aiu hk with rfl|rfl<;>exact⟨rfl,rfl⟩
theorem Ve.frame {pv:Value} (h:Ve B gl P f args M nk pv):Ve B gl P f args (M++X) nk pv:=by
 intro w G vs hB hlo hO hl hR;obtain⟨hO1,hM⟩:=hO.fr;have hf:∀ x,yE G M x->yE G (M++X) x:=λx⟨k,o,h1,h2⟩=>⟨k,o,hM k o h1,h2⟩;exact (h w G vs hB (λx hx=>hlo x (hf x hx)) hO1 hl hR).mono λe w1⟨g1,g2,g3⟩=>⟨g1,g2.aqS hf,g3⟩
end
end
end Go.Proofs.YthohlofpphjofaaGreatDoor
