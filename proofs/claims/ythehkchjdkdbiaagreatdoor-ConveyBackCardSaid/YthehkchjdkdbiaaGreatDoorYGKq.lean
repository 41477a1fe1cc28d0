/- Capo of the program, the piece: the function of each stop, moved. -/
import Derived.Test.YthehkchjdkdbiaaGreatDoorSmIKq
import Derived.Test.YthehkchjdkdbiaaGreatDoorYTKq
import Derived.Test.YthehkchjdkdbiaaGreatDoorYVKq
import Derived.Test.YthehkchjdkdbiaaGreatDoorYLKq
set_option maxHeartbeats 8000000
set_option maxRecDepth 100000
set_option linter.unusedVariables false
set_option linter.unusedSimpArgs false
namespace Go.Proofs.YthehkchjdkdbiaaGreatDoor
theorem Gs {p:Prop}(h:p:=by
 refine azw ?_
 exact kC):p:=h
theorem aqI {p q:Prop}(k:q)(h:aP q→p:=by
 intro hq
 refine gB ?_
 refine BI ?_
 refine iF ?_
 refine ap9 ?_
 refine DK.idx rfl rfl au hrow ?_
 refine ap9 ?_
 exact hq.k):p:=h ⟨k⟩
theorem azw {p q:Prop}(k:q)(h:aP q→p:=by
 intro hq
 refine W.tr (Tr.yM 2 0 3 rfl rfl rfl) ?_
 refine W.tr (Tr.yM 2 1 1 rfl rfl rfl) ?_
 refine W.tr (Tr.yM 2 2 6 rfl rfl rfl) ?_
 refine W.tr (Tr.ahs (t:=5) 3 rfl) ?_
 exact hq.k):p:=h ⟨k⟩
section
open Go.RowKit
theorem agq (x:Int) (a b:Bool) (y:Int) (c d:Bool) (w:World):(Op.equalIn 10000 87 (.agg #[.int .i64 x,.bool a,.bool b]) (.agg #[.int .i64 y,.bool c,.bool d])).run Tryz.prog w=.ok (decide (x=y∧a=c∧b=d)) w:=by
 rw [run_equalIn_agg w 9999 _ _ _ bD bD]
 refine Eq.trans (congrArg (fun fs=>Sem.run _ (Op.eqFields 9999 _ _ fs) w) (rfl:(Tryz.prog.fieldsOf 87).toList=[_,_,_])) ?_
 by_cases h1:x=y
 ·subst h1
  cases a<;>cases b<;>cases c<;>cases d<;>simp [go_sem]
 ·simp [go_sem,h1]
theorem adw (l:List Stp) (h:l.length≤100000):aU Tryz.prog 237 [.ls 5 (l.map aC)] (.ls 5 (l.map aC)):=by
 refine jl Tryz.func237 Tryz.ntmps237 fun w0 F0=>?_;dsimp only [St.init,number,Nat.reduceAdd]
 refine qL ?_
 refine WL.nlq rfl rfl fun b hb=>?_
 cases b with
 | true =>
  have e:=hb rfl
  refine qL ?_
  refine W.tr (Tr.aht (t:=2) 5 rfl) ?_
  rw [e]
  exact W.ret vS
 | false =>
  refine qL ?_
  exact TL
theorem adv (l:List (Int×Int×Bool)) (h:l.length≤100000):aU Tryz.prog 235 [.ls 3 (l.map aF)] (.ls 3 (l.map aF)):=by
 refine jl Tryz.func235 Tryz.ntmps235 fun w0 F0=>?_;dsimp only [St.init,number,Nat.reduceAdd]
 refine qL ?_
 refine WL.nlq rfl rfl fun b hb=>?_
 cases b with
 | true =>
  have e:=hb rfl
  refine qL ?_
  refine W.tr (Tr.aht (t:=2) 3 rfl) ?_
  rw [e]
  exact W.ret vS
 | false =>
  refine qL ?_
  exact TL
theorem OA (l:List Int) (h:l.length≤100000):aU Tryz.prog 236 [.ls 1 (l.map eInt)] (.ls 1 (l.map eInt)):=by
 refine jl Tryz.func236 Tryz.ntmps236 fun w0 F0=>?_;dsimp only [St.init,number,Nat.reduceAdd]
 refine qL ?_
 refine WL.nlq rfl rfl fun b hb=>?_
 cases b with
 | true =>
  have e:=hb rfl
  refine qL ?_
  refine W.tr (Tr.aht (t:=2) 1 rfl) ?_
  rw [e]
  exact W.ret vS
 | false =>
  refine qL ?_
  exact TL
theorem KD (e:Ev) (h:e.stops.length≤100000):aU Tryz.prog 184 [.ag (dI e)] (.ag (dI e)):=by
 refine jl Tryz.func184 Tryz.ntmps184 fun w0 F0=>?_;dsimp only [St.init,number,Nat.reduceAdd]
 refine nK ?_
 refine WL.vl rfl (WV.call rfl (ak Tryz.func237 rfl rfl) rfl rfl (adw e.stops h)) ?_
 refine nK ?_
 exact W.ret (Jz rfl rfl rfl rfl rfl rfl rfl rfl)
def nxS(s:Int×Bool×Bool)(e:Ev):Int×Bool×Bool:=if e.val=0∧e.dot=false∧e.three=false then s else(e.val,e.dot,e.three)
theorem ae1 (e:Ev) (s:Int×Bool×Bool) :
  jI jE 0 Tryz.prog 181 [.ag (dI e),.pt 0 0 0] [(0,.box 87 (BP s))] 1 (.ag (dI (Om e (nxS s e)))) [(0,.box 87 (BP (nxS s e))),(1,.box 90 (dI (Om e (nxS s e))))] 2:=by
 refine jI.intro kV Tryz.func181 rfl Tryz.ntmps181 (bU rfl) rfl fun w0 F0 fp pg hB=>?_
 refine gB ?_
 obtain ⟨n,hn⟩:∃ n,nxS s e=n:=⟨_,rfl⟩
 have hn0:=hn
 unfold nxS at hn0
 rw [hn]
 refine acU ?_
 refine WL.vl rfl (WV.ane rfl rfl rfl rfl rfl bD (fun w=>agq _ _ _ _ _ _ w)) ?_
 refine acU ?_
 (refine W.cond rfl (fun hif=>?_) (fun hif=>?_)<;>(try simp only [gu,jS,kQ,kR,iy,kS] at hif))
 ·rw [if_neg XL] at hn0
  subst hn0
  refine acU ?_
  refine W.tr (σ':=⟨[(3,.pt 1 0 0)],[(0,.box 87 (BP (e.val,e.dot,e.three))),(1,.box 90 (dI (Om e (e.val,e.dot,e.three))))],2⟩) (kL (fun q=>bif Nat.beq q 1 then 2 else q) qc rfl) ?_
  exact jX
 ·rw [if_pos XL] at hn0
  subst hn0
  refine acU ?_
  refine W.tr (σ':=⟨[(3,.pt 1 0 0)],[(0,.box 87 (BP s)),(1,.box 90 (dI (Om e s)))],2⟩) (kL (fun q=>bif Nat.beq q 1 then 2 else q) qc rfl) ?_
  exact jX
theorem aiO (e:Ev) (s:Int×Bool×Bool) (h:e.stops.length≤100000) :
  jI jE 0 Tryz.prog 234 [.ag (dI e),.pt 1 0 0] [(0,.box 87 (BP s)),(1,.box 270 [.fn 181 [.pt 0 0 0]])] 2 (.ag (dI (Om e (nxS s e))))
   [(0,.box 87 (BP (nxS s e))),(1,.box 270 [.fn 181 [.pt 0 0 0]]),(2,.box 90 (dI (Om e (nxS s e))))] 3:=by
 refine jI.intro kV Tryz.func234 rfl Tryz.ntmps234 (bU rfl) rfl fun w0 F0 fp pg hB=>?_
 refine gB ?_
 refine zN ?_
 refine W.rD bD ?_
 refine WA.ds [false,false,false,true,true] [1,2] bD bD ⟨rfl,rfl,trivial⟩ ?_
 refine ajU ?_
 refine mO.v0 rfl (WV.call rfl (ak Tryz.func184 rfl rfl) rfl rfl (KD e h)) ?_
 refine mO.ct (dL _) [0] rfl rfl (ak Tryz.func181 rfl rfl) (ae1 e s) rfl rfl rfl ⟨⟨rfl,rfl,rfl⟩,trivial⟩ rfl rfl rfl rfl ⟨rfl,rfl,trivial⟩ ?_
 refine mO.yT rfl rfl rfl rfl rfl rfl rfl rfl rfl rfl rfl rfl rfl rfl ⟨rfl,rfl,trivial⟩ ?_
 refine mO.nil ?_
 refine zN ?_
 refine W.tr (σ':=⟨[(3,.pt 2 0 0)],[(0,.box 87 (BP (nxS s e))),(1,.box 270 [.fn 181 [.pt 0 0 0]]),(2,.box 90 (dI (Om e (nxS s e))))],3⟩) (kL (fun q=>bif Nat.beq q 2 then 3 else q) qc rfl) ?_
 exact W.ret (Au rfl rfl rfl rfl rfl)
def nxK (evs:List Ev):Nat→Int×Bool×Bool
 | 0=>(0,false,false)
 | k+1=>match evs[k]? with
  | some e=>nxS (nxK evs k) e
  | none=>nxK evs k
theorem ah1 {evs:List Ev} {k:Nat} (h:k<evs.length):nxK evs (k+1)=nxS (nxK evs k) evs[k]:=by
 show (match evs[k]? with|some e=>_|none=>_)=_
 exact Nr
theorem ah2 {evs:List Ev} (hz:∀ k (h:k<evs.length),evs[k].val=0→evs[k].dot=false∧evs[k].three=false):∀ k,k≤evs.length→nxK evs k=rF evs k
 | 0,_=>rfl
 | k+1,h=>by
  have hk:k<evs.length:=by omega
  rw [ah1 hk,FU hk,ah2 hz k (by omega)]
  unfold nxS
  by_cases hv:evs[k].val=0
  ·rw [if_pos hv,if_pos ⟨hv,hz k hk hv⟩]
  ·rw [if_neg hv,if_neg (fun h=>hv h.1)]
theorem aec (evs:List Ev) (hn:evs.length≤1000) (h20:∀ k (h:k < evs.length),evs[k].stops.length≤20) (hz:∀ k (h:k < evs.length),evs[k].val=0→evs[k].dot=false∧evs[k].three=false) :
  jI jE 0 Tryz.prog 183 [.ls 6 (evs.map dI),.fn 234 [.pt 1 0 0]] [(0,.box 87 (BP (0,false,false))),(1,.box 270 [.fn 181 [.pt 0 0 0]])] 2 (.ls 6 ((Oh evs evs.length).map dI))
   [(0,.box 87 (BP (rF evs evs.length))),(1,.box 270 [.fn 181 [.pt 0 0 0]])] 2:=by
 have hK:=ah2 hz
 refine jI.intro kV Tryz.func183 rfl Tryz.ntmps183 (bU rfl) rfl fun w0 F0 fp pg hB=>?_
 refine gB ?_
 refine zS ?_
 first|refine W.tr (Tr.nil (t:=5) 90 6 rfl rfl) ?_|refine WL.tr (Tr.nil (t:=5) 90 6 rfl rfl) ?_
 refine xk ?_
 refine zS ?_
 refine W.loop (fun k:Nat=>k≤evs.length) (fun k=>⟨[(1,.fn 234 [.pt 1 0 0]),(5,.sl 2),(8,.ls 6 (evs.map dI)),(9,.sc (.int .i64 evs.length)),(10,.sc (.int .i64 k))],[(0,.box 87 (BP (rF evs k))),(1,.box 270 [.fn 181 [.pt 0 0 0]]),(2,.row 90 6 ((Oh evs k).map dI))],3⟩) (fun k=>evs.length - k) 0 au (zqt id) fun k hk=>?_
 have hl:=pW hk
 by_cases hlt:k < evs.length
 ·have hC:=aiO evs[k] (rF evs k) (by have:=h20 k hlt;omega)
  have hnx:nxS (rF evs k) evs[k]=rF evs (k+1):=by rw [← hK k hk,← hK (k+1) (by omega),ah1 hlt]
  have hrow:(Oh evs k).map dI++[dI (Om evs[k] (rF evs (k+1)))]=(Oh evs (k+1)).map dI:=by rw [KL hlt];simp
  rw [hnx] at hC
  obtain ⟨PL,hPL⟩:∃ z,Oh evs k=z:=⟨_,rfl⟩
  rw [hPL] at hl hrow ⊢
  obtain ⟨S1,hS1⟩:∃ z,rF evs (k+1)=z:=⟨_,rfl⟩
  rw [hS1] at hC hrow
  obtain ⟨S0,hS0⟩:∃ z,rF evs k=z:=⟨_,rfl⟩
  rw [hS0] at hC ⊢
  refine jW ?_
  refine WL.qo (dL _) [0,1] rfl rfl (ak Tryz.func234 rfl rfl) hC rfl rfl rfl ⟨⟨rfl,rfl,rfl⟩,⟨rfl,rfl,rfl⟩,trivial⟩ rfl rfl rfl rfl ?_
  refine zS ?_
  refine ⟨k+1,by omega,by omega,?_⟩
  rw [hS1]
  exact (kL (fun q=>bif Nat.beq q 2 then 6 else q) aaz rfl)
 ·obtain rfl:k=evs.length:=by omega
  refine jW ?_
  refine W.tr (Tr.freeze 2 rfl) ?_
  refine W.tr (σ':=⟨[(4,.ls 6 ((Oh evs evs.length).map dI))],[(0,.box 87 (BP (rF evs evs.length))),(1,.box 270 [.fn 181 [.pt 0 0 0]])],2⟩) (zqt id) ?_
  exact jX
theorem Dv (cs:List (Int×Int×Bool)) (st:List Int) (h1:cs.length≤64) (h2:st.length≤64):aU Tryz.prog 182 [.ag (mX cs st)] (.ag (mX cs st)):=by
 refine jl Tryz.func182 Tryz.ntmps182 fun w0 F0=>?_;dsimp only [St.init,number,Nat.reduceAdd]
 refine zN ?_
 refine W.rD bD ?_
 refine WA.ds [false,false,false,false,false,false,false,true] [0] bD bD ⟨rfl,trivial⟩ ?_
 refine ajU ?_
 refine mO.v0 rfl (WV.call rfl (ak Tryz.func235 rfl rfl) rfl rfl (adv cs au)) ?_
 refine ajU ?_
 refine mO.v0 rfl (WV.call rfl (ak Tryz.func236 rfl rfl) rfl rfl (OA st au)) ?_
 refine mO.st rfl rfl ?_
 refine ajI ?_
 refine mO.nil ?_
 refine zN ?_
 exact W.ret (Jz rfl rfl rfl rfl rfl rfl rfl rfl)
theorem SE (p:aS) (hO:jm p) :
  jI jE 0 Tryz.prog 180 [bK p,.fn 181 [.pt 0 0 0]] [(0,.box 87 (BP (0,false,false)))] 1 (.tu [bK (plP p),.sc (.int .i64 (aV p))])
   [(0,.box 87 (BP (if aV p=0 then rF p.evs p.evs.length else (0,false,false)))),(1,.box 30 (bK (plP p)).cells)] 2:=by
 have hC:=nD p hO
 by_cases h0:aV p=0
 rotate_left
 ·have e1:plP p=noP:=if_neg h0
  rw [e1,if_neg h0]
  obtain ⟨E,hE⟩:∃ E,aV p=E:=⟨_,rfl⟩
  rw [hE] at hC h0 ⊢
  refine jI.intro kV Tryz.func180 rfl Tryz.ntmps180 (bU rfl) rfl fun w0 F0 fp pg hB=>?_
  refine gB ?_
  refine BI ?_
  refine WL.vl rfl (bZ Tryz.func51 hC) ?_
  refine um ?_
  refine W.tr (Tr.yM 3 0 3 rfl rfl rfl) ?_
  refine W.tr (Tr.yM 3 1 1 rfl rfl rfl) ?_
  refine W.tr (Tr.yM 3 2 6 rfl rfl rfl) ?_
  refine W.tr (σ':=⟨[(4,.pt 1 0 0),(5,.sc (.int .i64 E))],[(0,.box 87 (BP (0,false,false))),(1,.box 30 (bK noP).cells)],2⟩) (kL (fun q=>bif Nat.beq q 1 then 3 else q) qc rfl) ?_
  exact jX
 have e1:plP p=⟨p.cs,p.st,Oh p.evs p.evs.length⟩:=if_pos h0
 have hz:∀ k (h:k < p.evs.length),p.evs[k].val=0→p.evs[k].dot=false∧p.evs[k].three=false:=fun k h hv=>by
  have hok:=(ji h0 h).sg
  unfold gZ at hok
  rw [hv] at hok
  simpa using hok
 have hn3:=hO.n3
 have hM:=aec p.evs au hO.n4 hz
 have hI:=Dv p.cs p.st hO.n1 hO.n2
 rw [e1,if_pos h0,h0]
 rw [h0] at hC
 refine jI.intro kV Tryz.func180 rfl Tryz.ntmps180 (bU rfl) rfl fun w0 F0 fp pg hB=>?_
 refine gB ?_
 refine BI ?_
 refine WL.vl rfl (bZ Tryz.func51 hC) ?_
 refine um ?_
 refine WL.vl rfl (bZ Tryz.func182 hI) ?_
 refine BI ?_
 refine yH ?_
 refine WL.qo (dL _) [0,2] rfl rfl (ak Tryz.func183 rfl rfl) hM rfl rfl rfl ⟨⟨rfl,rfl,rfl⟩,⟨rfl,rfl,rfl⟩,trivial⟩ rfl rfl rfl rfl ?_
 refine BI ?_
 refine W.tr (σ':=⟨[(4,.pt 1 0 0),(5,.sc (.int .i64 0))],[(0,.box 87 (BP (rF p.evs p.evs.length))),(1,.box 30 (bK ⟨p.cs,p.st,Oh p.evs p.evs.length⟩).cells)],2⟩) (kL (fun q=>bif Nat.beq q 1 then 3 else q) qc rfl) ?_
 exact W.ret (Au rfl rfl rfl rfl rfl)
theorem aeU (p:aS) (hO:jm p):aU Tryz.prog 116 [bK p] (.tu [bK (plP p),.sc (.int .i64 (aV p))]):=by
 have hR:=SE p hO
 refine jl Tryz.func116 Tryz.ntmps116 fun w0 F0=>?_;dsimp only [St.init,number,Nat.reduceAdd]
 refine nK ?_
 refine yH ?_
 refine WL.qo (dL _) [2] rfl rfl (ak Tryz.func180 rfl rfl) hR rfl rfl rfl ⟨⟨rfl,rfl,rfl⟩,trivial⟩ rfl rfl rfl rfl ?_
 refine nK ?_
 exact kC
theorem ao4 {P:Program} {C:Cx} {σ:St} {o:Oper} {d:Tmp} {ops:Array Oper} {rest:List Oper} {Q:Exit→St→Prop} {mem:List Bool} {Mc jC:List (Nat×AO)} {e0 fJ k:Nat} {av:AV} (hd:wrB mem C.N k o=some d) (hs:bP Mc σ.M) (hsB:Nat.blt k e0=true→bP jC σ.M) (h:∀ t,(∀ q∈o.looksAt ops,look q t=look q σ.t)→WV P C o ⟨t,σ.M,σ.nk⟩ av) (K:aZ P C ops mem Mc jC e0 fJ (k+1) rest (σ.put d av) Q):aZ P C ops mem Mc jC e0 fJ k (o::rest) σ Q:=by
 obtain ⟨a,b,c,e⟩:=CY hd
 exact aZ.ati a b (uj (bJ _)) hs hsB ⟨c,fun t H=>WO.Wh b e (h t H)⟩ K
theorem acL {P:Program} {C:Cx} {σ:St} {o:Oper} {d:Tmp} {ops:Array Oper} {rest:List Oper} {Q:Exit→St→Prop} {mem:List Bool} {Mc jC:List (Nat×AO)} {e0 fJ k:Nat} {T:TypeId} {parts:Array (Nat×Operand)} {z:Value} {places:List (Nat×Nat)} {bI l:List AV} (hd:wrB mem C.N k o=some d) (ho:o.op=.build T parts) (hz:(P.info? T).bind (·.zero)=some z) (hpl:Jc P T=some places)
  (hx:σ.evs (parts.toList.map (·.2))=some bI) (hl:Gw places (z.cells.toList.map .sc) (pairUp parts.toList bI)=some l) (hs:bP Mc σ.M) (hsB:Nat.blt k e0=true→bP jC σ.M) (K:aZ P C ops mem Mc jC e0 fJ (k+1) rest (σ.put d (.ag l)) Q):aZ P C ops mem Mc jC e0 fJ k (o::rest) σ Q :=
 ao4 hd hs hsB (fun t H=>WV.build ho hz hpl ((Ac H fun x hx=>by rw [ho];simp only [Op.operands];simpa using hx).trans hx) hl) K
theorem as1 (evs:List Ev) (hn:evs.length≤1000) (h20:∀ e∈evs,e.stops.length≤20) :
  jI jE 0 Tryz.prog 183 [.ls 6 (evs.map dI),.sc (.func (.func 184) #[] #[])] [] 0 (.sl 0) [(0,.row 90 6 (evs.map dI))] 1:=by
 refine jI.intro kV Tryz.func183 rfl Tryz.ntmps183 (bU rfl) rfl fun w0 F0 fp pg hB=>?_
 refine gB ?_
 refine zS ?_
 refine W.tr (Tr.nil (t:=5) 90 6 rfl rfl) ?_
 refine xk ?_
 refine zS ?_
 refine W.loop (fun k:Nat=>k≤evs.length) (fun k=>⟨[(1,.sc (.func (.func 184) #[] #[])),(5,.sl 0),(8,.ls 6 (evs.map dI)),(9,.sc (.int .i64 evs.length)),(10,.sc (.int .i64 k))],[(0,.row 90 6 ((evs.take k).map dI))],1⟩) (fun k=>evs.length - k) 0 au (zqt id) fun k hk=>?_
 by_cases hlt:k < evs.length
 ·have hC:=KD evs[k] (by have:=h20 _ (dS hlt);omega)
  have hrow:(evs.take k).map dI++[dI evs[k]]=(evs.take (k+1)).map dI:=Bo hlt
  have hl:((evs.take k).map dI).length=k:=by rw [aH,fP];omega
  obtain ⟨R,hR⟩:∃ z,(evs.take k).map dI=z:=⟨_,rfl⟩
  rw [hR] at hrow hl ⊢
  refine jW ?_
  refine WL.vl rfl (WV.yU (dL _) rfl (ak Tryz.func184 rfl rfl) rfl rfl rfl rfl rfl hC.g) ?_
  refine jW ?_
  refine ⟨k+1,by omega,by omega,?_⟩
  exact (kL (fun q=>bif Nat.beq q 0 then 3 else q) aaz rfl)
 ·obtain rfl:k=evs.length:=by omega
  rw [jH]
  refine jW ?_
  refine W.tr (σ':=⟨[(4,.sl 0)],[(0,.row 90 6 (evs.map dI))],1⟩) (zqt id) ?_
  exact jX
theorem asZ:aU Tryz.prog 183 [.ls 6 [],.sc (.func (.func 184) #[] #[])] (.ls 6 []):=by
 refine jl Tryz.func183 Tryz.ntmps183 fun w0 F0=>?_;dsimp only [St.init,number,Nat.reduceAdd]
 refine awT ?_
 refine W.loop (fun u:Unit=>True) (fun _=>⟨[(1,.sc (.func (.func 184) #[] #[])),(5,.sc (.slice none 0 0)),(8,.ls 6 []),(9,.sc (.int .i64 0)),(10,.sc (.int .i64 0))],[],0⟩) (fun _=>0) () trivial (zqt id) fun u hu=>?_
 refine awU ?_
 refine W.tr (Tr.ahs (t:=4) 6 rfl) ?_
 exact W.ret vS
theorem ZW (cs:List (Int×Int×Bool))(st:List Int):tV cs st cs st=true:=by
 unfold tV
 simp
theorem KA (p:aS) (hO:jm p) (h0:aV p=0):aU Tryz.prog 117 [bK p,.ag [.ls 3 (p.cs.map aF),.ls 1 (p.st.map eInt),.ls 6 []]] (.tu [bK p,.sc (.int .i64 0)]):=by
 have hC:=nD p hO
 rw [h0] at hC
 have hE0:aV ⟨p.cs,p.st,[]⟩=0:=by
  unfold aV
  rw [if_neg (by simpa using (dY h0).1),if_neg (by show ¬ 400 < 0;omega)];rfl
 have hC2:=nD ⟨p.cs,p.st,[]⟩ ⟨hO.n1,hO.n2,gU _,fun k hk=>by cases hk⟩
 rw [hE0] at hC2
 have hC2:aU Tryz.prog 51 [.ag [.ls 3 (p.cs.map aF),.ls 1 (p.st.map eInt),.ls 6 []]] (.sc (.int .i64 0)):=hC2
 have hC:aU Tryz.prog 51 [.ag [.ls 3 (p.cs.map aF),.ls 1 (p.st.map eInt),.ls 6 (p.evs.map dI)]] (.sc (.int .i64 0)):=hC
 have hS:=PK p.cs p.st p.cs p.st hO.n1 hO.n2 hO.n1 hO.n2
 rw [ZW] at hS
 have hS:aU Tryz.prog 60 [.ag [.ls 3 (p.cs.map aF),.ls 1 (p.st.map eInt)],.ag [.ls 3 (p.cs.map aF),.ls 1 (p.st.map eInt)]] (.sc (.bool true)):=hS
 have hI:=Dv p.cs p.st hO.n1 hO.n2
 have hI:aU Tryz.prog 182 [.ag [.ls 3 (p.cs.map aF),.ls 1 (p.st.map eInt)]] (.ag [.ls 3 (p.cs.map aF),.ls 1 (p.st.map eInt)]):=hI
 obtain ⟨_,au8,_⟩:=dY h0
 have hM:=as1 p.evs au fun e he=>by
  exact aaG
 have hEl:(p.evs.map dI).length=p.evs.length:=aH _
 have hnil:([]:List (List AV)).length=0:=rfl
 show aU Tryz.prog 117 [.ag [.ls 3 (p.cs.map aF),.ls 1 (p.st.map eInt),.ls 6 (p.evs.map dI)],.ag [.ls 3 (p.cs.map aF),.ls 1 (p.st.map eInt),.ls 6 []]] (.tu [.ag [.ls 3 (p.cs.map aF),.ls 1 (p.st.map eInt),.ls 6 (p.evs.map dI)],.sc (.int .i64 0)])
 obtain ⟨EV,hEV⟩:∃ z,p.evs.map dI=z:=⟨_,rfl⟩
 rw [hEV] at hC hM hEl ⊢
 refine jl Tryz.func117 Tryz.ntmps117 fun w0 F0=>?_;dsimp only [St.init,number,Nat.reduceAdd]
 refine ap7 ?_
 refine WL.vl rfl (bZ Tryz.func51 hC) ?_
 refine ajx ?_
 refine WL.vl rfl (bZ Tryz.func51 hC2) ?_
 refine ajx ?_
 refine WL.vl rfl (bZ Tryz.func60 hS) ?_
 refine ajx ?_
 refine W.rD bD ?_
 refine WA.dt [false,false,false,false,false,true,false,false,false,true,true,true,false] [0,1] [0,1] 11 bD bD bD ⟨rfl,rfl,trivial⟩ ⟨rfl,rfl,trivial⟩ ?_
 refine Df ?_
 refine aZ.v0 rfl (bZ Tryz.func182 hI) ?_
 refine Df ?_
 refine aZ.ct (dL _) [] rfl rfl (ak Tryz.func183 rfl rfl) hM rfl rfl rfl trivial rfl rfl rfl rfl ⟨rfl,rfl,trivial⟩ (fun _=>⟨rfl,rfl,trivial⟩) ?_
 refine Df ?_
 refine aZ.v0 rfl (bZ Tryz.func183 asZ) ?_
 refine aZ.ap rfl rfl (by show EV.length+0≤1000000000;omega) ⟨rfl,rfl,trivial⟩ (fun _=>⟨rfl,rfl,trivial⟩) ?_
 refine acL rfl rfl rfl rfl rfl rfl ⟨rfl,rfl,trivial⟩ (fun _=>⟨rfl,rfl,trivial⟩) ?_
 refine aZ.yT rfl rfl rfl rfl rfl rfl rfl rfl rfl rfl rfl rfl rfl rfl ⟨rfl,rfl,trivial⟩ (fun h=>by cases h) ?_
 refine Nl ?_
 refine ap7 ?_
 rw [nI]
 refine W.tr (Tr.freeze 4 rfl) ?_
 exact kC
theorem ato (C:Cg) (ht:∀ i e,C.tie i e=e.tie) (cs:List (Int×Int×Bool)) (st:List Int) (L:List AV) (i:Nat) (e:Ev) (h0:e.stops=[]) :
  jI jE 0 Tryz.prog 185 [.ag [.ls 3 (cs.map aF),.ls 1 (st.map eInt),.sc (.bool false),.sc .nilFunc,.fn 190 [.pr L],.sc .nilFunc,.sc .nilFunc],.pt 0 0 0,.sc (.bool (decide (i=0)))] [(0,.box 90 (dI e))] 1 (.ag (NR (AZ C i e) (yS C e.stops) (yR C e.stops)))
   [(0,.box 90 (UF (yQ C i e) 1)),(1,.row 69 5 ((l9 C e.stops).map aC)),(2,.box 276 (NR (AZ C i e) (yS C e.stops) (yR C e.stops)))] 3:=by
 obtain ⟨b1,v,d3,t3,t,l⟩:=e
 dsimp only at h0
 subst h0
 have e1:AZ C i ⟨b1,v,d3,t3,t,[]⟩=0:=by
  unfold AZ
  rw [ht]
  dsimp only
  cases t<;>rfl
 have e2:yQ C i ⟨b1,v,d3,t3,t,[]⟩=⟨b1,v,d3,t3,t,[]⟩:=by
  unfold yQ VQ
  rw [if_pos (show ([]:List Stp).length=0 from rfl),ht];rfl
 rw [e1,e2]
 refine jI.intro kV Tryz.func185 rfl Tryz.ntmps185 (bU rfl) rfl fun w0 F0 fp pg hB=>?_
 refine gB ?_
 refine ap8 ?_
 refine WL.vl rfl (Ad rfl) ?_
 refine ap8 ?_
 refine aqy ?_
 refine W.tr (σ':=⟨[(6,.pt 2 0 0)],[(0,.box 90 [.sc (.bool b1),.sc (.int .i64 v),.sc (.bool d3),.sc (.bool t3),.sc (.bool t),.sl 1]),(1,.row 69 5 []),(2,.box 276 [.sc (.int .i64 0),.ls 8 [],.ls 1 []])],3⟩) (kL (fun q=>bif Nat.beq q 1 then 4 else q) qc rfl) ?_
 exact W.ret (Au rfl rfl rfl rfl rfl)
theorem atp (C:Cg) (hm:∀ y,C.mr y=y) (hml:∀ y,C.ml y=[]) (ht:∀ i e,C.tie i e=e.tie) (hba:∀ i,C.bare i=decide (0 < i)) (hcr:∀ x y,C.mv x=some y→y.1=x.1∧y.2.2.2.2=x.2.2.2.2) (cs:List (Int×Int×Bool)) (st:List Int) (L:List AV) (i:Nat) (e:Ev) (h0:e.stops≠[]) (ha:e.stops.Pairwise fun x y=>x.1 < y.1) (h14:e.stops.length≤14) (hch:aU Tryz.prog 190 [.ls 5 (e.stops.map aC),.pr L] (.ls 6 ((e.stops.map C.ch).map Iw))) :
  jI jE 0 Tryz.prog 185 [.ag [.ls 3 (cs.map aF),.ls 1 (st.map eInt),.sc (.bool false),.sc .nilFunc,.fn 190 [.pr L],.sc .nilFunc,.sc .nilFunc],.pt 0 0 0,.sc (.bool (decide (i=0)))] [(0,.box 90 (dI e))] 1 (.ag (NR (AZ C i e) (yS C e.stops) (yR C e.stops)))
   [(0,.box 90 (UF (yQ C i e) 1)),(1,.row 69 5 ((l9 C e.stops).map aC)),(2,.box 276 (NR (AZ C i e) (yS C e.stops) (yR C e.stops)))] 3:=by
 have h1:C.bare i=!decide (i=0):=by rw [hba];cases i<;>simp
 have hl0:¬ e.stops.length=0:=fun h=>h0 (oN h)
 have e1:AZ C i e=0:=if_neg hl0
 have hnl:=xM C e.stops
 have hsort:=acO (l9 C e.stops) (Ak hcr ha) au
 have hSl:(e.stops.map aC).length=e.stops.length:=aH _
 have hKl:((e.stops.map C.ch).map Iw).length=e.stops.length:=by rw [aH,aH]
 have hKa:∀ k (h:k < e.stops.length),((e.stops.map C.ch).map Iw)[((k:Nat):Int).toNat]?=some (Iw (C.ch e.stops[k])):=fun k h=>by rw [fO,bT,bT,aI h];rfl
 have hSa:∀ k (h:k < e.stops.length),(e.stops.map aC)[((k:Nat):Int).toNat]?=some (aC e.stops[k]):=fun k h=>y7 h
 have e2:VQ C i e=(if (l9 C e.stops).length=0 then C.bare i else e.tie):=if_neg hl0
 have e3:UF (yQ C i e) 1=[.sc (.bool e.bar),.sc (.int .i64 e.val),.sc (.bool e.dot),.sc (.bool e.three),.sc (.bool (if (l9 C e.stops).length=0 then C.bare i else e.tie)),.sl 1]:=by rw [← e2];rfl
 rw [e1,e3,h1]
 have e4:dI e=[.sc (.bool e.bar),.sc (.int .i64 e.val),.sc (.bool e.dot),.sc (.bool e.three),.sc (.bool e.tie),.ls 5 (e.stops.map aC)]:=rfl
 rw [e4]
 obtain ⟨SS,hSS⟩:∃ z,e.stops.map aC=z:=⟨_,rfl⟩
 obtain ⟨KK,hKK⟩:∃ z,(e.stops.map C.ch).map Iw=z:=⟨_,rfl⟩
 rw [hSS] at hSl hSa hch ⊢
 rw [hKK] at hKl hKa hch
 obtain ⟨fi,hfi⟩:∃ z,decide (i=0)=z:=⟨_,rfl⟩
 rw [hfi]
 refine jI.intro kV Tryz.func185 rfl Tryz.ntmps185 (bU rfl) rfl fun w0 F0 fp pg hB=>?_
 refine gB ?_
 refine uU ?_
 refine WL.vl rfl (WV.yU (dL _) rfl (ak Tryz.func190 rfl rfl) rfl rfl rfl rfl rfl hch.g) ?_
 refine aqu ?_
 refine xk ?_
 refine W.loop (fun k:Nat=>k≤e.stops.length) (fun k=>⟨[(1,.pt 0 0 0),(2,.sc (.bool fi)),(3,.pt 1 0 0),(6,.pt 2 0 0),(7,.pt 3 0 0),(8,.ls 5 SS),(34,.ls 6 KK),(35,.sc (.int .i64 KK.length)),(36,.sc (.int .i64 k))],[(0,.box 90 [.sc (.bool e.bar),.sc (.int .i64 e.val),.sc (.bool e.dot),.sc (.bool e.three),.sc (.bool e.tie),.sl 4]),(1,.box 203 [.ls 3 (cs.map aF),.ls 1 (st.map eInt),.sc (.bool false),.sc .nilFunc,.fn 190 [.pr L],.sc .nilFunc,.sc .nilFunc]),(2,.box 276 [.sc (.int .i64 0),.sc (.slice none 0 0),.sc (.slice none 0 0)]),(3,.box 276 [.sc (.int .i64 0),.sl 5,.sl 6]),(4,.row 69 5 ((l9 C (e.stops.take k)).map aC)),(5,.row 332 8 ((yS C (e.stops.take k)).map Uf)),(6,.row 4 1 ((yR C (e.stops.take k)).map eBl))],7⟩) (fun k=>e.stops.length - k) 0 au (zqt id) fun k hk=>?_
 have l1:=xM C (e.stops.take k)
 have l2:(e.stops.take k).length=k:=by rw [fP];omega
 have l3:((l9 C (e.stops.take k)).map aC).length=(l9 C (e.stops.take k)).length:=aH _
 have l4:((yS C (e.stops.take k)).map Uf).length=k:=by rw [aH,Ja,l2]
 have l5:((yR C (e.stops.take k)).map eBl).length=k:=by rw [aH,I9,l2]
 by_cases hlt:k < e.stops.length
 ·have n1:=ab7 C hlt
  have n2:=V9 C hlt
  have n3:=V8 C hlt
  have hKk:=hKa k hlt
  have hSk:=hSa k hlt
  have hmk:=hm (C.ch e.stops[k]).1
  have hmm:=hml (C.ch e.stops[k]).1
  obtain ⟨R1,hR1⟩:∃ z,(l9 C (e.stops.take k)).map aC=z:=⟨_,rfl⟩
  obtain ⟨R2,hR2⟩:∃ z,(yS C (e.stops.take k)).map Uf=z:=⟨_,rfl⟩
  obtain ⟨R3,hR3⟩:∃ z,(yR C (e.stops.take k)).map eBl=z:=⟨_,rfl⟩
  rw [hR1] at n1 l3 ⊢
  rw [hR2] at n2 l4 ⊢
  rw [hR3] at n3 l5 ⊢
  clear hR1 hR2 hR3
  obtain ⟨X,hX⟩:∃ z,e.stops[k]=z:=⟨_,rfl⟩
  rw [hX] at n1 n2 n3 hKk hSk hmk hmm
  rw [hmk] at n1 n2
  rw [hmm] at n2
  obtain ⟨Y,lo,hY⟩:∃ Y lo,C.ch X=(Y,lo):=⟨_,_,rfl⟩
  rw [hY] at n1 n2 n3 hKk hmk hmm
  dsimp only at n1 n2 n3
  cases lo with
  | true =>
   exact aq0
  | false =>
   refine ajT ?_
   refine WL.vl rfl (Ad rfl) ?_
   exact aqO
 ·obtain rfl:k=e.stops.length:=by omega
  rw [jH] at l3 l4 l5 ⊢
  by_cases hz:(l9 C e.stops).length=0
  ·rw [if_pos hz]
   cases fi
   all_goals
    refine uU ?_
    refine WL.qo (dL _) [4] rfl rfl (ak Tryz.func238 rfl rfl) hsort rfl rfl rfl ⟨⟨rfl,rfl,rfl⟩,trivial⟩ rfl rfl rfl rfl ?_
    refine ac3 ?_
    first
     | (refine W.tr (σ':=⟨[(6,.pt 2 0 0)],[(0,.box 90 [.sc (.bool e.bar),.sc (.int .i64 e.val),.sc (.bool e.dot),.sc (.bool e.three),.sc (.bool true),.sl 1]),(1,.row 69 5 ((l9 C e.stops).map aC)),(2,.box 276 (NR 0 (yS C e.stops) (yR C e.stops)))],3⟩) (kL (fun q=>bif Nat.beq q 1 then 4 else q) qc rfl) ?_;exact W.ret (Au rfl rfl rfl rfl rfl))
     | (refine W.tr (σ':=⟨[(6,.pt 2 0 0)],[(0,.box 90 [.sc (.bool e.bar),.sc (.int .i64 e.val),.sc (.bool e.dot),.sc (.bool e.three),.sc (.bool false),.sl 1]),(1,.row 69 5 ((l9 C e.stops).map aC)),(2,.box 276 (NR 0 (yS C e.stops) (yR C e.stops)))],3⟩) (kL (fun q=>bif Nat.beq q 1 then 4 else q) qc rfl) ?_;exact W.ret (Au rfl rfl rfl rfl rfl))
  ·rw [if_neg hz]
   refine uU ?_
   refine WL.qo (dL _) [4] rfl rfl (ak Tryz.func238 rfl rfl) hsort rfl rfl rfl ⟨⟨rfl,rfl,rfl⟩,trivial⟩ rfl rfl rfl rfl ?_
   refine ac3 ?_
   refine W.tr (σ':=⟨[(6,.pt 2 0 0)],[(0,.box 90 [.sc (.bool e.bar),.sc (.int .i64 e.val),.sc (.bool e.dot),.sc (.bool e.three),.sc (.bool e.tie),.sl 1]),(1,.row 69 5 ((l9 C e.stops).map aC)),(2,.box 276 (NR 0 (yS C e.stops) (yR C e.stops)))],3⟩) (kL (fun q=>bif Nat.beq q 1 then 4 else q) qc rfl) ?_
   exact jX
theorem arQ (C:Cg) (hm:∀ y,C.mr y=y) (hml:∀ y,C.ml y=[]) (ht:∀ i e,C.tie i e=e.tie) (hba:∀ i,C.bare i=decide (0 < i)) (hcr:∀ x y,C.mv x=some y→y.1=x.1∧y.2.2.2.2=x.2.2.2.2) (cs:List (Int×Int×Bool)) (st:List Int) (hc1:cs.length≤64) (hs1:st.length≤64) (L:List AV)
  (p:aS) (hO:jm p) (h0:aV p=0) (hch:∀ k (hk:k < p.evs.length),aU Tryz.prog 190 [.ls 5 (p.evs[k].stops.map aC),.pr L] (.ls 6 ((p.evs[k].stops.map C.ch).map Iw))) :
  aU Tryz.prog 123 [.ag [.ls 3 (cs.map aF),.ls 1 (st.map eInt),.sc (.bool false),.sc .nilFunc,.fn 190 [.pr L],.sc .nilFunc,.sc .nilFunc],bK p] (.tu [bK ⟨cs,st,jo (pF (lY C p.evs)) (lY C p.evs)⟩,.ls 3 ((NK C (pF (lY C p.evs)) p.evs p.evs.length).map iR)]):=by
 obtain ⟨_,au8,_⟩:=dY h0
 have h20:∀ e∈p.evs,e.stops.length≤20:=fun e he=>by
  exact aaG
 have anf:∀ e∈p.evs,e.stops.Pairwise fun x y=>x.1 < y.1:=fun e he=>by
  exact akY
 have hNl:=fM C p.evs
 have Rh:∀ e∈(lY C p.evs),e.stops.length≤20:=fun e he=>by
  exact aru
 have hLo:=Xp C (pF (lY C p.evs)) p.evs cs st (by omega) h20 (fun y=>by rw [hml];exact gU _) hcr anf
 have hone:∀ k (hk:k < p.evs.length),jI jE 0 Tryz.prog 185 [.ag [.ls 3 (cs.map aF),.ls 1 (st.map eInt),.sc (.bool false),.sc .nilFunc,.fn 190 [.pr L],.sc .nilFunc,.sc .nilFunc],.pt 0 0 0,.sc (.bool (decide (k=0)))] [(0,.box 90 (dI p.evs[k]))] 1 (.ag (NR (AZ C k p.evs[k]) (yS C p.evs[k].stops) (yR C p.evs[k].stops)))
   [(0,.box 90 (UF (yQ C k p.evs[k]) 1)),(1,.row 69 5 ((l9 C p.evs[k].stops).map aC)),(2,.box 276 (NR (AZ C k p.evs[k]) (yS C p.evs[k].stops) (yR C p.evs[k].stops)))] 3:=fun k hk=>by
  have hE:=ji h0 hk
  by_cases hz:p.evs[k].stops=[]
  ·exact ato C ht cs st L k p.evs[k] hz
  ·exact atp C hm hml ht hba hcr cs st L k p.evs[k] hz hE.EK (ape hE.EK fun x hx=>⟨(hE.stops x hx).aT.1,(hE.stops x hx).c14⟩) (hch k hk)
 have hrow1:∀ k (hk:k < p.evs.length),((IB C p.evs).take k).map yK++[NR (AZ C k p.evs[k]) (yS C p.evs[k].stops) (yR C p.evs[k].stops)]=((IB C p.evs).take (k+1)).map yK:=fun k hk=>by
  exact ajY
 have hrow2:∀ k (hk:k < p.evs.length),((lY C p.evs).take k).map bM++[bM (yQ C k p.evs[k])]=((lY C p.evs).take (k+1)).map bM:=fun k hk=>by
  exact akx
 have hAl:(IB C p.evs).length=p.evs.length:=DX _ _
 refine jl Tryz.func123 Tryz.ntmps123 fun w0 F0=>?_;dsimp only [St.init,number,Nat.reduceAdd]
 refine aqx ?_
 refine xk ?_
 refine XC ?_
 refine W.loop (fun k:Nat=>k≤p.evs.length) (fun k=>⟨[(2,.pt 0 0 0),(3,.pt 1 0 0),(4,.pt 2 0 0),(6,.pt 3 0 0),(7,.sl 4),(21,.ls 6 (p.evs.map dI)),(22,.sc (.int .i64 p.evs.length)),(23,.sc (.int .i64 k))],[(0,.box 203 [.ls 3 (cs.map aF),.ls 1 (st.map eInt),.sc (.bool false),.sc .nilFunc,.fn 190 [.pr L],.sc .nilFunc,.sc .nilFunc]),(1,.box 30 [.ls 3 (p.cs.map aF),.ls 1 (p.st.map eInt),.ls 6 (p.evs.map dI)]),(2,.box 30 [.sc (.slice none 0 0),.sc (.slice none 0 0),.sc (.slice none 0 0)]),(3,.box 30 [.ls 3 (cs.map aF),.ls 1 (st.map eInt),.sl 5]),(4,.row 276 3 (((IB C p.evs).take k).map yK)),(5,.jM 90 6 (((lY C p.evs).take k).map bM))],6⟩) (fun k=>p.evs.length - k) 0 (by omega) (zqt id) fun k hk=>?_
 by_cases hlt:k < p.evs.length
 ·have hr1:=hrow1 k hlt
  have hr2:=hrow2 k hlt
  have ho:=hone k hlt
  have l1:(((IB C p.evs).take k).map yK).length=k:=by rw [aH,fP,hAl];omega
  have l2:(((lY C p.evs).take k).map bM).length=k:=by rw [aH,fP,hNl];omega
  obtain ⟨R1,hR1⟩:∃ z,((IB C p.evs).take k).map yK=z:=⟨_,rfl⟩
  obtain ⟨R2,hR2⟩:∃ z,((lY C p.evs).take k).map bM=z:=⟨_,rfl⟩
  exact axg
 obtain rfl:k=p.evs.length:=by omega
 rw [wS (by omega:(IB C p.evs).length≤p.evs.length),wS (by omega:(lY C p.evs).length≤p.evs.length)]
 have asj:((IB C p.evs).map yK).length=p.evs.length:=by rw [aH,hAl]
 obtain ⟨AL,hAL⟩:∃ z,(IB C p.evs).map yK=z:=⟨_,rfl⟩
 rw [hAL] at hLo asj ⊢
 obtain ⟨EV,hEV⟩:∃ z,p.evs.map dI=z:=⟨_,rfl⟩
 rw [hEV]
 have YC:(lY C p.evs).length≤400:=by omega
 clear hone hrow1 hrow2 hAL hEV
 obtain ⟨NW,hNW⟩:∃ z,(lY C p.evs)=z:=⟨_,rfl⟩
 rw [hNW] at hNl Rh hLo YC 
 rw [hNW]
 clear hNW
 obtain ⟨H0,hH0⟩:∃ z,pF NW=z:=⟨_,rfl⟩
 rw [hH0] at hLo
 rw [hH0]
 refine jB ?_
 rw [show NW.map bM=(vP H0 NW 0 0).map bM by rw [apl]]
 refine W.loop (fun n:Nat=>n≤NW.length) (fun n=>⟨[(2,.pt 0 0 0),(4,.pt 2 0 0),(6,.pt 3 0 0),(7,.sl 4),(45,.sc (.int .i64 NW.length)),(46,.sc (.int .i64 n))],[(0,.box 203 [.ls 3 (cs.map aF),.ls 1 (st.map eInt),.sc (.bool false),.sc .nilFunc,.fn 190 [.pr L],.sc .nilFunc,.sc .nilFunc]),(2,.box 30 [.sc (.slice none 0 0),.sc (.slice none 0 0),.sc (.slice none 0 0)]),(3,.box 30 [.ls 3 (cs.map aF),.ls 1 (st.map eInt),.sl 5]),(4,.row 276 3 AL),(5,.jM 90 6 ((vP H0 NW n 0).map bM))],6⟩) (fun n=>NW.length - n) 0 (by omega) (zqt id) fun n hn=>?_
 have hnl:((vP H0 NW n 0).map bM).length=NW.length:=by rw [aH,jw]
 by_cases hlt:n < NW.length
 ·have JH:(vP H0 NW n 0)[n]'(by rw [jw];exact hlt)=NW[n]:=abu hlt
  have hlt2:n < (vP H0 NW n 0).length:=by rw [jw];exact hlt
  have hat:((vP H0 NW n 0).map bM)[n]?=some (bM NW[n]):=by rw [Yn hlt2,JH]
  have ayK:=Rh _ (dS hlt)
  refine aqz ?_
  refine WL.ldQ rfl rfl rfl rfl hat Dc ?_
  refine jB ?_
  refine W.loop (fun j:Nat=>j≤NW[n].stops.length) (fun j=>⟨[(2,.pt 0 0 0),(4,.pt 2 0 0),(6,.pt 3 0 0),(7,.sl 4),(11,.sc (.int .i64 n)),(45,.sc (.int .i64 NW.length)),(46,.sc (.int .i64 n)),(55,.sc (.int .i64 NW[n].stops.length)),(56,.sc (.int .i64 j))],[(0,.box 203 [.ls 3 (cs.map aF),.ls 1 (st.map eInt),.sc (.bool false),.sc .nilFunc,.fn 190 [.pr L],.sc .nilFunc,.sc .nilFunc]),(2,.box 30 [.sc (.slice none 0 0),.sc (.slice none 0 0),.sc (.slice none 0 0)]),(3,.box 30 [.ls 3 (cs.map aF),.ls 1 (st.map eInt),.sl 5]),(4,.row 276 3 AL),(5,.oW 90 6 ((vP H0 NW n 0).map bM) n 5 (.sl 6)),(6,.row 69 5 ((NI H0 n j NW[n].stops).map aC))],7⟩) (fun j=>NW[n].stops.length - j) 0 (by omega) (kL (fun q=>q) aqi rfl) fun j hj=>?_
  have hjl:((NI H0 n j NW[n].stops).map aC).length=NW[n].stops.length:=by rw [aH,IW]
  by_cases hjt:j < NW[n].stops.length
  ·have hKj:=abq (H:=H0) (n:=n) hjt
   have hput:=abr (H:=H0) (n:=n) hjt
   have hkl:=IW H0 n j NW[n].stops
   have hkc:=abp H0 n j NW[n].stops
   have ang:H0 n NW[n].stops[j]=if NW[n].stops[j].2.1=0 then 0 else min NW[n].stops[j].2.2.2.2 (ah NW n NW[n].stops[j].1:Int):=by rw [← hH0];rfl
   have agP:∀ K:List Stp,K.length=NW[n].stops.length→K.map (fun x=>x.1)=NW[n].stops.map (fun x=>x.1)→∀ c,aU Tryz.prog 95 [.ag [.ls 3 (cs.map aF),.ls 1 (st.map eInt),.ls 6 ((Q7 (vP H0 NW n 0) n K).map dI)],.sc (.int .i64 n),.sc (.int .i64 c)] (.sc (.int .i64 (ah NW n c))):=fun K hK hKc c=>by
    have h:=Xo ⟨cs,st,Q7 (vP H0 NW n 0) n K⟩ ⟨hc1,hs1,by show (Q7 (vP H0 NW n 0) n K).length≤420;rw [abj,jw];omega,fun k hk=>ags hlt2 (by omega) (agB Rh n 0) _ (dS _)⟩ n c
    rw [show ah (aS.mk cs st (Q7 (vP H0 NW n 0) n K)).evs n c=ah NW n c from xC ((abh hlt2 (by rw [JH];exact hKc)).trans (abw H0 NW n 0)) n c] at h
    exact h
   exact axb
  exact aqY
 obtain rfl:n=NW.length:=by omega
 rw [abv] at hnl ⊢
 refine jB ?_
 refine WL.vl rfl (Ad rfl) ?_
 refine jB ?_
 refine W.tr (Tr.abz 5 1 rfl (List.all_eq_true.2 fun r hr=>List.all_eq_true.2 (ni _ r hr)) (sG _)) ?_
 refine aqA ?_
 refine ajU ?_
 refine mO.st rfl rfl ?_
 refine mO.v0 rfl (bZ Tryz.func188 hLo) ?_
 refine ajI ?_
 refine mO.st rfl rfl ?_
 refine mO.nil ?_
 refine XC ?_
 exact W.ret (Yt rfl rfl rfl rfl)
theorem UW {cs:List (Int×Int×Bool)} {c:Int} (h:1≤c∧c≤cs.length):(cs.map aF)[(c-1).toNat]?=some [.sc (.int .i64 (cs.getD (c.toNat-1) (0,0,false)).1),.sc (.int .i64 (dJ cs c)),.sc (.bool (cs.getD (c.toNat-1) (0,0,false)).2.2)]:=by
 have hk:c.toNat-1<cs.length:=by omega
 rw [show (c-1).toNat=c.toNat-1 by omega,bT,aI hk]
 unfold dJ
 rw [oP,aI hk];rfl
theorem af9 (p:aS) (f:Int) (x:Stp) (hx:1≤x.1∧x.1≤p.cs.length) (hl:p.cs.length≤64) (hf:0≤f∧f≤18) (hy:0≤x.2.1∧x.2.1≤18) :
  jI jE 0 Tryz.prog 126 [.pt 0 0 0,.pr [.ls 3 (p.cs.map aF),.ls 1 (p.st.map eInt),.ls 6 (p.evs.map dI)],.pr [.sc (.int .i64 f)]] [(0,.box 69 (aC x))] 1 (.sc (.bool (!decide (Dp p.cs f x < 0))))
   [(0,.box 69 (aC (x.1,Dp p.cs f x,x.2.2)))] 1:=by
 have hrow:=UW hx
 have hCl:(p.cs.map aF).length=p.cs.length:=aH _
 have hE:aC x=[.sc (.int .i64 x.1),.sc (.int .i64 x.2.1),.sc (.int .i64 x.2.2.1),.sc (.int .i64 x.2.2.2.1),.sc (.int .i64 x.2.2.2.2)]:=rfl
 rw [hE]
 have hE2:∀ z:Int,aC (x.1,z,x.2.2)=[.sc (.int .i64 x.1),.sc (.int .i64 z),.sc (.int .i64 x.2.2.1),.sc (.int .i64 x.2.2.2.1),.sc (.int .i64 x.2.2.2.2)]:=fun _=>rfl
 rw [hE2]
 obtain ⟨CS,hCS⟩:∃ z,p.cs.map aF=z:=⟨_,rfl⟩
 rw [hCS] at hrow hCl ⊢
 by_cases hg:0 < dJ p.cs x.1
 ·rw [show Dp p.cs f x=x.2.1 - f from if_pos hg]
  obtain ⟨F,hF⟩:∃ z,dJ p.cs x.1=z:=⟨_,rfl⟩
  rw [hF] at hrow hg
  have hb:(!decide (x.2.1 - f < 0))=decide (0≤x.2.1 - f):=by
   by_cases h:x.2.1 - f < 0
   ·rw [dG h,cZ (by omega)];rfl
   ·rw [cZ h,dG (by omega)];rfl
  rw [hb]
  refine jI.intro kV Tryz.func126 rfl Tryz.ntmps126 (bU rfl) rfl fun w0 F0 fp pg hB=>?_
  refine aqI ?_
  refine awV ?_
  refine W.rD bD ?_
  refine WA.dt [false,false,false,false,false,false,false,false,true] [] [0] 8 bD bD bD trivial ⟨rfl,trivial⟩ ?_
  refine TJ ?_
  refine QA ?_
  refine Df ?_
  refine TJ ?_
  refine aZ.ar rfl bD rfl zW ?_
  refine QA ?_
  refine TJ ?_
  refine aZ.yT rfl rfl rfl rfl rfl rfl rfl rfl rfl rfl rfl rfl rfl rfl trivial (fun h=>by cases h) ?_
  refine aZ.nil ?_
  refine awW ?_
  exact jX
 ·rw [show Dp p.cs f x=x.2.1 from if_neg hg]
  obtain ⟨F,hF⟩:∃ z,dJ p.cs x.1=z:=⟨_,rfl⟩
  rw [hF] at hrow hg
  have hb:(!decide (x.2.1 < 0))=true:=by rw [cZ (by omega)];rfl
  rw [hb]
  refine jI.intro kV Tryz.func126 rfl Tryz.ntmps126 (bU rfl) rfl fun w0 F0 fp pg hB=>?_
  refine aqI ?_
  refine awX ?_
  exact jX
def amG (p:aS)(f:Int):List AV:=[.fn 126 [.pr [.ls 3 (p.cs.map aF),.ls 1 (p.st.map eInt),.ls 6 (p.evs.map dI)],.pr [.sc (.int .i64 f)]]]
theorem anU (p:aS) (f:Int) (l:List Stp) (hl:l.length≤20) (hc:p.cs.length≤64) (hf:0≤f∧f≤18) (hb:∀ k (h:k < l.length),(1≤l[k].1∧l[k].1≤p.cs.length)∧(0≤l[k].2.1∧l[k].2.1≤18)) :
  aU Tryz.prog 190 [.ls 5 (l.map aC),.pr (amG p f)] (.ls 6 ((l.map (BN p.cs f).ch).map Iw)):=by
 show aU Tryz.prog 190 [.ls 5 (l.map aC),.pr [.fn 126 [.pr [.ls 3 (p.cs.map aF),.ls 1 (p.st.map eInt),.ls 6 (p.evs.map dI)],.pr [.sc (.int .i64 f)]]]] _
 refine jl Tryz.func190 Tryz.ntmps190 fun w0 F0=>?_;dsimp only [St.init,number,Nat.reduceAdd]
 refine zS ?_
 refine W.tr (Tr.nil (t:=4) 206 6 rfl rfl) ?_
 refine xk ?_
 refine zS ?_
 refine W.loop (fun k:Nat=>k≤l.length) (fun k=>⟨[(1,.pr [.fn 126 [.pr [.ls 3 (p.cs.map aF),.ls 1 (p.st.map eInt),.ls 6 (p.evs.map dI)],.pr [.sc (.int .i64 f)]]]),(4,.sl 0),(8,.ls 5 (l.map aC)),(9,.sc (.int .i64 l.length)),(10,.sc (.int .i64 k))],[(0,.row 206 6 (((l.take k).map (BN p.cs f).ch).map Iw))],1⟩) (fun k=>l.length - k) 0 au (zqt id) fun k hk=>?_
 by_cases hlt:k < l.length
 ·obtain ⟨h1,h2⟩:=hb k hlt
  have hC:=af9 p f l[k] h1 hc hf h2
  have hrow:((l.take k).map (BN p.cs f).ch).map Iw++[Iw ((l[k].1,Dp p.cs f l[k],l[k].2.2),decide (Dp p.cs f l[k] < 0))]=((l.take (k+1)).map (BN p.cs f).ch).map Iw:=by
   exact QH
  have hRl:(((l.take k).map (BN p.cs f).ch).map Iw).length=k:=by rw [aH,aH,fP];omega
  obtain ⟨R,hR⟩:∃ z,((l.take k).map (BN p.cs f).ch).map Iw=z:=⟨_,rfl⟩
  rw [hR] at hrow hRl ⊢
  obtain ⟨Z,hZ⟩:∃ z,Dp p.cs f l[k]=z:=⟨_,rfl⟩
  rw [hZ] at hC hrow
  obtain ⟨b,hb2⟩:∃ b,decide (Z < 0)=b:=⟨_,rfl⟩
  rw [hb2] at hC hrow
  have hbb:!(!b)=b:=by cases b<;>rfl
  cases b
  all_goals
   refine jW ?_
   refine WL.qo (dL _) [1] rfl rfl (ak Tryz.func126 rfl rfl) hC rfl rfl rfl ⟨⟨rfl,rfl,rfl⟩,trivial⟩ rfl rfl rfl rfl ?_
   refine jW ?_
   exact ⟨k+1,by omega,by omega,(kL (fun q=>bif Nat.beq q 0 then 3 else q) aaz rfl)⟩
 ·exact aj7
end
end Go.Proofs.YthehkchjdkdbiaaGreatDoor
