/- A walk that knows values as trees: a function that defers one function literal, which recovers. -/
import Derived.Test.YthohlofpphjofaaGreatDoorGaGq
import Derived.Test.YthohlofpphjofaaGreatDoorEdiGq
set_option maxHeartbeats 8000000
set_option maxRecDepth 100000
set_option linter.unusedVariables false
set_option linter.unusedSimpArgs false
namespace Go.Proofs.YthohlofpphjofaaGreatDoor
theorem adS {p:Prop}(h:p:=by
 have:=CY h2
 have:=h.1
 rw [bJ,EP];omega):p:=h
theorem FW {p:Prop}(h:p:=by
 refine AY ?_
 exact W.ret vJ):p:=h
section
open Go.RowKit
theorem um (b:List En) (hB:Na b):Ctr Tryz.prog 28 [Vb b] (.sc (.int .i64 (vN b))):=by
 have hn:=hB.n
 by_cases h64:b.length > 64
 ·have e:vN b=2:=if_pos h64
  rw [e]
  refine jc Tryz.func28 Tryz.ntmps28 fun w0 F0=>?_;dsimp only [St.init,number,Nat.reduceAdd]
  exact FW
 refine jc Tryz.func28 Tryz.ntmps28 fun w0 F0=>?_;dsimp only [St.init,number,Nat.reduceAdd]
 refine AY ?_
 refine W.loop (fun k:Nat=>k≤b.length∧∀ i (hi:i < k) (h:i < b.length),wG b i b[i]=0) (fun k=>⟨[(1,.pt 0 0 0),(13,.ls 5 (b.map sJ)),(14,.sc (.int .i64 b.length)),(15,.sc (.int .i64 k))],[(0,.box 47 [.ls 5 (b.map sJ)])],1⟩) (fun k=>b.length - k) 0 ⟨by omega,fun i hi=>by omega⟩ (zqt id) fun k hk=>?_
 obtain ⟨hk,hgood⟩:=hk
 by_cases hlt:k < b.length
 rotate_left
 ·rw [Z9 (by omega) fun i hi=>hgood i (by omega) hi]
  exact FW
 have hO:=hB.p k hlt
 have ht:=hB.t k hlt
 have Bz:wG b k b[k]≠0→vN b=wG b k b[k]:=fun h=>ajq aj hlt (fun j hj=>hgood j hj aj) h
 have hNext:wG b k b[k]=0→∀ i (hi:i < k+1) (h:i < b.length),wG b i b[i]=0:=fun h0 i hi h=>by
  by_cases e:i=k
  ·subst e;exact h0
  ·exact hgood i aj h
 have hT:=Iy b[k].t aj
 have hH:=IY b b[k].t aj
 have hlt2:iP b b[k].t < b.length:=by
  rcases qJ k (iP b b[k].t) with h|h
  ·have:=kF h hlt
   simp at this
  ·omega
 have hti:TV b b[k].t=(iP b b[k].t:Int):=if_pos hlt2
 rw [hti] at hH
 have hC:=uZ b[k].p hO
 have XK:=BQ b[k].s b[k].p hO
 unfold wG at Bz hNext
 refine AY ?_
 obtain ⟨e,he⟩:∃ e,b[k]=e:=⟨_,rfl⟩
 simp only [he] at hT hH hC XK Bz hNext hO ht hlt2 ⊢
 refine WL.vl rfl (bU Tryz.func71 hT) ?_
 cases hto:iH e.t with
 | false =>
  rw [Bz (by rw [if_pos (.inl hto)];decide),if_pos (.inl hto)]
  exact FW
 | true =>
  refine AY ?_
  refine WL.vl rfl (bU Tryz.func72 hH) ?_
  by_cases hd:iP b e.t < k
  ·rw [Bz (by rw [if_pos (.inr hd)];decide),if_pos (.inr hd)]
   exact FW
  have hA:¬ (iH e.t=false∨iP b e.t < k):=by rintro (h|h);rw [hto] at h;cases h;exact hd h
  rw [if_neg hA] at Bz hNext
  refine AY ?_
  by_cases hs:1≤e.s∧e.s≤4
  rotate_left
  ·rw [Bz (by rw [if_pos hs];decide),if_pos hs]
   refine WL.vl rfl (WV.call rfl (callF Tryz.func73 rfl rfl) rfl rfl (rU e.s hs)) ?_
   exact FW
  rw [if_neg (fun h=>h hs)] at Bz hNext
  refine WL.vl rfl (WV.call rfl (callF Tryz.func73 rfl rfl) rfl rfl (jk e.s hs)) ?_
  refine AY ?_
  refine WL.vl rfl (bU Tryz.func51 hC) ?_
  by_cases h0:aO e.p=0
  rotate_left
  ·rw [if_pos h0] at Bz
   rw [Bz h0]
   obtain ⟨E,hE⟩:∃ E,aO e.p=E:=⟨_,rfl⟩
   rw [hE] at h0 ⊢
   exact FW
  rw [if_neg (fun h=>h h0)] at Bz hNext
  have hlE:=(mQ hs h0).2
  rw [h0]
  rw [hlE] at XK
  refine AY ?_
  by_cases hl:jB e.s e.p=[]
  ·have hb:((0:Int) == 0 && ((jB e.s e.p).length:Int) == 0)=true:=by rw [hl];rfl
   rw [hb] at XK
   rw [if_pos hl] at hNext
   refine WL.vl rfl (bU Tryz.func19 XK) ?_
   refine AY ?_
   exact ⟨k+1,⟨by omega,hNext rfl⟩,by omega,(zqt id)⟩
  ·have hb:((0:Int) == 0 && ((jB e.s e.p).length:Int) == 0)=false:=by
    have:(jB e.s e.p).length≠0:=fun h=>hl (kU h)
    simp;omega
   rw [hb] at XK
   rw [if_neg hl] at Bz
   rw [Bz (by decide)]
   refine WL.vl rfl (bU Tryz.func19 XK) ?_
   exact FW
def CtoD (P:Program)(f:FuncId)(args:List AV)(M:List (Nat×AO))(nk:Nat)(u u':FrameMode)(M':List (Nat×AO)):Prop :=
 ∀ (w:World)(G:Gh)(vs:List Value),Obs G w M nk→vs.length=args.length→(∀ (i:Nat) av u,args[i]?=some av→vs[i]?=some u→R G av u) →
  CallsD P f vs.toArray u w fun e u2 w'=>u2=u'∧∃ v G',e=.returned v∧Kept (fpM G M) w w'∧View.le G.F G'.F∧(∀ p u,G'.F p=some u→G.F p=some u∨w.heap.size≤p.block∨fpM G M p.block)∧Obs G' w' M' nk ∧
   (∀ k o x,look k M'=some o→G'.fp k x→w.heap.size≤x∨fpM G M x)∧(∀ k,k<nk→G'.b k=G.b k∧G'.n k=G.n k∧G'.h k=G.h k)
theorem CtoD.intro {P:Program} {f:FuncId} {fn:Func} {id:Nat} {o:Oper} {d:Tmp} {c:Code} {args:List AV} {M:List (Nat×AO)} {nk:Nat} {res:AV} {M':List (Nat×AO)} {u u':FrameMode} {rv:Value} (hf:P.funcs[f]?=some fn) (hb:fn.body=some (.seq (.region id #[o] false) c)) {N:Nat} (hN:fn.ntmps=N) (hn:args.length≤N)
  (hp:args.all (AV.inn nk)=true) (hg:o.guard=none) (hd:o.dst=some d) (hdN:Nat.blt d N=true) (ho:∀ (a:Act) w,(execOp a.eval o).run P w=.ok .recover w)
  (hrec:∀ (c₀:Frame) (cs:List Frame),c₀.mode=u→recoverD (c₀::cs)=some (rv,{ c₀ with mode:=u' }::cs)∨(recoverD (c₀::cs)=none∧rv=.nilIface∧u'=u))
  (h:∀ w0 F0 fp pg,W P ⟨w0,F0,N,fp,nk,pg,[]⟩ c ⟨(d,.sc rv)::number 0 args,M,nk⟩ (QFinM P fn ⟨w0,F0,N,fp,nk,pg,[]⟩ res M' nk)):CtoD P f args M nk u u' M':=by
 intro w G vs hO hl hR
 subst hN
 refine callsD_of_wpS hf hb fun c₀ cs hu=>?_
 refine wpS_seq (wpS_region ?_)
 have ok0:Ok ⟨w,G.F,fn.ntmps,fpM G M,nk,G,[]⟩ ⟨number 0 args,M,nk⟩ G { tmps:=vs.toArray++Array.replicate (fn.ntmps - vs.toArray.size) undef,defers:=[] } w :=
  ⟨by simp;omega,⟨rfl,Nat.le_refl _,fun k _=>⟨rfl,rfl,rfl⟩⟩,fun i av hx=>by
   obtain ⟨_,h2⟩:=look_number args 0 i av hx
   simp only [EW] at h2
   have hi:i < args.length:=(List.getElem?_eq_some_iff.1 h2).1
   have hv:i < vs.length:=by omega
   refine ⟨by show i < fn.ntmps;omega,inn_bd (List.all_eq_true.1 hp av (aY h2)),hR i av _ h2 ?_⟩
   simp [bV,yL,hv],
   Kept.refl _ _,hO.fw,fun _ _ h=>h,fun _ _ h=>.inl h,hO.ob,(fun k o x h1 h2=>⟨.inr ⟨k,o,h1,h2⟩,hO.my k o x h1 h2⟩),hO.dj,hO.dF⟩
 have ok1:=ok0.set (d:=some d) (av:=.sc rv) (v:=rv) (.pu _ _ (.sc _)) (.sc _) (fun x hx=>by cases hx;exact of_blt hdN)
 have h1:=h w G.F (fpM G M) G G _ w ok1
 have hw:∀ y,Region.wanted o y=true:=fun y=>by unfold Region.wanted;rw [hg]
 have hfin:∀ u2,u2=u'→Code.wpS P c (bodyPostS P fn c₀ cs fun e u2 w'=>u2=u'∧∃ v G',e=.returned v∧Kept (fpM G M) w w'∧View.le G.F G'.F∧(∀ p u,G'.F p=some u→G.F p=some u∨w.heap.size≤p.block∨fpM G M p.block)∧Obs G' w' M' nk ∧
   (∀ k o x,look k M'=some o→G'.fp k x→w.heap.size≤x∨fpM G M x)∧(∀ k,k < nk→G'.b k=G.b k∧G'.n k=G.n k∧G'.h k=G.h k))
   (({ tmps:=vs.toArray++Array.replicate (fn.ntmps - vs.toArray.size) undef,defers:=[] }:Act).put o.dst rv) ({ c₀ with mode:=u2 }::cs) w:=fun u2 e2=>by
  subst e2
  rw [hd]
  refine wpS_of_wp (wp_mono h1 fun e a w' ⟨σ,G1,⟨he,hfin⟩,ok⟩=>?_)
  obtain ⟨v,G',hr,ok',hbd,hres⟩:=hfin G1 a w' ok
  rcases he with rfl|rfl
  all_goals
   exact ⟨ok'.df.1,_,rfl,v,hr,rfl,v,G',rfl,ok'.bel,ok'.f0,ok'.f1,⟨ok'.fw,ok'.ob,fun k o x h1 h2=>(ok'.my k o x h1 h2).2,ok'.dj,ok'.dF⟩,fun k o x h1 h2=>(ok'.my k o x h1 h2).1,ok'.df.2.2⟩
 show wpOpsS P #[o] _ [0] _ _ _
 unfold wpOpsS
 simp only [Uh,List.getElem?_cons_zero,hw,if_true,ho]
 rcases hrec c₀ cs hu with e|⟨e,rfl,e2⟩
 ·rw [e]
  exact hfin _ rfl
 ·rw [e]
  exact hfin c₀.mode (hu.trans e2.symm)
def mdOf:Exit→Option FrameMode
 | .normal|.ret=>some .returning
 | .panic ch=>some (.panicking ch)
 | _=>none
section
variable {P:Program} {C:Cx} {σ:St} {G:Gh} {a:Act} {w:World}
theorem wp_dfr (ok:Ok C σ G a w) (hds:C.ds=[]) {id:Nat} {o1 o2:Oper} {Q:Exit→Act→World→Prop} {f:FuncId} {xs:Array Operand} {caps:List AV} {d1:Tmp} (hg1:o1.guard=none) (ho1:o1.op=.makeFunc (.func f) #[] xs) (hd1:o1.dst=some d1) (hN:Nat.blt d1 C.N=true) (hx:σ.evs xs.toList=some caps)
  (hg2:o2.guard=none) (ho2:o2.op=.defer { callee:=.value (.tmp d1),args:=#[],argTypes:=#[] }) (hd2:o2.dst=none)
  (h:∀ G' a' w' cs,Ok ⟨C.w0,C.F0,C.N,C.fp,σ.nk,G',[⟨.fn (.func f) cs,#[]⟩]⟩ (σ.put d1 (.fn f caps)) G' a' w'→cs.size=caps.length→(∀ (i:Nat) av u,caps[i]?=some av→cs[i]?=some u→R G' av u)→Q .normal a' w') (hfl:Nat.blt f 1000000=true) :
  (Code.region id #[o1,o2] false).wp P Q a w:=by
 refine wp_region_lit (l:=[o1,o2]) ?_
 refine wpList_plain hg1 fun K hK=>?_
 refine WO.of_wv hd1 hN (WV.mkf ho1 hx hfl) G a w ok K _ fun G' a' w' ok'=>hK _ _ ?_
 refine wpList_plain hg2 fun K' hK'=>?_
 have hs:(σ.put d1 (.fn f caps)).ev (.tmp d1)=some (.fn f caps):=look_set_same
 obtain ⟨cs,e,h1,h2⟩:=(ok'.evr hs).2.fn_of
 rw [fnV_lo hfl] at e
 refine fU ?_
 have e3:(#[]++(#[]:Array Operand).map a'.eval:Array Value)=#[]:=by simp
 simp only [ho2,resolve,e,Deferred.ofValue,Sem.run_bind,Sem.run_pure,Result.andThen_ok,Oper.upon,e3]
 refine hK' _ _ (wpList_nil ?_)
 refine h G' _ w' cs ?_ h1 h2
 rw [hd2]
 exact ⟨ok'.sz,⟨by show _::a'.defers=_;rw [ok'.df.1,hds],Nat.le_refl _,fun k _=>⟨rfl,rfl,rfl⟩⟩,ok'.tm,ok'.bel,ok'.fw,ok'.f0,ok'.f1,ok'.ob,ok'.my,ok'.dj,ok'.dF⟩
theorem Ok.afterD {T:List (Nat×AV)} {Mi Mf:List (Nat×AO)} {nk:Nat} {w':World} {G':Gh} (ok:Ok C ⟨T,Mi,nk⟩ G a w) (h1:Kept (fpM G Mi) w w') (h2:View.le G.F G'.F) (h3:∀ p u,G'.F p=some u→G.F p=some u∨w.heap.size≤p.block∨fpM G Mi p.block) (h4:Obs G' w' Mf nk)
  (h5:∀ k o x,look k Mf=some o→G'.fp k x→w.heap.size≤x∨fpM G Mi x) (h6:∀ k,k<nk→G'.b k=G.b k∧G'.n k=G.n k∧G'.h k=G.h k):Ok C ⟨T,Mf,nk⟩ G' a w':=by
 have hmay:∀ x,w.heap.size≤x∨fpM G Mi x→C.may x:=fun x hx=>hx.elim (fun h=>.inl (iD ok.bel.size h)) fun ⟨k,o,g1,g2⟩=>(ok.my k o x g1 g2).1
 have hle:G.le G' nk:=⟨h2,fun k hk=>(h6 k hk).1,fun k hk=>(h6 k hk).2.1,fun k hk=>(h6 k hk).2.2⟩
 refine ⟨ok.sz,⟨ok.df.1,ok.df.2.1,fun k hk=>?_⟩,fun i av h=>?_,ok.bel.on h1 fun x hx=>hmay x (.inr hx),h4.fw,fun p u x=>h2 p u (ok.f0 p u x),fun p u x=>?_,h4.ob,fun k o x g1 g2=>⟨hmay x (h5 k o x g1 g2),h4.my k o x g1 g2⟩,h4.dj,h4.dF⟩
 ·obtain ⟨g1,g2,g3⟩:=ok.df.2.2 k hk
  obtain ⟨e1,e2,e3⟩:=h6 k (jr hk ok.df.2.1)
  exact ⟨e1.trans g1,e2.trans g2,e3.trans g3⟩
 ·obtain ⟨g1,g2,g3⟩:=ok.tm i av h
  exact ⟨g1,g2,g3.mono hle g2⟩
 ·rcases h3 p u x with g|g
  ·exact ok.f1 p u g
  ·exact .inr (hmay _ g)
end
def isPt(n:Nat):AV→Bool
 | .pt k _ _=>Nat.blt k n
 | _=>false
theorem Ctg.introD {B:World→View→Prop} {g:Nat} (hS:Stab B g) {P:Program} {f fD:FuncId} {fn:Func} {c0 c1 c2:Code} {id:Nat} {o1 o2:Oper} {args caps:List AV} {res:AV} {xs:Array Operand} {d1:Tmp} {σ0 σ1:St} {T:List (Nat×AV)} {Mi Mf:List (Nat×AO)} {u u':FrameMode} {nk:Nat} (hf:P.funcs[f]?=some fn) (hb:fn.body=some (c0.seq (c1.seq ((Code.region id #[o1,o2] false).seq c2)))) {N:Nat} (hN:fn.ntmps=N) (hn:args.length≤N) (hp:∀ (i:Nat) av,args[i]?=some av→Bd 0 av)
  (hg1:o1.guard=none) (ho1:o1.op=.makeFunc (.func fD) #[] xs) (hd1:o1.dst=some d1) (hdN:Nat.blt d1 N=true) (hx:σ1.evs xs.toList=some caps) (hg2:o2.guard=none) (ho2:o2.op=.defer { callee:=.value (.tmp d1),args:=#[],argTypes:=#[] }) (hd2:o2.dst=none) (hnk:σ1.nk=nk) (hcap:caps.all (isPt nk)=true)
  (hcf:∀ vs w,(callFunc fD vs).run P w=.ok (.enter fD vs) w)
  (h0:∀ w0 F0,Holds B g ⟨w0,F0,N,fun _=>False,0,G0,[]⟩→W P ⟨w0,F0,N,fun _=>False,0,G0,[]⟩ c0 (St.init args) (fun e s=>e=.normal∧Tr ⟨w0,F0,N,fun _=>False,0,G0,[]⟩ s σ0))
  (h1:∀ w0 F0,Holds B g ⟨w0,F0,N,fun _=>False,0,G0,[]⟩→W P ⟨w0,F0,N,fun _=>False,0,G0,[]⟩ c1 σ0 (fun e s=>e=.normal∧Tr ⟨w0,F0,N,fun _=>False,0,G0,[]⟩ s σ1))
  (h2:∀ w0 F0 pg ds,Holds B g ⟨w0,F0,N,fun _=>False,nk,pg,ds⟩→W P ⟨w0,F0,N,fun _=>False,nk,pg,ds⟩ c2 (σ1.put d1 (.fn fD caps)) (fun e s=>mdOf e=some u∧Tr ⟨w0,F0,N,fun _=>False,nk,pg,ds⟩ s ⟨T,Mi,nk⟩))
  (hD:CtoD P fD caps Mi nk u u' Mf) (hs:settle u'=.returning) (hR:∀ C,Fin P fn C ⟨T,Mf,nk⟩ res) (hfl:Nat.blt fD 1000000=true:=by rfl):Ctg B P f args res:=by
 intro w F vs hB hF hRL
 subst hN hnk
 refine calls_of_wp_defers hf hb ?_
 have hsz:vs.toArray.size=args.length:=by simpa using hRL.1
 have hH:∀ np pg ds,Holds B g ⟨w,F,fn.ntmps,fun _=>False,np,pg,ds⟩:=fun np pg ds=>⟨fun w2 F2 k1 k2=>hS.2 w w2 F F2 (fun i hi=>k1.block i (jr hi (hS.1 w F hB)) fun h=>h) k2 hB,fun x hx=>hx.elim (fun h=>iD (hS.1 w F hB) h) fun h=>h.elim⟩
 have ok0:Ok ⟨w,F,fn.ntmps,fun _=>False,0,G0,[]⟩ (St.init args) ⟨F,fun _=>0,fun _=>0,fun _=>undef,fun _ _=>False⟩ { tmps:=vs.toArray++Array.replicate (fn.ntmps - vs.toArray.size) undef,defers:=[] } w :=
  ⟨by simp;have:=hRL.1;omega,⟨rfl,Nat.le_refl _,fun k hk=>absurd hk (ED k)⟩,fun i av hx=>by
   obtain ⟨_,h2⟩:=look_number args 0 i av hx
   simp only [EW] at h2
   have hi:i < args.length:=(List.getElem?_eq_some_iff.1 h2).1
   have hv:i < vs.length:=by rw [hRL.1];exact hi
   refine ⟨by show i < fn.ntmps;omega,hp i av h2,.pu _ _ (hRL.2 i av _ h2 ?_)⟩
   simp [bV,yL,hv],
   Kept.refl _ _,hF,fun _ _ h=>h,fun _ _ h=>.inl h,(fun k o h=>by cases h),(fun k o x h=>by cases h),(fun k o k' o' x h=>by cases h),(fun k o x p u h=>by cases h)⟩
 refine wp_seq (wp_mono (h0 w F (hH _ _ _) _ _ _ ok0) fun e a1 w1 ⟨s1,G1',⟨he,hs1⟩,ok1'⟩=>?_)
 subst he
 obtain ⟨G1,ok1⟩:=hs1 _ _ _ ok1'
 refine wp_seq (wp_mono (h1 w F (hH _ _ _) _ _ _ ok1) fun e a2 w2 ⟨s2,G2',⟨he,hs2⟩,ok2'⟩=>?_)
 subst he
 obtain ⟨G2,ok2⟩:=hs2 _ _ _ ok2'
 refine wp_seq (wp_dfr ok2 rfl hg1 ho1 hd1 hdN hx hg2 ho2 hd2 (fun G3 a3 w3 cs ok3 hcs hcR=>?_) hfl)
 refine wp_mono (h2 w F G3 _ (hH _ _ _) G3 a3 w3 ok3) fun e a4 w4 ⟨s4,G4,⟨he,htr⟩,ok4⟩=>?_
 obtain ⟨G5,ok5⟩:=htr G4 a4 w4 ok4
 have hun:u≠.run:=by
  intro e2;subst e2;cases e<;>cases he
 have hl:Leaves P fn a4.tmps (fun e w'=>∃ v F',e=.returned v∧Below w.heap.size w w'∧View.le F F'∧(∀ p u,F' p=some u→w'.cell? p=some u)∧(∀ p u,F' p=some u→F p=some u∨w.heap.size≤p.block)∧RP F' res v) a4.defers u w4:=by
  rw [ok5.df.1]
  refine leaves_cons (f:=fD) (args:=cs) hun ?_ ?_
  ·simp [invoke,hcf]
  have hO:Obs G5 w4 Mi σ1.nk:=⟨ok5.fw,ok5.ob,fun k o x g1 g2=>(ok5.my k o x g1 g2).2,ok5.dj,ok5.dF⟩
  have hRc:∀ (i:Nat) av u,caps[i]?=some av→cs.toList[i]?=some u→R G5 av u:=fun i av u g1 g2=>by
   have r:=hcR i av u g1 (by simpa using g2)
   have hpt:=List.all_eq_true.1 hcap av (aY g1)
   cases av with
   | pt k i j =>
    have hk:k < σ1.nk:=of_blt hpt
    obtain ⟨p,rfl,e1,e2,e3⟩:=r.pt_of
    obtain ⟨q1,q2,_⟩:=ok5.df.2.2 k hk
    exact .pt k i j p (e1.trans q1.symm) (e2.trans (by rw [q2])) e3
   | _=>cases hpt
  have hc:=hD w4 G5 cs.toList hO (by simpa using hcs) hRc
  rw [Array.toArray_toList] at hc
  refine hc.mono fun e2 u2 w5 ⟨hu2,v,G6,he2,k1,k2,k3,k4,k5,k6⟩=>?_
  subst hu2 he2
  show Leaves P fn a4.tmps _ [] (settle u2) w5
  rw [hs]
  have ok6:=ok5.afterD k1 k2 k3 k4 k5 k6
  obtain ⟨v,F',hr,hle,hfw,hnew,hres⟩:=hR _ G6 a4 w5 ok6
  exact ⟨v,hr,v,F',rfl,ok6.bel.to_below (fun _ h=>h),fun p u x=>hle p u (ok6.f0 p u x),hfw,fun p u x=>(hnew p u x).elim (fun y=>(ok6.f1 p u y).elim .inl fun z=>.inr (z.elim (fun h=>h) fun h=>h.elim)) fun z=>.inr (z.elim (fun h=>h) fun h=>h.elim),hres⟩
 cases e with
 | normal=>cases he;exact hl
 | ret=>cases he;exact hl
 | panic ch=>cases he;exact hl
 | _=>cases he
end
end Go.Proofs.YthohlofpphjofaaGreatDoor
