/- A piece carried over: the result is valid; the holds that a system lacks; where a stop is found again. Plain. -/
import Derived.Lib.AtoiAll
import Derived.Shelf.Strings.OnBuilder
import Derived.Test.YthehkchjdkdbiaaGreatDoorGdKq
set_option maxHeartbeats 8000000
set_option maxRecDepth 100000
set_option linter.unusedVariables false
set_option linter.unusedSimpArgs false
namespace Go.Proofs.YthehkchjdkdbiaaGreatDoor
theorem XK {p:Prop}(h:p:=by rw [he];exact r):p:=h
theorem ajE {p:Prop}(h:p:=by rw [Tz,Tz,h]):p:=h
section
variable {p:Prop}
theorem ald(h:p:=by
 show σ.nk≤ny 0
 rw [n0];exact bU hn):p:=h
theorem ala(h:p:=by
 rename_i h;obtain⟨a,b⟩:=Ee h;exact⟨1,by omega,rfl,a,b⟩):p:=h
theorem ak9(h:p:=by
 rename_i h;obtain⟨a,b⟩:=Ee h;exact⟨2,by omega,rfl,a,b⟩):p:=h
theorem ak8(h:p:=by
 rename_i h;obtain⟨a,b⟩:=Ee h;exact⟨3,by omega,rfl,a,b⟩):p:=h
theorem ak5(h:p:=by
 rw [e1,iw,key o rest av bI _ (bJ _)]
 simp):p:=h
theorem akR(h:p:=by
 rw [aY,aH,fP,yB];omega):p:=h
theorem akK(h:p:=by
 ·show Jj P C ops o _ av (ms 0) (ny 0)
  rw [m0,n0];simpa [ents] using hdo):p:=h
theorem akJ(h:p:=by
 rw [e1,iw,key o rest av bI _ (bJ _),hent]
 simp [St.put]):p:=h
theorem aaH(h:p:=by
 split at h
 ·rw [nZ]at h;simp at h
 ·cases h):p:=h
theorem akm(h:p:=by
 show look t (_++_)=look t (_++_)
 rw [dB,dB,abD t,kX fun i hi hdi=>(hlook t ht i hi hdi)]):p:=h
theorem aj2(h:p:=by
 have h1:(!(mem.getD j false)|| nR l.toArray mem j)=true:=List.all_eq_true.1 hch j Ez
 rw [hmj] at h1;exact h1):p:=h
theorem aj0(h:p:=by
 have q:=e2 i l[i] (aI hi)
 rcases q with ⟨_,_,_,b,_⟩|⟨_,b,_⟩
 ·rw [b];exact bJ _
 ·exact b):p:=h
theorem ajZ(h:p:=by
 have q:=e2 i l[i] (aI hi)
 rcases q with ⟨_,_,a,b,_⟩|⟨a,_⟩
 ·exact ⟨a,b⟩
 ·rw [hf] at a;cases a):p:=h
theorem arE(h:p:=by
 have h1:(!(mem.getD i false)|| needs l.toArray i l.toArray.size j)=true:=List.all_eq_true.1 hb i (List.mem_range.2 hij)
 rw [NJ] at h1;exact h1):p:=h
theorem arD(h:p:=by
 rw [fC,oO,show ((fun x:Stp=>x.1) ∘ fun y=>qF y (H n y))=fun x:Stp=>x.1 from rfl,← fC,MP]):p:=h
theorem arA(h:p:=by
 have q:=e2 i l[i] (aI (by omega))
 rcases q with ⟨_,_,a,_⟩|⟨_,_,a,_⟩
 ·rw [a];exact ih (by omega)
 ·exact a):p:=h
theorem ars(h:p:=by
 rw [List.set_append_right _ _ (by omega),hl,H9,zL h,MB,mJ h,fC,jA];rfl):p:=h
theorem arj(h:p:=by
 have hj':rest[j]?=some oj:=by simpa using hj
 have q2:=e2 j oj hj'
 rw [key o rest av bI j ajC]
 simpa [H8,Nat.add_comm 1 j] using q2):p:=h
theorem ard(h:p:=by
 have hj':rest[j]?=some oj:=by simpa using hj
 have q2:=e2 j oj hj'
 rw [key o rest av bI j ajC,hent]
 simpa [St.put,H8,Nat.add_comm 1 j] using q2):p:=h
theorem aq6(h:p:=by
 have:=EP (p:=fun i=>!listed.getD i false) (q:=fun i=>!(listed.setIfInBounds j true).getD i false) (fun i hi=>by
    by_cases e:j=i
    ·subst e;rw [abE] at hi;cases hi
    ·rw [hset i e] at hi;exact hi) hlt (by simp only [h3];rfl) (by simp only [abE];rfl)
 omega):p:=h
theorem aq1(h:p:=by
 have mono:∀ q,listed.getD q false=true→(listed.setIfInBounds j true).getD q false=true:=fun q hq=>by
  by_cases e:j=q
  ·subst e;rw [hq] at h3;cases h3
  ·rw [hset q e];exact hq
 by_cases e2:j=i
 ·subst e2
  rw [h2] at hi;cases hi
  exact mono _ (h4 e he hb)
 ·refine mono _ (hcl i oi hi ?_ e he hb)
  rw [← hset i e2];exact BX):p:=h
theorem aqX(h:p:=by
 rw [hent]
 have hmem:∀ q∈y::xs,q∈o.op.operands.toList:=fun q hq=>by rw [ho];simp [Op.operands,Call.operands] at hq ⊢;exact hq
 have:=WO.qo (P:=P) (C:=C) (σ:=⟨t,σ.M,σ.nk⟩) (xs:=⟨xs⟩) hB ks ho hc ((kE H (hmem y (by simp))).trans hy) hf ((Ac H fun q hq=>hmem q (aap _ hq)).trans hx) rfl h hks ha hp (Xm (σ:=σ) (σ':=⟨t,σ.M,σ.nk⟩) (ρ:=rhoC ks nk σ.nk) rfl hM) hq.1.1.1 hq.1.1.2 hq.1.2 hq.2 hr (by rw [b];exact e)
 rw [b] at this
 exact this):p:=h
theorem aqU(h:p:=by
 rcases hnk with rfl|⟨rfl,hbj⟩
 ·have:=Yj (f:=ny) (j:=0) (s:=fun i=>listed.getD i false) (mem:=fun i=>mem.getD i false) (fun i hi hf=>(xE i hi hf).2) Vt (fun i _ h=>by omega) l.length (bJ _)
  rw [Nat.min_zero,n0] at this
  exact this
 ·have:=Yj (f:=ny) (j:=j) (s:=fun i=>listed.getD i false) (mem:=fun i=>mem.getD i false) (fun i hi hf=>(xE i hi hf).2) Vt (fun i hi hij NJ=>uM hcl h2 h4 _ (ano i j hij hbj NJ)) l.length (bJ _)
  rw [show min l.length j=j by omega] at this
  exact this):p:=h
theorem aqQ(h:p:=by
 have avG:cu (Array.replicate l.toArray.size false)=0:=by
  have:∀ m,cur (fun i=>mem.getD i false) (fun i=>(Array.replicate l.toArray.size false).getD i false) m=0:=by
   intro m
   induction m with
   | zero=>rfl
   | succ m ih=>unfold cur;rw [if_neg (fun x=>by have:=x.2;rw [oJ] at this;cases this),ih]
  exact this _
 refine key _ (Array.replicate l.toArray.size false) G a _ (by simp) (fun j oj _ h=>?_) ?_ (ok.drew.vk (fun t=>?_) (by show ms _=_;rw [avG,m0]) (by show ny _=_;rw [avG,n0]))
 ·rw [oJ] at h;cases h
 ·rw [sz]
  exact jV List.countP_le_length (by simp)
 ·show look t (_++_)=_
  rw [dB,ES fun i hi _=>?_]
  ·rfl
  ·exact oJ _ _):p:=h
theorem aqN(h:p:=by
 have hoi:l.toArray[i]?=some l[i]:=by simp [hi]
 rw [hoi] at hdi
 have hdi:l[i].dst=some t:=hdi
 rcases Tj i j with hij|hij|hij
 ·rw [dG hij]
  by_cases hno:∃ e,e∈oj.after∧Region.binds .any e=true∧e.on=i
  ·obtain ⟨e,he,hb,rfl⟩:=hno
   exact h4 e he hb
  ·exact absurd ht ((Oper.apart_spec (FB i j _ _ (gU _) hij hoi h2 fun e he hb h=>hno ⟨e,he,hb,h⟩)).1 t hdi)
 ·subst hij;rw [h3];simp
 ·rw [cZ (by omega)]
  cases BX:listed.getD i false with
  | false=>rfl
  | true =>
   by_cases hno:∃ e,e∈(l[i]).after∧Region.binds .any e=true∧e.on=j
   ·obtain ⟨e,he,hb,he2⟩:=hno
    have:=hcl i _ hoi BX e he hb
    rw [he2,h3] at this;cases this
   ·exact absurd ht ((Oper.apart_spec (FB j i _ _ (gU _) hij h2 hoi fun e he hb h=>hno ⟨e,he,hb,h⟩)).2.2 t hdi)):p:=h
theorem aqK(h:p:=by
 have next:∀ (v:Value) (G':Gh) (w':World),Ok C (KS listed) G' a w'→R G' (bI j) v→Bd nk (bI j)→wpAny P .any l.toArray (Post C Q) fuel (listed.setIfInBounds j true) (a.put oj.dst v) w':=by
  intro v G' w' ok' hr hb
  have ok2:=ok'.set (d:=some d) hr (hb.mono apw) fun x hx=>by cases hx;exact hdN
  rw [hd]
  have hcu:cu (listed.setIfInBounds j true)=cu listed:=OD fun i hi NJ=>by
   by_cases e:j=i
   ·subst e;rw [hmf] at NJ;cases NJ
   ·exact hset i e
  exact ih (listed.setIfInBounds j true) G' _ w' XJ hclose hcount (ok2.vk (fun t=>by rw [YJ t,hd];rfl) (by show ms _=ms _;rw [hcu]) (by show ny _=ny _;rw [hcu]))
 rcases hdo with ⟨hg,hv⟩|⟨hg,hv⟩
 ·rw [if_pos (qh okO hg)]
  exact .inl (hv G a w okO _ _ fun v G' w' hk hr hb=>next v G' w' (hk _ _ ok) hr hb)
 ·rw [if_neg (by rw [qh okO hg];simp)]
  exact next undef G w ok (by rw [hv];exact .pu _ _ (.sc _)) (by rw [hv];exact .sc _)):p:=h
theorem axf(h:p:=by
 by_cases et:oj.dst=some t
 ·have hR:look t (oV oj.dst true (bI j)++(KS listed).t)=some (bI j):=by
   rw [dB,pJ,if_pos ⟨rfl,et⟩];rfl
  rw [hR,dB,Ju (j:=j) hlt (by rw [h2];exact et) ajD fun i hij hi hdi=>?_]
  ·rfl
  ·have hoi:l.toArray[i]?=some l[i]:=by simp [hi]
   rw [hoi] at hdi
   have hdi:l[i].dst=some t:=hdi
   have hne:j≠i:=by omega
   cases BX:listed.getD i false with
   | false=>simpa [dM,uT hne] using BX
   | true =>
    by_cases hno:∃ e,e∈(l[i]).after∧Region.binds .any e=true∧e.on=j
    ·obtain ⟨e,he,hb,he2⟩:=hno
     have:=hcl i _ hoi BX e he hb
     rw [he2,h3] at this;cases this
    ·exact absurd hdi ((Oper.apart_spec (FB j i _ _ (gU _) hij h2 hoi fun e he hb h=>hno ⟨e,he,hb,h⟩)).2.1 t et)
 ·have hR:look t (oV oj.dst true (bI j)++(KS listed).t)=look t (KS listed).t:=by
   rw [dB,pJ,if_neg (fun x=>et x.2)];rfl
  rw [hR]
  show _=look t (_++_)
  rw [dB,dB]
  congr 1
  refine kX fun i hi hdi=>?_
  by_cases e2:j=i
  ·subst e2
   rw [h2] at hdi
   exact absurd hdi et
  ·simp [dM,uT e2]):p:=h
theorem axe(h:p:=by
 have hall:∀ n i,i < n→i < l.length→listed.getD i false=true:=by
  intro n
  induction n with
  | zero=>intro i h;omega
  | succ n ih =>
   intro i hi hlt
   by_cases e:i < n
   ·exact ih i e hlt
   ·have hin:i=n:=by omega
    subst hin
    cases BX:listed.getD i false with
    | true=>rfl
    | false =>
     have hoi:l.toArray[i]?=some l[i]:=by simp [hlt]
     have:i∈Region.ready .any l.toArray listed:=mem_ready.2 ⟨by
      have:listed.getD i true=listed.getD i false:=by simp [dM,hsz,hlt]
      rw [this];exact BX,l[i],hoi,fun e he hb=>ih e.on (FA i l[i] (gU _) hoi e he hb) (by have:=FA i l[i] (gU _) hoi e he hb;omega)⟩
     rw [hr] at this;cases this
 have hcu:ms (cu listed)=ms l.length∧ny (cu listed)=ny l.length:=by
  have hs:∀ i,i < l.length→(fun i=>mem.getD i false) i=true→(fun i=>listed.getD i false) i=decide (i < l.length):=fun i hi _=>by
   show listed.getD i false=_
   rw [hall (i+1) i (by omega) hi,dG hi]
  have h1:=BO (f:=ms) (fun i hi hf=>(xE i hi hf).1) hs l.length (bJ _)
  have h2:=BO (f:=ny) (fun i hi hf=>(xE i hi hf).2) hs l.length (bJ _)
  rw [Nat.min_self] at h1 h2
  exact ⟨h1,h2⟩
 refine ⟨σ',G,k,ok.vk (fun t=>?_) (by rw [e1];exact hcu.1.symm) (by rw [e1];exact hcu.2.symm)⟩
 rw [e1]
 show look t (_++_)=look t (_++_)
 rw [dB,dB,kX (s':=fun i=>listed.getD i false) fun i hi _=>(hall (i+1) i (by omega) hi).symm]):p:=h
theorem axc(h:p:=by
 have hbj:=asB j hlt hmt
 have hst:∀ i,i < l.length→mem.getD i false=true→listed.getD i false=decide (i < j):=fun i hi NJ=>by
  rcases Tj i j with hij|hij|hij
  ·rw [dG hij]
   exact uM hcl h2 h4 _ (ano i j hij hbj NJ)
  ·subst hij;rw [h3];simp
  ·rw [cZ (by omega)]
   cases BX:listed.getD i false with
   | false=>rfl
   | true =>
    have:=xG hcl _ _ (ano j i hij (asB i hi NJ) hmt) BX
    rw [h3] at this;cases this
 have hM:ms (cu listed)=ms j∧ny (cu listed)=ny j:=by
  have h1:=BO (f:=ms) (fun i hi hf=>(xE i hi hf).1) hst l.length (bJ _)
  have h2:=BO (f:=ny) (fun i hi hf=>(xE i hi hf).2) hst l.length (bJ _)
  rw [show min l.length j=j by omega] at h1 h2
  exact ⟨h1,h2⟩
 have hst':∀ i,i < l.length→mem.getD i false=true→(listed.setIfInBounds j true).getD i false=decide (i < j+1):=fun i hi NJ=>by
  by_cases e:j=i
  ·subst e;rw [abE];simp
  ·rw [hset i e,hst i hi NJ]
   have:(i < j)↔(i < j+1):=by omega
   simp [this]
 have hM':ms (cu (listed.setIfInBounds j true))=ms (j+1)∧ny (cu (listed.setIfInBounds j true))=ny (j+1):=by
  have h1:=BO (f:=ms) (fun i hi hf=>(xE i hi hf).1) hst' l.length (bJ _)
  have h2:=BO (f:=ny) (fun i hi hf=>(xE i hi hf).2) hst' l.length (bJ _)
  rw [show min l.length (j+1)=j+1 by omega] at h1 h2
  exact ⟨h1,h2⟩
 rw [if_pos (by simp [Region.wanted,hgd])]
 have ok1:Ok C ⟨(KS listed).t,ms j,ny j⟩ G a w:=ok.vk (fun _=>rfl) (by exact hM.1.symm) (by exact hM.2.symm)
 refine .inl (hdo (KS listed).t hlooks G a w ok1 _ _ fun G' a' w' ok'=>?_)
 exact ih (listed.setIfInBounds j true) G' a' w' XJ hclose hcount (ok'.vk YJ (by exact hM'.1) (by exact hM'.2))):p:=h
end
section
open Go.RowKit
def qG (w:World) (F:View):Prop :=
 (∀ (i:Nat)v,bsL[i]?=some v→F ⟨1,i,none⟩=some (.int .i64 v))∧Lib.TabIs Tryz.prog w "internal/strconv.uint64pow10" .u64 Lib.pow10Tab ∧
 (∃ m,w.cell? ⟨2,0,none⟩=some (.int .i64 m))
def BR:Nat:=max 5 2+1
theorem aiu:Tryz.prog.globalNamed "internal/strconv.uint64pow10"=some 5:=by kernel_rfl
theorem aoZ {w:World} {cs:Array Value} {s:String} {g:Nat} (hg:Tryz.prog.globalNamed s=some g)(h:w.var? Tryz.prog s=some cs):g<w.heap.size:=by
 unfold World.var? at h
 rw [hg]at h
 rcases wW g w.heap.size with h1|h1
 ·exact h1
 ·simp [F9 h1]at h
theorem Uw {w w':World} {b i:Nat} {v:Value} (h:w'.heap[b]?=w.heap[b]?) (hc:w.cell? ⟨b,i,none⟩=some v):w'.cell? ⟨b,i,none⟩=some v:=by
 unfold World.cell? at hc ⊢
 rw [show w'.heap[(⟨b,i,none⟩:Addr).block]?=w.heap[(⟨b,i,none⟩:Addr).block]? from h];exact hc
theorem aaf {w w':World} {s:String} {k:IntKind} {l:List Int} {g:Nat} (hg:Tryz.prog.globalNamed s=some g)(hb:w'.heap[g]?=w.heap[g]?)(h:Lib.TabIs Tryz.prog w s k l):Lib.TabIs Tryz.prog w' s k l:=by
 unfold Lib.TabIs World.var? at h ⊢
 rw [hg]at h ⊢
 simp only [Ib]at h ⊢
 rw [hb];exact h
theorem o7:QJ qG BR:=by
 refine⟨fun w F h=>?_,fun w w' F F' hb hF h=>?_⟩
 ·obtain⟨h0,h1,⟨m,h3⟩⟩:=h
  have a1:=aoZ aiu h1
  have a3:=aN h3
  unfold BR
  omega
 ·obtain⟨h0,h1,⟨m,h3⟩⟩:=h
  exact⟨fun i v x=>hF _ _ (h0 i v x),aaf aiu (hb _ (by unfold BR;omega)) h1,⟨m,Uw (hb _ (by unfold BR;omega)) h3⟩⟩
theorem aae {z:Int} (h:0≤z∧z≤6):∀ w F,qG w F→F ⟨1,z.toNat,none⟩=some (.int .i64 (vg z)):=fun w F hB=>hB.1 _ _ (aa2 h)
theorem kJ.Zr {B:World→View→Prop} {P:Program} {f:FuncId} {args:List AV} {xs:List Value} {res:AV} {v:Value} (hs:EG args=some xs)(hv:∀ F,RP F res v)(h:∀ w F,B w F→Calls P f xs.toArray w (eG v w)):kJ B P f args res:=by
 intro w F vs hB hF hR
 exact aq5
theorem anJ (n:Int)(h:I64 n):kJ qG Tryz.prog 108 [.sc (.int .i64 n)] (.sc (.string (bs (Lib.itoa n)))) :=
 kJ.Zr (v:=.string (bs (Lib.itoa n))) rfl (fun _=>.sc _) fun w F hB=>(Tryz.strconv_Itoa n h.1 (by have:=h.2;omega) w hB.2.1).mono fun e w'⟨he,k,os,hw⟩=>⟨he,by
  subst hw
  refine⟨rfl,rfl,rfl,?_,fun i hi=>?_⟩
  ·exact ak4
  ·show (w.heap++os)[i]?=w.heap[i]?
   rw [Es hi]⟩
theorem kJ.mono {B B':World→View→Prop} {P:Program} {f:FuncId} {args:List AV} {res:AV} (h:kJ B P f args res)(hb:∀ w F,B' w F→B w F):kJ B' P f args res:=fun w F vs k=>h w F vs (hb w F k)
def tJ(ok:Bool)(sg t:List UInt8):Bool:=ok && sg.isPrefixOf t
def Ed (s:Int) (t:List UInt8):Int×List UInt8 :=
 if tJ (okR s 3) (rR s 3) t then (3,t.drop (rR s 3).length) else if tJ (okR s 2) (rR s 2) t then (2,t.drop (rR s 2).length) else if tJ (okR s 1) (rR s 1) t then (1,t.drop (rR s 1).length) else (0,t)
def Oj (s:Int) (t:List UInt8):Int×List UInt8 :=
 if tJ (sZ s 4) (rG s 4) t then (4,t.drop (rG s 4).length) else if tJ (sZ s 3) (rG s 3) t then (3,t.drop (rG s 3).length) else if tJ (sZ s 2) (rG s 2) t then (2,t.drop (rG s 2).length) else if tJ (sZ s 1) (rG s 1) t then (1,t.drop (rG s 1).length) else (0,t)
def AA (s:Int)(fp:Bool)(t:List UInt8):Option Int :=
 if t=[]then some 0 else
 match (List.range 15).find? fun n=>fp && (decide (s=1) && (t == 95::mW (n+1)))with
 | some n=>some ((n:Int)+1)
 | none=>if (fp && decide (s=2∨s=4) && (t == [42]))=true then some (-1)else none
def wM (s:Int)(fp:Bool)(t:List UInt8):Option (Int×Int×Int):=(AA s fp (Oj s (Ed s t).2).2).map fun h=>((Ed s t).1,(Oj s (Ed s t).2).1,h)
def mQ(s:Int)(h:Nat):Int:=if h=0 then 0 else if s=1 then(h:Int)else -1
theorem atO:((List.range 4).all fun s=>(List.range 4).all fun r=>(List.range 5).all fun g=>(List.range 16).all fun h=>[true,false].all fun fp =>
  !(okR ((s:Int)+1) r && sZ ((s:Int)+1) g && qN ((s:Int)+1) h 15 && (fp|| h == 0))||
  wM ((s:Int)+1) fp (rR ((s:Int)+1) r++rG ((s:Int)+1) g++pH ((s:Int)+1) h 15) == some ((r:Int),(g:Int),mQ ((s:Int)+1) h))=true:=by decide +kernel
theorem aoD {s:Int} {r g h:Nat} {fp:Bool} (hs:1≤s∧s≤4)(hr:r≤3)(hg:g≤4)(hh:h≤15)(h1:okR s r=true)(h2:sZ s g=true)(h3:qN s h 15=true)(hf:0<h→fp=true) :
  wM s fp (rR s r++rG s g++pH s h 15)=some ((r:Int),(g:Int),mQ s h):=by
 obtain⟨k,hk⟩:=gq (show 0≤s-1 by omega)
 obtain rfl:s=(k:Int)+1:=by omega
 have h0:=List.all_eq_true.1 (List.all_eq_true.1 (List.all_eq_true.1 (List.all_eq_true.1 (List.all_eq_true.1 atO k (List.mem_range.2 (by omega))) r (List.mem_range.2 (by omega))) g (List.mem_range.2 (by omega))) h (List.mem_range.2 (by omega))) fp (by cases fp<;>simp)
 rw [h1,h2,h3] at h0
 have h4:(fp|| h == 0)=true:=by
  by_cases e:h=0
  ·simp [e]
  ·rw [hf (by omega)];rfl
 rw [h4] at h0
 simpa using h0
theorem Ee {ok:Bool} {sg t:List UInt8} (h:tJ ok sg t=true):ok=true∧t=sg++t.drop sg.length:=by
 unfold tJ at h
 simp only [aW,List.isPrefixOf_iff_prefix]at h
 obtain⟨h1,u,hu⟩:=h
 refine⟨h1,?_⟩
 rw [← hu,MC]
theorem aoC(s:Int)(t:List UInt8):∃ r:Nat,r≤3∧(Ed s t).1=(r:Int)∧okR s r=true∧t=rR s r++(Ed s t).2:=by
 unfold Ed
 split
 ·exact ak8
 ·split
  ·exact ak9
  ·split
   ·exact ala
   ·exact⟨0,by omega,rfl,by simp [okR],by simp [rR]⟩
theorem aoA(s:Int)(t:List UInt8):∃ g:Nat,g≤4∧(Oj s t).1=(g:Int)∧sZ s g=true∧t=rG s g++(Oj s t).2:=by
 unfold Oj
 split
 ·rename_i h;obtain⟨a,b⟩:=Ee h;exact⟨4,by omega,rfl,a,b⟩
 ·split
  ·exact ak8
  ·split
   ·exact ak9
   ·split
    ·exact ala
    ·exact⟨0,by omega,rfl,by simp [sZ],by simp [rG]⟩
theorem aoB {s:Int} {fp:Bool} {t:List UInt8} {x:Int} (hs:1≤s∧s≤4)(h:AA s fp t=some x):∃ n:Nat,n≤15∧qN s n 15=true∧(0<n→fp=true)∧t=pH s n 15∧x=mQ s n:=by
 unfold AA at h
 split at h
 ·rename_i e
  cases h
  exact⟨0,by omega,by simp [qN],fun k=>absurd k (by omega),by simp [e,pH],rfl⟩
 ·split at h
  ·rename_i n hn
   have h1:=Ia hn
   have h2:=List.mem_range.1 (MN hn)
   cases h
   simp only [aW,gu,qH]at h1
   obtain⟨a,rfl,b⟩:=h1
   refine⟨n+1,by omega,?_,fun _=>a,?_,?_⟩
   ·simp [qN,rH]
   ·rw [b];simp [pH,rH];omega
   ·simp [mQ]
  ·split at h
   ·rename_i h1
    cases h
    simp only [aW,gu,qH]at h1
    obtain⟨⟨a,b⟩,c⟩:=h1
    refine⟨15,by omega,?_,fun _=>a,?_,?_⟩
    ·rcases b with rfl|rfl<;>decide
    ·rcases b with rfl|rfl<;>exact c
    ·rcases b with rfl|rfl<;>rfl
   ·cases h
theorem awD {s:Int} {fp:Bool} {t:List UInt8} {x:Int×Int×Int} (hs:1≤s∧s≤4)(h:wM s fp t=some x) :
  ∃ r g n:Nat,r≤3∧g≤4∧n≤15∧okR s r=true∧sZ s g=true∧qN s n 15=true∧(0<n→fp=true)∧t=rR s r++rG s g++pH s n 15∧x=((r:Int),(g:Int),mQ s n):=by
 unfold wM at h
 obtain⟨y,hy,rfl⟩:=Option.map_eq_some_iff.1 h
 obtain⟨r,r1,r2,r3,r4⟩:=aoC s t
 obtain⟨g,g1,g2,g3,g4⟩:=aoA s (Ed s t).2
 obtain⟨n,n1,n2,n3,n4,n5⟩:=aoB hs hy
 refine⟨r,g,n,r1,g1,n1,r3,g3,n2,n3,?_,by rw [r2,g2,n5]⟩
 rw [← n4,jA,← g4,← r4]
def pY (c:UInt8)(s:List (List UInt8)×List UInt8)(b:UInt8):List (List UInt8)×List UInt8:=if b=c then (s.1++[s.2],[])else (s.1,s.2++[b])
def eY (c:UInt8) (t:List UInt8):List (List UInt8)×List UInt8:=t.foldl (pY c) ([],[])
def bF (c:UInt8)(ls:List (List UInt8))(tl:List UInt8):List UInt8:=ls.flatMap (fun l=>l++[c])++tl
def aQ(c:UInt8)(l:List UInt8):Prop:=∀ b∈l,b≠c
theorem xQ(c:UInt8)(tl:List UInt8):bF c [] tl=tl:=rfl
theorem fE (c:UInt8)(l:List UInt8)(ls:List (List UInt8))(tl:List UInt8):bF c (l::ls) tl=l++c::bF c ls tl:=by
 unfold bF;simp
theorem CQ (c:UInt8):∀ (t:List UInt8) (ls:List (List UInt8)) (cur:List UInt8),bF c (t.foldl (pY c) (ls,cur)).1 (t.foldl (pY c) (ls,cur)).2=bF c ls cur++t
 | [],ls,cur=>by simp
 | b::r,ls,cur=>by
  by_cases h:b=c
  ·rw [MJ,show pY c (ls,cur) b=(ls++[cur],[]) from if_pos h,CQ c r]
   simp [bF,h]
  ·rw [MJ,show pY c (ls,cur) b=(ls,cur++[b]) from if_neg h,CQ c r]
   simp [bF]
theorem Le (c:UInt8):∀ (t:List UInt8) (ls:List (List UInt8)) (cur:List UInt8),(∀ l∈ls,aQ c l)→aQ c cur→(∀ l∈(t.foldl (pY c) (ls,cur)).1,aQ c l)∧aQ c (t.foldl (pY c) (ls,cur)).2
 | [],ls,cur,h1,h2=>⟨h1,h2⟩
 | b::r,ls,cur,h1,h2=>by
  by_cases h:b=c
  ·rw [MJ,show pY c (ls,cur) b=(ls++[cur],[]) from if_pos h]
   exact Le c r _ _ (fun l hl=>by
    rcases List.mem_append.1 hl with x|x
    ·exact h1 l x
    ·rw [List.mem_singleton.1 x];exact h2) (fun b hb=>by cases hb)
  ·rw [MJ,show pY c (ls,cur) b=(ls,cur++[b]) from if_neg h]
   exact Le c r _ _ h1 (fun x hx=>by
    rcases List.mem_append.1 hx with y|y
    ·exact h2 x y
    ·rw [List.mem_singleton.1 y];exact h)
theorem FM (c:UInt8):∀ (l:List UInt8) (ls:List (List UInt8)) (cur:List UInt8),aQ c l→l.foldl (pY c) (ls,cur)=(ls,cur++l)
 | [],ls,cur,_=>by simp
 | b::r,ls,cur,h=>by
  rw [MJ,show pY c (ls,cur) b=(ls,cur++[b]) from if_neg (h b (by simp)),FM c r _ _ (fun x hx=>h x rU)]
  simp
theorem Lh (c:UInt8):∀ (ls:List (List UInt8)) (tl:List UInt8) (a:List (List UInt8)),(∀ l∈ls,aQ c l)→aQ c tl→(bF c ls tl).foldl (pY c) (a,[])=(a++ls,tl)
 | [],tl,a,_,h=>by rw [xQ,FM c tl _ _ h];simp
 | l::ls,tl,a,h1,h2=>by
  rw [fE,List.foldl_append,FM c l _ _ (h1 l (by simp)),MJ,ug,show pY c (a,l) c=(a++[l],[]) from if_pos rfl,Lh c ls tl _ (fun x hx=>h1 x rU) h2]
  simp
theorem qE (c:UInt8)(t:List UInt8):bF c (eY c t).1 (eY c t).2=t:=(CQ c t [] []).trans rfl
theorem FN (c:UInt8) (t:List UInt8):(∀ l∈(eY c t).1,aQ c l)∧aQ c (eY c t).2:=Le c t [] [] (fun l hl=>by cases hl) (fun b hb=>by cases hb)
theorem zu {c:UInt8} {ls:List (List UInt8)} {tl:List UInt8} (h1:∀ l∈ls,aQ c l)(h2:aQ c tl):eY c (bF c ls tl)=(ls,tl):=by
 unfold eY;rw [Lh c ls tl [] h1 h2];simp
theorem tN (c:UInt8)(r:List UInt8):∀ l:List UInt8,aQ c l→Lib.index (l++c::r) [c]=(l.length:Int)
 | [],_=>by rw [ug,Lib.index];simp [List.isPrefixOf]
 | b::l,h=>by
  have ih:=tN c r l (fun x hx=>h x rU)
  have hb:([c]:List UInt8).isPrefixOf (b::(l++c::r))=false:=by simp [List.isPrefixOf,Ne.symm (h b (by simp))]
  rw [zK,Lib.index,hb,ih]
  simp only [Eo,BA,iw]
  rw [if_neg (by simp)]
  omega
theorem Bh (c:UInt8):∀ l:List UInt8,aQ c l→Lib.index l [c]=-1
 | [],_=>by rw [Lib.index];simp
 | b::l,h=>by
  have ih:=Bh c l (fun x hx=>h x rU)
  have hb:([c]:List UInt8).isPrefixOf (b::l)=false:=by simp [List.isPrefixOf,Ne.symm (h b (by simp))]
  rw [Lib.index,hb,ih]
  simp
theorem afg {c:UInt8} {l r:List UInt8} (h:aQ c l):Lib.cut (l++c::r) [c]=(l,r,true):=by
 have hi:=tN c r l h
 unfold Lib.cut
 rw [if_pos (by omega),hi,fO]
 have e1:(l++c::r).take l.length=l:=S9
 have e2:(l++c::r).drop (l.length+[c].length)=r:=by
  rw [show l++c::r=(l++[c])++r by simp,show l.length+[c].length=(l++[c]).length by simp];exact MC
 rw [e1,e2]
theorem afh {c:UInt8} {l:List UInt8} (h:aQ c l):Lib.cut l [c]=(l,[],false):=by
 have hi:=Bh c l h
 unfold Lib.cut
 rw [if_neg (by omega)]
theorem Hl {c:UInt8} {l:List UInt8} (h:aQ c l):Lib.count l [c]=0:=by
 rw [Lib.count_one,List.count_eq_zero]
 exact fun hc=>h c hc rfl
theorem vI (c:UInt8):∀ (ls:List (List UInt8))(tl:List UInt8),(∀ l∈ls,aQ c l)→aQ c tl→Lib.count (bF c ls tl) [c]=ls.length
 | [],tl,_,h=>by rw [xQ,Hl h];rfl
 | l::ls,tl,h1,h2=>by
  have ih:=vI c ls tl (fun x hx=>h1 x rU) h2
  have h0:=Hl (h1 l (by simp))
  rw [Lib.count_one] at ih h0 ⊢
  rw [fE,List.count_append,h0,List.count_cons_self,ih,iw];omega
theorem zx (c:UInt8):∀ (ls:List (List UInt8))(tl:List UInt8),(∀ l∈ls,aQ c l)→aQ c tl→Lib.splitK [c] 0 ls.length (bF c ls tl)=ls++[tl]
 | [],tl,_,_=>rfl
 | l::ls,tl,h1,h2=>by
  have hi:=tN c (bF c ls tl) l (h1 l (by simp))
  rw [fE,iw,Lib.splitK,hi,if_neg (by simp),fO]
  have e1:(l++c::bF c ls tl).take (l.length+0)=l:=S9
  have e2:(l++c::bF c ls tl).drop (l.length+[c].length)=bF c ls tl:=by
   rw [show l++c::bF c ls tl=(l++[c])++bF c ls tl by simp,show l.length+[c].length=(l++[c]).length by simp];exact MC
  rw [e1,e2,zx c ls tl (fun x hx=>h1 x rU) h2];rfl
def dw (c:UInt8)(t:List UInt8):List (List UInt8):=(eY c t).1++[(eY c t).2]
theorem SH (c:UInt8)(t:List UInt8):Lib.splitK [c] 0 (Lib.count t [c]) t=dw c t:=by
 obtain⟨h1,h2⟩:=FN c t
 have hj:=qE c t
 unfold dw
 rw [← zx c _ _ h1 h2,hj,← vI c _ _ h1 h2,hj]
theorem xU(c:UInt8)(t:List UInt8):(dw c t).length=Lib.count t [c]+1:=by
 obtain⟨h1,h2⟩:=FN c t
 have:=vI c _ _ h1 h2
 rw [qE]at this
 unfold dw;rw [this];simp
theorem Hr (c:UInt8) (l r:List UInt8) (h:aQ c l):dw c (l++c::r)=l::dw c r:=by
 obtain ⟨h1,h2⟩:=FN c r
 have hj:=qE c r
 have e:l++c::r=bF c (l::(eY c r).1) (eY c r).2:=by rw [fE,hj]
 unfold dw
 rw [e,zu (fun x hx=>by rcases List.mem_cons.1 hx with y|y;exact y ▸ h;exact h1 x y) h2]
 simp
theorem Lj (c:UInt8) (l:List UInt8) (h:aQ c l):dw c l=[l]:=by
 have:=zu (ls:=[]) (fun x hx=>by cases hx) h
 unfold dw
 rw [xQ] at this
 rw [this];rfl
theorem xR (c:UInt8) (t:List UInt8):∀ w∈dw c t,w.length≤t.length:=by
 intro w hw
 have hj:=qE c t
 unfold dw at hw
 have hl:t.length=(bF c (eY c t).1 (eY c t).2).length:=by rw [hj]
 rw [hl]
 unfold bF
 rcases List.mem_append.1 hw with x|x
 ·obtain ⟨i,hi,rfl⟩:=List.mem_iff_getElem.1 x
  rw [aY]
  have:((eY c t).1[i]++[c]).length≤((eY c t).1.flatMap fun l=>l++[c]).length:=by
   have:=List.sublist_flatten_of_mem (List.mem_map.2 ⟨_,dS hi,rfl⟩:(eY c t).1[i]++[c]∈(eY c t).1.map fun l=>l++[c])
   rw [List.flatMap_def];exact this.length_le
  simp at this ⊢;omega
 ·rw [List.mem_singleton.1 x];simp
def uQ (n:Nat):List UInt8→Option Nat
 | []=>some n
 | b::r=>if 48≤b.toNat∧b.toNat≤57 then uQ (10*n+(b.toNat-48)) r else none
def dV(w:List UInt8):Option Nat:=if w.length<1∨3<w.length∨(w.getD 0 0=48∧1<w.length)then none else uQ 0 w
def jL (n:Nat):List UInt8:=if n<10 then [UInt8.ofNat (48+n)]else if n<100 then [UInt8.ofNat (48+n/10),UInt8.ofNat (48+n % 10)]else [UInt8.ofNat (48+n/100),UInt8.ofNat (48+n/10 % 10),UInt8.ofNat (48+n % 10)]
theorem tK {n:Nat} (h:n<1000):Lib.itoa (n:Int)=jL n:=by
 unfold Lib.itoa
 rw [if_neg (by omega),fO]
 unfold jL
 by_cases h1:n<10
 ·rw [if_pos h1,Lib.decDigits_one h1]
 ·rw [if_neg h1]
  by_cases h2:n<100
  ·rw [if_pos h2,Lib.decDigits_two h1 h2]
  ·rw [if_neg h2,Lib.decDigits,dif_neg h1,Lib.decDigits_two (by omega) (by omega)]
   rw [show n/10/10=n/100 by omega];rfl
theorem WS:((List.range 1000).all fun n=>dV (jL n) == some n && (jL n).all (fun b=>b != 32 && b != 10) && decide ((jL n).length≤3))=true:=by decide +kernel
theorem Ld {n:Nat} (h:n<1000):dV (jL n)=some n∧aQ 32 (jL n)∧aQ 10 (jL n)∧(jL n).length≤3:=by
 have:=List.all_eq_true.1 WS n (List.mem_range.2 h)
 simp only [aW,qH,jg,Gl,gu]at this
 exact⟨this.1.1,fun b hb=>(this.1.2 b hb).1,fun b hb=>(this.1.2 b hb).2,this.2⟩
end
section
open Go.Shelf Go.RowKit
def abH:Go.Shelf.Ren:=⟨fun|156=>111|165=>176|166=>53|169=>55|240=>109|241=>232|276=>175|277=>264|n=>n,fun|0=>0|3=>3|4=>4|9=>9|20=>20|31=>39|37=>101|70=>100|72=>103|75=>105|76=>106|127=>191|164=>263|5=>5|80=>81|n=>n,fun|n=>n⟩
theorem U9:Go.Proofs.Lays.n156 Tryz.prog abH:={
 mixed:=by kernel_rfl
 f156:=Tryz.func111.trans (congrArg some bD)
 f165:=Tryz.func176.trans (congrArg some bD)
 f166:=Tryz.func53.trans (congrArg some bD)
 f169:=Tryz.func55.trans (congrArg some bD)
 f240:=Tryz.func109.trans (congrArg some bD)
 f241:=Tryz.func232.trans (congrArg some bD)
 f276:=Tryz.func175.trans (congrArg some bD)
 f277:=Tryz.func264.trans (congrArg some bD)
 t0:=Tryz.underlying0
 a0:=Tryz.isAgg0
 z0:=Tryz.sizeOf0
 v0:=Tryz.zeroValue0
 t3:=Tryz.underlying3
 a3:=Tryz.isAgg3
 z3:=Tryz.sizeOf3
 v3:=Tryz.zeroValue3
 t4:=Tryz.underlying4
 a4:=Tryz.isAgg4
 z4:=Tryz.sizeOf4
 v4:=Tryz.zeroValue4
 t9:=Tryz.underlying9
 a9:=Tryz.isAgg9
 z9:=Tryz.sizeOf9
 v9:=Tryz.zeroValue9
 t20:=Tryz.underlying20
 a20:=Tryz.isAgg20
 z20:=Tryz.sizeOf20
 v20:=Tryz.zeroValue20
 t31:=Tryz.underlying39
 a31:=Tryz.isAgg39
 z31:=Tryz.sizeOf39
 v31:=Tryz.zeroValue39
 t37:=Tryz.underlying101
 a37:=Tryz.isAgg101
 z37:=Tryz.sizeOf101
 v37:=Tryz.zeroValue101
 t70:=Tryz.underlying100
 a70:=Tryz.isAgg100
 z70:=Tryz.sizeOf100
 v70:=Tryz.zeroValue100
 t72:=Tryz.underlying103
 a72:=Tryz.isAgg103
 z72:=Tryz.sizeOf103
 v72:=Tryz.zeroValue103
 t75:=Tryz.underlying105
 a75:=Tryz.isAgg105
 z75:=Tryz.sizeOf105
 v75:=Tryz.zeroValue105
 t76:=Tryz.underlying106
 a76:=Tryz.isAgg106
 z76:=Tryz.sizeOf106
 v76:=Tryz.zeroValue106
 t127:=Tryz.underlying191
 a127:=Tryz.isAgg191
 z127:=Tryz.sizeOf191
 v127:=Tryz.zeroValue191
 t164:=Tryz.underlying263
 a164:=Tryz.isAgg263
 z164:=Tryz.sizeOf263
 v164:=Tryz.zeroValue263 }
theorem OY:Builder.Extra Tryz.prog abH:={
 sizeBuilder:=by kernel_rfl
 liesBuilder:=by kernel_rfl
 t5:=Tryz.underlying5
 a5:=Tryz.isAgg5
 z5:=Tryz.sizeOf5
 v5:=Tryz.zeroValue5
 infoByte:=by kernel_rfl
 cellsByte:=by kernel_rfl
 sizeByte:=by kernel_rfl
 neB5:=by decide }
theorem strings_Join_none (a:Option Addr) (c:Nat) (sep:ByteArray) (w:World) :
  Calls Tryz.prog 111 #[.slice a 0 c,.string sep] w fun e w'=>e=.returned (.string ⟨#[]⟩)∧w'=w:=Any.strings_Join_none U9 OY a c sep w
theorem strings_Join (bk o c:Nat) (xs:List ByteArray) (sep:ByteArray) (w:World) (hcells:∀ (j:Nat) x,xs[j]?=some x→w.cell? ⟨bk,o+j,none⟩=some (.string x)) (hbk:bk<w.heap.size) (hN:xs.length≤140737488355328) (hcap:xs.length≤c) (hlen:(Lib.join (xs.map (·.data.toList)) sep.data.toList).length≤140737488355328) :
  Calls Tryz.prog 111 #[.slice (some ⟨bk,o,none⟩) xs.length c,.string sep] w fun e w'=>e=.returned (.string ⟨(Lib.join (xs.map (·.data.toList)) sep.data.toList).toArray⟩)∧Below w.heap.size w w':=Any.strings_Join U9 OY bk o c xs sep w hcells hbk hN hcap hlen
end
section
open Go.RowKit
def azq:Op→Bool
 | .move _=>true
 | .assign _=>true
 | .alloc _=>true
 | .box _ _=>true
 | .load _ _=>true
 | .store _ _ _=>true
 | .fieldAddr _ _ _=>true
 | .field _ _ _=>true
 | .indexAddr _ _ _=>true
 | .index _ _ _=>true
 | _=>false
structure Laid (ops A:Array Oper)(π ρ:Nat→Nat)(i j:Nat):Prop where
 sz:A.size=ops.size
 lt:∀ p,p<ops.size→π p<ops.size
 inv:∀ p,p<ops.size→ρ (π p)=p
 ltr:∀ q,q<ops.size→ρ q<ops.size
 inr:∀ q,q<ops.size→π (ρ q)=q
 hi:i<ops.size
 hj:j<ops.size
 op:∀ (p:Nat)(o:Oper),ops[p]?=some o→∃ X:Array Edge,A[π p]?=some { o with after:=X }∧(∀ e∈X,Region.binds .any e=true→(∃ e'∈o.after,Region.binds .any e'=true∧e.on=π e'.on)∨(p=j∧e.on=π i)) ∧
  (∀ e'∈o.after,Region.binds .any e'=true→∃ e∈X,Region.binds .any e=true∧e.on=π e'.on)
 tm:∀ (p:Nat)(o:Oper),ops[p]?=some o→azq o.op=true∧o.guard=none∧∀ e∈o.after,e.on<ops.size
structure Agr (n:Nat)(π:Nat→Nat)(L LA:Array Bool):Prop where
 s1:L.size=n
 s2:LA.size=n
 at_:∀ p,p<n→LA.getD (π p) false=L.getD p false
section
variable {P:Program} {C:Cx} {σ σ':St} {G G':Gh} {a:Act} {w w':World} {ops:Array Oper} {Q:Exit→St→Prop}
def Jj (P:Program) (C:Cx) (ops:Array Oper) (o:Oper) (σ:St) (av:AV) (M':List (Nat×AO)) (dh:Nat):Prop :=
 o.guard=none∧∀ t,(∀ q∈o.looksAt ops,look q t=look q σ.t)→WO P C o ⟨t,σ.M,σ.nk⟩ ⟨oV o.dst true av++t,M',dh⟩
inductive DS (P:Program) (C:Cx) (ops:Array Oper) (mem:List Bool) (Mc:List (Nat×AO)) (fJ:Nat):Nat→List Oper→St→St→Prop
 | nil (k:Nat) (σ:St):DS P C ops mem Mc fJ k [] σ σ
 | val (k:Nat) (o:Oper) (rest:List Oper) (d:Tmp) (av:AV) (nk:Nat) (σ σ':St):mem.getD k false=false→o.dst=some d→Nat.blt d C.N=true→(nk=fJ∨(nk=σ.nk∧nR ops mem k=true))→Ul P C ops o σ.t Mc nk av →
   DS P C ops mem Mc fJ (k+1) rest (σ.put d av) σ'→DS P C ops mem Mc fJ k (o::rest) σ σ'
 | mem (k:Nat) (o:Oper) (rest:List Oper) (av:AV) (M':List (Nat×AO)) (dh:Nat) (σ σ':St):mem.getD k false=true→Nat.ble σ.nk dh=true→bP Mc M'→Jj P C ops o σ av M' dh →
   DS P C ops mem Mc fJ (k+1) rest ⟨oV o.dst true av++σ.t,M',dh⟩ σ'→DS P C ops mem Mc fJ k (o::rest) σ σ'
theorem DS.data {mem:List Bool} {Mc:List (Nat×AO)} {fJ k:Nat} {l:List Oper} {σ σ':St} (h:DS P C ops mem Mc fJ k l σ σ'):∃ (bI:Nat→AV) (ms:Nat→List (Nat×AO)) (ny:Nat→Nat),ms 0=σ.M∧ny 0=σ.nk ∧
  σ'=⟨ents l.toArray bI (fun _=>true) l.length++σ.t,ms l.length,ny l.length⟩ ∧
  ∀ (j:Nat) (oj:Oper),l[j]?=some oj →
   ((mem.getD (k+j) false=false∧(∃ d,oj.dst=some d∧d<C.N)∧ms (j+1)=ms j∧ny (j+1)=ny j∧∃ nk,(nk=fJ∨(nk=ny j∧nR ops mem (k+j)=true))∧Ul P C ops oj (ents l.toArray bI (fun _=>true) j++σ.t) Mc nk (bI j)) ∨
    (mem.getD (k+j) false=true∧ny j≤ny (j+1)∧bP Mc (ms (j+1))∧Jj P C ops oj ⟨ents l.toArray bI (fun _=>true) j++σ.t,ms j,ny j⟩ (bI j) (ms (j+1)) (ny (j+1)))):=by
 have key:∀ (o:Oper) (rest:List Oper) (av:AV) (bI:Nat→AV),∀ m,m≤rest.length→ents (o::rest).toArray (fun j=>if j=0 then av else bI (j-1)) (fun _=>true) (m+1)=ents rest.toArray bI (fun _=>true) m++oV o.dst true av:=by
  intro o rest av bI m
  induction m with
  | zero=>intro _;simp [ents]
  | succ m ihm =>
   intro hm
   exact aaL
 induction h with
 | nil k σ=>exact ⟨fun _=>.sc undef,fun _=>σ.M,fun _=>σ.nk,rfl,rfl,rfl,fun j oj h=>by simp at h⟩
 | val k o rest d av nk σ σ' hm hd hN hq hdo _ ih =>
  obtain ⟨bI,ms,ny,m0,n0,e1,e2⟩:=ih
  have hent:oV o.dst true av=[(d,av)]:=by rw [hd];rfl
  refine ⟨fun j=>if j=0 then av else bI (j-1),fun j=>if j=0 then σ.M else ms (j-1),fun j=>if j=0 then σ.nk else ny (j-1),rfl,rfl,?_,fun j oj hj=>?_⟩
  ·exact akJ
  ·cases j with
   | zero =>
    cases hj
    exact .inl ⟨hm,⟨d,hd,dP hN⟩,m0,n0,nk,hq,by simpa [ents] using hdo⟩
   | succ j =>
    exact ard
 | mem k o rest av M' dh σ σ' hm hn hsub hdo _ ih =>
  obtain ⟨bI,ms,ny,m0,n0,e1,e2⟩:=ih
  refine ⟨fun j=>if j=0 then av else bI (j-1),fun j=>if j=0 then σ.M else ms (j-1),fun j=>if j=0 then σ.nk else ny (j-1),rfl,rfl,?_,fun j oj hj=>?_⟩
  ·exact ak5
  ·cases j with
   | zero =>
    cases hj
    refine .inr ⟨hm,?_,?_,?_⟩
    ·exact ald
    ·show bP Mc (ms 0)
     rw [m0];exact hsub
    exact akK
   | succ j =>
    exact arj
theorem WA.auZ {l:List Oper} (mem:List Bool) (Mc:List (Nat×AO)) (hB:Region.lexB .any l.toArray=true) (hch:chainB l.toArray mem=true) (hMc:bP Mc σ.M) (h:DS P C l.toArray mem Mc σ.nk 0 l σ σ') (k:Q .normal σ'):WA P C l.toArray σ Q:=by
 intro G a w ok
 obtain ⟨bI,ms,ny,m0,n0,e1,e2⟩:=h.data
 simp only [lW] at e2
 simp only [Region.lexB,aW] at hB
 obtain ⟨FA,FB⟩:=wo (ops:=l.toArray) l.toArray.size 0 (Array.replicate l.toArray.size false) (by simp) (by simp) (fun i hi=>by simp [dM,hi] at hi ⊢;simp [hi]) hB.2
 have sz:l.toArray.size=l.length:=by simp
 have xE:∀ i,i < l.length→mem.getD i false=false→ms (i+1)=ms i∧ny (i+1)=ny i:=fun i hi hf=>by
  exact ajZ
 have Vt:∀ i,i < l.length→ny i≤ny (i+1):=fun i hi=>by
  exact aj0
 have ag3:C.np≤ny 0:=by rw [n0];exact ok.df.2.1
 have asH:∀ i,i≤l.length→C.np≤ny i:=fun i=>by
  induction i with
  | zero=>exact fun _=>ag3
  | succ i ih=>exact fun h=>jV (ih au) (Vt i au)
 have as5:∀ i,i≤l.length→bP Mc (ms i):=fun i=>by
  induction i with
  | zero=>intro _;rw [m0];exact hMc
  | succ i ih =>
   intro hi
   exact arA
 have asB:∀ j,j < l.length→mem.getD j false=true→nR l.toArray mem j=true:=fun j hj hmj=>by
  exact aj2
 have ano:∀ i j,i < j→nR l.toArray mem j=true→mem.getD i false=true→needs l.toArray i l.toArray.size j=true:=fun i j hij hb NJ=>by
  exact arE
 let cu:Array Bool→Nat:=fun listed=>cur (fun i=>mem.getD i false) (fun i=>listed.getD i false) l.length
 let KS:Array Bool→St:=fun listed=>⟨ents l.toArray bI (fun i=>listed.getD i false) l.length++σ.t,ms (cu listed),ny (cu listed)⟩
 have key:∀ (fuel:Nat) (listed:Array Bool) (G:Gh) (a:Act) (w:World),listed.size=l.length→(∀ j oj,l.toArray[j]?=some oj→listed.getD j false=true→∀ e∈oj.after,Region.binds .any e=true→listed.getD e.on false=true) →
   (List.range l.length).countP (fun i=>!listed.getD i false)≤fuel→Ok C (KS listed) G a w→wpAny P .any l.toArray (Post C Q) fuel listed a w:=by
  intro fuel
  have done:∀ (listed:Array Bool) (G:Gh) (a:Act) (w:World),listed.size=l.length→Region.ready .any l.toArray listed=[]→Ok C (KS listed) G a w→Post C Q .normal a w:=by
   intro listed G a w hsz hr ok
   exact axe
  induction fuel with
  | zero =>
   intro listed G a w hsz hcl hf ok
   exact aul
  | succ fuel ih =>
   intro listed G a w hsz hcl hf ok
   refine ⟨fun hr=>done listed G a w hsz hr ok,fun j hj=>?_⟩
   obtain ⟨h1,oj,h2,h4⟩:=mem_ready.1 hj
   have hlt:j < l.length:=by have:=(Array.getElem?_eq_some_iff.1 h2).1;omega
   have h3:listed.getD j false=false:=by
    exact aaR
   have hlj:l[j]?=some oj:=by simpa using h2
   have U3:=e2 j oj hlj
   have hlook:∀ t∈oj.looksAt l.toArray,∀ i,i < l.length→(l.toArray[i]?).bind (·.dst)=some t→listed.getD i false=decide (i < j):=by
    intro t ht i hi hdi
    exact aqN
   have abD:∀ t,look t (ents l.toArray bI (fun _=>true) j)=look t (ents l.toArray bI (fun i=>decide (i < j)) l.length):=by
    intro t
    exact akk
   have hlooks:∀ t∈oj.looksAt l.toArray,look t (KS listed).t=look t (ents l.toArray bI (fun _=>true) j++σ.t):=fun t ht=>by
    exact akm
   have YJ:∀ t,look t (ents l.toArray bI (fun i=>(listed.setIfInBounds j true).getD i false) l.length++σ.t)=look t (oV oj.dst true (bI j)++(KS listed).t):=by
    intro t
    exact axf
   have hset:∀ i,j≠i→(listed.setIfInBounds j true).getD i false=listed.getD i false:=fun i e=>by simp [dM,uT e]
   have abE:(listed.setIfInBounds j true).getD j false=true:=by simp [dM,hsz,hlt]
   have hclose:∀ i oi,l.toArray[i]?=some oi→(listed.setIfInBounds j true).getD i false=true→∀ e∈oi.after,Region.binds .any e=true→(listed.setIfInBounds j true).getD e.on false=true:=by
    intro i oi hi BX e he hb
    exact aq1
   have hcount:(List.range l.length).countP (fun i=>!(listed.setIfInBounds j true).getD i false)≤fuel:=by
    exact aq6
   unfold wpOp
   simp only [h2]
   rcases U3 with ⟨hmf,⟨d,hd,hdN⟩,hmc,hnc,nk,hnk,NJ,hti,hdo⟩|⟨hmt,ayN,hsub,hgd,hdo⟩
   ·-- memory stays
    have hot:iO (KS listed).t (oj.looksAt l.toArray)=iO (ents l.toArray bI (fun _=>true) j++σ.t) (oj.looksAt l.toArray):=uP hlooks
    have apw:nk≤ny (cu listed):=by
     exact aqU
    have okO:Ok C ⟨iO (ents l.toArray bI (fun _=>true) j++σ.t) (oj.looksAt l.toArray),Mc,nk⟩ G a w :=
     ok.few (hnp:=by rcases hnk with h|⟨h,_⟩<;>rw [h]<;>first|exact asH j (by omega)|(rw [← n0];exact ag3)) (ht:=fun i av hx=>⟨by rw [← hot] at hx;exact sS hx,LY hti i av hx⟩) (hM:=fun q o hx=>⟨zf (as5 _ (QX _)) q o hx,(y9 NJ q o hx).1,(y9 NJ q o hx).2⟩)
    exact aqK
   ·-- memory is written
    exact axc
 exact aqQ
end
section
variable {P:Program} {C:Cx} {σ:St} {o:Oper} {d:Tmp} {av:AV} {ops:Array Oper} {rest l:List Oper} {Q:Exit→St→Prop} {mem:List Bool} {Mc:List (Nat×AO)} {fJ k:Nat}
def mO (P:Program)(C:Cx)(ops:Array Oper)(mem:List Bool)(Mc:List (Nat×AO))(fJ k:Nat)(l:List Oper)(σ:St)(Q:Exit→St→Prop):Prop:=∃ σ',DS P C ops mem Mc fJ k l σ σ'∧Q .normal σ'
theorem mO.nil(h:Q .normal σ):mO P C ops mem Mc fJ k [] σ Q:=⟨σ,.nil k σ,h⟩
theorem mO.v0 (hd:Iz C.N ops mem Mc k fJ σ.t o=some (d,true)) (h:WV P C o ⟨iO σ.t (o.looksAt ops),Mc,fJ⟩ av) (r:mO P C ops mem Mc fJ (k+1) rest (σ.put d av) Q):mO P C ops mem Mc fJ k (o::rest) σ Q:=by
 obtain ⟨a,b,c,e,f,g⟩:=RD hd
 obtain ⟨s,x,y⟩:=r
 exact ⟨s,.val k o rest d av fJ σ s a b c (.inl rfl) ⟨e,f,.inl ⟨g,h⟩⟩ x,y⟩
theorem mO.wr {M':List (Nat×AO)} {dh:Nat} (av:AV) (hm:mem.getD k false=true) (hn:Nat.ble σ.nk dh=true) (hs:bP Mc M') (h:Jj P C ops o σ av M' dh) (r:mO P C ops mem Mc fJ (k+1) rest ⟨oV o.dst true av++σ.t,M',dh⟩ Q):mO P C ops mem Mc fJ k (o::rest) σ Q:=by
 obtain ⟨s,x,y⟩:=r
 exact ⟨s,.mem k o rest av M' dh σ s hm hn hs h x,y⟩
theorem mO.st (hd:Iz C.N ops mem Mc k fJ σ.t o=some (d,true)) (h:zD P ⟨iO σ.t (o.looksAt ops),Mc,fJ⟩ o.op=some av) (r:mO P C ops mem Mc fJ (k+1) rest (σ.put d av) Q):mO P C ops mem Mc fJ k (o::rest) σ Q:=mO.v0 hd (tX rfl h) r
theorem mO.idx {rows:List (List AV)} {z:Int} {x:List AV} (hd:Iz C.N ops mem Mc k fJ σ.t o=some (d,true)) (h:ag9 P ⟨iO σ.t (o.looksAt ops),Mc,fJ⟩ o.op=some (rows,z)) (h0:0≤z) (hr:rows[z.toNat]?=some x) (r:mO P C ops mem Mc fJ (k+1) rest (σ.put d (.pr x)) Q):mO P C ops mem Mc fJ k (o::rest) σ Q:=mO.v0 hd (Dz h h0 hr) r
theorem mO.al {T:TypeId} {z:Value} {l:List AV} (hd:wrB mem C.N k o=some d) (ho:o.op=.alloc T) (hz:(P.info? T).bind (·.zero)=some z) (hl:z.cells.toList.map .sc=l) (hs:bP Mc ((σ.nk,.box T l)::σ.M))
  (r:mO P C ops mem Mc fJ (k+1) rest ⟨(d,.pt σ.nk 0 0)::σ.t,(σ.nk,.box T l)::σ.M,σ.nk+1⟩ Q):mO P C ops mem Mc fJ k (o::rest) σ Q:=by
 obtain ⟨a,b,c,e⟩:=CY hd
 have he:oV o.dst true (.pt σ.nk 0 0)=[(d,.pt σ.nk 0 0)]:=by rw [b];rfl
 refine mO.wr (.pt σ.nk 0 0) a (uj (BG _)) hs ⟨c,fun t _=>?_⟩ XK
 rw [he]
 exact WO.alloc (σ:=⟨t,σ.M,σ.nk⟩) ho hz b e hl rfl
theorem mO.yT {T m:Nat} {x y:Operand} {q i j:Nat} {ob ob':AO} {l:List AV} {M2:List (Nat×AO)} (hm:mem.getD k false=true) (hg:o.guard=none) (hds:o.dst=none) (ho:o.op=.store T x y) (hn:iE P T=some m) (hx:σ.ev x=some (.pt q i j)) (hk:look q σ.M=some ob) (hy:σ.ev y=some av)
  (hB:av.mD=true) (hl:av.cells=l) (hlm:l.length=m) (h1:l.all AV.yN=true) (hp:ob.put i j l=some ob') (hM:FH q σ.M=some M2) (hs:bP Mc ((q,ob')::M2)) (r:mO P C ops mem Mc fJ (k+1) rest ⟨σ.t,(q,ob')::M2,σ.nk⟩ Q):mO P C ops mem Mc fJ k (o::rest) σ Q:=by
 have he:∀ av,oV o.dst true av=[]:=fun av=>by rw [hds];rfl
 refine mO.wr (.sc undef) hm (uj (bJ _)) hs ⟨hg,fun t H=>?_⟩ XK
 rw [he]
 have hmem:∀ z∈[x,y],z∈o.op.operands.toList:=fun z hz=>by rw [ho];simp [Op.operands] at hz ⊢;exact hz
 rw [oI hM]
 exact CX (WO.store (σ:=⟨t,σ.M,σ.nk⟩) ho hds hn ((kE H (hmem x (by simp))).trans hx) hk ((kE H (hmem y (by simp))).trans hy) hB hl hlm h1 hp)
theorem WA.ds (mem:List Bool)(ms:List Nat)(hB:Region.lexB .any l.toArray=true)(hch:chainB l.toArray mem=true)(hMc:bP (zn σ.M ms) σ.M)
  (h:mO P C l.toArray mem (zn σ.M ms) σ.nk 0 l σ Q):WA P C l.toArray σ Q:=let⟨_,a,b⟩:=h;WA.auZ mem (zn σ.M ms) hB hch hMc a b
end
section
variable {B:World→View→Prop} {gl:Nat} {P:Program} {C:Cx} {σ:St} {o:Oper} {d:Tmp} {ops:Array Oper} {rest:List Oper} {Q:Exit→St→Prop} {mem:List Bool} {Mc:List (Nat×AO)} {fJ k:Nat}
def awf (P:Program)(σ:St):Op→Option (List (List AV))
 | .binOp .eql T x y _ =>
  match P.underlying T,σ.ev x,σ.ev y with
  | some (.slice _),some (.ls _ rows),some (.sc (.slice none _ _))=>some rows
  | _,_,_=>none
 | _=>none
theorem WL.nlq {rows:List (List AV)} (hd:lK C.N o=some d) (h:awf P σ o.op=some rows) (hk:∀ b:Bool,(b=true→rows=[])→WL P C ops rest (σ.put d (.sc (.bool b))) Q):WL P C ops (o::rest) σ Q:=by
 intro G a w ok
 unfold awf at h
 split at h
 ·rename_i T x y Ty ho
  split at h
  ·rename_i e n rows' m c hT hx hy
   cases h
   obtain ⟨A,cap,ad,u,e1,h1,h2,h3,h4,h5⟩:=(ok.nO hx).2.D7.Bc
   have ey:=ok.evs hy
   obtain ⟨q1,q2,q3⟩:=kN hd
   refine wpList_plain q1 fun K hK=>?_
   refine lJ ?_
   have hrun:=Lib.run_eql_slice_nil (P:=P) w T e A rows.length cap m c hT
   simp only [ho,e1,ey,eqGuard,Sem.run_bind,Sem.run_pure,Result.andThen_ok,hrun]
   simp only [Bool.not_true,Eo,BA,Sem.run_bind,Sem.run_pure,Result.andThen_ok,hrun,Oper.upon]
   refine hK _ _ (hk A.isNone (fun hn=>?_) G _ w ?_)
   ·cases A with
    | some z=>cases hn
    | none =>
     rcases Tq rows.length with h0|h0
     ·exact oN h0
     ·exact absurd (h2 h0) (by simp)
   ·rw [q2]
    exact ok.set (d:=some d) (.pu _ _ (.sc _)) (.sc _) fun x hx=>by cases hx;exact dP q3
  ·cases h
 ·cases h
theorem Tr.yM (k j n:Nat) {T:TypeId} {cells cells':List AV} (hk:look k σ.M=some (.box T cells)) (hj:cells[j]?=some (.sc (.slice none 0 0))) (he:cells.set j (.ls n [])=cells'):Tr C σ (σ.upd k (.box T cells')):=fun G a w ok=>by
 subst he
 obtain ⟨g1,g2,g3,cs,Φ,g4,g5,g6,g7,g8⟩:=ok.ob k _ hk
 have hjl:=(List.getElem?_eq_some_iff.1 hj).1
 refine ⟨G,ok.ae8 hk ⟨g1,fun i av hx=>?_,g3,cs,Φ,g4,by simpa using g5,g6,g7,fun i av u hx hu=>?_⟩⟩
 ·by_cases e:j=i
  ·subst e
   rw [rM hjl] at hx
   cases hx;exact .ls _ _
  ·rw [uf e] at hx;exact g2 i av hx
 ·by_cases e:j=i
  ·subst e
   rw [rM hjl] at hx
   cases hx
   have:=(g8 j _ u hj hu).r rfl
   rw [this.fB]
   exact .inl (.pu _ _ (.ls n [] none 0 ⟨0,0,none⟩ (fun _ _=>undef) (by simp) (by simp) (by simp) (by simp) (by simp)))
  ·rw [uf e] at hx;exact g8 i av u hx hu
theorem mO.ct (hB:Holds B gl C) {f:FuncId} {args args':List AV} {res res':AV} {M M' M2:List (Nat×AO)} {nk dh n2:Nat} (ks:List Nat) (hd:wrB mem C.N k o=some d) (he:Uu σ o.op=some (f,args')) (hc:∀ vs w,(callFunc f vs).run P w=.ok (.enter f vs) w)
  (h:jI B gl P f args M nk res M' dh) (hks:ksB ks nk σ.nk=true) (ha:args.map (AV.ren (rhoC ks nk σ.nk))=args') (hp:args.all (AV.inn nk)=true) (hM:XY σ (rhoC ks nk σ.nk) nk M)
  (hq:(Nat.ble nk dh && M'.all (fun x=>x.2.inn dh) && M'.all (fun x=>Nat.blt x.1 dh) && res.inn dh)=true) (hr:res.ren (rhoC ks nk σ.nk)=res') (hM2:Ec (rhoC ks nk σ.nk) M'++FD ks σ.M=M2) (hn2:σ.nk+(dh-nk)=n2) (hs:bP Mc M2)
  (r:mO P C ops mem Mc fJ (k+1) rest ⟨(d,res')::σ.t,M2,n2⟩ Q):mO P C ops mem Mc fJ k (o::rest) σ Q:=by
 subst hM2 hn2
 obtain ⟨a,b,c,e⟩:=CY hd
 have hent:oV o.dst true res'=[(d,res')]:=by rw [b];rfl
 simp only [aW] at hq
 unfold Uu at he
 split at he
 ·rename_i y xs ts ho
  split at he
  ·rename_i fv mg hy hx
   split at he
   ·rename_i f' caps hf
    cases he
    refine mO.wr res' a (uj (F8 _ _)) hs ⟨c,fun t H=>?_⟩ (by rw [hent];exact r)
    exact aqX
   ·cases he
  ·cases he
 ·cases he
end
section
variable {P:Program} {C:Cx} {σ:St} {o:Oper} {d:Tmp} {ops:Array Oper} {rest:List Oper} {Q:Exit→St→Prop} {mem:List Bool} {Mc:List (Nat×AO)} {fJ k:Nat}
theorem Jd {T n i j:Nat} {rows:List (List AV)} {r l:List AV} (hr:rows[i]?=some r) (hj:j+l.length≤r.length) (hp:l.all AV.Ui=true):(AO.row T n rows).put i j l=some (.row T n (rows.set i (jQ j l r))):=by
 simp only [AO.put,hr]
 rw [if_pos ⟨hj,hp⟩]
end
section
variable {P:Program} {C:Cx} {σ:St}
theorem Tr.nilA {t:Tmp} (j n:Nat) {l l':List AV} (h:look t σ.t=some (.ag l)) (hj:l[j]?=some (.sc (.slice none 0 0))) (he:l.set j (.ls n [])=l') (hl:l.all AV.ZG=true):Tr C σ (σ.put t (.ag l')):=fun G a w ok=>by
 subst he
 have hjl:=(List.getElem?_eq_some_iff.1 hj).1
 have hall:∀ (i:Nat) x,(l.set j (.ls n []))[i]?=some x→x.ZG=true:=fun i x hx=>by
  by_cases e:j=i
  ·subst e
   rw [rM hjl] at hx
   cases hx;rfl
  ·rw [uf e] at hx
   exact List.all_eq_true.1 hl x (cO hx)
 refine ⟨G,ok.ZM h (.ag _ fun i x hx=>acj (hall i x hx) _) fun v hv=>?_⟩
 obtain ⟨cs,rfl,h1,h2⟩:=hv.AX
 refine .ag _ cs rO fun i av u x y=>?_
 by_cases e:j=i
 ·subst e
  rw [rM hjl] at x
  cases x
  rw [(h2 j _ u hj y).fB]
  exact .pu _ _ (.ls n [] none 0 ⟨0,0,none⟩ (fun _ _=>undef) (by simp) (by simp) (by simp) (by simp) (by simp))
 ·rw [uf e] at x
  exact h2 i av u x y
end
def Gh.fpk(G:Gh)(k:Nat)(φ:Nat→Prop):Gh:=⟨G.F,G.b,G.n,G.h,fun q=>if q=k then φ else G.fp q⟩
theorem agC (G:Gh)(k:Nat)(φ:Nat→Prop)(nk:Nat):G.le (G.fpk k φ) nk:=⟨fun _ _ h=>h,fun _ _=>rfl,fun _ _=>rfl,fun _ _=>rfl⟩
theorem qw {G:Gh} {k:Nat} {φ:Nat→Prop}:(G.fpk k φ).fp k=φ:=if_pos rfl
theorem lM {G:Gh} {k q:Nat} {φ:Nat→Prop} (h:q≠k):(G.fpk k φ).fp q=G.fp q:=if_neg h
section
variable {B:World→View→Prop} {gl:Nat} {P:Program} {C:Cx} {σ σ':St} {G G':Gh} {a:Act} {w w':World} {o:Oper} {d:Tmp} {ops:Array Oper} {rest:List Oper} {Q:Exit→St→Prop}
theorem Ok.awC (ok:Ok C σ G a w) {k:Nat} {ob ob':AO} {φ:Nat→Prop} (hk:look k σ.M=some ob) (hob:oU (G.fpk k φ) w k ob') (hbd:ob'.bd σ.nk)
  (hφ:∀ x,φ x→C.may x∧x<w.heap.size∧(∀ i o,i≠k→look i σ.M=some o→¬ G.fp i x)∧∀ p u,G.F p=some u→p.block≠x):Ok C (σ.upd k ob') (G.fpk k φ) a w:=by
 have hl:∀ k' o,look k' (σ.upd k ob').M=some o→(k'=k∧o=ob')∨(k'≠k∧look k' σ.M=some o):=fun k' o hx=>by
  exact al4
 refine ⟨ok.sz,ok.df,fun i av h=>⟨(ok.tm i av h).1,(ok.tm i av h).2.1,(ok.tm i av h).2.2.mono (agC G k φ σ.nk) (ok.tm i av h).2.1⟩,ok.bel,ok.fw,ok.f0,ok.f1,fun i o h=>?_,fun i o x h1 h2=>?_,fun i o i' o' x h1 h2 h3 h4=>?_,fun i o x p u h1 h2 h3=>?_⟩
 ·rcases hl i o h with⟨rfl,rfl⟩|⟨e,y⟩
  ·exact ⟨(ok.ob i _ hk).1,hbd,hob⟩
  ·obtain ⟨a1,a2,a3⟩:=ok.ob i o y
   exact ⟨a1,a2,a3.keep (agC G k φ σ.nk) a1 a2 (lM e) fun _ _=>rfl⟩
 ·rcases hl i o h1 with⟨rfl,rfl⟩|⟨e,y⟩
  ·rw [qw] at h2;exact ⟨(hφ x h2).1,(hφ x h2).2.1⟩
  ·rw [lM e] at h2;exact ok.my i o x y h2
 ·rcases hl i o h1 with⟨rfl,rfl⟩|⟨e,y⟩
  ·rcases hl i' o' h2 with⟨rfl,rfl⟩|⟨e',y'⟩
   ·rfl
   ·rw [qw] at h3
    rw [lM e'] at h4
    exact absurd h4 ((hφ x h3).2.2.1 i' o' e' y')
  ·rcases hl i' o' h2 with⟨rfl,rfl⟩|⟨e',y'⟩
   ·rw [qw] at h4
    rw [lM e] at h3
    exact absurd h3 ((hφ x h4).2.2.1 i o e y)
   ·rw [lM e] at h3
    rw [lM e'] at h4
    exact ok.dj i o i' o' x y y' h3 h4
 ·rcases hl i o h1 with⟨rfl,rfl⟩|⟨e,y⟩
  ·rw [qw] at h2;exact (hφ x h2).2.2.2 p u h3
  ·rw [lM e] at h2;exact ok.dF i o x p u y h2 h3
theorem dH.open_ {F:View} {T n:Nat} {rows:List (List AV)} {v:Value} {φ:Nat→Prop} (h:dH w T n rows v φ (XO F w)) {i j:Nat} {r:List AV} {av:AV} (hr:rows[i]?=some r) (hj:r[j]?=some av) :
  ∃ u ψ,OW F w av u ψ∧(∀ x,ψ x→φ x)∧u.oneCell'=true∧∀ (X:Nat→Nat→(Nat→Prop)→AV→Value→Prop),(∀ χ,X i j χ av u)→(∀ q s χ y z,¬ (q=i∧s=j)→OW F w y z χ→X q s χ y z)→dH w T n rows v (fun x=>φ x∧¬ ψ x) X:=by
 obtain ⟨h1,vs,Φ,h2,h3,h4,h5,h6,h7,h8,h9⟩:=h
 have hi:i<rows.length:=(List.getElem?_eq_some_iff.1 hr).1
 have hv:vs[i]?=some vs[i]:=aI (by omega)
 have e1:=h8 i r _ hr hv
 have hjl:j<vs[i].length:=by rw [e1];exact (List.getElem?_eq_some_iff.1 hj).1
 have hu:vs[i][j]?=some vs[i][j]:=aI hjl
 refine ⟨vs[i][j],Φ i j,h9 i r _ j av _ hr hv hj hu,fun x hx=>(h6 i j x hx).1,h4 _ (dS _) _ (dS _),fun X hX hO=>?_⟩
 refine ⟨h1,vs,fun q s x=>¬ (q=i∧s=j)∧Φ q s x,h2,h3,h4,fun g hg=>⟨h5 g hg,fun hx=>(h6 i j g hx).2 hg⟩,fun q s x hx=>⟨⟨(h6 q s x hx.2).1,fun hy=>hx.1 ((h7 q s i j x hx.2 hy))⟩,(h6 q s x hx.2).2⟩,fun q s q' s' x hx hy=>h7 q s q' s' x hx.2 hy.2,h8,fun q r1 r2 s y z a1 a2 a3 a4=>?_⟩
 by_cases e:q=i∧s=j
 ·obtain ⟨rfl,rfl⟩:=e
  rw [hr] at a1;cases a1
  rw [hv] at a2;cases a2
  rw [hj] at a3;cases a3
  rw [hu] at a4;cases a4
  exact hX _
 ·have:(fun x=>¬ (q=i∧s=j)∧Φ q s x)=Φ q s:=by
   funext x
   exact propext ⟨fun hx=>hx.2,fun hx=>⟨e,hx⟩⟩
  show X q s (fun x=>¬ (q=i∧s=j)∧Φ q s x) y z
  rw [this]
  exact hO q s _ y z e (h9 q r1 r2 s y z a1 a2 a3 a4)
theorem Tr.open_ (k i j:Nat) {T n T' n' m:Nat} {rows rows':List (List AV)} {r:List AV} (hk:look k σ.M=some (.jM T n rows)) (hr:rows[i]?=some r) (hj:r[j]?=some (.ow T' n' rows')) (hp:∀ q∈rows',∀ av∈q,av.own=false) (hm:σ.nk=m) :
  Tr C σ ((σ.new (.row T' n' rows')).upd k (.oW T n rows i j (.sl m))):=fun G a w ok=>by
 subst hm
 obtain ⟨g1,_,g3,g4,g5⟩:=ok.ob k _ hk
 obtain ⟨u,ψ,hO,Uh,hone,hX⟩:=g5.open_ hr hj
 have hR:=hO.row
 have ok1:=ok.awC (φ:=fun x=>G.fp k x∧¬ ψ x) (ob':=.oW T n rows i j (.sc u)) hk ⟨g3,g4,by
  rw [qw]
  refine hX (XQ (G.fpk k _) w i j (.sc u)) (fun χ=>?_) fun q s χ y z hne hy=>?_
  ·unfold XQ
   rw [if_pos ⟨rfl,rfl⟩]
   exact .pu _ _ (.sc u)
  ·unfold XQ
   rw [if_neg hne]
   exact hy⟩ (.sc u) fun x hx=>⟨(ok.my k _ x hk hx.1).1,(ok.my k _ x hk hx.1).2,fun q oq hq h1 h2=>hq (ok.dj q oq k _ x h1 hk h2 hx.1),fun p v=>ok.dF k _ x p v hk hx.1⟩
 have ok2:=ok1.newObj (S:=fun _=>False) (b:=u.ownBlock.getD 0) (n:=n') (h:=u) (φ:=ψ) (ob:=.row T' n' rows') (Kept.refl _ w) (fun _ h=>h.elim) (fun _ _ _ _ _ h=>h) (fun _ _ _ h=>h)
  ⟨x9,(fun g hg=>by rw [iL] at hg;rw [xZ,hg];rfl),by
   rw [iL,vN]
   exact hR.keep (fun _ _=>rfl) fun q rr s av χ z a1 a2 _ x=>OW.p x (hp rr (cO a1) av (cO a2))⟩ trivial
  (fun x hx=>⟨(ok.my k _ x hk (Uh x hx)).1,(ok.my k _ x hk (Uh x hx)).2,fun q oq h1 h2=>by
   by_cases e:q=k
   ·subst e
    rw [qw] at h2
    exact h2.2 hx
   ·rw [lM e] at h2
    rw [show look q (σ.upd k _).M=look q σ.M from aj e] at h1
    exact e (ok.dj q oq k _ x h1 hk h2 (Uh x hx)),fun p v h1=>ok.dF k _ x p v hk (Uh x hx) h1⟩)
 have hkn:k≠(σ.upd k (.oW T n rows i j (.sc u))).nk:=Nat.ne_of_lt g1
 have hk2:look k ((σ.upd k (.oW T n rows i j (.sc u))).new (.row T' n' rows')).M=some (.oW T n rows i j (.sc u)):=(aj hkn).trans aA
 obtain ⟨b1,b2,b3,b4,b5⟩:=ok2.ob k _ hk2
 have ok3:=ok2.ae8 (ob':=.oW T n rows i j (.sl σ.nk)) hk2 ⟨b1,.sl _ (wQ _),b3,b4,b5.keep (fun _ _=>rfl) fun q rr s av χ z _ _ _ x=>by
  unfold XQ at x ⊢
  by_cases e:q=i∧s=j
  ·rw [if_pos e] at x ⊢
   rw [x.fB]
   exact uS hone
  ·rw [if_neg e] at x ⊢
   exact x⟩
 have hl:∀ q,look q ((σ.new (.row T' n' rows')).upd k (.oW T n rows i j (.sl σ.nk))).M=look q (((σ.upd k (.oW T n rows i j (.sc u))).new (.row T' n' rows')).upd k (.oW T n rows i j (.sl σ.nk))).M:=fun q=>by
  by_cases e:q=k
  ·subst e;exact aA.trans aA.symm
  ·refine (aj e).trans (Eq.trans ?_ (aj e).symm)
   by_cases e2:q=σ.nk
   ·subst e2;exact aA.trans aA.symm
   ·exact (aj e2).trans ((aj e2).trans (aj e)).symm
 exact ⟨_,ok3.sz,ok3.df,ok3.tm,ok3.bel,ok3.fw,ok3.f0,ok3.f1,fun q x hx=>ok3.ob q x Il,fun q x y hx=>ok3.my q x y Il,fun q x q' x' y hx hx'=>ok3.dj q x q' x' y Il (by rw [← hl];exact hx'),fun q x y p u hx=>ok3.dF q x y p u Il⟩
theorem Tr.close_ (k:Nat) {T n T' n' m i j:Nat} {rows rows' fV:List (List AV)} {r:List AV} (hk:look k σ.M=some (.oW T n rows i j (.sl m))) (hm:look m σ.M=some (.row T' n' rows')) (hkm:Nat.beq k m=false) (hr:rows[i]?=some r) (hj:j<r.length) (he:rows.set i (r.set j (.ow T' n' rows'))=fV) :
  Tr C σ ((σ.drop m).upd k (.jM T n fV)):=fun G a w ok=>by
 subst he
 have hne:k≠m:=fun e=>by rw [e,Qm] at hkm;cases hkm
 obtain ⟨g1,_,g3,g4,g5⟩:=ok.ob k _ hk
 obtain ⟨m1,_,m3,m4,m5⟩:=ok.ob m _ hm
 have okd:=ok.UD m
 have hkd:look k (σ.drop m).M=some (.oW T n rows i j (.sl m)):=by
  show look k (rem m σ.M)=_
  rw [nY,if_neg hne];exact hk
 have hIn:OW G.F w (.ow T' n' rows') (G.h m) (G.fp m):=(m5.keep (X':=XO G.F w) (fun _ _=>rfl) fun q rr s av χ z _ _ _ x=>.pu _ _ _ x).ow
 have hi:i<rows.length:=(List.getElem?_eq_some_iff.1 hr).1
 have hdj:∀ x,G.fp k x→G.fp m x→False:=fun x h1 h2=>hne (ok.dj k _ m _ x hk hm h1 h2)
 refine ⟨G.fpk k (fun x=>G.fp k x∨G.fp m x),okd.awC hkd ⟨g3,g4,?_⟩ trivial fun x hx=>?_⟩
 ·rw [qw]
  obtain ⟨h1,vs,Φ,h2,h3,h4,h5,h6,h7,h8,h9⟩:=g5
  have key:∀ q s,(if q=i∧s=j then (fun (_:Unit)=>G.fp m) else (fun _=>Φ q s)) ()=fun x=>(q=i∧s=j∧G.fp m x)∨(¬ (q=i∧s=j)∧Φ q s x):=fun q s=>by
   by_cases e:q=i∧s=j
   ·rw [if_pos e]
    funext x
    exact propext ⟨fun h=>.inl ⟨e.1,e.2,h⟩,fun h=>h.elim (fun y=>y.2.2) fun y=>absurd e y.1⟩
   ·rw [if_neg e]
    funext x
    exact propext ⟨fun h=>.inr ⟨e,h⟩,fun h=>h.elim (fun y=>absurd ⟨y.1,y.2.1⟩ e) fun y=>y.2⟩
  refine ⟨fun q hq=>?_,vs,fun q s x=>(q=i∧s=j∧G.fp m x)∨(¬ (q=i∧s=j)∧Φ q s x),h2,by simpa using h3,h4,fun g hg=>.inl (h5 g hg),fun q s x hx=>?_,fun q s q' s' x hx hy=>?_,fun q r1 r2 a1 a2=>?_,fun q r1 r2 s y z a1 a2 a3 a4=>?_⟩
  ·rcases Ql hq with hq|rfl
   ·exact h1 q hq
   ·rw [wV];exact h1 r (cO hr)
  ·rcases hx with⟨_,_,hx⟩|⟨_,hx⟩
   ·exact ⟨.inr hx,fun e=>hdj x (h5 x e) hx⟩
   ·exact ⟨.inl (h6 q s x hx).1,(h6 q s x hx).2⟩
  ·rcases hx with⟨e1,e2,hx⟩|⟨_,hx⟩
   ·rcases hy with⟨e3,e4,hy⟩|⟨_,hy⟩
    ·exact ⟨e1.trans e3.symm,e2.trans e4.symm⟩
    ·exact (hdj x (h6 _ _ x hy).1 hx).elim
   ·rcases hy with⟨e3,e4,hy⟩|⟨_,hy⟩
    ·exact (hdj x (h6 _ _ x hx).1 hy).elim
    ·exact h7 q s q' s' x hx hy
  ·by_cases e:i=q
   ·subst e
    rw [rM hi] at a1
    cases a1
    rw [wV];exact h8 i r r2 hr a2
   ·rw [uf e] at a1
    exact h8 q r1 r2 a1 a2
  ·show OW G.F w y z (fun x=>(q=i∧s=j∧G.fp m x)∨(¬ (q=i∧s=j)∧Φ q s x))
   rw [← key q s]
   by_cases e:i=q
   ·subst e
    rw [rM hi] at a1
    cases a1
    by_cases e2:j=s
    ·subst e2
     rw [rM hj] at a3
     cases a3
     rw [if_pos ⟨rfl,rfl⟩]
     have:=h9 i r r2 j r[j] z hr a2 (aI hj) a4
     unfold XQ at this
     rw [if_pos ⟨rfl,rfl⟩] at this
     rw [this.nG.1]
     exact hIn
    ·rw [uf e2] at a3
     rw [if_neg (fun h=>e2 h.2.symm)]
     have:=h9 i r r2 s y z hr a2 a3 a4
     unfold XQ at this
     rw [if_neg (fun h=>e2 h.2.symm)] at this
     exact this
   ·rw [uf e] at a1
    rw [if_neg (fun h=>e h.1.symm)]
    have:=h9 q r1 r2 s y z a1 a2 a3 a4
    unfold XQ at this
    rw [if_neg (fun h=>e h.1.symm)] at this
    exact this
 ·have old:∀ q oq,look q σ.M=some oq→(q=k∨q=m)→G.fp q x→C.may x∧x<w.heap.size∧(∀ i o,i≠k→look i (σ.drop m).M=some o→¬ G.fp i x)∧∀ p u,G.F p=some u→p.block≠x:=fun q oq hq hkq hx=>by
   refine ⟨(ok.my q oq x hq hx).1,(ok.my q oq x hq hx).2,fun i' o' hi' h1 h2=>?_,fun p u=>ok.dF q oq x p u hq hx⟩
   obtain ⟨d1,d2⟩:=kG h1
   have:=ok.dj i' o' q oq x d2 hq h2 hx
   rcases hkq with e|e
   ·exact hi' (this.trans e)
   ·exact d1 (this.trans e)
  rcases hx with hx|hx
  ·exact old k _ hk (.inl rfl) hx
  ·exact old m _ hm (.inr rfl) hx
def aBF (P:Program)(σ:St):Op→Option (Nat×TypeId×Nat×List (List AV)×Nat×Nat×AV)
 | .store T x y =>
  match σ.ev x,σ.ev y with
  | some (.pt k i j),some av =>
   match iE P T,look k σ.M with
   | some 1,some (.jM T' n rows)=>bif av.yN then some (k,T',n,rows,i,j,av)else none
   | _,_=>none
  | _,_=>none
 | _=>none
def aBG (P:Program)(σ:St):Op→Option (Nat×TypeId×Nat×List (List AV)×Nat×Nat×Nat×Nat×AV)
 | .store T x y =>
  match σ.ev x,σ.ev y with
  | some (.pt k i j),some av =>
   match iE P T,look k σ.M with
   | some 1,some (.oW T' n rows hi hj _)=>bif av.yN then some (k,T',n,rows,i,j,hi,hj,av)else none
   | _,_=>none
  | _,_=>none
 | _=>none
theorem WV.ldQ {T T' n:Nat} {x:Operand} {k i j:Nat} {rows:List (List AV)} {r:List AV} {av:AV} (ho:o.op=.load T x) (hT:yI P T=some false) (hx:σ.ev x=some (.pt k i j)) (hk:look k σ.M=some (.oW T' n rows i j av)) (hr:rows[i]?=some r) (hj:j<r.length):WV P C o σ av :=
 WV.val (fun G a w ok=>(ok.ob k _ hk).2.1) fun G a w ok=>by
  obtain ⟨p,e,h1,h2,h3⟩:=(ok.nO hx).2.lV
  obtain rfl:=addr_eq h1 h2 h3
  obtain ⟨hn,hg,hR⟩:=(ok.ob k _ hk).2.2
  obtain ⟨u,hu,ψ,hX⟩:=hR.QN hg hr (aI hj)
  unfold XQ at hX
  rw [if_pos ⟨rfl,rfl⟩] at hX
  rw [← hn] at hu
  exact ⟨u,by unfold execOp;simp [ho,e,FP hT hu],hX⟩
def anP (P:Program)(σ:St):Op→Option (List (List AV)×Nat×Nat×Nat×Nat×AV)
 | .load T x =>
  match yI P T,σ.ev x with
  | some false,some (.pt k i j) =>
   match look k σ.M with
   | some (.oW _ _ rows hi hj av)=>some (rows,i,j,hi,hj,av)
   | _=>none
  | _,_=>none
 | _=>none
theorem ahg {rows:List (List AV)} {i j hi hj:Nat} {r:List AV} {av:AV} (h:anP P σ o.op=some (rows,i,j,hi,hj,av))(e1:i=hi)(e2:j=hj)(hr:rows[i]?=some r)(hjr:j<r.length):WV P C o σ av:=by
 subst e1 e2
 unfold anP at h
 split at h
 ·rename_i T x ho
  split at h
  ·rename_i k i' j' hT hx
   split at h
   ·rename_i T' n rows' hi' hj' XZ hk
    cases h
    exact WV.ldQ ho hT hx hk hr hjr
   ·cases h
  ·cases h
 ·cases h
theorem WL.ldQ {rows:List (List AV)} {i j hi hj:Nat} {r:List AV} {av:AV} (hd:lK C.N o=some d)(h:anP P σ o.op=some (rows,i,j,hi,hj,av))(e1:i=hi)(e2:j=hj)(hr:rows[i]?=some r)(hjr:j<r.length)(k:WL P C ops rest (σ.put d av) Q):WL P C ops (o::rest) σ Q:=WL.vl hd (ahg h e1 e2 hr hjr) k
def gY (C:Cx)(σ:St)(av XZ:AV):Prop:=∀ G a w,Ok C σ G a w→∀ v,R G av v→RP (fun q=>w.cell? q) XZ v
inductive Dn (C:Cx) (σ:St):List AV→List AV→Prop
 | nil:Dn C σ [] []
 | cons {x y:AV} {l m:List AV}:gY C σ x y→Dn C σ l m→Dn C σ (x::l) (y::m)
theorem Dn.at_ {l m:List AV} (h:Dn C σ l m):l.length=m.length∧∀ (i:Nat)y,m[i]?=some y→∃ x,l[i]?=some x∧gY C σ x y:=by
 induction h with
 | nil=>exact⟨rfl,fun i y hy=>by simp at hy⟩
 | cons h1 _ ih =>
  refine⟨by simp [ih.1],fun i y hy=>?_⟩
  cases i with
  | zero=>cases hy;exact⟨_,rfl,h1⟩
  | succ i=>exact ih.2 i y (by simpa using hy)
theorem gY.pu {av:AV} (hp:av.pu2=true):gY C σ av av:=fun G a w ok v h=>RP.mono (fun p u x=>ok.fw p u x) ((oC hp 0).rp h)
theorem gY.row {k T n:Nat} {rows:List (List AV)} (hk:look k σ.M=some (.row T n rows)):gY C σ (.sl k) (.ls n rows):=fun G a w ok v h=>by
 rw [h.nG.1]
 obtain ⟨_,_,hob⟩:=ok.ob k _ hk
 have:=dH.fix (F':=fun q=>w.cell? q) id hob.2.2 (fun _ _=>rfl) fun i r j av u ψ _ _ _ x=>RP.mono (fun p u x=>ok.fw p u x) x
 exact ng
theorem gY.jM (dp:Nat) {k T n:Nat} {rows rows':List (List AV)} (hk:look k σ.M=some (.jM T n rows)) (hs:∀ r∈rows,∀ av∈r,av.Oo dp=true) (hr:(rows.map fun r=>r.map (AV.fz dp))=rows'):gY C σ (.sl k) (.ls n rows'):=fun G a w ok v h=>by
 rw [h.nG.1,← hr]
 obtain ⟨_,_,hob⟩:=ok.ob k _ hk
 exact dH.fix (F':=fun q=>w.cell? q) (AV.fz dp) hob.2.2 (fun _ _=>rfl) fun i r j av u ψ hr hav Uh x=>OW.fix (fun p u x=>ok.fw p u x) dp x (fun _ _=>rfl) (hs r (cO hr) av (cO hav))
theorem dH.ax4 {T n:Nat} {rows rows':List (List AV)} {v:Value} {φ:Nat→Prop} {X:Nat→Nat→(Nat→Prop)→AV→Value→Prop} {F':View} (h:dH w T n rows v φ X)(hl:rows'.length=rows.length)(hln:∀ r∈rows',r.length=n)
  (hX:∀ (i:Nat) r (j:Nat) av u ψ,rows'[i]?=some r→r[j]?=some av→(∀ r0 av0,rows[i]?=some r0→r0[j]?=some av0→X i j ψ av0 u)→RP F' av u)(hF:∀ p,φ p.block→F' p=w.cell? p):RP F' (.ls n rows') v:=by
 have hrl:=h.1
 have h':dH w T n rows' v φ (fun i j ψ av u=>∀ r0 av0,rows[i]?=some r0→r0[j]?=some av0→X i j ψ av0 u):=by
  obtain⟨h1,vs,Φ,h2,h3,h4,h5,h6,h7,h8,h9⟩:=h
  refine⟨hln,vs,Φ,h2,by rw [hl];exact h3,h4,h5,h6,h7,fun i r r' a1 a2=>?_,fun i r r' j av u a1 a2 a3 a4 r0 av0 b1 b2=>h9 i r0 r' j av0 u b1 a2 b2 a4⟩
  have hi:i<rows.length:=by rw [← hl];exact (List.getElem?_eq_some_iff.1 a1).1
  have e0:=h8 i rows[i] r' (aI hi) a2
  rw [e0,hln r (cO a1)]
  exact hrl _ (dS _)
 have:=dH.fix (F':=F') id h' hF fun i r j av u ψ hr hav _ x=>hX i r j av u ψ hr hav x
 simpa using this
theorem gY.oW (dp:Nat) {k T n i j:Nat} {rows rows':List (List AV)} {r:List AV} {x x':AV} (hk:look k σ.M=some (.oW T n rows i j x)) (hx:gY C σ x x') (hs:∀ r∈rows,∀ av∈r,av.Oo dp=true) (hr:rows[i]?=some r) (hj:j<r.length)
  (he:(rows.map fun r=>r.map (AV.fz dp)).set i ((r.map (AV.fz dp)).set j x')=rows'):gY C σ (.sl k) (.ls n rows'):=fun G a w ok v h=>by
 rw [h.nG.1,← he]
 obtain ⟨_,_,hob⟩:=ok.ob k _ hk
 have hi:i<rows.length:=(List.getElem?_eq_some_iff.1 hr).1
 have hrl:=hob.2.2.1
 refine dH.ax4 hob.2.2 (by simp) (fun q hq=>?_) (fun q r1 s av u ψ a1 a2 a3=>?_) (fun _ _=>rfl)
 ·rcases Ql hq with hq|rfl
  ·obtain ⟨r0,h0,rfl⟩:=List.mem_map.1 hq
   rw [aH];exact hrl r0 h0
  ·rw [wV,aH];exact hrl r (cO hr)
 ·by_cases e:i=q
  ·subst e
   rw [rM Qu] at a1
   cases a1
   by_cases e2:j=s
   ·subst e2
    rw [rM Ez] at a2
    cases a2
    have:=a3 r r[j] hr (aI hj)
    unfold XQ at this
    rw [if_pos ⟨rfl,rfl⟩] at this
    exact hx G a w ok u this
   ·rw [uf e2,bT] at a2
    cases h0:r[s]? with
    | none=>simp [h0] at a2
    | some av0 =>
     simp only [h0,oM,Option.some.injEq] at a2
     subst a2
     have:=a3 r av0 hr h0
     unfold XQ at this
     rw [if_neg (fun h=>e2 h.2.symm)] at this
     exact OW.fix (fun p u x=>ok.fw p u x) dp this (fun _ _=>rfl) (hs r (cO hr) av0 (cO h0))
  ·rw [uf e,bT] at a1
   cases h0:rows[q]? with
   | none=>simp [h0] at a1
   | some r0 =>
    simp only [h0,oM,Option.some.injEq] at a1
    subst a1
    rw [bT] at a2
    cases h1:r0[s]? with
    | none=>simp [h1] at a2
    | some av0 =>
     simp only [h1,oM,Option.some.injEq] at a2
     subst a2
     have:=a3 r0 av0 h0 h1
     unfold XQ at this
     rw [if_neg (fun h=>e h.1.symm)] at this
     exact OW.fix (fun p u x=>ok.fw p u x) dp this (fun _ _=>rfl) (hs r0 (cO h0) av0 (cO h1))
theorem gY.ag {l m:List AV} (h:Dn C σ l m):gY C σ (.ag l) (.ag m):=fun G a w ok v hv=>by
 obtain ⟨cs,rfl,h1,h2⟩:=hv.AX
 obtain ⟨q1,q2⟩:=h.at_
 refine .ag _ cs au fun i av u x y=>?_
 obtain ⟨b,hb,hL⟩:=q2 i av x
 exact hL G a w ok u (h2 i b u hb y)
theorem WV.abJ (hB:Holds B gl C) {f:FuncId} {xs:Array Operand} {ts:Array TypeId} {args args':List AV} {res:Value} (ho:o.op=.call { callee:=.value (.func f),args:=xs,argTypes:=ts }) (hc:∀ vs w,(callFunc f vs).run P w=.ok (.enter f vs) w)
  (hx:σ.evs xs.toList=some args) (hl:Dn C σ args args') (hst:∀ w F F',View.le F F'→B w F→B w F') (h:kJ B P f args' (.sc res)):WV P C o σ (.sc res):=by
 intro G a w ok N Q' hN
 obtain ⟨e1,e2⟩:=ok.evl hx
 obtain ⟨q1,q2⟩:=hl.at_
 have hF:G.F.le fun q=>w.cell? q:=fun p u x=>ok.fw p u x
 have pG:=h w (fun q=>w.cell? q) (xs.toList.map a.eval) (hst w _ _ hF (hB.1 w G.F ok.bel ok.f0)) (fun _ _ x=>x) ⟨by rw [e1,q1],fun i av u p q=>by
  obtain ⟨b,hb,hL⟩:=q2 i av p
  exact hL G a w ok u (e2 i b u hb q)⟩
 refine lJ ?_
 have ev:a.eval (.func f)=.func (.func f) #[] #[]:=rfl
 have e3:(#[]++xs.map a.eval++#[]:Array Value)=(xs.toList.map a.eval).toArray:=by apply Bz;simp
 simp only [ho,resolve,ev,Deferred.ofValue,invoke,Sem.run_bind,Sem.run_pure,Result.andThen_ok,hc,Oper.upon,e3]
 refine pG.mono fun e w1 ⟨v,F',he,hb,h1,h2,h3,h4⟩=>?_
 subst he
 have hv:=h4.fB
 subst hv
 exact hN _ { G with F:=G.F } w1 (fun Dk a'' Fj=>Fj.called hb (fun _ _ x=>x) (fun p u x=>by rw [hb.cell (aN (ok.fw p u x))];exact ok.fw p u x) (fun _ _ x=>.inl x)) (.pu _ _ (.sc _)) (RP.bd (F:=G.F) (.sc _) _)
end
theorem ZJ (v:Int)(d t:Bool):aU Tryz.prog 113 [.ag [.sc (.int .i64 v),.sc (.bool d),.sc (.bool t)]] (.sc (.bool (gZ v d t))):=by
 intro w F vs hF hR
 match vs,hR.1 with
 | [x],_ =>
  obtain⟨cs,rfl,h1,h2⟩:∃ cs:Array Value,x=.agg cs∧cs.size=3∧∀ (i:Nat)av u,[AV.sc (.int .i64 v),.sc (.bool d),.sc (.bool t)][i]?=some av→cs[i]?=some u→RP F av u:=by
   cases hR.2 0 _ x rfl rfl with|ag l cs a b=>exact⟨cs,rfl,a,b⟩
  have g:∀ i (h:i<3),cs[i]?=some (cs[i]'(by omega)):=fun i h=>uh (by omega)
  have e:cs=#[.int .i64 v,.bool d,.bool t]:=by
   apply Array.ext (by simp [h1])
   intro i hi hi2
   match i,(show i<3 by omega)with
   | 0,_=>exact (h2 0 _ _ rfl (g 0 au)).fB
   | 1,_=>exact (h2 1 _ _ rfl (g 1 au)).fB
   | 2,_=>exact (h2 2 _ _ rfl (g 2 au)).fB
  subst e
  exact (afb v d t w).mono fun e w'⟨he,hb⟩=>⟨_,F,he,hb,fun _ _ h=>h,fun p u x=>by rw [hb.cell (aN (hF p u x))];exact hF p u x,fun _ _ h=>.inl h,.sc _⟩
theorem aiE (p:aS) (hO:jm p) (i x:Int):aU Tryz.prog 102 [bK p,.sc (.int .i64 i),.sc (.int .i64 x)] (.sc (.int .i64 (ah p.evs i x))) :=
 aU.PG (pre:=[]) (post:=[.sc (.int .i64 i),.sc (.int .i64 x)]) rfl rfl (fun _=>.sc _) fun w M hM=>Sm M p i x w hM hO
theorem aeY (p:aS) (hO:jm p):aU Tryz.prog 18 [bK p] (bK p):=by
 refine jl Tryz.func18 Tryz.ntmps18 fun w0 F0=>?_
 have hn3:=hO.n3
 refine Qp ?_
 refine WL.vl rfl (WV.call rfl (ak Tryz.func58 rfl rfl) rfl rfl (YP p.cs p.st hO.n1 hO.n2)) ?_
 refine Qp ?_
 refine W.tr (Tr.og (k:=2) (j:=2) 90 6 rfl rfl rfl rfl) ?_
 refine W.loop (fun k:Nat=>k≤p.evs.length) (fun k=>⟨[(1,.pt 0 0 0),(2,.pt 1 0 0),(3,.pt 2 0 0),(4,.sc (.int .i64 k))],[(0,.box 30 [.ls 3 (p.cs.map aF),.ls 1 (p.st.map eInt),.ls 6 (p.evs.map dI)]),(1,.box 30 [.sc (.slice none 0 0),.sc (.slice none 0 0),.sc (.slice none 0 0)]),(2,.box 30 [.ls 3 (p.cs.map aF),.ls 1 (p.st.map eInt),.sl 3]),(3,.row 90 6 ((p.evs.take k).map dI))],4⟩) (fun k=>p.evs.length - k) 0 au (zqt id) fun k hk=>?_
 refine Qp ?_
 (refine W.cond rfl (fun hif=>?_) (fun hif=>?_)<;>(try simp only [gu,jS,kQ,kR,iy,kS] at hif))
 ·have hk2:k < p.evs.length:=by omega
  have h20:=hO.n4 k hk2
  refine Qp ?_
  refine WL.tr (Tr.freeze 6 rfl) ?_
  refine Qp ?_
  refine ⟨k+1,by omega,by omega,kL (fun q=>bif Nat.beq q 3 then 8 else q) (by repeat (first|exact trivial|refine ⟨⟨?_,?_,?_⟩,?_⟩|exact congrArg (fun r=>some (AO.row _ _ r)) (Bo hk2)|rfl)) rfl⟩
 ·have he:k=p.evs.length:=by omega
  subst he
  refine Qp ?_
  refine W.tr (Tr.freeze 3 rfl) ?_
  refine W.ret (Jz rfl rfl rfl rfl rfl rfl ?_ rfl)
  show AV.ag [_,_,.ls 6 ((p.evs.take p.evs.length).map dI)]=bK p
  rw [jH]
  rfl
section
variable {P:Program} {C:Cx} {σ:St} {G:Gh} {a:Act} {w:World} {o:Oper} {d:Tmp} {ops:Array Oper} {rest:List Oper} {Q:Exit→St→Prop}
theorem WO.buildO {T e n q:Nat} {z:Value} {parts:Array (Nat×Operand)} {x0:Operand} {av0 y0:AV} {j0:Nat} (ho:o.op=.buildSlice T 1 parts) (hT:P.underlying T=some (.slice e)) (hn:iE P e=some n) (hz:(P.info? e).bind (·.zero)=some z)
  (hp:parts.toList=number 0 [x0]) (hb:Nat.ble (1*n) 16777216=true) (hds:o.dst=some d) (hd:Nat.blt d C.N=true) (hx:σ.ev x0=some av0) (hcB:av0.mD=true) (hcl:av0.cells.length=n) (hc1:av0.cells.all AV.yN=true) (hcj:av0.cells[j0]?=some y0) (hc0:∀ s x,s≠j0→av0.cells[s]?=some x→x.Ui=true) (hq:σ.nk=q) :
  WO P C o σ ((σ.new (.oW e n [av0.cells] 0 j0 y0)).put d (.sl q)):=by
 intro G a w ok N Q' hN
 obtain ⟨hbd,hr⟩:=ok.nO hx
 obtain ⟨c1,c2⟩:=sN hr hcB
 have hv:(a.eval x0).cells.size=n:=c1.trans hcl
 have hrun:=Lr (P:=P) (T:=T) (e:=e) (n:=n) (m:=1) (vs:=[a.eval x0]) (parts:=parts.map fun (i,x)=>(i,a.eval x)) hT hn hz (by
  have:=Cm a.eval 0 [x0]
  rw [← hp] at this
  simpa using this) rfl (fun v hv'=>by obtain rfl:=List.mem_singleton.1 hv';exact hv) (bU hb) w
 have hfl:(([a.eval x0]).map fun v=>v.cells.toList).flatten=(a.eval x0).cells.toList:=by simp
 have hown:=PI w e n 1 (([a.eval x0]).map fun v=>v.cells.toList).flatten.toArray XF (by
  rw [hfl,aan,hv];omega)
 have ag6:∀ r∈[(a.eval x0).cells.toList],∀ u∈r,u.oneCell'=true:=fun r hr' u hu=>by
  obtain rfl:=List.mem_singleton.1 hr'
  obtain ⟨j,hj,rfl⟩:=eu hu
  have hj2:j<av0.cells.length:=by rw [← c1];simpa using hj
  exact Jb (c2 j _ _ (aI hj2) (by simp at hj;simp [hj])) (List.all_eq_true.1 hc1 _ (dS hj2))
 have hsl:(.slice (some ⟨w.heap.size,0,none⟩) 1 1:Value).ownBlock=some w.heap.size:=rfl
 have hy:Bd σ.nk y0:=Dt hbd j0 y0 hcj
 have ok':=ok.newObj (w':=w.alloc (.cells (([a.eval x0]).map fun v=>v.cells.toList).flatten.toArray e)) (S:=fun _=>False) (b:=w.heap.size) (n:=n) (h:=.slice (some ⟨w.heap.size,0,none⟩) 1 1) (φ:=fun x=>x=w.heap.size) (ob:=.oW e n [av0.cells] 0 j0 y0)
  (Kept.below ((Below.refl _ _).alloc (bJ _) _)) (fun _ h=>h.elim) (fun _ _ _ _ _ h=>h) (fun _ _ _ h=>h)
  ⟨x9,(fun g hg=>by rw [iL,hsl] at hg;rw [xZ];exact (Option.some.inj hg).symm),by
   rw [iL,vN]
   refine ⟨fun r hr'=>by obtain rfl:=List.mem_singleton.1 hr';exact hcl,[(a.eval x0).cells.toList],fun _ _ _=>False,?_,rfl,ag6,fun g hg=>by rw [hsl] at hg;exact (Option.some.inj hg).symm,
    fun _ _ _ h=>h.elim,fun _ _ _ _ _ h=>h.elim,fun i r r' h1 h2=>?_,fun i r r' j av u h1 h2 h3 h4=>?_⟩
   ·exact CJ (by simpa using hown) (gU _)
   ·cases i with
    | zero=>cases h1;cases h2;simpa using c1
    | succ i=>simp at h1
   ·cases i with
    | succ i=>simp at h1
    | zero =>
     cases h1;cases h2
     have hR:=c2 j av u h3 (by simpa using h4)
     unfold XQ
     by_cases e:j=j0
     ·subst e
      rw [if_pos ⟨rfl,rfl⟩]
      rw [hcj] at h3
      cases h3
      exact hR.mono (G.SX σ.nk _ _ _ _) hy
     ·rw [if_neg (fun h=>e h.2)]
      exact .pu _ _ _ (show RP G.F av u from (zo (hc0 j av e h3) 0).rp hR)⟩ (hy.mono (BG _)) (fun x hx=>by
   obtain rfl:x=w.heap.size:=hx
   refine ⟨.inl ok.bel.size,by simp,fun k o h1 h2=>?_,fun p u h1 h2=>?_⟩
   ·have:=(ok.my k o _ h1 h2).2;omega
   ·have:=aN (ok.fw p u h1);omega)
 refine lJ ?_
 simp only [ho,Sem.run_bind,hrun,Result.andThen_ok,Sem.run_pure,Oper.upon]
 rw [hds]
 subst hq
 exact hN _ _ _ (ok'.set (d:=some d) (av:=.sl σ.nk) (v:=.slice (some ⟨w.heap.size,0,none⟩) 1 1) (uS rfl) (.sl _ (wQ _)) fun x hx=>by cases hx;exact dP hd)
structure BdD where
 e:TypeId
 n:Nat
 cells:List AV
def auT (P:Program) (σ:St):Op→Option BdD
 | .buildSlice T 1 ⟨[(0,x)]⟩ =>
  match P.underlying T,σ.ev x with
  | some (.slice e),some av =>
   match iE P e,(P.info? e).bind (·.zero) with
   | some n,some _=>bif av.mD && Nat.beq av.cells.length n && av.cells.all AV.yN && Nat.ble (1*n) 16777216 then some ⟨e,n,av.cells⟩ else none
   | _,_=>none
  | _,_=>none
 | _=>none
def KN (j:Nat):Nat→List AV→Bool
 | _,[]=>true
 | s,x::r=>(Nat.beq s j|| x.Ui) && KN j (s+1) r
theorem Fz {j:Nat}:∀ {l:List AV} {s:Nat},KN j s l=true→∀ i x,s+i≠j→l[i]?=some x→x.Ui=true
 | [],s,_,i,x,_,h=>by simp at h
 | y::r,s,hp,i,x,hi,h=>by
  simp only [KN,aW,qI] at hp
  cases i with
  | zero =>
   cases h
   rcases hp.1 with e|e
   ·exact absurd (dW e) hi
   ·exact e
  | succ i=>exact Fz hp.2 i x (by omega) rP
theorem WL.bdO {x:BdD} {t:List (Nat×AV)} {M:List (Nat×AO)} {nk:Nat} (j:Nat) {y:AV} (hd:lK C.N o=some d) (h:auT P ⟨t,M,nk⟩ o.op=some x) (hj:x.cells[j]?=some y) (hp:KN j 0 x.cells=true)
  (k:WL P C ops rest ⟨(d,.sl nk)::t,(nk,.oW x.e x.n [x.cells] 0 j y)::M,nk+1⟩ Q):WL P C ops (o::rest) ⟨t,M,nk⟩ Q:=by
 obtain ⟨hg,hds,hdb⟩:=kN hd
 refine WL.op hg ?_ k
 unfold auT at h
 split at h
 ·rename_i T x0 ho
  split at h
  ·rename_i e av hT hx
   split at h
   ·rename_i n z hn hz
    cases hb:av.mD && Nat.beq av.cells.length n && av.cells.all AV.yN && Nat.ble (1*n) 16777216 with
    | false=>rw [hb] at h;cases h
    | true =>
     rw [hb] at h
     cases h
     simp only [aW] at hb
     obtain ⟨⟨⟨b1,b2⟩,b3⟩,b4⟩:=hb
     exact WO.buildO (σ:=⟨t,M,nk⟩) ho hT hn hz rfl b4 hds hdb hx b1 (dW b2) b3 hj (fun s x hs hx=>Fz hp s x au hx) rfl
   ·cases h
  ·cases h
 ·cases h
structure auI where
 T:TypeId
 n:Nat
 k:Nat
 q:Nat
 a:List (List AV)
 b:List (List AV)
def auS (P:Program) (σ:St):Op→Option auI
 | .call { callee:=.builtin .append,args:=⟨[x,y]⟩,argTypes:=⟨[T,T']⟩ } =>
  match P.underlying T,σ.ev x,σ.ev y with
  | some (.slice e),some (.sl k),some (.sl q) =>
   match P.info? e,look k σ.M,look q σ.M with
   | some i,some (.jM e' n rows),some (.jM _ n' fV) =>
    match i.zero with
    | some z=>bif Nat.beq T T' && Nat.beq e e' && Nat.beq n n' && Nat.beq i.size n && Nat.beq z.cells.size n && Nat.blt 0 n && Nat.ble i.bytes 100000 && !Nat.beq k q then some ⟨e,n,k,q,rows,fV⟩else none
    | _=>none
   | _,_,_=>none
  | _,_,_=>none
 | _=>none
theorem WL.apM {x:auI} {t:List (Nat×AV)} {M M1 M':List (Nat×AO)} {nk:Nat} (hd:lK C.N o=some d) (h:auS P ⟨t,M,nk⟩ o.op=some x) (hM:FH x.k M=some M1) (hM2:FH x.q M1=some M') (hl:x.a.length+x.b.length≤1000000000)
  (k:WL P C ops rest ⟨(d,.sl nk)::t,(nk,.jM x.T x.n (x.a++x.b))::M',nk+1⟩ Q):WL P C ops (o::rest) ⟨t,M,nk⟩ Q:=by
 rw [oI hM2,oI hM] at k
 obtain ⟨hg,hds,hdb⟩:=kN hd
 refine WL.op hg ?_ k
 unfold auS at h
 split at h
 ·rename_i x0 y0 T T' ho
  split at h
  ·rename_i e k' q' hT hx hy
   split at h
   ·rename_i i e' n rows e2 n' fV hi hk hq
    split at h
    ·rename_i z hz
     cases hb:Nat.beq T T' && Nat.beq e e' && Nat.beq n n' && Nat.beq i.size n && Nat.beq z.cells.size n && Nat.blt 0 n && Nat.ble i.bytes 100000 && !Nat.beq k' q' with
     | false=>rw [hb] at h;cases h
     | true =>
      rw [hb] at h
      simp only [aW,iy] at hb
      cases h
      obtain ⟨⟨⟨⟨⟨⟨⟨b1,b2⟩,b3⟩,b4⟩,b5⟩,b6⟩,b7⟩,b8⟩:=hb
      obtain rfl:=dW b1
      obtain rfl:=dW b2
      obtain rfl:=dW b3
      exact WO.aa1 (σ:=⟨t,M,nk⟩) ho hT hi hz (dW b4) rfl (dW b5) b6 hds hdb hx hk hy hq b8 rfl hl b7 rfl
    ·cases h
   ·cases h
  ·cases h
 ·cases h
end
theorem UA {mem s:Nat→Bool} {e:Nat} (h:∀ i,e≤i→mem i=true→s i=false):∀ {m:Nat},cur mem s m≤e
 | 0=>gU _
 | m+1=>by
  unfold cur
  split
  ·rename_i x
   rcases wW m e with h5|h5
   ·omega
   ·have:=h m h5 x.1
    rw [x.2]at this;cases this
  ·exact UA h
section
variable {P:Program} {C:Cx} {σ σ':St} {G G':Gh} {a:Act} {w w':World} {ops:Array Oper} {Q:Exit→St→Prop}
inductive DT (P:Program) (C:Cx) (ops:Array Oper) (mem:List Bool) (Mc jC:List (Nat×AO)) (e0 fJ:Nat):Nat→List Oper→St→St→Prop
 | nil (k:Nat) (σ:St):DT P C ops mem Mc jC e0 fJ k [] σ σ
 | val (k:Nat) (o:Oper) (rest:List Oper) (d:Tmp) (av:AV) (nk:Nat) (mc:List (Nat×AO)) (σ σ':St):(mc=Mc∨(mc=jC∧needs ops k ops.size e0=true))→mem.getD k false=false→o.dst=some d→Nat.blt d C.N=true→(nk=fJ∨(nk=σ.nk∧nR ops mem k=true))→Ul P C ops o σ.t mc nk av →
   DT P C ops mem Mc jC e0 fJ (k+1) rest (σ.put d av) σ'→DT P C ops mem Mc jC e0 fJ k (o::rest) σ σ'
 | mem (k:Nat) (o:Oper) (rest:List Oper) (av:AV) (M':List (Nat×AO)) (dh:Nat) (σ σ':St):mem.getD k false=true→Nat.ble σ.nk dh=true→bP Mc M'→(Nat.blt k e0=true→bP jC M')→Jj P C ops o σ av M' dh →
   DT P C ops mem Mc jC e0 fJ (k+1) rest ⟨oV o.dst true av++σ.t,M',dh⟩ σ'→DT P C ops mem Mc jC e0 fJ k (o::rest) σ σ'
theorem DT.data {mem:List Bool} {Mc jC:List (Nat×AO)} {e0 fJ k:Nat} {l:List Oper} {σ σ':St} (h:DT P C ops mem Mc jC e0 fJ k l σ σ'):∃ (bI:Nat→AV) (ms:Nat→List (Nat×AO)) (ny:Nat→Nat),ms 0=σ.M∧ny 0=σ.nk ∧
  σ'=⟨ents l.toArray bI (fun _=>true) l.length++σ.t,ms l.length,ny l.length⟩ ∧
  ∀ (j:Nat) (oj:Oper),l[j]?=some oj →
   ((mem.getD (k+j) false=false∧(∃ d,oj.dst=some d∧d<C.N)∧ms (j+1)=ms j∧ny (j+1)=ny j∧∃ nk mc,(mc=Mc∨(mc=jC∧needs ops (k+j) ops.size e0=true))∧(nk=fJ∨(nk=ny j∧nR ops mem (k+j)=true))∧Ul P C ops oj (ents l.toArray bI (fun _=>true) j++σ.t) mc nk (bI j)) ∨
    (mem.getD (k+j) false=true∧ny j≤ny (j+1)∧bP Mc (ms (j+1))∧(Nat.blt (k+j) e0=true→bP jC (ms (j+1)))∧Jj P C ops oj ⟨ents l.toArray bI (fun _=>true) j++σ.t,ms j,ny j⟩ (bI j) (ms (j+1)) (ny (j+1)))):=by
 have key:∀ (o:Oper) (rest:List Oper) (av:AV) (bI:Nat→AV),∀ m,m≤rest.length→ents (o::rest).toArray (fun j=>if j=0 then av else bI (j-1)) (fun _=>true) (m+1)=ents rest.toArray bI (fun _=>true) m++oV o.dst true av:=by
  intro o rest av bI m
  induction m with
  | zero=>intro _;simp [ents]
  | succ m ihm =>
   intro hm
   exact aaL
 induction h with
 | nil k σ=>exact ⟨fun _=>.sc undef,fun _=>σ.M,fun _=>σ.nk,rfl,rfl,rfl,fun j oj h=>by simp at h⟩
 | val k o rest d av nk mc σ σ' ayG hm hd hN hq hdo _ ih =>
  obtain ⟨bI,ms,ny,m0,n0,e1,e2⟩:=ih
  have hent:oV o.dst true av=[(d,av)]:=by rw [hd];rfl
  refine ⟨fun j=>if j=0 then av else bI (j-1),fun j=>if j=0 then σ.M else ms (j-1),fun j=>if j=0 then σ.nk else ny (j-1),rfl,rfl,?_,fun j oj hj=>?_⟩
  ·exact akJ
  ·cases j with
   | zero =>
    cases hj
    exact .inl ⟨hm,⟨d,hd,dP hN⟩,m0,n0,nk,mc,ayG,hq,by simpa [ents] using hdo⟩
   | succ j =>
    exact ard
 | mem k o rest av M' dh σ σ' hm hn hsub hsubB hdo _ ih =>
  obtain ⟨bI,ms,ny,m0,n0,e1,e2⟩:=ih
  refine ⟨fun j=>if j=0 then av else bI (j-1),fun j=>if j=0 then σ.M else ms (j-1),fun j=>if j=0 then σ.nk else ny (j-1),rfl,rfl,?_,fun j oj hj=>?_⟩
  ·exact ak5
  ·cases j with
   | zero =>
    cases hj
    refine .inr ⟨hm,?_,?_,?_,?_⟩
    ·exact ald
    ·show bP Mc (ms 0)
     rw [m0];exact hsub
    ·show _→bP jC (ms 0)
     rw [m0];exact hsubB
    exact akK
   | succ j =>
    exact arj
theorem WA.arZ {l:List Oper} (mem:List Bool) (Mc jC:List (Nat×AO)) (e0:Nat) (hlast:∀ i,e0 < i→i < l.length→mem.getD i false=false) (hB:Region.lexB .any l.toArray=true) (hch:chainB l.toArray mem=true) (hMc:bP Mc σ.M) (asq:bP jC σ.M) (h:DT P C l.toArray mem Mc jC e0 σ.nk 0 l σ σ') (k:Q .normal σ'):WA P C l.toArray σ Q:=by
 intro G a w ok
 obtain ⟨bI,ms,ny,m0,n0,e1,e2⟩:=h.data
 simp only [lW] at e2
 simp only [Region.lexB,aW] at hB
 obtain ⟨FA,FB⟩:=wo (ops:=l.toArray) l.toArray.size 0 (Array.replicate l.toArray.size false) (by simp) (by simp) (fun i hi=>by simp [dM,hi] at hi ⊢;simp [hi]) hB.2
 have sz:l.toArray.size=l.length:=by simp
 have xE:∀ i,i < l.length→mem.getD i false=false→ms (i+1)=ms i∧ny (i+1)=ny i:=fun i hi hf=>by
  exact ajZ
 have Vt:∀ i,i < l.length→ny i≤ny (i+1):=fun i hi=>by
  exact aj0
 have ag3:C.np≤ny 0:=by rw [n0];exact ok.df.2.1
 have asH:∀ i,i≤l.length→C.np≤ny i:=fun i=>by
  induction i with
  | zero=>exact fun _=>ag3
  | succ i ih=>exact fun h=>jV (ih au) (Vt i au)
 have as5:∀ i,i≤l.length→bP Mc (ms i):=fun i=>by
  induction i with
  | zero=>intro _;rw [m0];exact hMc
  | succ i ih =>
   intro hi
   exact arA
 have awc:∀ i,i≤l.length→i≤e0→bP jC (ms i):=fun i=>by
  induction i with
  | zero=>intro _ _;rw [m0];exact asq
  | succ i ih =>
   intro hi hie
   have q:=e2 i l[i] (aI (by omega))
   rcases q with ⟨_,_,a,_⟩|⟨_,_,_,a,_⟩
   ·rw [a];exact ih (by omega) (by omega)
   ·exact a (uj hie)
 have asB:∀ j,j < l.length→mem.getD j false=true→nR l.toArray mem j=true:=fun j hj hmj=>by
  exact aj2
 have ano:∀ i j,i < j→nR l.toArray mem j=true→mem.getD i false=true→needs l.toArray i l.toArray.size j=true:=fun i j hij hb NJ=>by
  exact arE
 let cu:Array Bool→Nat:=fun listed=>cur (fun i=>mem.getD i false) (fun i=>listed.getD i false) l.length
 let KS:Array Bool→St:=fun listed=>⟨ents l.toArray bI (fun i=>listed.getD i false) l.length++σ.t,ms (cu listed),ny (cu listed)⟩
 have key:∀ (fuel:Nat) (listed:Array Bool) (G:Gh) (a:Act) (w:World),listed.size=l.length→(∀ j oj,l.toArray[j]?=some oj→listed.getD j false=true→∀ e∈oj.after,Region.binds .any e=true→listed.getD e.on false=true) →
   (List.range l.length).countP (fun i=>!listed.getD i false)≤fuel→Ok C (KS listed) G a w→wpAny P .any l.toArray (Post C Q) fuel listed a w:=by
  intro fuel
  have done:∀ (listed:Array Bool) (G:Gh) (a:Act) (w:World),listed.size=l.length→Region.ready .any l.toArray listed=[]→Ok C (KS listed) G a w→Post C Q .normal a w:=by
   intro listed G a w hsz hr ok
   exact axe
  induction fuel with
  | zero =>
   intro listed G a w hsz hcl hf ok
   exact aul
  | succ fuel ih =>
   intro listed G a w hsz hcl hf ok
   refine ⟨fun hr=>done listed G a w hsz hr ok,fun j hj=>?_⟩
   obtain ⟨h1,oj,h2,h4⟩:=mem_ready.1 hj
   have hlt:j < l.length:=by have:=(Array.getElem?_eq_some_iff.1 h2).1;omega
   have h3:listed.getD j false=false:=by
    exact aaR
   have hlj:l[j]?=some oj:=by simpa using h2
   have U3:=e2 j oj hlj
   have hlook:∀ t∈oj.looksAt l.toArray,∀ i,i < l.length→(l.toArray[i]?).bind (·.dst)=some t→listed.getD i false=decide (i < j):=by
    intro t ht i hi hdi
    exact aqN
   have abD:∀ t,look t (ents l.toArray bI (fun _=>true) j)=look t (ents l.toArray bI (fun i=>decide (i < j)) l.length):=by
    intro t
    exact akk
   have hlooks:∀ t∈oj.looksAt l.toArray,look t (KS listed).t=look t (ents l.toArray bI (fun _=>true) j++σ.t):=fun t ht=>by
    exact akm
   have YJ:∀ t,look t (ents l.toArray bI (fun i=>(listed.setIfInBounds j true).getD i false) l.length++σ.t)=look t (oV oj.dst true (bI j)++(KS listed).t):=by
    intro t
    exact axf
   have hset:∀ i,j≠i→(listed.setIfInBounds j true).getD i false=listed.getD i false:=fun i e=>by simp [dM,uT e]
   have abE:(listed.setIfInBounds j true).getD j false=true:=by simp [dM,hsz,hlt]
   have hclose:∀ i oi,l.toArray[i]?=some oi→(listed.setIfInBounds j true).getD i false=true→∀ e∈oi.after,Region.binds .any e=true→(listed.setIfInBounds j true).getD e.on false=true:=by
    intro i oi hi BX e he hb
    exact aq1
   have hcount:(List.range l.length).countP (fun i=>!(listed.setIfInBounds j true).getD i false)≤fuel:=by
    exact aq6
   unfold wpOp
   simp only [h2]
   rcases U3 with ⟨hmf,⟨d,hd,hdN⟩,hmc,hnc,nk,mc,ayH,hnk,NJ,hti,hdo⟩|⟨hmt,ayN,hsub,_,hgd,hdo⟩
   ·-- memory stays
    have hot:iO (KS listed).t (oj.looksAt l.toArray)=iO (ents l.toArray bI (fun _=>true) j++σ.t) (oj.looksAt l.toArray):=uP hlooks
    have apw:nk≤ny (cu listed):=by
     exact aqU
    have avT:bP mc (ms (cu listed)):=by
     rcases ayH with rfl|⟨rfl,hne⟩
     ·exact as5 _ (QX _)
     ·refine awc _ (QX _) (UA fun i hi NJ=>?_)
      by_cases e:i < l.length
      ·rcases wW e0 i with h5|h5
       ·rw [hlast i h5 e] at NJ;cases NJ
       ·obtain rfl:i=e0:=by omega
        cases BX:listed.getD i false with
        | false=>rfl
        | true =>
         have:=xG hcl _ _ hne BX
         rw [h3] at this;cases this
      ·have:mem.getD i false=true:=NJ
       cases BX:listed.getD i false with
       | false=>rfl
       | true=>simp [dM,hsz,e] at BX
    have okO:Ok C ⟨iO (ents l.toArray bI (fun _=>true) j++σ.t) (oj.looksAt l.toArray),mc,nk⟩ G a w :=
     ok.few (hnp:=by rcases hnk with h|⟨h,_⟩<;>rw [h]<;>first|exact asH j (by omega)|(rw [← n0];exact ag3)) (ht:=fun i av hx=>⟨by rw [← hot] at hx;exact sS hx,LY hti i av hx⟩) (hM:=fun q o hx=>⟨zf avT q o hx,(y9 NJ q o hx).1,(y9 NJ q o hx).2⟩)
    exact aqK
   ·-- memory is written
    exact axc
 exact aqQ
end
section
variable {B:World→View→Prop} {gl:Nat} {P:Program} {C:Cx} {σ:St} {o:Oper} {d:Tmp} {av:AV} {ops:Array Oper} {rest l:List Oper} {Q:Exit→St→Prop} {mem:List Bool} {Mc jC:List (Nat×AO)} {e0 fJ k:Nat}
def aZ (P:Program)(C:Cx)(ops:Array Oper)(mem:List Bool)(Mc jC:List (Nat×AO))(e0 fJ k:Nat)(l:List Oper)(σ:St)(Q:Exit→St→Prop):Prop:=∃ σ',DT P C ops mem Mc jC e0 fJ k l σ σ'∧Q .normal σ'
theorem aZ.nil(h:Q .normal σ):aZ P C ops mem Mc jC e0 fJ k [] σ Q:=⟨σ,.nil k σ,h⟩
theorem aZ.vl (hd:Iz C.N ops mem jC k fJ σ.t o=some (d,true)) (hn:needs ops k ops.size e0=true) (h:WV P C o ⟨iO σ.t (o.looksAt ops),jC,fJ⟩ av) (r:aZ P C ops mem Mc jC e0 fJ (k+1) rest (σ.put d av) Q):aZ P C ops mem Mc jC e0 fJ k (o::rest) σ Q:=by
 obtain ⟨a,b,c,e,f,g⟩:=RD hd
 obtain ⟨s,x,y⟩:=r
 exact ⟨s,.val k o rest d av fJ jC σ s (.inr ⟨rfl,hn⟩) a b c (.inl rfl) ⟨e,f,.inl ⟨g,h⟩⟩ x,y⟩
theorem aZ.v0 (hd:Iz C.N ops mem Mc k fJ σ.t o=some (d,true)) (h:WV P C o ⟨iO σ.t (o.looksAt ops),Mc,fJ⟩ av) (r:aZ P C ops mem Mc jC e0 fJ (k+1) rest (σ.put d av) Q):aZ P C ops mem Mc jC e0 fJ k (o::rest) σ Q:=by
 obtain ⟨a,b,c,e,f,g⟩:=RD hd
 obtain ⟨s,x,y⟩:=r
 exact ⟨s,.val k o rest d av fJ Mc σ s (.inl rfl) a b c (.inl rfl) ⟨e,f,.inl ⟨g,h⟩⟩ x,y⟩
theorem aZ.wr {M':List (Nat×AO)} {dh:Nat} (av:AV) (hm:mem.getD k false=true) (hn:Nat.ble σ.nk dh=true) (hs:bP Mc M') (hsB:Nat.blt k e0=true→bP jC M') (h:Jj P C ops o σ av M' dh) (r:aZ P C ops mem Mc jC e0 fJ (k+1) rest ⟨oV o.dst true av++σ.t,M',dh⟩ Q):aZ P C ops mem Mc jC e0 fJ k (o::rest) σ Q:=by
 obtain ⟨s,x,y⟩:=r
 exact ⟨s,.mem k o rest av M' dh σ s hm hn hs hsB h x,y⟩
theorem aZ.st (hd:Iz C.N ops mem jC k fJ σ.t o=some (d,true)) (hn:needs ops k ops.size e0=true) (h:zD P ⟨iO σ.t (o.looksAt ops),jC,fJ⟩ o.op=some av) (r:aZ P C ops mem Mc jC e0 fJ (k+1) rest (σ.put d av) Q):aZ P C ops mem Mc jC e0 fJ k (o::rest) σ Q:=aZ.vl hd hn (tX rfl h) r
theorem aZ.ixs {q:Nat} {rows:List (List AV)} {z:Int} (hd:Iz C.N ops mem jC k fJ σ.t o=some (d,true)) (hn:needs ops k ops.size e0=true) (h:ahe P ⟨iO σ.t (o.looksAt ops),jC,fJ⟩ o.op=some (q,rows,z)) (h0:0≤z∧z<rows.length)
  (r:aZ P C ops mem Mc jC e0 fJ (k+1) rest (σ.put d (.pt q z.toNat 0)) Q):aZ P C ops mem Mc jC e0 fJ k (o::rest) σ Q:=aZ.vl hd hn (Ro h h0.1 h0.2) r
theorem aZ.ldr {rows:List (List AV)} {i j:Nat} {r:List AV} {av:AV} (hd:Iz C.N ops mem jC k fJ σ.t o=some (d,true)) (hn:needs ops k ops.size e0=true) (h:anQ P ⟨iO σ.t (o.looksAt ops),jC,fJ⟩ o.op=some (rows,i,j)) (hi:rows[i]?=some r) (hj:r[j]?=some av) (ho2:av.own=false)
  (K:aZ P C ops mem Mc jC e0 fJ (k+1) rest (σ.put d av) Q):aZ P C ops mem Mc jC e0 fJ k (o::rest) σ Q:=aZ.vl hd hn (abI h hi hj ho2) K
theorem aZ.ldQ {rows:List (List AV)} {i j hi hj:Nat} {r:List AV} {av:AV} (hd:Iz C.N ops mem jC k fJ σ.t o=some (d,true)) (hn:needs ops k ops.size e0=true) (h:anP P ⟨iO σ.t (o.looksAt ops),jC,fJ⟩ o.op=some (rows,i,j,hi,hj,av)) (e1:i=hi) (e2:j=hj) (hr:rows[i]?=some r) (hjr:j<r.length)
  (K:aZ P C ops mem Mc jC e0 fJ (k+1) rest (σ.put d av) Q):aZ P C ops mem Mc jC e0 fJ k (o::rest) σ Q:=aZ.vl hd hn (ahg h e1 e2 hr hjr) K
theorem aZ.ar {φ:Prop} {z:Int} (hd:Iz C.N ops mem jC k fJ σ.t o=some (d,true)) (hn:needs ops k ops.size e0=true) (h:WU ⟨iO σ.t (o.looksAt ops),jC,fJ⟩ o.op=some (φ,z)) (hφ:φ) (r:aZ P C ops mem Mc jC e0 fJ (k+1) rest (σ.put d (.sc (.int .i64 z))) Q):aZ P C ops mem Mc jC e0 fJ k (o::rest) σ Q:=aZ.vl hd hn (zB h hφ) r
theorem aZ.al {T:TypeId} {z:Value} {l:List AV} (hd:wrB mem C.N k o=some d) (ho:o.op=.alloc T) (hz:(P.info? T).bind (·.zero)=some z) (hl:z.cells.toList.map .sc=l) (hs:bP Mc ((σ.nk,.box T l)::σ.M)) (hsB:Nat.blt k e0=true→bP jC ((σ.nk,.box T l)::σ.M))
  (r:aZ P C ops mem Mc jC e0 fJ (k+1) rest ⟨(d,.pt σ.nk 0 0)::σ.t,(σ.nk,.box T l)::σ.M,σ.nk+1⟩ Q):aZ P C ops mem Mc jC e0 fJ k (o::rest) σ Q:=by
 obtain ⟨a,b,c,e⟩:=CY hd
 have he:oV o.dst true (.pt σ.nk 0 0)=[(d,.pt σ.nk 0 0)]:=by rw [b];rfl
 refine aZ.wr (.pt σ.nk 0 0) a (uj (BG _)) hs hsB ⟨c,fun t _=>?_⟩ XK
 rw [he]
 exact WO.alloc (σ:=⟨t,σ.M,σ.nk⟩) ho hz b e hl rfl
theorem aZ.yT {T m:Nat} {x y:Operand} {q i j:Nat} {ob ob':AO} {l:List AV} {M2:List (Nat×AO)} (hm:mem.getD k false=true) (hg:o.guard=none) (hds:o.dst=none) (ho:o.op=.store T x y) (hn:iE P T=some m) (hx:σ.ev x=some (.pt q i j)) (hk:look q σ.M=some ob) (hy:σ.ev y=some av)
  (hB:av.mD=true) (hl:av.cells=l) (hlm:l.length=m) (h1:l.all AV.yN=true) (hp:ob.put i j l=some ob') (hM:FH q σ.M=some M2) (hs:bP Mc ((q,ob')::M2)) (hsB:Nat.blt k e0=true→bP jC ((q,ob')::M2)) (r:aZ P C ops mem Mc jC e0 fJ (k+1) rest ⟨σ.t,(q,ob')::M2,σ.nk⟩ Q):aZ P C ops mem Mc jC e0 fJ k (o::rest) σ Q:=by
 have he:∀ av,oV o.dst true av=[]:=fun av=>by rw [hds];rfl
 refine aZ.wr (.sc undef) hm (uj (bJ _)) hs hsB ⟨hg,fun t H=>?_⟩ XK
 rw [he]
 have hmem:∀ z∈[x,y],z∈o.op.operands.toList:=fun z hz=>by rw [ho];simp [Op.operands] at hz ⊢;exact hz
 rw [oI hM]
 exact CX (WO.store (σ:=⟨t,σ.M,σ.nk⟩) ho hds hn ((kE H (hmem x (by simp))).trans hx) hk ((kE H (hmem y (by simp))).trans hy) hB hl hlm h1 hp)
theorem aZ.ct (hB:Holds B gl C) {f:FuncId} {args args':List AV} {res res':AV} {M M' M2:List (Nat×AO)} {nk dh n2:Nat} (ks:List Nat) (hd:wrB mem C.N k o=some d) (he:Uu σ o.op=some (f,args')) (hc:∀ vs w,(callFunc f vs).run P w=.ok (.enter f vs) w)
  (h:jI B gl P f args M nk res M' dh) (hks:ksB ks nk σ.nk=true) (ha:args.map (AV.ren (rhoC ks nk σ.nk))=args') (hp:args.all (AV.inn nk)=true) (hM:XY σ (rhoC ks nk σ.nk) nk M)
  (hq:(Nat.ble nk dh && M'.all (fun x=>x.2.inn dh) && M'.all (fun x=>Nat.blt x.1 dh) && res.inn dh)=true) (hr:res.ren (rhoC ks nk σ.nk)=res') (hM2:Ec (rhoC ks nk σ.nk) M'++FD ks σ.M=M2) (hn2:σ.nk+(dh-nk)=n2) (hs:bP Mc M2) (hsB:Nat.blt k e0=true→bP jC M2)
  (r:aZ P C ops mem Mc jC e0 fJ (k+1) rest ⟨(d,res')::σ.t,M2,n2⟩ Q):aZ P C ops mem Mc jC e0 fJ k (o::rest) σ Q:=by
 subst hM2 hn2
 obtain ⟨a,b,c,e⟩:=CY hd
 have hent:oV o.dst true res'=[(d,res')]:=by rw [b];rfl
 simp only [aW] at hq
 unfold Uu at he
 split at he
 ·rename_i y xs ts ho
  split at he
  ·rename_i fv mg hy hx
   split at he
   ·rename_i f' caps hf
    cases he
    refine aZ.wr res' a (uj (F8 _ _)) hs hsB ⟨c,fun t H=>?_⟩ (by rw [hent];exact r)
    exact aqX
   ·cases he
  ·cases he
 ·cases he
theorem aZ.ati {M':List (Nat×AO)} {dh:Nat} (hm:mem.getD k false=true) (hd:o.dst=some d) (hn:Nat.ble σ.nk dh=true) (hs:bP Mc M') (hsB:Nat.blt k e0=true→bP jC M') (h:DoesM P C ops o σ d av M' dh) (r:aZ P C ops mem Mc jC e0 fJ (k+1) rest ⟨(d,av)::σ.t,M',dh⟩ Q):aZ P C ops mem Mc jC e0 fJ k (o::rest) σ Q:=by
 have hent:oV o.dst true av=[(d,av)]:=by rw [hd];rfl
 exact aZ.wr av hm hn hs hsB ⟨h.1,fun t H=>by rw [hent];exact h.2 t H⟩ (by rw [hent];exact r)
theorem aZ.bd {T m:Nat} {parts:Array (Nat×Operand)} {ob:AO} (hd:wrB mem C.N k o=some d) (ho:o.op=.buildSlice T m parts) (h:QM P σ T m parts.toList=some ob) (hs:bP Mc ((σ.nk,ob)::σ.M)) (hsB:Nat.blt k e0=true→bP jC ((σ.nk,ob)::σ.M)) (r:aZ P C ops mem Mc jC e0 fJ (k+1) rest ⟨(d,.sl σ.nk)::σ.t,(σ.nk,ob)::σ.M,σ.nk+1⟩ Q):aZ P C ops mem Mc jC e0 fJ k (o::rest) σ Q:=by
 obtain ⟨a,b,c,e⟩:=CY hd
 unfold QM at h
 split at h
 ·rename_i el hT
  split at h
  ·rename_i n z bI hn hz hx
   cases hb:VP 0 parts.toList && Nat.beq parts.toList.length m && Nat.ble (m*n) 16777216 && Nat.ble m 16777216 && P6 n bI with
   | false=>rw [hb] at h;cases h
   | true =>
    rw [hb] at h
    simp only [aW] at hb
    cases h
    exact aZ.ati a b (uj (BG _)) hs hsB (DoesM.build c ho hT hn hz hb.1.1.1.1 (dW hb.1.1.1.2) hb.1.1.2 hb.1.2 b e hx hb.2 rfl rfl rfl rfl) r
  ·cases h
 ·cases h
theorem aZ.ap {x:amv} (hd:wrB mem C.N k o=some d) (h:afW P σ o.op=some x) (hl:x.a.length+x.b.length≤1000000000) (hs:bP Mc ((σ.nk,.row x.T x.n (x.a++x.b))::rem x.k σ.M)) (hsB:Nat.blt k e0=true→bP jC ((σ.nk,.row x.T x.n (x.a++x.b))::rem x.k σ.M)) (r:aZ P C ops mem Mc jC e0 fJ (k+1) rest ⟨(d,.sl σ.nk)::σ.t,(σ.nk,.row x.T x.n (x.a++x.b))::rem x.k σ.M,σ.nk+1⟩ Q):aZ P C ops mem Mc jC e0 fJ k (o::rest) σ Q:=by
 obtain ⟨a,b,c,e⟩:=CY hd
 unfold afW at h
 split at h
 ·rename_i x y T T' ho
  split at h
  ·rename_i el q av2 hT hx hy
   split at h
   ·rename_i i e' n rows hi hk
    split at h
    ·rename_i z fV hz hs2
     cases hb:Nat.beq T T' && Nat.beq el e' && Nat.beq i.size n && Nat.beq z.cells.size n && Nat.blt 0 n && Nat.ble i.bytes 100000 with
     | false=>rw [hb] at h;cases h
     | true =>
      rw [hb] at h
      simp only [aW] at hb
      cases h
      obtain ⟨⟨⟨⟨⟨b1,b2⟩,b3⟩,b4⟩,b5⟩,b6⟩:=hb
      obtain rfl:=dW b1
      obtain rfl:=dW b2
      exact aZ.ati a b (uj (BG _)) hs hsB (DoesM.append c ho hT hi hz (dW b3) rfl (dW b4) b5 b e hx hk hy hs2 rfl hl b6 rfl rfl rfl) r
    ·cases h
   ·cases h
  ·cases h
 ·cases h
theorem as4 {kk:IntKind} {z:Int} (h:mmV σ o.op=some (kk,z)):WV P C o σ (.sc (.int kk z)):=by
 exact aqZ
theorem as3 {kk:IntKind} {z z':Int} (h:mmV σ o.op=some (kk,z))(hz:z=z'):WV P C o σ (.sc (.int kk z')):=hz ▸ as4 h
def lastB(mem:List Bool)(n e0:Nat):Bool:=(List.range n).all fun i=>!Nat.blt e0 i|| !mem.getD i false
theorem WA.dt (mem:List Bool) (ms msB:List Nat) (e0:Nat) (hl:lastB mem l.length e0=true) (hB:Region.lexB .any l.toArray=true) (hch:chainB l.toArray mem=true) (hMc:bP (zn σ.M ms) σ.M) (asq:bP (zn σ.M msB) σ.M)
  (h:aZ P C l.toArray mem (zn σ.M ms) (zn σ.M msB) e0 σ.nk 0 l σ Q):WA P C l.toArray σ Q :=
 let ⟨_,a,b⟩:=h
 WA.arZ mem (zn σ.M ms) (zn σ.M msB) e0 (fun i h1 h2=>by
  have:=List.all_eq_true.1 hl i (List.mem_range.2 h2)
  simp only [qI,iy] at this
  rcases this with h|h
  ·rw [show Nat.blt e0 i=true from uj h1] at h;cases h
  ·exact h) hB hch hMc asq a b
end
def bM (e:Ev):List AV:=[.sc (.bool e.bar),.sc (.int .i64 e.val),.sc (.bool e.dot),.sc (.bool e.three),.sc (.bool e.tie),.ow 69 5 (e.stops.map aC)]
theorem fz0(av:AV):av.fz 0=av:=by cases av<;>rfl
theorem agH (l:List (List AV)):(l.map fun r=>r.map (AV.fz 0))=l:=by
 refine (qK fun r _=>?_).trans (MQ _)
 exact (qK fun x _=>fz0 x).trans (MQ _)
theorem QZ (e:Ev):(bM e).map (AV.fz 1)=dI e:=by
 show [_,_,_,_,_,AV.ls 5 ((e.stops.map aC).map fun r=>r.map (AV.fz 0))]=_
 rw [agH];rfl
theorem sG (l:List Ev):((l.map bM).map fun r=>r.map (AV.fz 1))=l.map dI:=by
 rw [oO]
 exact qK fun e _=>QZ e
theorem Dw(l:List Stp):∀ q∈l.map aC,∀ av∈q,av.own=false:=fun q hq av hav=>by
 obtain⟨s,_,rfl⟩:=List.mem_map.1 hq
 simp only [aC,Et,BF,or_false]at hav
 rcases hav with rfl|rfl|rfl|rfl|rfl<;>rfl
theorem ah8 {d:Nat} {av:AV} (h:av.own=false):av.Oo d=true:=by
 cases d<;>cases av<;>first|rfl|cases h
theorem ni (l:List Ev):∀ r∈l.map bM,∀ av∈r,av.Oo 1=true:=fun r hr av hav=>by
 obtain⟨e,_,rfl⟩:=List.mem_map.1 hr
 simp only [bM,Et,BF,or_false]at hav
 rcases hav with rfl|rfl|rfl|rfl|rfl|rfl
 ·rfl
 ·rfl
 ·rfl
 ·rfl
 ·rfl
 ·show ((e.stops.map aC).all fun r=>r.all (AV.Oo 0))=true
  rw [jg]
  intro q hq
  rw [jg]
  exact fun x hx=>ah8 (Dw _ q hq x hx)
def itQ (s:List UInt8) (pos:Nat):Opq :=
 ⟨fun w b v φ=>v=.pointer (some ⟨b,0,none⟩)∧φ b∧w.heap[b]?=some (.stringIter (bs s) pos),fun w w' b v φ h ⟨h1,h2,h3⟩=>⟨h1,h2,(h b h2).trans h3⟩⟩
section
variable {P:Program} {C:Cx} {σ σ':St} {G G':Gh} {a:Act} {w w':World} {o:Oper} {d:Tmp} {ops:Array Oper} {rest:List Oper} {Q:Exit→St→Prop}
theorem WO.rgs {T:TypeId} {s:List UInt8} {x:Operand} {q:Nat} (hd:lK C.N o=some d) (ho:o.op=.range T x) (hT:P.underlying T=some .string) (hx:σ.ev x=some (.sc (.string (bs s)))) (hq:σ.nk=q):WO P C o σ ((σ.new (.opq (itQ s 0))).put d (.sl q)):=by
 intro G a w ok N Q' hN
 obtain ⟨_,hds,hdb⟩:=kN hd
 have ok':=ok.newObj (S:=fun _=>False) (w':=w.iter (bs s) 0) (b:=w.heap.size) (n:=0) (h:=.pointer (some ⟨w.heap.size,0,none⟩)) (φ:=fun x=>x=w.heap.size) (ob:=.opq (itQ s 0))
  (Kept.below ((Below.refl _ _).alloc (bJ _) _)) (fun _ h=>h.elim) (fun _ _ _ _ _ h=>h) (fun _ _ _ h=>h)
  (by
   show (itQ s 0).Q _ _ _ _
   rw [xZ,iL,vN]
   exact ⟨rfl,rfl,World.iter_heap w _ _⟩) trivial (fun x hx=>by
   subst hx
   exact ⟨.inl ok.bel.size,by simp [World.iter],fun k o h1 h2=>by have:=(ok.my k o _ h1 h2).2;omega,fun p u h1 h2=>by have:=aN (ok.fw p u h1);omega⟩)
 subst hq
 refine lJ ?_
 simp only [ho,ok.evs hx,run_range_string w T _ hT,Sem.run_bind,Sem.run_pure,Result.andThen_ok]
 show N (a.put o.dst _) _
 rw [hds]
 exact hN _ _ _ (ok'.set (d:=some d) (av:=.sl σ.nk) (uS rfl) (.sl _ (wQ _)) fun x hx=>by cases hx;exact dP hdb)
theorem WL.rgs {T:TypeId} {s:List UInt8} {x:Operand} {t:List (Nat×AV)} {M:List (Nat×AO)} {nk:Nat} (hd:lK C.N o=some d) (ho:o.op=.range T x) (hT:P.underlying T=some .string) (hx:(⟨t,M,nk⟩:St).ev x=some (.sc (.string (_root_.Go.Proofs.YthehkchjdkdbiaaGreatDoor.bs s))))
  (k:WL P C ops rest ⟨(d,.sl nk)::t,(nk,.opq (itQ s 0))::M,nk+1⟩ Q):WL P C ops (o::rest) ⟨t,M,nk⟩ Q :=
 WL.op (kN hd).1 (WO.rgs hd ho hT hx rfl) k
theorem ahc {s:List UInt8} {pos:Nat} (ok:Ok C σ G a w) {q:Nat} {x:Operand} (hx:σ.ev x=some (.sl q)) (hq:look q σ.M=some (.opq (itQ s pos))) :
  a.eval x=.pointer (some ⟨G.b q,0,none⟩)∧G.fp q (G.b q)∧w.heap[G.b q]?=some (.stringIter (bs s) pos):=by
 obtain ⟨h1,h2,h3⟩:(itQ s pos).Q w (G.b q) (G.h q) (G.fp q):=(ok.ob q _ hq).2.2
 exact ⟨(ok.nO hx).2.nG.1.trans h1,h2,h3⟩
theorem WO.nxs {s:List UInt8} {pos q:Nat} {x:Operand} (hd:lK C.N o=some d) (ho:o.op=.next x true) (hx:σ.ev x=some (.sl q)) (hq:look q σ.M=some (.opq (itQ s pos))) (hp:pos<s.length) :
  WO P C o σ ((σ.upd q (.opq (itQ s (pos+(Utf8.decode (bs s) pos).2)))).put d (.tu [.sc (.bool true),.sc (.int .i64 (pos:Int)),.sc (.int .i32 (Utf8.decode (bs s) pos).1)])):=by
 intro G a w ok N Q' hN
 obtain ⟨_,hds,hdb⟩:=kN hd
 obtain ⟨e1,e2,e3⟩:=ahc ok hx hq
 have ok':Ok C (σ.upd q (.opq (itQ s (pos+(Utf8.decode (bs s) pos).2)))) G a (w.iterAt (G.b q) (bs s) (pos+(Utf8.decode (bs s) pos).2)) :=
  ok.at7 hq e2 ⟨rfl,rfl,rfl,by simp [World.iterAt],fun x _ hx=>uT (fun e=>hx e.symm)⟩ ⟨(ok.ob q _ hq).2.2.1,e2,Lib.iterAt_heap w _ _ _ _ e3⟩ trivial
 refine lJ ?_
 simp only [ho,e1,Lib.run_next_any_at w _ _ _ _ e3 (by rw [bY];exact hp),Sem.run_bind,Sem.run_pure,Result.andThen_ok]
 show N (a.put o.dst _) _
 rw [hds]
 exact hN _ _ _ (ok'.set (d:=some d) (.pu _ _ (.tu _ _ rfl fun i av u p r=>by
  match i with
  | 0=>cases p;cases r;exact .sc _
  | 1=>cases p;cases r;exact .sc _
  | 2=>cases p;cases r;exact .sc _
  | i+3=>simp at p)) (RP.bd (F:=G.F) (v:=.tuple #[.bool true,.int .i64 pos,.int .i32 (Utf8.decode (bs s) pos).1]) (.tu _ _ rfl fun i av u p r=>by
  match i with
  | 0=>cases p;cases r;exact .sc _
  | 1=>cases p;cases r;exact .sc _
  | 2=>cases p;cases r;exact .sc _
  | i+3=>simp at p) _) fun x hx=>by cases hx;exact dP hdb)
theorem WL.nxs {s:List UInt8} {pos q:Nat} {x:Operand} {t:List (Nat×AV)} {M M':List (Nat×AO)} {nk:Nat} (hd:lK C.N o=some d) (ho:o.op=.next x true) (hx:(⟨t,M,nk⟩:St).ev x=some (.sl q)) (hq:look q M=some (.opq (itQ s pos))) (hM:FH q M=some M') (hp:pos<s.length)
  (k:WL P C ops rest ⟨(d,.tu [.sc (.bool true),.sc (.int .i64 (pos:Int)),.sc (.int .i32 (Utf8.decode (_root_.Go.Proofs.YthehkchjdkdbiaaGreatDoor.bs s) pos).1)])::t,(q,.opq (itQ s (pos+(Utf8.decode (_root_.Go.Proofs.YthehkchjdkdbiaaGreatDoor.bs s) pos).2)))::M',nk⟩ Q):WL P C ops (o::rest) ⟨t,M,nk⟩ Q:=by
 rw [oI hM] at k
 exact WL.op (kN hd).1 (CX (WO.nxs (σ:=⟨t,M,nk⟩) hd ho hx hq hp)) k
theorem WV.nxe {s:List UInt8} {pos q:Nat} {x:Operand} (ho:o.op=.next x true) (hx:σ.ev x=some (.sl q)) (hq:look q σ.M=some (.opq (itQ s pos))) (hp:s.length≤pos):WV P C o σ (.tu [.sc (.bool false)]):=by
 have hr:∀ F:View,RP F (.tu [.sc (.bool false)]) (.tuple #[.bool false]):=fun F=>.tu _ _ rfl fun i av u p r=>by
  match i with
  | 0=>cases p;cases r;exact .sc _
  | i+1=>simp at p
 refine WV.val (fun G a w ok=>(hr G.F).bd _) fun G a w ok=>⟨.tuple #[.bool false],?_,.pu _ _ (hr _)⟩
 obtain ⟨e1,e2,e3⟩:=ahc ok hx hq
 unfold execOp
 simp only [ho,e1,Lib.run_next_end_at w _ _ _ _ e3 Qs,Sem.run_bind,Sem.run_pure,Result.andThen_ok]
end
section
variable {P:Program} {C:Cx} {σ σ' Dk:St} {o:Oper} {d:Tmp} {av:AV} {ops:Array Oper} {rest:List Oper} {Q:Exit→St→Prop} {mem:List Bool} {Mc jC:List (Nat×AO)} {e0 fJ k:Nat}
theorem Tr.sub {t:List (Nat×AV)} {M M':List (Nat×AO)} {nk:Nat} (hs:bP M' M):Tr C ⟨t,M,nk⟩ ⟨t,M',nk⟩:=fun G a w ok=>by
 have g:=zf hs
 exact ⟨G,⟨ok.sz,ok.df,ok.tm,ok.bel,ok.fw,ok.f0,ok.f1,fun k o x=>ok.ob k o (g k o x),fun k o x h1 h2=>ok.my k o x (g k o h1) h2,fun k o k' o' x h1 h2=>ok.dj k o k' o' x (g k o h1) (g k' o' h2),fun k o x p u h1=>ok.dF k o x p u (g k o h1)⟩⟩
theorem WO.tr(h:WO P C o σ σ')(t:Tr C σ' Dk):WO P C o σ Dk:=fun G a w ok N Q' hN=>h G a w ok N Q' fun G' a' w' ok'=>by
 obtain⟨G2,ok2⟩:=t G' a' w' ok'
 exact hN G2 a' w' ok2
theorem aZ.bdC {T e n q T' n' j0:Nat} {z:Value} {parts:Array (Nat×Operand)} {x0:Operand} {av0:AV} {ai5 fV:List (List AV)} {M':List (Nat×AO)} (hm:mem.getD k false=true) (hg:o.guard=none) (ho:o.op=.buildSlice T 1 parts) (hT:P.underlying T=some (.slice e)) (hn:iE P e=some n) (hz:(P.info? e).bind (·.zero)=some z)
  (hp:parts.toList=number 0 [x0]) (hb:Nat.ble (1*n) 16777216=true) (hds:o.dst=some d) (hd:Nat.blt d C.N=true) (hx:σ.ev x0=some av0) (hcB:av0.mD=true) (hcl:av0.cells.length=n) (hc1:av0.cells.all AV.yN=true) (hcj:av0.cells[j0]?=some (.sl q)) (hc0:KN j0 0 av0.cells=true)
  (hq:look q σ.M=some (.row T' n' ai5)) (hqn:Nat.beq σ.nk q=false) (he:[av0.cells.set j0 (.ow T' n' ai5)]=fV) (hM:bP M' (((σ.new (.oW e n [av0.cells] 0 j0 (.sl q))).drop q).upd σ.nk (.jM e n fV)).M) (hs:bP Mc M') (hsB:Nat.blt k e0=true→bP jC M')
  (r:aZ P C ops mem Mc jC e0 fJ (k+1) rest ⟨(d,.sl σ.nk)::σ.t,M',σ.nk+1⟩ Q):aZ P C ops mem Mc jC e0 fJ k (o::rest) σ Q:=by
 have hen:oV o.dst true (.sl σ.nk)=[(d,.sl σ.nk)]:=by rw [hds];rfl
 refine aZ.wr (.sl σ.nk) hm (uj (BG _)) hs hsB ⟨hg,fun t H=>?_⟩ (by rw [hen];exact r)
 rw [hen]
 have hmem:x0∈o.op.operands.toList:=by
  rw [ho]
  have:(0,x0)∈parts.toList:=by rw [hp];simp [number]
  simp [Op.operands]
  exact ⟨0,by simpa using this⟩
 have h1:=WO.buildO (P:=P) (C:=C) (σ:=⟨t,σ.M,σ.nk⟩) ho hT hn hz hp hb hds hd ((kE H hmem).trans hx) hcB hcl hc1 hcj (fun s x hs hx=>Fz hc0 s x au hx) rfl
 refine WO.tr h1 ?_
 have hlq:look q ((σ.nk,AO.oW e n [av0.cells] 0 j0 (.sl q))::σ.M)=some (.row T' n' ai5):=by
  rw [aj (fun e=>by rw [← e,Qm] at hqn;cases hqn)];exact hq
 have h2:=Tr.close_ (C:=C) (σ:=(((⟨t,σ.M,σ.nk⟩:St).new (.oW e n [av0.cells] 0 j0 (.sl q))).put d (.sl σ.nk))) (m:=q) (i:=0) (j:=j0) (rows:=[av0.cells]) (r:=av0.cells) (fV:=fV) σ.nk aA hlq hqn rfl (List.getElem?_eq_some_iff.1 hcj).1 (by rw [← he];rfl)
 exact Tr.trans h2 (Tr.sub hM)
theorem aZ.apM {T e n X7 q1 q2 e2:Nat} {z:Value} {i:TypeInfo} {x y:Operand} {rows fV rows':List (List AV)} {M':List (Nat×AO)} (hm:mem.getD k false=true) (hg:o.guard=none) (ho:o.op=.call { callee:=.builtin .append,args:=#[x,y],argTypes:=#[T,T] }) (hT:P.underlying T=some (.slice e))
  (hi:P.info? e=some i) (hz:i.zero=some z) (hn:i.size=n) (hby:i.bytes=X7) (hzs:z.cells.size=n) (h0:Nat.blt 0 n=true) (hds:o.dst=some d) (hd:Nat.blt d C.N=true)
  (hx:σ.ev x=some (.sl q1)) (hk:look q1 σ.M=some (.jM e n rows)) (hy:σ.ev y=some (.sl q2)) (hq:look q2 σ.M=some (.jM e2 n fV)) (hkq:Nat.beq q1 q2=false) (hb1:rows.length+fV.length≤1000000000) (hb2:Nat.ble X7 100000=true) (hrr:rows++fV=rows')
  (hM:bP M' (((σ.drop q1).drop q2).new (.jM e n rows')).M) (hs:bP Mc M') (hsB:Nat.blt k e0=true→bP jC M')
  (r:aZ P C ops mem Mc jC e0 fJ (k+1) rest ⟨(d,.sl σ.nk)::σ.t,M',σ.nk+1⟩ Q):aZ P C ops mem Mc jC e0 fJ k (o::rest) σ Q:=by
 have hen:oV o.dst true (.sl σ.nk)=[(d,.sl σ.nk)]:=by rw [hds];rfl
 refine aZ.wr (.sl σ.nk) hm (uj (BG _)) hs hsB ⟨hg,fun t H=>?_⟩ (by rw [hen];exact r)
 rw [hen]
 have hmem:∀ q∈[x,y],q∈o.op.operands.toList:=fun q hq=>by rw [ho];simp [Op.operands,Call.operands] at hq ⊢;exact hq
 have h1:=WO.aa1 (P:=P) (C:=C) (σ:=⟨t,σ.M,σ.nk⟩) ho hT hi hz hn hby hzs h0 hds hd ((kE H (hmem x (by simp))).trans hx) hk ((kE H (hmem y (by simp))).trans hy) hq hkq rfl hb1 hb2 hrr
 exact WO.tr h1 (Tr.sub hM)
end
def rF(evs:List Ev):Nat→Int×Bool×Bool
 | 0=>(0,false,false)
 | k+1=>match evs[k]? with
  | some e=>if e.val=0 then rF evs k else(e.val,e.dot,e.three)
  | none=>rF evs k
def BP (x:Int×Bool×Bool):List AV:=[.sc (.int .i64 x.1),.sc (.bool x.2.1),.sc (.bool x.2.2)]
structure Va where
 kd:Int
 pl:Int
 ev:Ev
def Om(e:Ev)(s:Int×Bool×Bool):Ev:={ e with val:=s.1,dot:=s.2.1,three:=s.2.2 }
def Oh (evs:List Ev):Nat→List Ev
 | 0=>[]
 | k+1=>Oh evs k++match evs[k]? with
  | some e=>[Om e (rF evs (k+1))]
  | none=>[]
theorem KL {evs:List Ev} {k:Nat} (h:k<evs.length):Oh evs (k+1)=Oh evs k++[Om evs[k] (rF evs (k+1))]:=by
 show Oh evs k++(match evs[k]? with|some e=>_|none=>_)=_
 exact Nr
theorem pW {evs:List Ev}:∀ {k:Nat},k≤evs.length→(Oh evs k).length=k
 | 0,_=>rfl
 | k+1,h=>by rw [KL (by omega),aY,pW (by omega)];rfl
def Aw(p:aS):List Ev:=Oh p.evs p.evs.length
theorem mY (p:aS):(Aw p).length=p.evs.length:=pW (bJ _)
def noP:aS:=⟨[],[],[]⟩
def plP(p:aS):aS:=if aV p=0 then⟨p.cs,p.st,Aw p⟩else noP
theorem FU {evs:List Ev} {k:Nat} (h:k<evs.length):rF evs (k+1)=if evs[k].val=0 then rF evs k else (evs[k].val,evs[k].dot,evs[k].three):=by
 show (match evs[k]? with|some e=>_|none=>_)=_
 exact Nr
theorem PS {evs:List Ev}:∀ {k:Nat},k≤evs.length→∀ e∈Oh evs k,∃ f∈evs,e.stops=f.stops
 | 0,_,e,h=>by cases h
 | k+1,hk,e,h=>by
  rw [KL (by omega)] at h
  rcases List.mem_append.1 h with h|h
  ·exact PS au e h
  ·rw [MF] at h
   exact⟨evs[k],dS _,by rw [h];rfl⟩
def jf(e:Ev):List Stp×Bool:=(e.stops,e.tie)
theorem Lm {c:Int}:∀ (k:Nat) {l m:List Ev},l.map jf=m.map jf→lT c k l=lT c k m
 | 0,l,m,_=>by simp [lT]
 | k+1,[],[],_=>rfl
 | k+1,[],y::m,h=>by simp at h
 | k+1,x::l,[],h=>by simp at h
 | k+1,x::l,y::m,h=>by
  rw [wR,wR] at h
  obtain⟨h1,h2⟩:=List.cons.inj h
  unfold jf at h1
  obtain⟨h3,h4⟩:=Prod.mk.inj h1
  have ih:=Lm (c:=c) k h2
  unfold lT jU
  rw [h3,h4,ih]
theorem y5 {l m:List Ev} (h:l.map jf=m.map jf) (i c:Int):ah l i c=ah m i c:=by
 have hl:l.length=m.length:=by have:=congrArg List.length h;simpa using this
 unfold ah
 rw [hl,Lm 15 (l:=l.drop (i.toNat+1)) (m:=m.drop (i.toNat+1)) ajE]
theorem Xe {p q:aS} (hc:p.cs=q.cs)(h:p.evs.map jf=q.evs.map jf)(i:Int)(s:Stp)(last:Int):gQ p i s last=gQ q i s last:=by
 unfold gQ
 rw [hc,y5 h]
theorem Ei {p q:aS} (hc:p.cs=q.cs)(h:p.evs.map jf=q.evs.map jf)(i:Int):∀ (l:List Stp)(last:Int),gK p i last l=gK q i last l
 | [],_=>rfl
 | s::r,last=>by
  show(if gQ p i s last≠0 then _ else _)=(if gQ q i s last≠0 then _ else _)
  rw [Xe hc h,Ei hc h i r]
theorem Am {evs:List Ev}:∀ {n k:Nat} (h:k<n) (hn:n≤evs.length),(Oh evs n)[k]'(by rw [pW hn];exact h)=Om (evs[k]'(by omega)) (rF evs (k+1))
 | 0,k,h,_=>absurd h (Ic k)
 | n+1,k,h,hn=>by
  have e:=KL (evs:=evs) (k:=n) au
  have hl:(Oh evs n).length=n:=pW au
  have key:(Oh evs (n+1))[k]?=some (Om (evs[k]' au) (rF evs (k+1))):=by
   rw [e]
   by_cases hk:k<n
   ·rw [qJ (by omega),aI (by omega),Am hk (by omega)]
   ·obtain rfl:k=n:=by omega
    rw [o8 (by omega),hl,H9];rfl
  rw [aI (by rw [pW hn];exact h)]at key
  exact Option.some.inj key
theorem PO (p:aS):(Aw p).map jf=p.evs.map jf:=by
 apply fZ (by rw [aH,aH,mY])
 intro k h1 h2
 have hk:k<p.evs.length:=by simpa using h2
 rw [iZ,iZ]
 have:=Am (evs:=p.evs) hk (bJ _)
 unfold Aw
 rw [this];rfl
theorem SK {p:aS} (h0:aV p=0):∀ k,k<p.evs.length→(rF p.evs (k+1)).1≠0∧gZ (rF p.evs (k+1)).1 (rF p.evs (k+1)).2.1 (rF p.evs (k+1)).2.2=true
 | 0,h=>by
  obtain ⟨a,b,_,_⟩:=qp ((dY h0).2.2 0 h)
  rw [FU h]
  have hv:p.evs[0].val≠0:=fun hv=>b ⟨rfl,hv⟩
  rw [if_neg hv]
  exact ⟨hv,a⟩
 | k+1,h=>by
  obtain ⟨a,b,_,_⟩:=qp ((dY h0).2.2 (k+1) h)
  rw [FU h]
  by_cases hv:p.evs[k+1].val=0
  ·rw [if_pos hv]
   exact SK h0 k au
  ·rw [if_neg hv]
   exact ⟨hv,a⟩
theorem Jw {p:aS}:∀ {l:List Ev} {n:Nat},(∀ k (h:k<l.length),AY p ((n+k:Nat):Int) l[k]=0)→yL p n l=0
 | [],n,_=>rfl
 | e::r,n,h=>by
  have h0:=h 0 (by simp)
  simp only [zJ,zM] at h0
  have e1:yL p n (e::r)=yL p (n+1) r:=if_neg (by rw [h0];simp)
  rw [e1]
  refine Jw fun k hk=>?_
  have:=h (k+1) zX
  rw [show n+1+k=n+(k+1) by omega]
  exact ng
theorem acf {p:aS} (h0:aV p=0):aV ⟨p.cs,p.st,Aw p⟩=0:=by
 obtain ⟨h1,h2,h3⟩:=dY h0
 have hl:=mY p
 unfold aV
 rw [if_neg rO,if_neg (by show ¬ 400<(Aw p).length;omega)]
 refine Jw fun k hk=>?_
 have hk':k<p.evs.length:=by rw [← hl];exact hk
 obtain ⟨a,b,c,d⟩:=qp (h3 k hk')
 obtain ⟨s1,s2⟩:=SK h0 k hk'
 have he:(Aw p)[k]'hk=Om p.evs[k] (rF p.evs (k+1)):=Am hk' (bJ _)
 have hst:=Ei (p:=⟨p.cs,p.st,Aw p⟩) (q:=p) rfl (PO p) (k:Int) p.evs[k].stops 0
 show AY ⟨p.cs,p.st,Aw p⟩ ((0+k:Nat):Int) ((Aw p)[k]'hk)=0
 rw [lW,he]
 unfold AY
 rw [if_neg (by
  rintro (h|h)
  ·have h:gZ (rF p.evs (k+1)).1 (rF p.evs (k+1)).2.1 (rF p.evs (k+1)).2.2=false:=h
   rw [s2] at h;cases h
  ·exact s1 h.2),if_neg (show ¬ ((Om p.evs[k] (rF p.evs (k+1))).tie=true∧(0<(Om p.evs[k] (rF p.evs (k+1))).stops.length∨(k:Int)=0)) from c)]
 show gK ⟨p.cs,p.st,Aw p⟩ k 0 p.evs[k].stops=0
 rw [hst];exact d
structure Cg where
 ch:Stp→Stp×Bool
 mr:Stp→Stp
 ml:Stp→List Int
 tie:Nat→Ev→Bool
 bare:Nat→Bool
def Cg.mv (C:Cg)(x:Stp):Option Stp:=if (C.ch x).2=true then none else some (C.mr (C.ch x).1)
def l9(C:Cg)(l:List Stp):List Stp:=l.filterMap C.mv
def VQ(C:Cg)(i:Nat)(e:Ev):Bool:=if e.stops.length=0 then C.tie i e else if(l9 C e.stops).length=0 then C.bare i else e.tie
def yQ(C:Cg)(i:Nat)(e:Ev):Ev:={ e with stops:=l9 C e.stops,tie:=VQ C i e }
def lY (C:Cg)(evs:List Ev):List Ev:=evs.mapIdx (yQ C)
def pF (evs:List Ev)(i:Nat)(y:Stp):Int:=if y.2.1=0 then 0 else min y.2.2.2.2 (ah evs i y.1)
def zH (s:Int) (evs:List Ev) (i:Nat) (y:Stp):Int:=if qN s (pF evs i y) (ah evs i y.1)=true then pF evs i y else 0
def qF(y:Stp)(h:Int):Stp:=(y.1,y.2.1,y.2.2.1,y.2.2.2.1,h)
def JB (H:Nat→Stp→Int)(i:Nat)(e:Ev):Ev:={ e with stops:=e.stops.map fun y=>qF y (H i y) }
def jo (H:Nat→Stp→Int)(evs:List Ev):List Ev:=evs.mapIdx (JB H)
def AZ(C:Cg)(i:Nat)(e:Ev):Int:=if e.stops.length=0 then(if e.tie=true∧C.tie i e=false then 7 else if e.tie=false∧C.tie i e=true then 8 else 0)else 0
def lsH(C:Cg)(i:Nat)(e:Ev):List sJ:=if AZ C i e=0 then []else [((i:Int),0,AZ C i e)]
def lsS (C:Cg)(H:Nat→Stp→Int)(i:Nat)(x:Stp):List sJ :=
 match C.mv x with
 | none=>[((i:Int),x.1,1)]
 | some y=>(C.ml (C.ch x).1).map (fun w=>((i:Int),x.1,w))++if H i y=x.2.2.2.2 then []else [((i:Int),x.1,4)]
def lsE (C:Cg)(H:Nat→Stp→Int)(i:Nat)(e:Ev):List sJ:=lsH C i e++e.stops.flatMap (lsS C H i)
def NK(C:Cg)(H:Nat→Stp→Int)(evs:List Ev):Nat→List sJ
 | 0=>[]
 | k+1=>NK C H evs k++(match evs[k]? with|some e=>lsE C H k e|none=>[])
theorem Ry {C:Cg} {H:Nat→Stp→Int} {evs:List Ev} {k:Nat} (h:k<evs.length):NK C H evs (k+1)=NK C H evs k++lsE C H k evs[k]:=by
 show NK C H evs k++_=_
 exact Nr
theorem fM(C:Cg)(evs:List Ev):(lY C evs).length=evs.length:=yC
theorem dA(H:Nat→Stp→Int)(evs:List Ev):(jo H evs).length=evs.length:=yC
theorem mP {C:Cg} {evs:List Ev} {k:Nat} (h:k<evs.length):(lY C evs)[k]'(by rw [fM];exact h)=yQ C k evs[k]:=by
 unfold lY;rw [jh]
theorem nT {H:Nat→Stp→Int} {evs:List Ev} {k:Nat} (h:k<evs.length):(jo H evs)[k]'(by rw [dA];exact h)=JB H k evs[k]:=by
 unfold jo;rw [jh]
theorem xM(C:Cg)(l:List Stp):(l9 C l).length≤l.length:=List.length_filterMap_le _ _
theorem ahM {C:Cg} {l:List Stp} {k:Nat} (h:k<l.length):l9 C (l.take (k+1))=l9 C (l.take k)++(match C.mv l[k]with|some y=>[y]|none=>[]):=by
 unfold l9
 rw [mJ h,List.filterMap_append]
 congr 1
 rw [List.filterMap_cons,List.filterMap_nil]
 cases C.mv l[k]<;>rfl
theorem anS {C:Cg} {H:Nat→Stp→Int} (hm:∀ y,(C.ml y).length≤2)(i:Nat)(x:Stp):(lsS C H i x).length≤3:=by
 unfold lsS
 split
 ·simp
 ·rw [aY,aH]
  have:=hm (C.ch x).1
  split
  ·simp;omega
  ·simp;omega
theorem Rx {C:Cg} {H:Nat→Stp→Int} (hm:∀ y,(C.ml y).length≤2)(i:Nat):∀ l:List Stp,(l.flatMap (lsS C H i)).length≤3*l.length
 | []=>by simp
 | x::r=>by
  have:=anS (H:=H) hm i x
  have:=Rx (H:=H) hm i r
  simp only [Md,aY,iw];omega
theorem anR {C:Cg} {H:Nat→Stp→Int} (hm:∀ y,(C.ml y).length≤2)(i:Nat)(e:Ev)(h:e.stops.length≤20):(lsE C H i e).length≤61:=by
 have:=Rx (H:=H) hm i e.stops
 unfold lsE lsH
 rw [aY]
 split
 ·simp only [o9];omega
 ·simp only [iw,o9];omega
theorem abO {C:Cg} {H:Nat→Stp→Int} (hm:∀ y,(C.ml y).length≤2) {evs:List Ev} (h20:∀ e∈evs,e.stops.length≤20):∀ k,k≤evs.length→(NK C H evs k).length≤61*k
 | 0,_=>by simp [NK]
 | k+1,hk=>by
  have:=abO (H:=H) hm h20 k au
  have:=anR (H:=H) hm k evs[k] (h20 _ (dS _))
  rw [Ry (by omega),aY];omega
def oZ(e:Ev):List Int×Bool:=(e.stops.map fun x=>x.1,jU e)
theorem U1(c:Int)(l:List Stp):hasB c l=(l.map fun x=>x.1).any fun x=>x == c:=by
 unfold hasB;rw [List.any_map];rfl
theorem WT {c:Int}:∀ (k:Nat) {l m:List Ev},l.map oZ=m.map oZ→lT c k l=lT c k m
 | 0,l,m,_=>by simp [lT]
 | k+1,[],[],_=>rfl
 | k+1,[],y::m,h=>by simp at h
 | k+1,x::l,[],h=>by simp at h
 | k+1,x::l,y::m,h=>by
  rw [wR,wR] at h
  obtain⟨h1,h2⟩:=List.cons.inj h
  unfold oZ at h1
  obtain⟨h3,h4⟩:=Prod.mk.inj h1
  have ih:=WT (c:=c) k h2
  unfold lT
  rw [h4,U1,U1,h3,ih]
theorem xC {l m:List Ev} (h:l.map oZ=m.map oZ) (i c:Int):ah l i c=ah m i c:=by
 have hl:l.length=m.length:=by have:=congrArg List.length h;simpa using this
 unfold ah
 rw [hl,WT 15 (l:=l.drop (i.toNat+1)) (m:=m.drop (i.toNat+1)) ajE]
theorem abo (H:Nat→Stp→Int)(i:Nat)(e:Ev):oZ (JB H i e)=oZ e:=by
 unfold oZ JB jU qF
 simp [Function.comp_def]
theorem am3 (H:Nat→Stp→Int)(evs:List Ev):(jo H evs).map oZ=evs.map oZ:=by
 apply fZ (by simp [jo])
 intro k h1 h2
 have hk:k<evs.length:=by simpa using h2
 rw [iZ,iZ,nT hk,abo]
theorem yZ (H:Nat→Stp→Int)(evs:List Ev)(i c:Int):ah (jo H evs) i c=ah evs i c:=xC (am3 H evs) i c
def vP (H:Nat→Stp→Int)(evs:List Ev)(n k:Nat):List Ev:=evs.mapIdx fun i e=>if i<n then JB H i e else if i=n then { e with stops:=(e.stops.take k).map (fun y=>qF y (H n y))++e.stops.drop k } else e
theorem jw(H:Nat→Stp→Int)(evs:List Ev)(n k:Nat):(vP H evs n k).length=evs.length:=yC
theorem apl (H:Nat→Stp→Int)(evs:List Ev):vP H evs 0 0=evs:=by
 apply fZ (jw _ _ _ _)
 intro i h1 h2
 simp only [vP,jh]
 by_cases e:i=0
 ·subst e;simp
 ·rw [if_neg (by omega),if_neg e]
theorem abv (H:Nat→Stp→Int)(evs:List Ev):vP H evs evs.length 0=jo H evs:=by
 apply fZ (by rw [jw,dA])
 intro i h1 h2
 have hi:i<evs.length:=by rw [dA]at h2;exact h2
 simp only [vP,jo,jh]
 rw [if_pos hi]
theorem abw (H:Nat→Stp→Int)(evs:List Ev)(n k:Nat):(vP H evs n k).map oZ=evs.map oZ:=by
 apply fZ (by simp [vP])
 intro i h1 h2
 have hk:i<evs.length:=by simpa using h2
 rw [iZ,iZ]
 simp only [vP,jh]
 split
 ·exact abo H i _
 ·split
  ·unfold oZ jU
   have e1:((evs[i].stops.take k).map (fun y=>qF y (H n y))++evs[i].stops.drop k).map (fun x=>x.1)=evs[i].stops.map fun x=>x.1:=by
    exact arD
   have e2:((evs[i].stops.take k).map (fun y=>qF y (H n y))++evs[i].stops.drop k).length=evs[i].stops.length:=by
    exact akR
   show (_,_)=(_,_)
   rw [e1,e2]
  ·rfl
theorem adM {H:Nat→Stp→Int} {evs:List Ev} {n k i:Nat} (h:i<evs.length):((vP H evs n k)[i]'(by rw [jw];exact h)).stops.length=evs[i].stops.length:=by
 simp only [vP,jh]
 split
 ·exact aH _
 ·split
  ·show((evs[i].stops.take k).map _++evs[i].stops.drop k).length=_
   exact akR
  ·rfl
def NI (H:Nat→Stp→Int)(n k:Nat)(l:List Stp):List Stp:=(l.take k).map (fun y=>qF y (H n y))++l.drop k
theorem apk(H:Nat→Stp→Int)(n:Nat)(l:List Stp):NI H n 0 l=l:=by unfold NI;simp
theorem IW(H:Nat→Stp→Int)(n k:Nat)(l:List Stp):(NI H n k l).length=l.length:=by
 unfold NI;rw [aY,aH,fP,yB];omega
theorem abq {H:Nat→Stp→Int} {n k:Nat} {l:List Stp} (h:k<l.length):(NI H n k l)[k]?=some l[k]:=by
 unfold NI
 have hl:((l.take k).map fun y=>qF y (H n y)).length=k:=by rw [aH,fP];omega
 rw [o8 (by omega),hl,H9,yA,zJ,aI h]
theorem abr {H:Nat→Stp→Int} {n k:Nat} {l:List Stp} (h:k<l.length):(NI H n k l).set k (qF l[k] (H n l[k]))=NI H n (k+1) l:=by
 unfold NI
 have hl:((l.take k).map fun y=>qF y (H n y)).length=k:=by rw [aH,fP];omega
 exact ars
theorem ai6 {p:aS} {i:Int} {s:Stp} {last:Int} (h1:1≤s.1∧s.1≤p.cs.length) (h2:0≤s.2.1∧s.2.1≤dJ p.cs s.1) (h3:last<s.1) (h4:0≤s.2.2.1∧s.2.2.1≤3) (h5:0≤s.2.2.2.1∧s.2.2.2.1≤4)
  (h6:0≤s.2.2.2.2∧s.2.2.2.2≤ah p.evs i s.1) (h7:0<s.2.2.2.2→s.2.1≠0):gQ p i s last=0 :=
 zF au au au au au
theorem Qd {p:aS} {i:Int}:∀ {l:List Stp} {last:Int},(∀ x∈l,last<x.1)→l.Pairwise (fun x y=>x.1<y.1)→(∀ x∈l,∀ la,la<x.1→gQ p i x la=0)→gK p i last l=0
 | [],_,_,_,_=>rfl
 | x::r,last,h1,h2,h3=>by
  have e:gQ p i x last=0:=h3 x (by simp) last (h1 x (by simp))
  unfold gK
  rw [if_neg (by rw [e];simp)]
  cases h2 with
  | cons a b=>exact Qd (fun y hy=>a y hy) b fun y hy la hla=>h3 y BK la hla
theorem aoc {p:aS} (hI:fU p.cs p.st=0)(hn:p.evs.length≤400)(h:∀ k (hk:k<p.evs.length),AY p k p.evs[k]=0):aV p=0:=by
 unfold aV
 rw [if_neg (by simpa using hI),if_neg (by omega)]
 exact Jw fun k hk=>by rw [lW];exact h k hk
theorem ar1 {p:aS} {i:Int} {e:Ev} (h1:gZ e.val e.dot e.three=true)(h2:¬ (i=0∧e.val=0))(h3:¬ (e.tie=true∧(0<e.stops.length∨i=0)))(h4:gK p i 0 e.stops=0):AY p i e=0:=by
  unfold AY
  rw [if_neg (by rintro (h|h);· rw [h1]at h;cases h
                 · exact h2 h),if_neg h3]
  exact h4
structure auK (C:Cg)(p:aS)(cs:List (Int×Int×Bool)):Prop where
 aT:∀ x y,C.mv x=some y→y.1=x.1∧y.2.2.2.2=x.2.2.2.2
 len:cs.length=p.cs.length
 bd:∀ k (hk:k<p.evs.length),∀ x∈p.evs[k].stops,∀ y,C.mv x=some y→(0≤y.2.1∧y.2.1≤dJ cs y.1)∧(0≤y.2.2.1∧y.2.2.1≤3)∧(0≤y.2.2.2.1∧y.2.2.2.1≤4)
 tie:∀ k (hk:k<p.evs.length),VQ C k p.evs[k]=true→0<k∧l9 C p.evs[k].stops=[]
theorem Ak {C:Cg} (hc:∀ x y,C.mv x=some y→y.1=x.1∧y.2.2.2.2=x.2.2.2.2) {l:List Stp} (h:l.Pairwise fun x y=>x.1<y.1):(l9 C l).Pairwise fun x y=>x.1<y.1:=by
 unfold l9
 refine List.Pairwise.filterMap C.mv (fun a a' hr b hb b' hb'=>?_) h
 have e1:=(hc a b hb).1
 have e2:=(hc a' b' hb').1
 omega
theorem I7 {C:Cg} {l:List Stp} {y:Stp} (h:y∈l9 C l):∃ x∈l,C.mv x=some y:=List.mem_filterMap.1 h
theorem agG {evs:List Ev} {i:Nat} {y:Stp} (h:0≤y.2.2.2.2):0≤pF evs i y∧pF evs i y≤ah evs i y.1∧(0<pF evs i y→y.2.1≠0):=by
 unfold pF
 split
 ·exact⟨by omega,by omega,fun h=>by omega⟩
 ·rename_i hy
  exact⟨by omega,by omega,fun _=>hy⟩
theorem aug {s:Int} {evs:List Ev} {i:Nat} {y:Stp} (h:0≤y.2.2.2.2):0≤zH s evs i y∧zH s evs i y≤ah evs i y.1∧(0<zH s evs i y→y.2.1≠0):=by
 have hb:=agG (evs:=evs) (i:=i) h
 unfold zH
 split
 ·exact hb
 ·exact ⟨by omega,by omega,fun h=>by omega⟩
theorem y8 {f:Stp→Int} {l:List Stp} (h:l.Pairwise fun x y=>x.1<y.1):(l.map fun y=>qF y (f y)).Pairwise fun x y=>x.1<y.1:=by
 rw [List.pairwise_map];exact h
theorem apg {C:Cg} {p:aS} {cs:List (Int×Int×Bool)} {st:List Int} (h0:aV p=0) (hI:fU cs st=0) (hC:auK C p cs) {H:Nat→Stp→Int}
  (hH:∀ i y,0≤y.2.2.2.2→0≤H i y∧H i y≤ah (lY C p.evs) i y.1∧(0 < H i y→y.2.1≠0)):aV ⟨cs,st,jo H (lY C p.evs)⟩=0:=by
 obtain ⟨_,hn,_⟩:=dY h0
 refine aoc hI (by show (jo H (lY C p.evs)).length≤400;rw [dA,fM];exact hn) fun k hk=>?_
 have hk1:k < p.evs.length:=by
  have hk:k < (jo H (lY C p.evs)).length:=hk
  rw [dA,fM] at hk;exact hk
 have hk2:k < (lY C p.evs).length:=by rw [fM];exact hk1
 have hE:=ji h0 hk1
 have hIn:=lG h0 k hk1
 have e1:(jo H (lY C p.evs))[k]'hk=JB H k (yQ C k p.evs[k]):=by rw [nT hk2,mP hk1]
 show AY _ _ ((jo H (lY C p.evs))[k]'hk)=0
 rw [e1]
 refine ar1 hE.sg hE.first ?_ ?_
 ·rintro ⟨ht,hh⟩
  have ht:VQ C k p.evs[k]=true:=ht
  obtain ⟨a,b⟩:=hC.tie k hk1 ht
  have hh:0 < ((l9 C p.evs[k].stops).map fun y=>qF y (H k y)).length∨(k:Int)=0:=hh
  rw [b] at hh
  rcases hh with hh|hh
  ·exact absurd hh (by simp)
  ·omega
 ·refine Qd ?_ (y8 (Ak hC.aT hE.EK)) ?_
  ·intro x hx
   obtain ⟨y,hy,rfl⟩:=List.mem_map.1 hx
   obtain ⟨z,hz,hm⟩:=I7 hy
   have:=(hE.stops z hz).aT
   have e:=(hC.aT z y hm).1
   show (0:Int) < y.1
   omega
  ·intro x hx la hla
   obtain ⟨y,hy,rfl⟩:=List.mem_map.1 hx
   obtain ⟨z,hz,hm⟩:=I7 hy
   have hz1:=hE.stops z hz
   have hcr:=hz1.aT
   have hzh:=hz1.hold
   obtain ⟨e1,e2⟩:=hC.aT z y hm
   obtain ⟨b1,b2,b3⟩:=hC.bd k hk1 z hz y hm
   obtain ⟨c1,c2,c3⟩:=hH k y au
   have hlen:=hC.len
   refine ai6 ?_ b1 hla b2 b3 ?_ c3
   ·show 1≤y.1∧y.1≤cs.length
    omega
   ·show 0≤H k y∧H k y≤ah (jo H (lY C p.evs)) k y.1
    rw [yZ]
    exact ⟨c1,c2⟩
def crI(l:List Stp)(c:Int):Nat:=l.findIdx fun x=>x.1 == c
theorem IQ {l:List Stp} (ha:l.Pairwise fun x y=>x.1<y.1) {k:Nat} (h:k<l.length):crI l l[k].1=k:=by
 unfold crI
 rw [List.findIdx_eq h]
 refine⟨by simp,fun j hj=>?_⟩
 have:=List.pairwise_iff_getElem.1 ha j k (by omega) h hj
 simp;omega
def II(l:List sJ)(i:Nat)(e:Ev):Ev:={ e with stops:=e.stops.map fun y=>if((i:Int),y.1,(4:Int))∈l then qF y 0 else y }
def Jh (l:List sJ)(evs:List Ev):List Ev:=evs.mapIdx (II l)
theorem sF(l:List sJ)(evs:List Ev):(Jh l evs).length=evs.length:=yC
theorem nZ {ok:Bool} {i c w:Int} {x:sJ}:x∈jP ok i c w↔ok=false∧x=(i,c,w):=by
 unfold jP;cases ok<;>simp
theorem ahp {s i c:Int} {e:Ev} {j:Int}:¬ (j,c,(4:Int))∈yY s i e:=by
 unfold yY
 intro h
 rcases List.mem_append.1 h with h|h
 ·exact aaH
 rcases List.mem_append.1 h with h|h
 ·exact aaH
 ·split at h
  ·rw [nZ]at h;simp at h
  ·exact aaH
theorem aee {s:Int} {p:aS} {i:Nat} {e:Ev} {j c:Int}:(j,c,(4:Int))∈mG s p i e↔j=i∧∃ x∈e.stops,x.1=c∧qU s x.1 x.2.1=true∧qN s x.2.2.2.2 (ah p.evs i x.1)=false:=by
 unfold mG
 rw [Ig]
 constructor
 ·rintro (h|h)
  ·exact absurd h ahp
  ·obtain ⟨x,hx,h⟩:=List.mem_flatMap.1 h
   unfold fH at h
   split at h
   ·simp at h
   ·rename_i hp
    rcases List.mem_append.1 h with h|h
    ·rw [nZ]at h;simp at h
    rcases List.mem_append.1 h with h|h
    ·rw [nZ]at h;simp at h
    ·rw [nZ]at h
     obtain ⟨h1,h2⟩:=h
     simp at h2
     exact ⟨h2.1,x,hx,h2.2.symm,by simpa using hp,h1⟩
 ·rintro ⟨rfl,x,hx,rfl,hp,ho⟩
  refine .inr (List.mem_flatMap.2 ⟨x,hx,?_⟩)
  unfold fH
  rw [if_neg (by rw [hp];simp)]
  exact List.mem_append.2 (.inr (List.mem_append.2 (.inr (nZ.2 ⟨ho,rfl⟩))))
theorem Aj {s:Int} {p:aS} {j c:Int}:∀ {n:Nat},n≤p.evs.length→((j,c,(4:Int))∈kY s p n↔∃ (i:Nat) (hi:i<n) (hi2:i<p.evs.length),j=i∧∃ x∈p.evs[i].stops,x.1=c∧qU s x.1 x.2.1=true∧qN s x.2.2.2.2 (ah p.evs i x.1)=false)
 | 0,_=>by
  constructor
  ·intro h;cases h
  ·rintro ⟨i,hi,_⟩;omega
 | n+1,hn=>by
  rw [nX s p (by omega),Ig,Aj (by omega),aee]
  constructor
  ·rintro (⟨i,hi,hi2,h⟩|⟨h1,h2⟩)
   ·exact ⟨i,by omega,hi2,h⟩
   ·exact ⟨n,by omega,by omega,h1,h2⟩
  ·rintro ⟨i,hi,hi2,h⟩
   by_cases e:i=n
   ·subst e;exact .inr ⟨h.1,h.2⟩
   ·exact .inl ⟨i,by omega,hi2,h⟩
theorem anT {l:List Stp} (ha:l.Pairwise fun x y=>x.1<y.1) {x y:Stp} (hx:x∈l)(hy:y∈l)(h:x.1=y.1):x=y:=by
 obtain⟨i,hi,rfl⟩:=eu hx
 obtain⟨j,hj,rfl⟩:=eu hy
 have a:=IQ ha hi
 have b:=IQ ha hj
 rw [h]at a
 have e:i=j:=a.symm.trans b
 subst e;rfl
theorem aum {s:Int} {p:aS} (ha:∀ e∈p.evs,e.stops.Pairwise fun x y=>x.1<y.1)(hp:∀ e∈p.evs,∀ x∈e.stops,qU s x.1 x.2.1=true) :
  Jh (kY s p p.evs.length) p.evs=jo (fun i y=>if qN s y.2.2.2.2 (ah p.evs i y.1)=true then y.2.2.2.2 else 0) p.evs:=by
 apply fZ (by rw [sF,dA])
 intro i h1 h2
 have hi:i<p.evs.length:=by rw [dA] at h2;exact h2
 simp only [Jh,jo,jh]
 unfold II JB
 congr 1
 refine qK fun y hy=>?_
 have hm:p.evs[i]∈p.evs:=dS hi
 dsimp only
 by_cases ho:qN s y.2.2.2.2 (ah p.evs i y.1)=true
 ·rw [if_pos ho,if_neg]
  ·rfl
  ·rw [Aj (bJ _)]
   rintro⟨k,hk,hk2,e,x,hx,hxy,_,h5⟩
   obtain rfl:i=k:=by omega
   have:=anT (ha _ hm) hx hy hxy
   subst this
   rw [ho] at h5;cases h5
 ·rw [if_neg ho,if_pos]
  rw [Aj (bJ _)]
  exact⟨i,hi,hi,rfl,y,hy,rfl,hp _ hm y hy,by simpa using ho⟩
theorem adg (evs:List Ev):Jh [] evs=evs:=by
 apply fZ (sF _ _)
 intro i h1 h2
 simp only [Jh,jh]
 unfold II
 simp
theorem afI {l:List sJ} {x:sJ} (evs:List Ev)(h:x.2.2≠4):Jh (l++[x]) evs=Jh l evs:=by
 apply fZ (by rw [sF,sF])
 intro i h1 h2
 simp only [Jh,jh]
 unfold II
 congr 1
 refine qK fun y hy=>?_
 have e:(((i:Int),y.1,(4:Int))∈l++[x])↔((i:Int),y.1,(4:Int))∈l:=by
  rw [Ig,MF]
  constructor
  ·rintro (h2|h2)
   ·exact h2
   ·rw [← h2] at h;exact absurd rfl h
  ·exact .inl
 by_cases hy:((i:Int),y.1,(4:Int))∈l
 ·rw [if_pos hy,if_pos (e.2 hy)]
 ·rw [if_neg hy,if_neg fun h=>hy (e.1 h)]
theorem amg {l:List sJ} {i k:Nat} {c:Int} {evs:List Ev} (ha:∀ e∈evs,e.stops.Pairwise fun x y=>x.1<y.1)(hi:i<evs.length)(hk:k<evs[i].stops.length)(hc:evs[i].stops[k].1=c) :
  Jh (l++[((i:Int),c,4)]) evs=(Jh l evs).set i { (II l i evs[i]) with stops:=(II l i evs[i]).stops.set k (qF evs[i].stops[k] 0) }:=by
 apply fZ (by rw [sF,wV,sF])
 intro j h1 h2
 have hj:j<evs.length:=by rw [sF] at h1;exact h1
 rw [Eu]
 simp only [Jh,jh]
 by_cases e:i=j
 ·subst e
  rw [if_pos rfl]
  unfold II
  congr 1
  apply fZ (by simp)
  intro m m1 m2
  have hm:m<evs[i].stops.length:=by simpa using m1
  rw [iZ,Eu,iZ]
  by_cases e2:k=m
  ·subst e2
   rw [if_pos rfl,if_pos]
   rw [hc];simp
  ·rw [if_neg e2]
   have hne:evs[i].stops[m].1≠c:=by
    intro hh
    rw [← hc] at hh
    have a:=IQ (ha _ (dS hi)) hm
    have b:=IQ (ha _ (dS hi)) hk
    rw [hh] at a
    omega
   have e3:(((i:Int),evs[i].stops[m].1,(4:Int))∈l++[((i:Int),c,(4:Int))])↔((i:Int),evs[i].stops[m].1,(4:Int))∈l:=by
    rw [Ig,MF]
    constructor
    ·rintro (h2|h2)
     ·exact h2
     ·simp at h2;exact absurd h2 hne
    ·exact .inl
   by_cases hy:((i:Int),evs[i].stops[m].1,(4:Int))∈l
   ·rw [if_pos hy,if_pos (e3.2 hy)]
   ·rw [if_neg hy,if_neg fun h=>hy (e3.1 h)]
 ·rw [if_neg e]
  unfold II
  congr 1
  refine qK fun y hy=>?_
  have e3:(((j:Int),y.1,(4:Int))∈l++[((i:Int),c,(4:Int))])↔((j:Int),y.1,(4:Int))∈l:=by
   rw [Ig,MF]
   constructor
   ·rintro (h2|h2)
    ·exact h2
    ·simp at h2;omega
   ·exact .inl
  by_cases hy:((j:Int),y.1,(4:Int))∈l
  ·rw [if_pos hy,if_pos (e3.2 hy)]
  ·rw [if_neg hy,if_neg fun h=>hy (e3.1 h)]
theorem am5 (H H':Nat→Stp→Int)(evs:List Ev):jo H' (jo H evs)=jo (fun i y=>H' i (qF y (H i y))) evs:=by
 apply fZ (by rw [dA,dA,dA])
 intro i h1 h2
 have hi:i<evs.length:=by rw [dA] at h2;exact h2
 simp only [jo,jh]
 unfold JB
 congr 1
 rw [oO];rfl
theorem auh (s:Int) (evs:List Ev):jo (fun i y=>if qN s y.2.2.2.2 (ah (jo (pF evs) evs) i y.1)=true then y.2.2.2.2 else 0) (jo (pF evs) evs)=jo (zH s evs) evs:=by
 rw [am5]
 congr 1
 funext i y
 rw [yZ]
 rfl
end
end Go.Proofs.YthehkchjdkdbiaaGreatDoor
