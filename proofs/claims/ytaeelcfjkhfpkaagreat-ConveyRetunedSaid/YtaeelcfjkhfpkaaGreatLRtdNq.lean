/- ConveyRetuned: the walk. -/
import Derived.Test.YtaeelcfjkhfpkaaGreatUBNq
import Derived.Test.YtaeelcfjkhfpkaaGreatUCNq
import Derived.Test.YtaeelcfjkhfpkaaGreatREeNq
set_option maxHeartbeats 8000000
set_option maxRecDepth 100000
set_option linter.unusedVariables false
set_option linter.unusedSimpArgs false
namespace Go.Proofs.YtaeelcfjkhfpkaaGreat
section
open Go.RowKit
theorem z15i {z:Int} (h:I64 z:=by unfold I64;omega):I64 z:=h
section
variable {B:World→View→Prop} {gl:Nat} {P:Program} {C:Cx} {ops:Array Oper} {rest:List Oper} {σ σ':St} {G G':Gh} {a:Act} {w w':World} {o:Oper} {d:Tmp} {Q:Exit→St→Prop}
def negV (σ:St):Op→Option (Prop×Int)
 | .unOp .neg _ x =>
  match σ.ev x with
  | some (.sc (.int .i64 m))=>some (I64 (0-m),0-m)
  | _=>none
 | _=>none
theorem negV_of {φ:Prop} {z:Int} (h:negV σ o.op=some (φ,z))(hφ:φ):WV P C o σ (.sc (.int .i64 z)):=by
 unfold negV at h
 split at h
 ·rename_i T x ho
  split at h
  ·rename_i m h1
   cases h
   exact WV.sc fun G a w ok=>by unfold execOp;have hw:=I64.wrap hφ;simp [ho,ok.evs h1,Op.unary,Op.intArith];simpa using hw
  ·cases h
 ·cases h
theorem WL.neg {φ:Prop} {z:Int} (hd:dstB C.N o=some d)(h:negV σ o.op=some (φ,z))(hφ:φ)(k:WL P C ops rest (σ.put d (.sc (.int .i64 z))) Q):WL P C ops (o::rest) σ Q:=WL.vl hd (negV_of h hφ) k
end
end
section
open Go.RowKit
theorem gmE_len(g:Stp→Stp)(e:Ev):(gmE g e).stops.length=e.stops.length:=List.length_map _
end
section
open Go.RowKit
theorem ftH_ok {p:Pce} (h0:pceE p=0) {k:Nat} (hk:k<p.evs.length) {x:Stp} (hx:x∈p.evs[k].stops):ftH p.evs k x=x.2.2.2.2:=by
 have hS:=(evOk_of h0 hk).stops x hx
 have h1:=hS.hold
 have h2:=hS.h0
 unfold ftH
 by_cases hf:x.2.1=0
 ·rw [if_pos hf]
  rcases Int.lt_or_le 0 x.2.2.2.2 with q|q
  ·exact absurd hf (h2 q)
  ·omega
 ·rw [if_neg hf];omega
end
section
open Go.RowKit
theorem fm_id {f:Stp→Option Stp}:∀ {l:List Stp},(∀ x∈l,f x=some x)→l.filterMap f=l
 | [],_=>rfl
 | x::r,h=>by
  rw [List.filterMap_cons,h x (by simp),fm_id fun y hy=>h y (by simp [hy])]
theorem frN_some {cs:List (Int×Int×Bool)} {st:List Int} {c q:Int} {k:Nat} (h0:0≤fretsOf cs c)(h:frN cs st c q=some k):(k:Int)≤fretsOf cs c∧pitN cs st c (k:Nat)=q:=by
 have h1:=List.find?_some h
 have h2:=List.mem_of_find?_eq_some h
 have h2:=List.mem_range.1 h2
 exact⟨by omega,by simpa using h1⟩
theorem tnC_at {cs:List (Int×Int×Bool)} {c b:Int} (h:1≤c∧c≤cs.length) (d:Int) (hd:1≤d∧d≤cs.length):(tnC cs c b).getD (d.toNat-1) (0,0,false)=if d=c then ((cs.getD (c.toNat-1) (0,0,false)).1+b,(cs.getD (c.toNat-1) (0,0,false)).2)else cs.getD (d.toNat-1) (0,0,false):=by
 unfold tnC
 rw [List.getD_eq_getElem?_getD,List.getElem?_set]
 by_cases e:d=c
 ·subst e
  rw [if_pos rfl,if_pos (by omega),if_pos rfl];rfl
 ·rw [if_neg (by omega),if_neg e,← List.getD_eq_getElem?_getD]
theorem tn_frets {cs:List (Int×Int×Bool)} {c b:Int} (h:1≤c∧c≤cs.length)(d:Int)(hd:1≤d∧d≤cs.length):fretsOf (tnC cs c b) d=fretsOf cs d:=by
 unfold fretsOf
 rw [tnC_at h d hd]
 split
 ·rename_i e;rw [e]
 ·rfl
theorem tn_pit {cs:List (Int×Int×Bool)} {st:List Int} {c b:Int} (h:1≤c∧c≤cs.length)(d:Int)(hd:1≤d∧d≤cs.length)(f:Int):pitN (tnC cs c b) st d f=pitN cs st d f+if d=c then b else 0:=by
 unfold pitN
 rw [show (d-1).toNat=d.toNat-1 by omega,tnC_at h d hd]
 split
 ·rename_i e;subst e;omega
 ·omega
theorem tn_tn {cs:List (Int×Int×Bool)} {c b:Int} (h:1≤c∧c≤cs.length):tnC (tnC cs c b) c (-b)=cs:=by
 have e:=tnC_at (b:=b) h c h
 rw [if_pos rfl] at e
 unfold tnC at e ⊢
 rw [e,List.set_set]
 have hk:c.toNat-1<cs.length:=by omega
 have e2:cs.getD (c.toNat-1) (0,0,false)=cs[c.toNat-1]:=by rw [List.getD_eq_getElem?_getD,List.getElem?_eq_getElem hk];rfl
 rw [e2]
 have e3:(cs[c.toNat-1].1+b+-b,cs[c.toNat-1].2)=cs[c.toNat-1]:=by
  rw [show cs[c.toNat-1].1+b+-b=cs[c.toNat-1].1 by omega]
 dsimp only
 rw [e3,List.set_getElem_self]
theorem rtE_0 {p:Pce} {c b:Int} (h:rtE p c b=0):pceE p=0∧tnX p.cs p.st c b=0:=by
 unfold rtE at h
 by_cases h1:pceE p≠0
 ·rw [if_pos h1]at h;exact absurd h h1
 ·rw [if_neg h1]at h;exact⟨Decidable.not_not.1 h1,h⟩
theorem rt_ok {p:Pce} {c b:Int} (h:rtE p c b=0):CgOk (rtC p.cs (tnC p.cs c b) p.st c) p (tnC p.cs c b):=by
 obtain ⟨h0,hx⟩:=rtE_0 h
 obtain ⟨hI,hc,hb,hI2⟩:=tnX_0 hx
 refine cg_ok h0 (fun x y hm=>(rtC_mv hm).1) (tnC_len _ _ _) (fun _ _=>rfl) (fun _=>rfl) fun k hk x hxs y hm=>?_
 have hS:=(evOk_of h0 hk).stops x hxs
 obtain ⟨⟨e1,e2⟩,g1,g2⟩:=rtC_mv hm
 rw [e1,tn_frets hc _ hS.crs]
 by_cases e:x.1=c
 ·obtain ⟨f,hf,rfl⟩:=g2 e
  have hn:=fretsOf_nn hI2 (c:=c) (by rw [tnC_len];exact hc)
  obtain ⟨q1,_⟩:=frN_some hn.1 hf
  rw [tn_frets hc c hc] at q1
  rw [e]
  show (0:Int)≤(f:Int)∧(f:Int)≤_
  omega
 ·rw [g1 e];exact hS.fret
theorem rt_valid {p:Pce} {c b:Int} (h:rtE p c b=0):pceE (rtP p c b)=0:=by
 obtain⟨h0,hx⟩:=rtE_0 h
 obtain⟨_,_,_,hI2⟩:=tnX_0 hx
 rw [show rtP p c b=_ from if_pos h]
 exact cv_ok h0 hI2 (rt_ok h) fun i y hy=>ftH_bd hy
theorem rt_pit {p:Pce} {c b:Int} (h:rtE p c b=0) {k:Nat} (hk:k<p.evs.length) {x y:Stp} (hxs:x∈p.evs[k].stops) (hm:(rtC p.cs (tnC p.cs c b) p.st c).mv x=some y):pitN (tnC p.cs c b) p.st y.1 y.2.1=pitN p.cs p.st x.1 x.2.1:=by
 obtain ⟨h0,hx⟩:=rtE_0 h
 obtain ⟨hI,hc,hb,hI2⟩:=tnX_0 hx
 have hS:=(evOk_of h0 hk).stops x hxs
 obtain ⟨⟨e1,e2⟩,g1,g2⟩:=rtC_mv hm
 by_cases e:x.1=c
 ·obtain ⟨f,hf,rfl⟩:=g2 e
  have hn:=fretsOf_nn hI2 (c:=c) (by rw [tnC_len];exact hc)
  obtain ⟨_,q2⟩:=frN_some hn.1 hf
  rw [e];exact q2
 ·rw [g1 e,tn_pit hc _ hS.crs,if_neg e];omega
theorem pit_inj {cs:List (Int×Int×Bool)} {st:List Int} (h:insE cs st=0) {c f g:Int} (hf:0≤f∧f≤st.length) (hg:0≤g∧g≤st.length) (he:pitN cs st c f=pitN cs st c g):f=g:=by
 obtain ⟨_,_,_,l4,_⟩:=insE_len h
 obtain ⟨ha,hb⟩:=stepsBad_asc l4
 have key:∀ f g:Int,0≤f→f<g→g≤st.length→(if 0<f then st.getD (f-1).toNat 0 else 0)<if 0<g then st.getD (g-1).toNat 0 else 0:=by
  intro f g h1 h2 h3
  obtain ⟨kg,eg,_⟩:=stAt (st:=st) (f:=g) zqo h3
  rw [if_pos (show 0<g by omega),eg]
  by_cases h0:0<f
  ·obtain ⟨kf,ef,_⟩:=stAt (st:=st) (f:=f) zqo zqo
   rw [if_pos h0,ef]
   exact List.pairwise_iff_getElem.1 ha _ _ kf kg (by omega)
  ·rw [if_neg h0]
   exact (hb _ (List.getElem_mem kg)).1
 unfold pitN at he
 have he:(if 0<f then st.getD (f-1).toNat 0 else 0)=if 0<g then st.getD (g-1).toNat 0 else 0:=by omega
 rcases Int.lt_trichotomy f g with h1|h1|h1
 ·have:=key f g hf.1 h1 hg.2;omega
 ·exact h1
 ·have:=key g f hg.1 h1 hf.2;omega
theorem rt_back {p:Pce} {c b:Int} (h:rtE p c b=0) (hl:rtL p c b=[]):rtE (rtP p c b) c (-b)=0∧rtP (rtP p c b) c (-b)=p∧rtL (rtP p c b) c (-b)=[]:=by
 obtain ⟨h0,hx⟩:=rtE_0 h
 obtain ⟨hI,hc,hb,hI2⟩:=tnX_0 hx
 have hv:=rt_valid h
 rw [show rtL p c b=_ from if_pos h] at hl
 have hE:=ls_nil _ (Nat.le_refl _) hl
 have hev:(rtP p c b).evs=p.evs.map (gmE fun x=>((rtC p.cs (tnC p.cs c b) p.st c).ch x).1):=by
  rw [show rtP p c b=_ from if_pos h]
  refine fn_all (fun _ _=>rfl) fun k hk x hxs=>?_
  obtain ⟨y,hm,hh⟩:=lsE_nil (hE k hk hk) x hxs
  have hy:y=((rtC p.cs (tnC p.cs c b) p.st c).ch x).1:=by
   unfold Cg.mv at hm
   split at hm
   ·cases hm
   ·exact (Option.some.inj hm).symm
  rw [← hy]
  refine ⟨hm,?_⟩
  rw [(rtC_crs x y hm).2];exact hh
 have hcs:(rtP p c b).cs=tnC p.cs c b:=by rw [show rtP p c b=_ from if_pos h]
 have hst:(rtP p c b).st=p.st:=by rw [show rtP p c b=_ from if_pos h]
 have hX:rtE (rtP p c b) c (-b)=0:=by
  unfold rtE
  rw [if_neg (by rw [hv];simp),hcs,hst]
  unfold tnX
  rw [if_neg (by rw [hI2];simp),if_neg (by rw [tnC_len];omega),if_neg (by omega),tn_tn hc]
  exact hI
 have hN:rtN (rtP p c b) c (-b)=p.evs:=by
  unfold rtN
  rw [hcs,hst,tn_tn hc,hev]
  apply List.ext_getElem (by rw [nwL_len,List.length_map])
  intro k h1 h2
  have hk3:k<(p.evs.map (gmE fun x=>((rtC p.cs (tnC p.cs c b) p.st c).ch x).1)).length:=by rw [List.length_map];exact h2
  rw [nwL_get hk3,List.getElem_map]
  have hm2:∀ x∈p.evs[k].stops,(rtC (tnC p.cs c b) p.cs p.st c).mv ((rtC p.cs (tnC p.cs c b) p.st c).ch x).1=some x:=fun x hxs=>by
   obtain ⟨y,hm,_⟩:=lsE_nil (hE k h2 h2) x hxs
   have hy:y=((rtC p.cs (tnC p.cs c b) p.st c).ch x).1:=by
    unfold Cg.mv at hm
    split at hm
    ·cases hm
    ·exact (Option.some.inj hm).symm
   rw [← hy]
   have hS:=(evOk_of h0 h2).stops x hxs
   obtain ⟨⟨e1,e2⟩,g1,g2⟩:=rtC_mv hm
   unfold Cg.mv
   by_cases e:x.1=c
   ·obtain ⟨f,hf,rfl⟩:=g2 e
    have hp:=rt_pit h h2 hxs hm
    have hp:pitN (tnC p.cs c b) p.st x.1 (f:Int)=pitN p.cs p.st x.1 x.2.1:=hp
    rw [e] at hp
    have hfr:=hS.fret
    rw [e] at hfr
    have hn:=fretsOf_nn hI hc
    have hnat:((x.2.1.toNat:Nat):Int)=x.2.1:=by omega
    have hback:frN p.cs p.st c (pitN (tnC p.cs c b) p.st c (f:Int))=some x.2.1.toNat:=by
     rw [hp]
     refine frN_hit (by omega) (fun g hg hq=>?_) (by rw [hnat])
     have:=pit_inj hI (c:=c) (f:=(g:Int)) (g:=x.2.1) zqo zqo hq
     omega
    have hch:(rtC (tnC p.cs c b) p.cs p.st c).ch (x.1,(f:Int),x.2.2)=(x,false):=by
     show (if x.1=c then rtF (tnC p.cs c b) p.cs p.st c (x.1,(f:Int),x.2.2) else ((x.1,(f:Int),x.2.2),false))=(x,false)
     rw [if_pos e]
     unfold rtF
     dsimp only
     rw [hback]
     dsimp only
     rw [hnat]
    rw [hch];rfl
   ·have hyx:=g1 e
    subst hyx
    have hch:(rtC (tnC p.cs c b) p.cs p.st c).ch y=(y,false):=if_neg e
    rw [hch];rfl
  unfold nwE gmE
  have hnw:nwS (rtC (tnC p.cs c b) p.cs p.st c) (p.evs[k].stops.map fun x=>((rtC p.cs (tnC p.cs c b) p.st c).ch x).1)=p.evs[k].stops:=by
   unfold nwS
   rw [List.filterMap_map]
   exact fm_id hm2
  dsimp only
  rw [hnw]
  have ht:nwT (rtC (tnC p.cs c b) p.cs p.st c) k { p.evs[k] with stops:=p.evs[k].stops.map fun x=>((rtC p.cs (tnC p.cs c b) p.st c).ch x).1 }=p.evs[k].tie :=
   nwT_all (fun _ _=>rfl) (by dsimp only;rw [hnw,List.length_map])
  rw [ht]
 have hfin:fnL (ftH p.evs) p.evs=p.evs:=by
  apply List.ext_getElem (fnL_len _ _)
  intro k h1 h2
  rw [fnL_get h2]
  unfold fnE
  have:p.evs[k].stops.map (fun y=>stH y (ftH p.evs k y))=p.evs[k].stops:=by
   refine (List.map_congr_left fun x hx=>?_).trans (List.map_id _)
   rw [ftH_ok h0 h2 hx];rfl
  rw [this]
 refine ⟨hX,?_,?_⟩
 ·rw [show rtP (rtP p c b) c (-b)=_ from if_pos hX,hN,hfin,hcs,hst,tn_tn hc]
 ·rw [show rtL (rtP p c b) c (-b)=_ from if_pos hX,hN]
  have hN2:=hN
  unfold rtN at hN2
  have key:∀ n,n≤(rtP p c b).evs.length→lsL (rtC (rtP p c b).cs (tnC (rtP p c b).cs c (-b)) (rtP p c b).st c) (ftH p.evs) (rtP p c b).evs n=[]:=by
   intro n
   induction n with
   | zero=>intro _;rfl
   | succ n ih =>
    intro hn
    have hk:n<(rtP p c b).evs.length:=by omega
    have hk2:n<p.evs.length:=by rw [hev,List.length_map] at hk;exact hk
    rw [lsL_at hk,ih (by omega),List.nil_append]
    have e2:=nwL_get (C:=rtC (rtP p c b).cs (tnC (rtP p c b).cs c (-b)) (rtP p c b).st c) hk
    have e3:(nwL (rtC (rtP p c b).cs (tnC (rtP p c b).cs c (-b)) (rtP p c b).st c) (rtP p c b).evs)[n]'(by rw [nwL_len];exact hk)=p.evs[n]:=by
     have:(nwL (rtC (rtP p c b).cs (tnC (rtP p c b).cs c (-b)) (rtP p c b).st c) (rtP p c b).evs)[n]?=p.evs[n]?:=by rw [hN2]
     rw [List.getElem?_eq_getElem (by rw [nwL_len];exact hk),List.getElem?_eq_getElem hk2] at this
     exact Option.some.inj this
    rw [e3] at e2
    obtain ⟨y,hy⟩:∃ z,(rtP p c b).evs[n]=z:=⟨_,rfl⟩
    have hyl:y.stops.length=p.evs[n].stops.length:=by
     have:(rtP p c b).evs[n]?=(p.evs.map (gmE fun x=>((rtC p.cs (tnC p.cs c b) p.st c).ch x).1))[n]?:=by rw [hev]
     rw [List.getElem?_eq_getElem hk,List.getElem?_map,List.getElem?_eq_getElem hk2,hy] at this
     rw [Option.some.inj this]
     exact gmE_len _ _
    rw [hy] at e2 ⊢
    unfold nwE at e2
    have hst2:nwS (rtC (rtP p c b).cs (tnC (rtP p c b).cs c (-b)) (rtP p c b).st c) y.stops=p.evs[n].stops:=(congrArg Ev.stops e2).symm
    unfold lsE
    rw [List.append_eq_nil_iff]
    constructor
    ·unfold lsH
     have:evT (rtC (rtP p c b).cs (tnC (rtP p c b).cs c (-b)) (rtP p c b).st c) n y=0:=by
      unfold evT
      show (if y.stops.length=0 then (if y.tie=true∧y.tie=false then 7 else if y.tie=false∧y.tie=true then 8 else 0) else 0:Int)=0
      cases y.tie<;>simp
     rw [if_pos this]
    ·rw [List.flatMap_eq_nil_iff]
     intro x hx
     have hall:∀ x∈y.stops,∃ z,(rtC (rtP p c b).cs (tnC (rtP p c b).cs c (-b)) (rtP p c b).st c).mv x=some z∧z∈p.evs[n].stops:=by
      intro x hx
      have hex:∀ l:List Stp,(nwS (rtC (rtP p c b).cs (tnC (rtP p c b).cs c (-b)) (rtP p c b).st c) l).length=l.length→∀ x∈l,∃ z,(rtC (rtP p c b).cs (tnC (rtP p c b).cs c (-b)) (rtP p c b).st c).mv x=some z:=by
       intro l
       induction l with
       | nil=>intro _ x hx;cases hx
       | cons a r ih =>
        intro hl x hx
        unfold nwS at hl ih
        rw [List.filterMap_cons] at hl
        cases hm:(rtC (rtP p c b).cs (tnC (rtP p c b).cs c (-b)) (rtP p c b).st c).mv a with
        | none =>
         rw [hm] at hl
         have:=List.length_filterMap_le (rtC (rtP p c b).cs (tnC (rtP p c b).cs c (-b)) (rtP p c b).st c).mv r
         simp only [List.length_cons] at hl;omega
        | some z =>
         rw [hm] at hl
         rcases List.mem_cons.1 hx with rfl|hx
         ·exact ⟨z,hm⟩
         ·exact ih (by simpa using hl) x hx
      obtain ⟨z,hz⟩:=hex y.stops (by rw [hst2,hyl]) x hx
      refine ⟨z,hz,?_⟩
      rw [← hst2]
      exact List.mem_filterMap.2 ⟨x,hx,hz⟩
     obtain ⟨z,hz,hzm⟩:=hall x hx
     unfold lsS
     rw [hz]
     show (([]:List Int).map _)++(if ftH p.evs n z=x.2.2.2.2 then [] else [((n:Int),x.1,(4:Int))])=[]
     rw [ftH_ok h0 hk2 hzm,(rtC_crs x z hz).2,if_pos rfl];rfl
  exact key _ (Nat.le_refl _)
end
section
open Go.RowKit
theorem smallU_FS (p:Pce):Ctr Tryz.prog 13 [ePce p] (.sc (.bool (!longB p))):=by
 refine zqe Tryz.func13 Tryz.ntmps13 fun w0 F0=>?_;dsimp only [St.init,number,Nat.reduceAdd]
 repeat (first|refine W.go rfl ?_|refine WL.ev rfl ?_)
 (first|refine (?_:W _ _ _ _ _)|refine (?_:WL _ _ _ _ _ _)|skip)
 try dsimp only [St.put,Nat.reduceAdd]
 refine WL.vl rfl (WV.call rfl (callF Tryz.func43 rfl rfl) rfl rfl (long_FS p)) ?_
 repeat (first|refine W.go rfl ?_|refine WL.ev rfl ?_)
 (first|refine (?_:W _ _ _ _ _)|refine (?_:WL _ _ _ _ _ _)|skip)
 try dsimp only [St.put,Nat.reduceAdd]
 exact W.ret zqr
theorem fnw_20u {C:Cg} {H:Nat→Stp→Int} {evs:List Ev} (h:∀ k (hk:k<evs.length),evs[k].stops.length≤20):∀ k (hk:k<(fnL H (nwL C evs)).length),((fnL H (nwL C evs))[k]'hk).stops.length≤20:=fun k hk=>by
 have hk2:k<(nwL C evs).length:=by rw [fnL_len]at hk;exact hk
 have hk3:k<evs.length:=by rw [nwL_len]at hk2;exact hk2
 rw [fnL_get hk2,nwL_get hk3]
 show ((nwS C evs[k].stops).map _).length≤20
 rw [List.length_map]
 have:=nwS_len C evs[k].stops
 have:=h k hk3
 omega
theorem retuned_FS (p:Pce) (c b:Int):Ctr Tryz.prog 11 [ePce p,.sc (.int .i64 c),.sc (.int .i64 b)] (.sc (.bool true)):=by
 have hS:=smallU_FS p
 by_cases hl:longB p=true
 ·rw [hl] at hS
  refine zqe Tryz.func11 Tryz.ntmps11 fun w0 F0=>?_;dsimp only [St.init,number,Nat.reduceAdd]
  repeat (first|refine WL.vl rfl (WV.nch rfl rfl) ?_|refine W.gob rfl ?_|refine WL.nil ?_|refine WL.bt rfl rfl rfl zqo ?_|refine WL.bf rfl rfl rfl zqo ?_|refine WL.nt rfl rfl rfl zqo ?_|refine WL.nf rfl rfl rfl zqo ?_|refine WL.e1 rfl ?_|refine WL.gyes rfl rfl rfl rfl ?_|refine WL.opno rfl rfl rfl rfl rfl rfl rfl ?_|refine WL.neg rfl rfl z15i ?_|refine WL.len rfl rfl rfl ?_|refine W.condT rfl ?_|refine W.condF rfl ?_)
  (first|refine (?_:W _ _ _ _ _)|refine (?_:WL _ _ _ _ _ _)|skip)
  try dsimp only [St.put,Nat.reduceAdd]
  refine WL.vl rfl (zqc Tryz.func13 hS) ?_
  repeat (first|refine WL.vl rfl (WV.nch rfl rfl) ?_|refine W.gob rfl ?_|refine WL.nil ?_|refine WL.bt rfl rfl rfl zqo ?_|refine WL.bf rfl rfl rfl zqo ?_|refine WL.nt rfl rfl rfl zqo ?_|refine WL.nf rfl rfl rfl zqo ?_|refine WL.e1 rfl ?_|refine WL.gyes rfl rfl rfl rfl ?_|refine WL.opno rfl rfl rfl rfl rfl rfl rfl ?_|refine WL.neg rfl rfl z15i ?_|refine WL.len rfl rfl rfl ?_|refine W.condT rfl ?_|refine W.condF rfl ?_)
  (first|refine (?_:W _ _ _ _ _)|refine (?_:WL _ _ _ _ _ _)|skip)
  try dsimp only [St.put,Nat.reduceAdd]
  refine WL.vl rfl (zqc Tryz.func14 works04_FS) ?_
  repeat (first|refine WL.vl rfl (WV.nch rfl rfl) ?_|refine W.gob rfl ?_|refine WL.nil ?_|refine WL.bt rfl rfl rfl zqo ?_|refine WL.bf rfl rfl rfl zqo ?_|refine WL.nt rfl rfl rfl zqo ?_|refine WL.nf rfl rfl rfl zqo ?_|refine WL.e1 rfl ?_|refine WL.gyes rfl rfl rfl rfl ?_|refine WL.opno rfl rfl rfl rfl rfl rfl rfl ?_|refine WL.neg rfl rfl z15i ?_|refine WL.len rfl rfl rfl ?_|refine W.condT rfl ?_|refine W.condF rfl ?_)
  (first|refine (?_:W _ _ _ _ _)|refine (?_:WL _ _ _ _ _ _)|skip)
  try dsimp only [St.put,Nat.reduceAdd]
  exact W.ret zqr
 have hl:longB p=false:=by simpa using hl
 rw [hl] at hS
 have hO:=pcOk_of3 hl
 have hC:=rCheck_FS p hO
 by_cases h0:pceE p=0
 rotate_left
 ·obtain ⟨E,hE⟩:∃ z,pceE p=z:=⟨_,rfl⟩
  rw [hE] at hC h0
  refine zqe Tryz.func11 Tryz.ntmps11 fun w0 F0=>?_;dsimp only [St.init,number,Nat.reduceAdd]
  repeat (first|refine WL.vl rfl (WV.nch rfl rfl) ?_|refine W.gob rfl ?_|refine WL.nil ?_|refine WL.bt rfl rfl rfl zqo ?_|refine WL.bf rfl rfl rfl zqo ?_|refine WL.nt rfl rfl rfl zqo ?_|refine WL.nf rfl rfl rfl zqo ?_|refine WL.e1 rfl ?_|refine WL.gyes rfl rfl rfl rfl ?_|refine WL.opno rfl rfl rfl rfl rfl rfl rfl ?_|refine WL.neg rfl rfl z15i ?_|refine WL.len rfl rfl rfl ?_|refine W.condT rfl ?_|refine W.condF rfl ?_)
  (first|refine (?_:W _ _ _ _ _)|refine (?_:WL _ _ _ _ _ _)|skip)
  try dsimp only [St.put,Nat.reduceAdd]
  refine WL.vl rfl (zqc Tryz.func13 hS) ?_
  repeat (first|refine WL.vl rfl (WV.nch rfl rfl) ?_|refine W.gob rfl ?_|refine WL.nil ?_|refine WL.bt rfl rfl rfl zqo ?_|refine WL.bf rfl rfl rfl zqo ?_|refine WL.nt rfl rfl rfl zqo ?_|refine WL.nf rfl rfl rfl zqo ?_|refine WL.e1 rfl ?_|refine WL.gyes rfl rfl rfl rfl ?_|refine WL.opno rfl rfl rfl rfl rfl rfl rfl ?_|refine WL.neg rfl rfl z15i ?_|refine WL.len rfl rfl rfl ?_|refine W.condT rfl ?_|refine W.condF rfl ?_)
  (first|refine (?_:W _ _ _ _ _)|refine (?_:WL _ _ _ _ _ _)|skip)
  try dsimp only [St.put,Nat.reduceAdd]
  refine WL.vl rfl (zqc Tryz.func20 hC) ?_
  repeat (first|refine WL.vl rfl (WV.nch rfl rfl) ?_|refine W.gob rfl ?_|refine WL.nil ?_|refine WL.bt rfl rfl rfl zqo ?_|refine WL.bf rfl rfl rfl zqo ?_|refine WL.nt rfl rfl rfl zqo ?_|refine WL.nf rfl rfl rfl zqo ?_|refine WL.e1 rfl ?_|refine WL.gyes rfl rfl rfl rfl ?_|refine WL.opno rfl rfl rfl rfl rfl rfl rfl ?_|refine WL.neg rfl rfl z15i ?_|refine WL.len rfl rfl rfl ?_|refine W.condT rfl ?_|refine W.condF rfl ?_)
  (first|refine (?_:W _ _ _ _ _)|refine (?_:WL _ _ _ _ _ _)|skip)
  try dsimp only [St.put,Nat.reduceAdd]
  refine WL.vl rfl (zqc Tryz.func14 works04_FS) ?_
  repeat (first|refine WL.vl rfl (WV.nch rfl rfl) ?_|refine W.gob rfl ?_|refine WL.nil ?_|refine WL.bt rfl rfl rfl zqo ?_|refine WL.bf rfl rfl rfl zqo ?_|refine WL.nt rfl rfl rfl zqo ?_|refine WL.nf rfl rfl rfl zqo ?_|refine WL.e1 rfl ?_|refine WL.gyes rfl rfl rfl rfl ?_|refine WL.opno rfl rfl rfl rfl rfl rfl rfl ?_|refine WL.neg rfl rfl z15i ?_|refine WL.len rfl rfl rfl ?_|refine W.condT rfl ?_|refine W.condF rfl ?_)
  (first|refine (?_:W _ _ _ _ _)|refine (?_:WL _ _ _ _ _ _)|skip)
  try dsimp only [St.put,Nat.reduceAdd]
  exact W.ret zqr
 rw [h0] at hC
 have h1:=pRetune_FS p hO c b
 have hCp:=pcCopy_FS p hO
 by_cases hX:rtE p c b=0
 rotate_left
 ·obtain ⟨E,hE⟩:∃ z,rtE p c b=z:=⟨_,rfl⟩
  rw [hE] at h1 hX
  rw [show rtP p c b=noP from if_neg (by rw [hE];exact hX)] at h1
  have h1:Ctr Tryz.prog 39 [ePce p,.sc (.int .i64 c),.sc (.int .i64 b)] (.tu [.ag [.ls 3 [],.ls 1 [],.ls 6 []],.ls 3 ((rtL p c b).map eLk),.sc (.int .i64 E)]):=h1
  refine zqe Tryz.func11 Tryz.ntmps11 fun w0 F0=>?_;dsimp only [St.init,number,Nat.reduceAdd]
  repeat (first|refine WL.vl rfl (WV.nch rfl rfl) ?_|refine W.gob rfl ?_|refine WL.nil ?_|refine WL.bt rfl rfl rfl zqo ?_|refine WL.bf rfl rfl rfl zqo ?_|refine WL.nt rfl rfl rfl zqo ?_|refine WL.nf rfl rfl rfl zqo ?_|refine WL.e1 rfl ?_|refine WL.gyes rfl rfl rfl rfl ?_|refine WL.opno rfl rfl rfl rfl rfl rfl rfl ?_|refine WL.neg rfl rfl z15i ?_|refine WL.len rfl rfl rfl ?_|refine W.condT rfl ?_|refine W.condF rfl ?_)
  (first|refine (?_:W _ _ _ _ _)|refine (?_:WL _ _ _ _ _ _)|skip)
  try dsimp only [St.put,Nat.reduceAdd]
  refine WL.vl rfl (zqc Tryz.func13 hS) ?_
  repeat (first|refine WL.vl rfl (WV.nch rfl rfl) ?_|refine W.gob rfl ?_|refine WL.nil ?_|refine WL.bt rfl rfl rfl zqo ?_|refine WL.bf rfl rfl rfl zqo ?_|refine WL.nt rfl rfl rfl zqo ?_|refine WL.nf rfl rfl rfl zqo ?_|refine WL.e1 rfl ?_|refine WL.gyes rfl rfl rfl rfl ?_|refine WL.opno rfl rfl rfl rfl rfl rfl rfl ?_|refine WL.neg rfl rfl z15i ?_|refine WL.len rfl rfl rfl ?_|refine W.condT rfl ?_|refine W.condF rfl ?_)
  (first|refine (?_:W _ _ _ _ _)|refine (?_:WL _ _ _ _ _ _)|skip)
  try dsimp only [St.put,Nat.reduceAdd]
  refine WL.vl rfl (zqc Tryz.func20 hC) ?_
  repeat (first|refine WL.vl rfl (WV.nch rfl rfl) ?_|refine W.gob rfl ?_|refine WL.nil ?_|refine WL.bt rfl rfl rfl zqo ?_|refine WL.bf rfl rfl rfl zqo ?_|refine WL.nt rfl rfl rfl zqo ?_|refine WL.nf rfl rfl rfl zqo ?_|refine WL.e1 rfl ?_|refine WL.gyes rfl rfl rfl rfl ?_|refine WL.opno rfl rfl rfl rfl rfl rfl rfl ?_|refine WL.neg rfl rfl z15i ?_|refine WL.len rfl rfl rfl ?_|refine W.condT rfl ?_|refine W.condF rfl ?_)
  (first|refine (?_:W _ _ _ _ _)|refine (?_:WL _ _ _ _ _ _)|skip)
  try dsimp only [St.put,Nat.reduceAdd]
  refine WL.vl rfl (zqc Tryz.func15 hCp) ?_
  repeat (first|refine WL.vl rfl (WV.nch rfl rfl) ?_|refine W.gob rfl ?_|refine WL.nil ?_|refine WL.bt rfl rfl rfl zqo ?_|refine WL.bf rfl rfl rfl zqo ?_|refine WL.nt rfl rfl rfl zqo ?_|refine WL.nf rfl rfl rfl zqo ?_|refine WL.e1 rfl ?_|refine WL.gyes rfl rfl rfl rfl ?_|refine WL.opno rfl rfl rfl rfl rfl rfl rfl ?_|refine WL.neg rfl rfl z15i ?_|refine WL.len rfl rfl rfl ?_|refine W.condT rfl ?_|refine W.condF rfl ?_)
  (first|refine (?_:W _ _ _ _ _)|refine (?_:WL _ _ _ _ _ _)|skip)
  try dsimp only [St.put,Nat.reduceAdd]
  refine WL.vl rfl (zqc Tryz.func39 h1) ?_
  repeat (first|refine WL.vl rfl (WV.nch rfl rfl) ?_|refine W.gob rfl ?_|refine WL.nil ?_|refine WL.bt rfl rfl rfl zqo ?_|refine WL.bf rfl rfl rfl zqo ?_|refine WL.nt rfl rfl rfl zqo ?_|refine WL.nf rfl rfl rfl zqo ?_|refine WL.e1 rfl ?_|refine WL.gyes rfl rfl rfl rfl ?_|refine WL.opno rfl rfl rfl rfl rfl rfl rfl ?_|refine WL.neg rfl rfl z15i ?_|refine WL.len rfl rfl rfl ?_|refine W.condT rfl ?_|refine W.condF rfl ?_)
  (first|refine (?_:W _ _ _ _ _)|refine (?_:WL _ _ _ _ _ _)|skip)
  try dsimp only [St.put,Nat.reduceAdd]
  refine WL.vl rfl (zqc Tryz.func14 works04_FS) ?_
  repeat (first|refine WL.vl rfl (WV.nch rfl rfl) ?_|refine W.gob rfl ?_|refine WL.nil ?_|refine WL.bt rfl rfl rfl zqo ?_|refine WL.bf rfl rfl rfl zqo ?_|refine WL.nt rfl rfl rfl zqo ?_|refine WL.nf rfl rfl rfl zqo ?_|refine WL.e1 rfl ?_|refine WL.gyes rfl rfl rfl rfl ?_|refine WL.opno rfl rfl rfl rfl rfl rfl rfl ?_|refine WL.neg rfl rfl z15i ?_|refine WL.len rfl rfl rfl ?_|refine W.condT rfl ?_|refine W.condF rfl ?_)
  (first|refine (?_:W _ _ _ _ _)|refine (?_:WL _ _ _ _ _ _)|skip)
  try dsimp only [St.put,Nat.reduceAdd]
  exact W.ret zqr
 rw [hX] at h1
 obtain ⟨_,hx⟩:=rtE_0 hX
 have hv:=rt_valid hX
 have heq:rtP p c b=⟨tnC p.cs c b,p.st,fnL (ftH (rtN p c b)) (rtN p c b)⟩:=if_pos hX
 have hLeq:rtL p c b=lsL (rtC p.cs (tnC p.cs c b) p.st c) (ftH (rtN p c b)) p.evs p.evs.length:=if_pos hX
 have hn3:=hO.n3
 have hk1:(tnC p.cs c b).length≤64:=by rw [tnC_len];exact hO.n1
 have hQO:PcOk (rtP p c b):=by
  rw [heq]
  refine ⟨hk1,hO.n2,?_,fnw_20u fun k hk=>hO.n4 k hk⟩
  show (fnL _ _).length≤420
  rw [fnL_len]
  unfold rtN
  rw [nwL_len]
  exact hn3
 have hml:(lsL (rtC p.cs (tnC p.cs c b) p.st c) (ftH (rtN p c b)) p.evs p.evs.length).length≤30000:=by
  have h20:∀ e∈p.evs,e.stops.length≤20:=fun e he=>by
   obtain ⟨i,hi,rfl⟩:=List.getElem_of_mem he
   exact hO.n4 i hi
  have:=lsL_len (C:=rtC p.cs (tnC p.cs c b) p.st c) (H:=ftH (rtN p c b)) (fun _=>Nat.zero_le _) h20 p.evs.length (Nat.le_refl _)
  omega
 have hC2:=rCheck_FS (rtP p c b) hQO
 rw [hv] at hC2
 have hv2:=hv
 rw [heq] at hv2
 have hK:=keeps_FS (rtC p.cs (tnC p.cs c b) p.st c) (rtC_ls _ _ _ _) p hO h0 (tnC p.cs c b) p.st (ftH (rtN p c b)) hv2 hk1 hO.n2 (fun k hk x hxs y hm=>rt_pit hX hk hxs hm) hml
 rw [← hLeq] at hK
 have hK:Ctr Tryz.prog 41 [ePce p,ePce ⟨tnC p.cs c b,p.st,fnL (ftH (rtN p c b)) (rtN p c b)⟩,.ls 3 ((rtL p c b).map eLk)] (.sc (.bool true)):=hK
 rw [← heq] at hK
 have hRel:=pRetune_FS (rtP p c b) hQO c (-b)
 obtain ⟨_,_,hbb,_⟩:=tnX_0 hx
 have hSm:=pSame_FS p hO
 have hLl:((rtL p c b).map eLk).length=(rtL p c b).length:=List.length_map _
 have hback:=rt_back hX
 obtain ⟨L,hL⟩:∃ z,rtL p c b=z:=⟨_,rfl⟩
 rw [hL] at h1 hK hLl hback
 obtain ⟨LL,hLL⟩:∃ z,L.map eLk=z:=⟨_,rfl⟩
 rw [hLL] at h1 hK hLl
 obtain ⟨R,hR⟩:∃ z,ePce (rtP p c b)=z:=⟨_,rfl⟩
 have hRe:R=.ag [.ls 3 ((rtP p c b).cs.map eCrs),.ls 1 ((rtP p c b).st.map eInt),.ls 6 ((rtP p c b).evs.map eEv)]:=hR.symm
 rw [hR] at h1 hC2 hK hRel
 rw [hRe] at h1 hC2 hK hRel
 have hPe:ePce p=.ag [.ls 3 (p.cs.map eCrs),.ls 1 (p.st.map eInt),.ls 6 (p.evs.map eEv)]:=rfl
 by_cases hL0:L=[]
 rotate_left
 ·have hlp:0 < L.length:=List.length_pos_iff.2 hL0
  rw [hPe] at hS hC hCp h1 hK ⊢
  refine zqe Tryz.func11 Tryz.ntmps11 fun w0 F0=>?_;dsimp only [St.init,number,Nat.reduceAdd]
  repeat (first|refine WL.vl rfl (WV.nch rfl rfl) ?_|refine W.gob rfl ?_|refine WL.nil ?_|refine WL.bt rfl rfl rfl zqo ?_|refine WL.bf rfl rfl rfl zqo ?_|refine WL.nt rfl rfl rfl zqo ?_|refine WL.nf rfl rfl rfl zqo ?_|refine WL.e1 rfl ?_|refine WL.gyes rfl rfl rfl rfl ?_|refine WL.opno rfl rfl rfl rfl rfl rfl rfl ?_|refine WL.neg rfl rfl z15i ?_|refine WL.len rfl rfl rfl ?_|refine W.condT rfl ?_|refine W.condF rfl ?_)
  (first|refine (?_:W _ _ _ _ _)|refine (?_:WL _ _ _ _ _ _)|skip)
  try dsimp only [St.put,Nat.reduceAdd]
  refine WL.vl rfl (zqc Tryz.func13 hS) ?_
  repeat (first|refine WL.vl rfl (WV.nch rfl rfl) ?_|refine W.gob rfl ?_|refine WL.nil ?_|refine WL.bt rfl rfl rfl zqo ?_|refine WL.bf rfl rfl rfl zqo ?_|refine WL.nt rfl rfl rfl zqo ?_|refine WL.nf rfl rfl rfl zqo ?_|refine WL.e1 rfl ?_|refine WL.gyes rfl rfl rfl rfl ?_|refine WL.opno rfl rfl rfl rfl rfl rfl rfl ?_|refine WL.neg rfl rfl z15i ?_|refine WL.len rfl rfl rfl ?_|refine W.condT rfl ?_|refine W.condF rfl ?_)
  (first|refine (?_:W _ _ _ _ _)|refine (?_:WL _ _ _ _ _ _)|skip)
  try dsimp only [St.put,Nat.reduceAdd]
  refine WL.vl rfl (zqc Tryz.func20 hC) ?_
  repeat (first|refine WL.vl rfl (WV.nch rfl rfl) ?_|refine W.gob rfl ?_|refine WL.nil ?_|refine WL.bt rfl rfl rfl zqo ?_|refine WL.bf rfl rfl rfl zqo ?_|refine WL.nt rfl rfl rfl zqo ?_|refine WL.nf rfl rfl rfl zqo ?_|refine WL.e1 rfl ?_|refine WL.gyes rfl rfl rfl rfl ?_|refine WL.opno rfl rfl rfl rfl rfl rfl rfl ?_|refine WL.neg rfl rfl z15i ?_|refine WL.len rfl rfl rfl ?_|refine W.condT rfl ?_|refine W.condF rfl ?_)
  (first|refine (?_:W _ _ _ _ _)|refine (?_:WL _ _ _ _ _ _)|skip)
  try dsimp only [St.put,Nat.reduceAdd]
  refine WL.vl rfl (zqc Tryz.func15 hCp) ?_
  repeat (first|refine WL.vl rfl (WV.nch rfl rfl) ?_|refine W.gob rfl ?_|refine WL.nil ?_|refine WL.bt rfl rfl rfl zqo ?_|refine WL.bf rfl rfl rfl zqo ?_|refine WL.nt rfl rfl rfl zqo ?_|refine WL.nf rfl rfl rfl zqo ?_|refine WL.e1 rfl ?_|refine WL.gyes rfl rfl rfl rfl ?_|refine WL.opno rfl rfl rfl rfl rfl rfl rfl ?_|refine WL.neg rfl rfl z15i ?_|refine WL.len rfl rfl rfl ?_|refine W.condT rfl ?_|refine W.condF rfl ?_)
  (first|refine (?_:W _ _ _ _ _)|refine (?_:WL _ _ _ _ _ _)|skip)
  try dsimp only [St.put,Nat.reduceAdd]
  refine WL.vl rfl (zqc Tryz.func39 h1) ?_
  repeat (first|refine WL.vl rfl (WV.nch rfl rfl) ?_|refine W.gob rfl ?_|refine WL.nil ?_|refine WL.bt rfl rfl rfl zqo ?_|refine WL.bf rfl rfl rfl zqo ?_|refine WL.nt rfl rfl rfl zqo ?_|refine WL.nf rfl rfl rfl zqo ?_|refine WL.e1 rfl ?_|refine WL.gyes rfl rfl rfl rfl ?_|refine WL.opno rfl rfl rfl rfl rfl rfl rfl ?_|refine WL.neg rfl rfl z15i ?_|refine WL.len rfl rfl rfl ?_|refine W.condT rfl ?_|refine W.condF rfl ?_)
  (first|refine (?_:W _ _ _ _ _)|refine (?_:WL _ _ _ _ _ _)|skip)
  try dsimp only [St.put,Nat.reduceAdd]
  refine WL.vl rfl (zqc Tryz.func20 hC2) ?_
  repeat (first|refine WL.vl rfl (WV.nch rfl rfl) ?_|refine W.gob rfl ?_|refine WL.nil ?_|refine WL.bt rfl rfl rfl zqo ?_|refine WL.bf rfl rfl rfl zqo ?_|refine WL.nt rfl rfl rfl zqo ?_|refine WL.nf rfl rfl rfl zqo ?_|refine WL.e1 rfl ?_|refine WL.gyes rfl rfl rfl rfl ?_|refine WL.opno rfl rfl rfl rfl rfl rfl rfl ?_|refine WL.neg rfl rfl z15i ?_|refine WL.len rfl rfl rfl ?_|refine W.condT rfl ?_|refine W.condF rfl ?_)
  (first|refine (?_:W _ _ _ _ _)|refine (?_:WL _ _ _ _ _ _)|skip)
  try dsimp only [St.put,Nat.reduceAdd]
  refine WL.vl rfl (zqc Tryz.func41 hK) ?_
  repeat (first|refine WL.vl rfl (WV.nch rfl rfl) ?_|refine W.gob rfl ?_|refine WL.nil ?_|refine WL.bt rfl rfl rfl zqo ?_|refine WL.bf rfl rfl rfl zqo ?_|refine WL.nt rfl rfl rfl zqo ?_|refine WL.nf rfl rfl rfl zqo ?_|refine WL.e1 rfl ?_|refine WL.gyes rfl rfl rfl rfl ?_|refine WL.opno rfl rfl rfl rfl rfl rfl rfl ?_|refine WL.neg rfl rfl z15i ?_|refine WL.len rfl rfl rfl ?_|refine W.condT rfl ?_|refine W.condF rfl ?_)
  (first|refine (?_:W _ _ _ _ _)|refine (?_:WL _ _ _ _ _ _)|skip)
  try dsimp only [St.put,Nat.reduceAdd]
  refine WL.vl rfl (zqc Tryz.func14 works04_FS) ?_
  repeat (first|refine WL.vl rfl (WV.nch rfl rfl) ?_|refine W.gob rfl ?_|refine WL.nil ?_|refine WL.bt rfl rfl rfl zqo ?_|refine WL.bf rfl rfl rfl zqo ?_|refine WL.nt rfl rfl rfl zqo ?_|refine WL.nf rfl rfl rfl zqo ?_|refine WL.e1 rfl ?_|refine WL.gyes rfl rfl rfl rfl ?_|refine WL.opno rfl rfl rfl rfl rfl rfl rfl ?_|refine WL.neg rfl rfl z15i ?_|refine WL.len rfl rfl rfl ?_|refine W.condT rfl ?_|refine W.condF rfl ?_)
  (first|refine (?_:W _ _ _ _ _)|refine (?_:WL _ _ _ _ _ _)|skip)
  try dsimp only [St.put,Nat.reduceAdd]
  exact W.ret zqr
 ·have hlp:L.length=0:=by rw [hL0];rfl
  obtain ⟨b1,b2,b3⟩:=hback hL0
  rw [b1,b2,b3] at hRel
  have hRel:Ctr Tryz.prog 39 _ (.tu [ePce p,.ls 3 [],.sc (.int .i64 0)]):=hRel
  rw [show -b=0 - b by omega] at hRel
  rw [hPe] at hS hC hCp h1 hK hRel hSm ⊢
  clear hR hRe hPe
  refine zqe Tryz.func11 Tryz.ntmps11 fun w0 F0=>?_;dsimp only [St.init,number,Nat.reduceAdd]
  repeat (first|refine WL.vl rfl (WV.nch rfl rfl) ?_|refine W.gob rfl ?_|refine WL.nil ?_|refine WL.bt rfl rfl rfl zqo ?_|refine WL.bf rfl rfl rfl zqo ?_|refine WL.nt rfl rfl rfl zqo ?_|refine WL.nf rfl rfl rfl zqo ?_|refine WL.e1 rfl ?_|refine WL.gyes rfl rfl rfl rfl ?_|refine WL.opno rfl rfl rfl rfl rfl rfl rfl ?_|refine WL.neg rfl rfl z15i ?_|refine WL.len rfl rfl rfl ?_|refine W.condT rfl ?_|refine W.condF rfl ?_)
  (first|refine (?_:W _ _ _ _ _)|refine (?_:WL _ _ _ _ _ _)|skip)
  try dsimp only [St.put,Nat.reduceAdd]
  refine WL.vl rfl (zqc Tryz.func13 hS) ?_
  repeat (first|refine WL.vl rfl (WV.nch rfl rfl) ?_|refine W.gob rfl ?_|refine WL.nil ?_|refine WL.bt rfl rfl rfl zqo ?_|refine WL.bf rfl rfl rfl zqo ?_|refine WL.nt rfl rfl rfl zqo ?_|refine WL.nf rfl rfl rfl zqo ?_|refine WL.e1 rfl ?_|refine WL.gyes rfl rfl rfl rfl ?_|refine WL.opno rfl rfl rfl rfl rfl rfl rfl ?_|refine WL.neg rfl rfl z15i ?_|refine WL.len rfl rfl rfl ?_|refine W.condT rfl ?_|refine W.condF rfl ?_)
  (first|refine (?_:W _ _ _ _ _)|refine (?_:WL _ _ _ _ _ _)|skip)
  try dsimp only [St.put,Nat.reduceAdd]
  refine WL.vl rfl (zqc Tryz.func20 hC) ?_
  repeat (first|refine WL.vl rfl (WV.nch rfl rfl) ?_|refine W.gob rfl ?_|refine WL.nil ?_|refine WL.bt rfl rfl rfl zqo ?_|refine WL.bf rfl rfl rfl zqo ?_|refine WL.nt rfl rfl rfl zqo ?_|refine WL.nf rfl rfl rfl zqo ?_|refine WL.e1 rfl ?_|refine WL.gyes rfl rfl rfl rfl ?_|refine WL.opno rfl rfl rfl rfl rfl rfl rfl ?_|refine WL.neg rfl rfl z15i ?_|refine WL.len rfl rfl rfl ?_|refine W.condT rfl ?_|refine W.condF rfl ?_)
  (first|refine (?_:W _ _ _ _ _)|refine (?_:WL _ _ _ _ _ _)|skip)
  try dsimp only [St.put,Nat.reduceAdd]
  refine WL.vl rfl (zqc Tryz.func15 hCp) ?_
  repeat (first|refine WL.vl rfl (WV.nch rfl rfl) ?_|refine W.gob rfl ?_|refine WL.nil ?_|refine WL.bt rfl rfl rfl zqo ?_|refine WL.bf rfl rfl rfl zqo ?_|refine WL.nt rfl rfl rfl zqo ?_|refine WL.nf rfl rfl rfl zqo ?_|refine WL.e1 rfl ?_|refine WL.gyes rfl rfl rfl rfl ?_|refine WL.opno rfl rfl rfl rfl rfl rfl rfl ?_|refine WL.neg rfl rfl z15i ?_|refine WL.len rfl rfl rfl ?_|refine W.condT rfl ?_|refine W.condF rfl ?_)
  (first|refine (?_:W _ _ _ _ _)|refine (?_:WL _ _ _ _ _ _)|skip)
  try dsimp only [St.put,Nat.reduceAdd]
  refine WL.vl rfl (zqc Tryz.func39 h1) ?_
  repeat (first|refine WL.vl rfl (WV.nch rfl rfl) ?_|refine W.gob rfl ?_|refine WL.nil ?_|refine WL.bt rfl rfl rfl zqo ?_|refine WL.bf rfl rfl rfl zqo ?_|refine WL.nt rfl rfl rfl zqo ?_|refine WL.nf rfl rfl rfl zqo ?_|refine WL.e1 rfl ?_|refine WL.gyes rfl rfl rfl rfl ?_|refine WL.opno rfl rfl rfl rfl rfl rfl rfl ?_|refine WL.neg rfl rfl z15i ?_|refine WL.len rfl rfl rfl ?_|refine W.condT rfl ?_|refine W.condF rfl ?_)
  (first|refine (?_:W _ _ _ _ _)|refine (?_:WL _ _ _ _ _ _)|skip)
  try dsimp only [St.put,Nat.reduceAdd]
  refine WL.vl rfl (zqc Tryz.func20 hC2) ?_
  repeat (first|refine WL.vl rfl (WV.nch rfl rfl) ?_|refine W.gob rfl ?_|refine WL.nil ?_|refine WL.bt rfl rfl rfl zqo ?_|refine WL.bf rfl rfl rfl zqo ?_|refine WL.nt rfl rfl rfl zqo ?_|refine WL.nf rfl rfl rfl zqo ?_|refine WL.e1 rfl ?_|refine WL.gyes rfl rfl rfl rfl ?_|refine WL.opno rfl rfl rfl rfl rfl rfl rfl ?_|refine WL.neg rfl rfl z15i ?_|refine WL.len rfl rfl rfl ?_|refine W.condT rfl ?_|refine W.condF rfl ?_)
  (first|refine (?_:W _ _ _ _ _)|refine (?_:WL _ _ _ _ _ _)|skip)
  try dsimp only [St.put,Nat.reduceAdd]
  refine WL.vl rfl (zqc Tryz.func41 hK) ?_
  repeat (first|refine WL.vl rfl (WV.nch rfl rfl) ?_|refine W.gob rfl ?_|refine WL.nil ?_|refine WL.bt rfl rfl rfl zqo ?_|refine WL.bf rfl rfl rfl zqo ?_|refine WL.nt rfl rfl rfl zqo ?_|refine WL.nf rfl rfl rfl zqo ?_|refine WL.e1 rfl ?_|refine WL.gyes rfl rfl rfl rfl ?_|refine WL.opno rfl rfl rfl rfl rfl rfl rfl ?_|refine WL.neg rfl rfl z15i ?_|refine WL.len rfl rfl rfl ?_|refine W.condT rfl ?_|refine W.condF rfl ?_)
  (first|refine (?_:W _ _ _ _ _)|refine (?_:WL _ _ _ _ _ _)|skip)
  try dsimp only [St.put,Nat.reduceAdd]
  refine WL.vl rfl (zqc Tryz.func39 hRel) ?_
  repeat (first|refine WL.vl rfl (WV.nch rfl rfl) ?_|refine W.gob rfl ?_|refine WL.nil ?_|refine WL.bt rfl rfl rfl zqo ?_|refine WL.bf rfl rfl rfl zqo ?_|refine WL.nt rfl rfl rfl zqo ?_|refine WL.nf rfl rfl rfl zqo ?_|refine WL.e1 rfl ?_|refine WL.gyes rfl rfl rfl rfl ?_|refine WL.opno rfl rfl rfl rfl rfl rfl rfl ?_|refine WL.neg rfl rfl z15i ?_|refine WL.len rfl rfl rfl ?_|refine W.condT rfl ?_|refine W.condF rfl ?_)
  (first|refine (?_:W _ _ _ _ _)|refine (?_:WL _ _ _ _ _ _)|skip)
  try dsimp only [St.put,Nat.reduceAdd]
  refine WL.vl rfl (zqc Tryz.func42 hSm) ?_
  repeat (first|refine WL.vl rfl (WV.nch rfl rfl) ?_|refine W.gob rfl ?_|refine WL.nil ?_|refine WL.bt rfl rfl rfl zqo ?_|refine WL.bf rfl rfl rfl zqo ?_|refine WL.nt rfl rfl rfl zqo ?_|refine WL.nf rfl rfl rfl zqo ?_|refine WL.e1 rfl ?_|refine WL.gyes rfl rfl rfl rfl ?_|refine WL.opno rfl rfl rfl rfl rfl rfl rfl ?_|refine WL.neg rfl rfl z15i ?_|refine WL.len rfl rfl rfl ?_|refine W.condT rfl ?_|refine W.condF rfl ?_)
  (first|refine (?_:W _ _ _ _ _)|refine (?_:WL _ _ _ _ _ _)|skip)
  try dsimp only [St.put,Nat.reduceAdd]
  refine WL.vl rfl (zqc Tryz.func14 works04_FS) ?_
  repeat (first|refine WL.vl rfl (WV.nch rfl rfl) ?_|refine W.gob rfl ?_|refine WL.nil ?_|refine WL.bt rfl rfl rfl zqo ?_|refine WL.bf rfl rfl rfl zqo ?_|refine WL.nt rfl rfl rfl zqo ?_|refine WL.nf rfl rfl rfl zqo ?_|refine WL.e1 rfl ?_|refine WL.gyes rfl rfl rfl rfl ?_|refine WL.opno rfl rfl rfl rfl rfl rfl rfl ?_|refine WL.neg rfl rfl z15i ?_|refine WL.len rfl rfl rfl ?_|refine W.condT rfl ?_|refine W.condF rfl ?_)
  (first|refine (?_:W _ _ _ _ _)|refine (?_:WL _ _ _ _ _ _)|skip)
  try dsimp only [St.put,Nat.reduceAdd]
  exact W.ret zqr
theorem retuned_walk (p:Pce) (v:Value) (c b:Int) (w:World) (h:RP (fun q=>w.cell? q) (ePce p) v):Calls Tryz.prog 11 #[v,.int .i64 c,.int .i64 b] w (Ret (.bool true) w):=by
 refine (retuned_FS p c b w (fun q=>w.cell? q) [v,.int .i64 c,.int .i64 b] (fun _ _ h=>h) ⟨rfl,fun i av u a b=>?_⟩).mono fun e w' ⟨u,F',he,hb,_,_,_,hr⟩=>⟨?_,hb⟩
 ·match i with
  | 0=>cases a;cases b;exact h
  | 1=>cases a;cases b;exact .sc _
  | 2=>cases a;cases b;exact .sc _
  | i+3=>simp at a
 ·rw [he,hr.sc_eq]
end
end Go.Proofs.YtaeelcfjkhfpkaaGreat
