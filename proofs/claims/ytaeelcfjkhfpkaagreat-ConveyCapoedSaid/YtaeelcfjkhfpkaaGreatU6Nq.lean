/- An instrument that is copied by being moved by nothing; a piece whose frets are moved (the program). (RWN.) -/
import Derived.Test.YtaeelcfjkhfpkaaGreatFDubNq
import Derived.Test.YtaeelcfjkhfpkaaGreatPSmNq
import Derived.Test.YtaeelcfjkhfpkaaGreatYHNq
set_option maxHeartbeats 8000000
set_option maxRecDepth 100000
set_option linter.unusedVariables false
set_option linter.unusedSimpArgs false
namespace Go.Proofs.YtaeelcfjkhfpkaaGreat
section
open Go.RowKit
theorem z42i {z:Int} (h:I64 z:=by unfold I64;omega):I64 z:=h
section
variable {P:Program} {C:Cx} {σ σ':St} {G G':Gh} {a:Act} {w w':World} {o:Oper} {d:Tmp}
theorem WO.appendW {T e n by_ k m:Nat} {z:Value} {i:TypeInfo} {x y:Operand} {rows rows2 rows':List (List AV)} {av2:AV} (ho:o.op=.call { callee:=.builtin .append,args:=#[x,y],argTypes:=#[T,T] }) (hT:P.underlying T=some (.slice e))
  (hi:P.info? e=some i) (hz:i.zero=some z) (hn:i.size=n) (hby:i.bytes=by_) (hzs:z.cells.size=n) (h0:Nat.blt 0 n=true) (hds:o.dst=some d) (hd:Nat.blt d C.N=true)
  (hx:σ.ev x=some (.sl k)) (hk:look k σ.M=some (.rwn e n rows)) (hy:σ.ev y=some av2) (hs:σ.src n av2=some rows2) (hm:σ.nk=m) (hb1:rows.length+rows2.length≤1000000000) (hb2:Nat.ble by_ 100000=true) (hrr:rows++rows2=rows') :
  WO P C o σ (((σ.drop k).new (.rwn e n rows')).put d (.sl m)):=by
 intro G a w ok N Q' hN
 obtain ⟨A,c,l,ey,hl,hrd,hll,hl1,hrl2,hrel2⟩:=ok.src_ hs (ok.evr hy).2
 obtain ⟨hn',hg,hR⟩:=(ok.ob k _ hk).2.2
 obtain ⟨v',w',hrun,q2,q3,hone,hR'⟩:=RowIs.app (P:=P) (ty:=o.type) (c:=c) (Y:=fun w ψ av u=>OW G.F w av u ψ) (φ2:=fun _=>False) (Ψ:=fun _ _ _=>False) hR hT hi hz hn hby hzs (of_blt h0) hrd hl hll hl1 hrl2 (fun i r r' a b=>(hrel2 i r r' a b).1) (fun _ _ _ h=>h) (fun _ _ _ _ _ h=>h.elim) (fun _ _ h=>h)
  (fun x hx=>hx.elim (fun h=>(ok.my k _ x hk h).2) False.elim) (fun i r r' j av u a b c d=>.pu _ _ _ ((hrel2 i r r' a b).2 j av u c d)) (fun _ _ _ _ hw h=>h.keep (fun _ _ h=>h) hw) hb1 (Nat.le_of_ble_eq_true hb2)
 rw [← hl] at ey
 have ok':=ok.joined (gone:=[]) (n:=n) (v':=v') (φ2:=fun _=>False) (ob':=.rwn e n rows') (okd:=ok.drop_ k) (fun i o h=>⟨(drop_look h).1,(drop_look h).2,by simp⟩) rfl hk hR.fp (fun x h=>h.elim) q2 q3 hR'.lt
  ⟨with_n,(fun g hg=>by rw [with_h] at hg;rw [with_b,hg];rfl),by rw [with_h,with_f,← hrr];exact hR'⟩ trivial
 refine run_appendO ho (ok.evr hx).2.sl_of.1 ey hrun ?_
 rw [hds]
 subst hm
 exact hN _ _ _ (ok'.set (d:=some d) (av:=.sl σ.nk) (v:=v') (by have:=R.sl (G:=G.with σ.nk (v'.ownBlock.getD 0) n v' (fun x=>v'.ownBlock=some x∨G.fp k x∨False)) σ.nk (by rw [with_h];exact hone);rw [with_h] at this;exact this) (.sl _ (Nat.lt_succ_self _)) fun x hx=>by cases hx;exact of_blt hd)
end
end
section
open Go.RowKit
section
variable {B:World→View→Prop} {gl:Nat} {P:Program} {C:Cx} {σ:St} {o:Oper} {d:Tmp} {av:AV} {ops:Array Oper} {rest l:List Oper} {Q:Exit→St→Prop} {mem:List Bool} {Mc McB:List (Nat×AO)} {e0 nk0 k:Nat}
theorem DTK.al {T:TypeId} {z:Value} {l:List AV} (hd:wrB mem C.N k o=some d) (ho:o.op=.alloc T) (hz:(P.info? T).bind (·.zero)=some z) (hl:z.cells.toList.map .sc=l) (hs:msSub Mc ((σ.nk,.box T l)::σ.M)) (hsB:Nat.blt k e0=true→msSub McB ((σ.nk,.box T l)::σ.M))
  (r:DTK P C ops mem Mc McB e0 nk0 (k+1) rest ⟨(d,.pt σ.nk 0 0)::σ.t,(σ.nk,.box T l)::σ.M,σ.nk+1⟩ Q):DTK P C ops mem Mc McB e0 nk0 k (o::rest) σ Q:=by
 obtain ⟨a,b,c,e⟩:=wrB_of hd
 have he:ent1 o.dst true (.pt σ.nk 0 0)=[(d,.pt σ.nk 0 0)]:=by rw [b];rfl
 refine DTK.wr (.pt σ.nk 0 0) a (Nat.ble_eq_true_of_le (Nat.le_succ _)) hs hsB ⟨c,fun t _=>?_⟩ (by rw [he];exact r)
 rw [he]
 exact WO.alloc (σ:=⟨t,σ.M,σ.nk⟩) ho hz b e hl rfl
end
end
section
open Go.RowKit
theorem capC_ls (cs:List (Int×Int×Bool))(f:Int):CgLs (capC cs f):=by
 refine⟨capC_crs,fun x y h=>?_⟩
 obtain⟨_,rfl⟩:=capC_mv h
 show []=(if x.2.2.1=x.2.2.1 then []else [2])++(if x.2.2.2.1=x.2.2.2.1 then []else [3])
 rw [if_pos rfl,if_pos rfl];rfl
theorem capC_ml (cs:List (Int×Int×Bool))(f:Int)(y:Stp):((capC cs f).ml y).length≤2:=Nat.zero_le _
end
section
open Go.RowKit
def mpK {α:Type} (f:α→α)(k:Nat)(l:List α):List α:=(l.take k).map f++l.drop k
theorem mpK_0 {α:Type} (f:α→α)(l:List α):mpK f 0 l=l:=by unfold mpK;simp
theorem mpK_all {α:Type} (f:α→α)(l:List α):mpK f l.length l=l.map f:=by unfold mpK;simp
theorem mpK_len {α:Type} (f:α→α)(k:Nat)(l:List α):(mpK f k l).length=l.length:=by
 unfold mpK;rw [List.length_append,List.length_map,List.length_take,List.length_drop];omega
theorem mpK_get {α:Type} {f:α→α} {k:Nat} {l:List α} (h:k<l.length):(mpK f k l)[k]?=some l[k]:=by
 unfold mpK
 have hl:((l.take k).map f).length=k:=by rw [List.length_map,List.length_take];omega
 rw [List.getElem?_append_right (by omega),hl,Nat.sub_self,List.getElem?_drop,Nat.add_zero,List.getElem?_eq_getElem h]
theorem mpK_put {α:Type} {f:α→α} {k:Nat} {l:List α} (h:k<l.length):(mpK f k l).set k (f l[k])=mpK f (k+1) l:=by
 unfold mpK
 have hl:((l.take k).map f).length=k:=by rw [List.length_map,List.length_take];omega
 rw [List.set_append_right _ _ (by omega),hl,Nat.sub_self,List.drop_eq_getElem_cons h,List.set_cons_zero,List.take_succ_eq_append_getElem h,List.map_append,List.append_assoc];rfl
def shF (cs:List (Int×Int×Bool))(by':Int)(x:Stp):Stp:=if 0<fretsOf cs x.1 then (x.1,x.2.1+by',x.2.2)else x
def rlX (p:Pce) (cs:List (Int×Int×Bool)) (st:List Int) (f:Int):Int:=if pceE p≠0 then pceE p else if cpX cs st f≠0 then cpX cs st f else if sameI (cpCs cs st f) (cpSt cs st f) p.cs p.st=true then 0 else 11
def rlP (p:Pce)(cs:List (Int×Int×Bool))(st:List Int)(f:Int):Pce:=if rlX p cs st f=0 then⟨cs,st,p.evs.map (gmE (shF cs f))⟩else noP
end
section
open Go.RowKit
theorem gm_id {g:Stp→Stp} {evs:List Ev} (h:∀ e∈evs,∀ x∈e.stops,g x=x):evs.map (gmE g)=evs:=by
 refine (List.map_congr_left fun e he=>?_).trans (List.map_id _)
 unfold gmE
 have:e.stops.map g=e.stops:=(List.map_congr_left fun x hx=>h e he x hx).trans (List.map_id _)
 rw [this];rfl
theorem gm_gm {g h:Stp→Stp} {evs:List Ev}:(evs.map (gmE g)).map (gmE h)=evs.map (gmE fun x=>h (g x)):=by
 rw [List.map_map]
 refine List.map_congr_left fun e _=>?_
 show gmE h (gmE g e)=_
 unfold gmE
 rw [List.map_map];rfl
theorem crsE_all {st:List Int}:∀ {cs:List (Int×Int×Bool)},(∀ k (h:k<cs.length),(0≤cs[k].2.1∧cs[k].2.1≤st.length)∧(0≤cs[k].1∧cs[k].1≤127)∧topOf st cs[k]≤127)→crsE st cs=0
 | [],_=>rfl
 | x::r,h=>by
  obtain ⟨a,b,c⟩:=h 0 (by simp)
  simp only [List.getElem_cons_zero]at a b c
  unfold crsE
  rw [if_neg (by omega),if_neg (by omega)]
  exact crsE_all fun k hk=>h (k+1) (Nat.succ_lt_succ hk)
theorem stepsBad_of:∀ {st:List Int} {last:Int},st.Pairwise (fun x y=>x<y)→(∀ x∈st,last<x∧x≤127)→stepsBad last st=false
 | [],_,_,_=>rfl
 | x::r,last,h,hb=>by
  have hx:=hb x (by simp)
  unfold stepsBad
  rw [Bool.or_eq_false_iff]
  cases h with
  | cons a b=>exact⟨decide_eq_false (by omega),stepsBad_of b fun y hy=>⟨a y hy,(hb y (by simp [hy])).2⟩⟩
theorem insE_of {cs:List (Int×Int×Bool)} {st:List Int} (h1:1≤cs.length∧cs.length≤14)(h2:st.length≤18)(h3:stepsBad 0 st=false)(h4:crsE st cs=0):insE cs st=0:=by
 unfold insE
 rw [if_neg (by omega),if_neg (by omega),if_neg (by rw [h3];simp)]
 exact h4
theorem cpX_in {cs:List (Int×Int×Bool)} {st:List Int} {f:Int} (h:cpX cs st f=0):insE cs st=0∧(0≤f∧f≤st.length)∧(f≠0→cpBad cs f=false):=by
 unfold cpX at h
 by_cases h1:insE cs st≠0
 ·rw [if_pos h1]at h;exact absurd h h1
 rw [if_neg h1]at h
 by_cases h2:f<0∨(st.length:Int)<f
 ·rw [if_pos h2]at h;cases h
 rw [if_neg h2]at h
 refine⟨Decidable.not_not.1 h1,by omega,fun h0=>?_⟩
 rw [if_neg h0]at h
 cases hb:cpBad cs f with
 | false=>rfl
 | true=>rw [hb,if_pos rfl]at h;cases h
theorem cpCs_len {cs:List (Int×Int×Bool)} {st:List Int} {f:Int} (h:cpX cs st f=0):(cpCs cs st f).length=cs.length:=by
 unfold cpCs
 rw [if_pos h]
 split
 ·rfl
 ·exact List.length_map _
theorem cpCs_at {cs:List (Int×Int×Bool)} {st:List Int} {f:Int} (h:cpX cs st f=0) {k:Nat} (hk:k<cs.length):(cpCs cs st f)[k]?=some (if f=0 then cs[k]else cp1 st f cs[k]):=by
 unfold cpCs
 rw [if_pos h]
 by_cases h0:f=0
 ·rw [if_pos h0,if_pos h0,List.getElem?_eq_getElem hk]
 ·rw [if_neg h0,if_neg h0,List.getElem?_map,List.getElem?_eq_getElem hk];rfl
theorem cp_ok1 {cs:List (Int×Int×Bool)} {f:Int} (h:cpBad cs f=false) {k:Nat} (hk:k<cs.length):cs[k].2.1=0∨f≤cs[k].2.1:=by
 unfold cpBad at h
 rw [List.any_eq_false]at h
 have:=h _ (List.getElem_mem hk)
 simp only [decide_eq_true_eq]at this
 omega
theorem cpSt_at {cs:List (Int×Int×Bool)} {st:List Int} {f:Int} (h:cpX cs st f=0)(h0:f≠0) {g:Int} (h1:1≤g)(h2:g+f≤st.length):(cpSt cs st f).getD (g-1).toNat 0=st.getD (g+f-1).toNat 0-cpS st f:=by
 obtain⟨_,hf,_⟩:=cpX_in h
 unfold cpSt
 rw [if_pos h,if_neg h0]
 have hk:(g-1).toNat<(st.drop f.toNat).length:=by rw [List.length_drop];omega
 have hk2:(g+f-1).toNat<st.length:=by omega
 rw [List.getD_eq_getElem?_getD,List.getElem?_map,List.getElem?_eq_getElem hk,List.getD_eq_getElem?_getD,List.getElem?_eq_getElem hk2]
 show (st.drop f.toNat)[(g-1).toNat]-cpS st f=st[(g+f-1).toNat]-cpS st f
 rw [List.getElem_drop]
 congr 2
 omega
theorem cpSt_len {cs:List (Int×Int×Bool)} {st:List Int} {f:Int} (h:cpX cs st f=0):((cpSt cs st f).length:Int)=st.length-f:=by
 obtain⟨_,hf,_⟩:=cpX_in h
 unfold cpSt
 rw [if_pos h]
 by_cases h0:f=0
 ·rw [if_pos h0];omega
 ·rw [if_neg h0,List.length_map,List.length_drop];omega
theorem cpS_st {st:List Int} {f:Int} (h1:1≤f)(h2:f≤st.length):∃ h:(f-1).toNat<st.length,cpS st f=st[(f-1).toNat]:=by
 obtain⟨h,_,e⟩:=stAt h1 h2
 exact⟨h,e⟩
theorem asc_le {st:List Int} (h:st.Pairwise fun x y=>x<y) {i j:Nat} (hi:i<st.length)(hj:j<st.length)(hij:i≤j):st[i]≤st[j]:=by
 rcases Nat.lt_or_ge i j with q|q
 ·exact Int.le_of_lt (List.pairwise_iff_getElem.1 h i j hi hj q)
 ·have:i=j:=by omega
  subst this;exact Int.le_refl _
theorem cap_ins {cs:List (Int×Int×Bool)} {st:List Int} {f:Int} (h:cpX cs st f=0):insE (cpCs cs st f) (cpSt cs st f)=0:=by
 obtain ⟨hI,hf,hb⟩:=cpX_in h
 obtain ⟨l1,l2,l3,l4,l5⟩:=insE_len hI
 by_cases h0:f=0
 ·have e1:cpCs cs st f=cs:=(if_pos h).trans (if_pos h0)
  have e2:cpSt cs st f=st:=(if_pos h).trans (if_pos h0)
  rw [e1,e2];exact hI
 have hb:=hb h0
 obtain ⟨ha,hba⟩:=stepsBad_asc l4
 obtain ⟨hk0,hs⟩:=cpS_st (st:=st) (f:=f) zqo hf.2
 have hs1:=hba _ (List.getElem_mem hk0)
 have hlen:=cpSt_len h
 refine insE_of (by rw [cpCs_len h];exact ⟨l1,l2⟩) (by omega) ?_ ?_
 ·have e2:cpSt cs st f=(st.drop f.toNat).map fun x=>x - cpS st f:=(if_pos h).trans (if_neg h0)
  rw [e2]
  refine stepsBad_of ?_ fun x hx=>?_
  ·rw [List.pairwise_map]
   exact (ha.sublist (List.drop_sublist _ _)).imp fun h=>by omega
  ·obtain ⟨y,hy,rfl⟩:=List.mem_map.1 hx
   obtain ⟨j,hj,rfl⟩:=List.getElem_of_mem hy
   rw [List.length_drop] at hj
   rw [List.getElem_drop]
   have h1:st[(f - 1).toNat] < st[f.toNat+j]:=List.pairwise_iff_getElem.1 ha _ _ hk0 (by omega) (by omega)
   have h2:=hba st[f.toNat+j] (List.getElem_mem _)
   rw [hs];omega
 ·refine crsE_all fun k hk=>?_
  have hk2:k < cs.length:=by rw [cpCs_len h] at hk;exact hk
  have e:=cpCs_at h hk2
  rw [List.getElem?_eq_getElem hk,if_neg h0] at e
  rw [Option.some.inj e]
  obtain ⟨c1,c2,c3⟩:=crsE_each l5 k hk2
  have hbk:=cp_ok1 hb hk2
  obtain ⟨x,hx⟩:∃ z,cs[k]=z:=⟨_,rfl⟩
  rw [hx] at c1 c2 c3 hbk ⊢
  unfold cp1
  by_cases hz:x.2.1=0
  ·rw [if_pos hz]
   unfold topOf at c3 ⊢
   rw [if_neg (by omega)] at c3 ⊢
   exact ⟨by omega,c2,c3⟩
  ·rw [if_neg hz]
   have hfx:f≤x.2.1:=by omega
   unfold topOf at c3 ⊢
   rw [if_pos (by omega)] at c3
   obtain ⟨ht,_,e3⟩:=stAt (st:=st) (f:=x.2.1) zqo zqo
   rw [e3] at c3
   have hle:=asc_le ha hk0 ht zqo
   dsimp only
   have hoct:(0:Int)≤if x.2.2=true then 12 else 0:=by split<;>omega
   refine ⟨by omega,by rw [hs];omega,?_⟩
   by_cases hq:0 < x.2.1 - f
   ·rw [if_pos hq]
    have e4:=cpSt_at h h0 (g:=x.2.1 - f) zqo zqo
    have e5:(cpSt cs st f).getD ((x.2.1 - f).toNat - 1) 0=(cpSt cs st f).getD (x.2.1 - f - 1).toNat 0:=by congr 1;omega
    rw [e5,e4,show x.2.1 - f+f - 1=x.2.1 - 1 by omega]
    obtain ⟨_,e6,_⟩:=stAt (st:=st) (f:=x.2.1) zqo zqo
    rw [e6];omega
   ·rw [if_neg hq,hs];omega
end
section
open Go.RowKit
theorem capE_0 {p:Pce} {f:Int} (h:capE p f=0):pceE p=0∧cpX p.cs p.st f=0:=by
 unfold capE at h
 by_cases h1:pceE p≠0
 ·rw [if_pos h1]at h;exact absurd h h1
 ·rw [if_neg h1]at h;exact⟨Decidable.not_not.1 h1,h⟩
theorem crs_getD {cs:List (Int×Int×Bool)} {d:Int} (hd:1≤d∧d≤cs.length):∃ h:d.toNat-1<cs.length,cs.getD (d.toNat-1) (0,0,false)=cs[d.toNat-1]:=by
 have hk:d.toNat-1<cs.length:=by omega
 exact ⟨hk,by rw [List.getD_eq_getElem?_getD,List.getElem?_eq_getElem hk];rfl⟩
theorem cpCs_getD {cs:List (Int×Int×Bool)} {st:List Int} {f:Int} (h:cpX cs st f=0) {d:Int} (hd:1≤d∧d≤cs.length):(cpCs cs st f).getD (d.toNat-1) (0,0,false)=if f=0 then cs.getD (d.toNat-1) (0,0,false)else cp1 st f (cs.getD (d.toNat-1) (0,0,false)):=by
 obtain ⟨hk,e⟩:=crs_getD hd
 rw [e,List.getD_eq_getElem?_getD,cpCs_at h hk];rfl
theorem cap_frets {cs:List (Int×Int×Bool)} {st:List Int} {f:Int} (h:cpX cs st f=0) {d:Int} (hd:1≤d∧d≤cs.length):fretsOf (cpCs cs st f) d=if 0<fretsOf cs d then fretsOf cs d-f else fretsOf cs d:=by
 obtain⟨hI,_,_⟩:=cpX_in h
 obtain⟨_,_,_,_,l5⟩:=insE_len hI
 obtain⟨hk,e⟩:=crs_getD hd
 have c1:=(crsE_each l5 _ hk).1
 unfold fretsOf
 rw [cpCs_getD h hd,e]
 by_cases h0:f=0
 ·rw [if_pos h0]
  split<;>omega
 ·rw [if_neg h0]
  unfold cp1
  by_cases hz:cs[d.toNat-1].2.1=0
  ·rw [if_pos hz,if_neg (by omega)]
  ·rw [if_neg hz,if_pos (by omega)]
theorem cap_pit {cs:List (Int×Int×Bool)} {st:List Int} {f:Int} (h:cpX cs st f=0) {d g:Int} (hd:1≤d∧d≤cs.length) (hg:0≤g∧g≤fretsOf cs d) (hg2:0<fretsOf cs d→f≤g):pitN (cpCs cs st f) (cpSt cs st f) d (if 0<fretsOf cs d then g-f else g)=pitN cs st d g:=by
 obtain ⟨hI,hf,hb⟩:=cpX_in h
 obtain ⟨_,_,_,_,l5⟩:=insE_len hI
 obtain ⟨hk,e⟩:=crs_getD hd
 have c1:=(crsE_each l5 _ hk).1
 unfold pitN
 rw [show (d-1).toNat=d.toNat-1 by omega,cpCs_getD h hd,e]
 have ef:fretsOf cs d=cs[d.toNat-1].2.1:=by unfold fretsOf;rw [e]
 rw [ef] at hg hg2 ⊢
 by_cases h0:f=0
 ·have e2:cpSt cs st f=st:=(if_pos h).trans (if_pos h0)
  rw [if_pos h0,e2,show (if 0<cs[d.toNat-1].2.1 then g-f else g)=g by split<;>omega]
 ·rw [if_neg h0]
  unfold cp1
  by_cases hz:cs[d.toNat-1].2.1=0
  ·rw [if_pos hz,if_neg (by omega),if_neg (by omega)]
  ·rw [if_neg hz,if_pos (show 0<cs[d.toNat-1].2.1 by omega)]
   have hfg:=hg2 zqo
   obtain ⟨_,hs⟩:=cpS_st (st:=st) (f:=f) zqo hf.2
   dsimp only
   rw [if_pos (show 0<g by omega)]
   by_cases hq:0<g-f
   ·have e4:=cpSt_at h h0 (g:=g-f) zqo zqo
    rw [if_pos hq,e4,show g-f+f-1=g-1 by omega];omega
   ·rw [if_neg hq]
    have:g=f:=by omega
    subst this
    obtain ⟨_,e6,_⟩:=stAt (st:=st) (f:=g) zqo hf.2
    rw [e6,hs];omega
theorem capP_eq {p:Pce} {f:Int} (h:capE p f=0):capP p f=⟨cpCs p.cs p.st f,cpSt p.cs p.st f,fnL (ftH (capN p f)) (capN p f)⟩:=if_pos h
theorem cap_okC {p:Pce} {f:Int} (h:capE p f=0):CgOk (capC p.cs f) p (cpCs p.cs p.st f):=by
 obtain ⟨h0,hx⟩:=capE_0 h
 refine cg_ok h0 (fun x y hm=>?_) (cpCs_len hx) (fun _ _=>rfl) (fun _=>rfl) fun k hk x hxs y hm=>?_
 ·obtain ⟨_,rfl⟩:=capC_mv hm;exact ⟨rfl,rfl⟩
 ·have hS:=(evOk_of h0 hk).stops x hxs
  obtain ⟨hn,rfl⟩:=capC_mv hm
  show 0≤capF p.cs f x∧capF p.cs f x≤fretsOf (cpCs p.cs p.st f) x.1
  rw [cap_frets hx hS.crs]
  have hfr:=hS.fret
  refine ⟨hn,?_⟩
  unfold capF
  split<;>omega
theorem cap_valid {p:Pce} {f:Int} (h:capE p f=0):pceE (capP p f)=0:=by
 obtain ⟨h0,hx⟩:=capE_0 h
 rw [capP_eq h]
 exact cv_ok h0 (cap_ins hx) (cap_okC h) fun i y hy=>ftH_bd hy
theorem cap_pitch {p:Pce} {f:Int} (h:capE p f=0) {k:Nat} (hk:k<p.evs.length) {x y:Stp} (hxs:x∈p.evs[k].stops) (hm:(capC p.cs f).mv x=some y):pitN (cpCs p.cs p.st f) (cpSt p.cs p.st f) y.1 y.2.1=pitN p.cs p.st x.1 x.2.1:=by
 obtain ⟨h0,hx⟩:=capE_0 h
 have hS:=(evOk_of h0 hk).stops x hxs
 obtain ⟨hn,rfl⟩:=capC_mv hm
 have hn2:0≤if 0<fretsOf p.cs x.1 then x.2.1-f else x.2.1:=hn
 exact cap_pit hx hS.crs hS.fret fun hp=>by rw [if_pos hp] at hn2;omega
theorem cap_back {p:Pce} {f:Int} (h:capE p f=0)(hl:capL p f=[]):rlX (capP p f) p.cs p.st f=0∧rlP (capP p f) p.cs p.st f=p:=by
 obtain⟨h0,hx⟩:=capE_0 h
 have hv:=cap_valid h
 rw [show capL p f=_ from if_pos h] at hl
 have hE:=ls_nil _ (Nat.le_refl _) hl
 have hev:(capP p f).evs=p.evs.map (gmE fun x=>(x.1,capF p.cs f x,x.2.2)):=by
  rw [capP_eq h]
  refine fn_all (fun _ _=>rfl) fun k hk x hxs=>?_
  obtain⟨y,hm,hh⟩:=lsE_nil (hE k hk hk) x hxs
  obtain⟨_,rfl⟩:=capC_mv hm
  exact⟨hm,hh⟩
 have hcs:(capP p f).cs=cpCs p.cs p.st f:=by rw [capP_eq h]
 have hst:(capP p f).st=cpSt p.cs p.st f:=by rw [capP_eq h]
 have hX:rlX (capP p f) p.cs p.st f=0:=by
  unfold rlX
  rw [if_neg (by rw [hv];simp),if_neg (by rw [hx];simp),hcs,hst,if_pos (by unfold sameI;simp)]
 refine⟨hX,?_⟩
 rw [show rlP (capP p f) p.cs p.st f=_ from if_pos hX,hev,gm_gm]
 have:p.evs.map (gmE fun x=>shF p.cs f (x.1,capF p.cs f x,x.2.2))=p.evs:=gm_id fun e he x hxs=>by
  unfold shF
  by_cases hp:0<fretsOf p.cs x.1
  ·rw [if_pos hp,show capF p.cs f x=x.2.1-f from if_pos hp]
   show (x.1,x.2.1-f+f,x.2.2)=x
   rw [show x.2.1-f+f=x.2.1 by omega]
  ·rw [if_neg hp,show capF p.cs f x=x.2.1 from if_neg hp]
 rw [this]
end
section
open Go.RowKit
section
variable {P:Program} {C:Cx} {σ:St} {o:Oper} {d:Tmp} {av:AV} {ops:Array Oper} {rest:List Oper} {Q:Exit→St→Prop} {mem:List Bool} {Mc McB:List (Nat×AO)} {e0 nk0 k:Nat}
def appVW (P:Program) (σ:St):Op→Option AppD
 | .call { callee:=.builtin .append,args:=⟨[x,y]⟩,argTypes:=⟨[T,T']⟩ } =>
  match P.underlying T,σ.ev x,σ.ev y with
  | some (.slice e),some (.sl k),some av2 =>
   match P.info? e,look k σ.M with
   | some i,some (.rwn e' n rows) =>
    match i.zero,σ.src n av2 with
    | some z,some rows2=>bif Nat.beq T T' && Nat.beq e e' && Nat.beq i.size n && Nat.beq z.cells.size n && Nat.blt 0 n && Nat.ble i.bytes 100000 then some ⟨e,n,k,rows,rows2⟩else none
    | _,_=>none
   | _,_=>none
  | _,_,_=>none
 | _=>none
theorem DoesM.appendW {T e n by_ k m:Nat} {z:Value} {i:TypeInfo} {x y:Operand} {rows rows2 rows':List (List AV)} {av2:AV} {M':List (Nat×AO)} {nk':Nat} (hg:o.guard=none) (ho:o.op=.call { callee:=.builtin .append,args:=#[x,y],argTypes:=#[T,T] }) (hT:P.underlying T=some (.slice e))
  (hi:P.info? e=some i) (hz:i.zero=some z) (hn:i.size=n) (hby:i.bytes=by_) (hzs:z.cells.size=n) (h0:Nat.blt 0 n=true) (hds:o.dst=some d) (hd:Nat.blt d C.N=true)
  (hx:σ.ev x=some (.sl k)) (hk:look k σ.M=some (.rwn e n rows)) (hy:σ.ev y=some av2) (hs:σ.src n av2=some rows2) (hm:σ.nk=m) (hb1:rows.length+rows2.length≤1000000000) (hb2:Nat.ble by_ 100000=true) (hrr:rows++rows2=rows') (hM:(m,.rwn e n rows')::rem k σ.M=M') (hnk:m+1=nk') :
  DoesM P C ops o σ d (.sl m) M' nk':=by
 subst hM hnk
 refine ⟨hg,fun t H=>?_⟩
 have hmem:∀ q∈[x,y],q∈o.op.operands.toList:=fun q hq=>by rw [ho];simp [Op.operands,Call.operands] at hq ⊢;exact hq
 have:=WO.appendW (P:=P) (C:=C) (σ:=⟨t,σ.M,σ.nk⟩) ho hT hi hz hn hby hzs h0 hds hd ((ev_agree H (hmem x (by simp))).trans hx) hk ((ev_agree H (hmem y (by simp))).trans hy) ((src_same n av2).trans hs) hm hb1 hb2 hrr
 subst hm
 exact this
theorem DTK.apW {x:AppD} (hd:wrB mem C.N k o=some d) (h:appVW P σ o.op=some x) (hl:x.a.length+x.b.length≤1000000000) (hs:msSub Mc ((σ.nk,.rwn x.T x.n (x.a++x.b))::rem x.k σ.M)) (hsB:Nat.blt k e0=true→msSub McB ((σ.nk,.rwn x.T x.n (x.a++x.b))::rem x.k σ.M)) (r:DTK P C ops mem Mc McB e0 nk0 (k+1) rest ⟨(d,.sl σ.nk)::σ.t,(σ.nk,.rwn x.T x.n (x.a++x.b))::rem x.k σ.M,σ.nk+1⟩ Q):DTK P C ops mem Mc McB e0 nk0 k (o::rest) σ Q:=by
 obtain ⟨a,b,c,e⟩:=wrB_of hd
 unfold appVW at h
 split at h
 ·rename_i x y T T' ho
  split at h
  ·rename_i el q av2 hT hx hy
   split at h
   ·rename_i i e' n rows hi hk
    split at h
    ·rename_i z rows2 hz hs2
     cases hb:Nat.beq T T' && Nat.beq el e' && Nat.beq i.size n && Nat.beq z.cells.size n && Nat.blt 0 n && Nat.ble i.bytes 100000 with
     | false=>rw [hb] at h;cases h
     | true =>
      rw [hb] at h
      simp only [Bool.and_eq_true] at hb
      cases h
      obtain ⟨⟨⟨⟨⟨b1,b2⟩,b3⟩,b4⟩,b5⟩,b6⟩:=hb
      obtain rfl:=Nat.eq_of_beq_eq_true b1
      obtain rfl:=Nat.eq_of_beq_eq_true b2
      exact DTK.of_m a b (Nat.ble_eq_true_of_le (Nat.le_succ _)) hs hsB (DoesM.appendW c ho hT hi hz (Nat.eq_of_beq_eq_true b3) rfl (Nat.eq_of_beq_eq_true b4) b5 b e hx hk hy hs2 rfl hl b6 rfl rfl rfl) r
    ·cases h
   ·cases h
  ·cases h
 ·cases h
end
end
section
open Go.RowKit
theorem uClnStp (l:List Stp) (h:l.length≤100000):Cto truB 0 Tryz.prog 133 [.ls 5 (l.map eStp)] [] 0 (.sl 0) [(0,.row 48 5 (l.map eStp))] 1:=by
 refine Cto.intro truS Tryz.func133 rfl Tryz.ntmps133 (Nat.le_of_ble_eq_true rfl) rfl fun w0 F0 fp pg hB=>?_
 dsimp only [number,Nat.reduceAdd]
 repeat (first|refine W.go rfl ?_|refine WL.nil ?_|refine WL.ev rfl ?_|refine WL.app rfl rfl rfl zqs ?_|refine W.condT rfl ?_|refine W.condF rfl ?_)
 (first|refine (?_:W _ _ _ _ _)|refine (?_:WL _ _ _ _ _ _)|skip)
 try dsimp only [St.put,Nat.reduceAdd]
 refine WL.nlq rfl rfl fun b hb=>?_
 cases b with
 | true =>
  have e:=hb rfl
  repeat (first|refine W.go rfl ?_|refine WL.nil ?_|refine WL.ev rfl ?_|refine WL.app rfl rfl rfl zqs ?_|refine W.condT rfl ?_|refine W.condF rfl ?_)
  (first|refine (?_:W _ _ _ _ _)|refine (?_:WL _ _ _ _ _ _)|skip)
  try dsimp only [St.put,Nat.reduceAdd]
  refine W.tr (Tr.nil (t:=2) 48 5 rfl rfl) ?_
  rw [e]
  refine W.tr (σ':=⟨[(2,.sl 0)],[(0,.row 48 5 [])],1⟩) (zqt id) ?_
  exact W.ret (finM rfl rfl rfl rfl rfl)
 | false =>
  repeat (first|refine W.go rfl ?_|refine WL.nil ?_|refine WL.ev rfl ?_|refine WL.app rfl rfl rfl zqs ?_|refine W.condT rfl ?_|refine W.condF rfl ?_)
  (first|refine (?_:W _ _ _ _ _)|refine (?_:WL _ _ _ _ _ _)|skip)
  try dsimp only [St.put,Nat.reduceAdd]
  refine W.tr (σ':=⟨[(2,.sl 0)],[(0,.row 48 5 (l.map eStp))],1⟩) (zqu (fun q=>bif Nat.beq q 0 then 1 else q) (by repeat (first|exact trivial|refine ⟨⟨?_,?_,?_⟩,?_⟩|rfl|exact congrArg (fun q=>some (AO.row _ _ q)) (by first|rfl|(simp;done)|(simp [eInt];done)|(simp [eLk];done)))) rfl) ?_
  exact W.ret (finM rfl rfl rfl rfl rfl)
theorem uCopied (e:Ev) (h:e.stops.length≤100000):Cto truB 0 Tryz.prog 103 [.ag (eEv e)] [] 0 (.ag [.sc (.bool e.bar),.sc (.int .i64 e.val),.sc (.bool e.dot),.sc (.bool e.three),.sc (.bool e.tie),.sl 0])
  [(0,.row 48 5 (e.stops.map eStp)),(1,.box 45 [.sc (.bool e.bar),.sc (.int .i64 e.val),.sc (.bool e.dot),.sc (.bool e.three),.sc (.bool e.tie),.sl 0])] 2:=by
 have hc:=uClnStp e.stops h
 show Cto truB 0 Tryz.prog 103 [.ag [.sc (.bool e.bar),.sc (.int .i64 e.val),.sc (.bool e.dot),.sc (.bool e.three),.sc (.bool e.tie),.ls 5 (e.stops.map eStp)]] [] 0 _ _ 2
 refine Cto.intro truS Tryz.func103 rfl Tryz.ntmps103 (Nat.le_of_ble_eq_true rfl) rfl fun w0 F0 fp pg hB=>?_
 dsimp only [number,Nat.reduceAdd]
 repeat (first|refine W.go rfl ?_|refine WL.ev rfl ?_)
 (first|refine (?_:W _ _ _ _ _)|refine (?_:WL _ _ _ _ _ _)|skip)
 try dsimp only [St.put,Nat.reduceAdd]
 refine WL.cto (truH _) [] rfl rfl (callF Tryz.func133 rfl rfl) hc rfl rfl rfl trivial rfl rfl rfl rfl ?_
 repeat (first|refine W.go rfl ?_|refine WL.ev rfl ?_)
 (first|refine (?_:W _ _ _ _ _)|refine (?_:WL _ _ _ _ _ _)|skip)
 try dsimp only [St.put,Nat.reduceAdd]
 refine W.tr (σ':=⟨[(2,.pt 1 0 0)],[(0,.row 48 5 (e.stops.map eStp)),(1,.box 45 [.sc (.bool e.bar),.sc (.int .i64 e.val),.sc (.bool e.dot),.sc (.bool e.three),.sc (.bool e.tie),.sl 0])],2⟩) (zqu (fun q=>bif Nat.beq q 0 then 2 else q) (by repeat (first|exact trivial|refine ⟨⟨?_,?_,?_⟩,?_⟩|rfl|exact congrArg (fun q=>some (AO.row _ _ q)) (by first|rfl|(simp;done)|(simp [eInt];done)|(simp [eLk];done)))) rfl) ?_
 exact W.ret (finM rfl rfl rfl rfl rfl)
theorem uMapC (evs:List Ev) (hn:evs.length≤1000) (h20:∀ e∈evs,e.stops.length≤20) :
  Cto truB 0 Tryz.prog 102 [.ls 6 (evs.map eEv),.sc (.func (.func 103) #[] #[])] [] 0 (.sl 0) [(0,.rwn 45 6 (evs.map eEvO))] 1:=by
 refine Cto.intro truS Tryz.func102 rfl Tryz.ntmps102 (Nat.le_of_ble_eq_true rfl) rfl fun w0 F0 fp pg hB=>?_
 dsimp only [number,Nat.reduceAdd]
 repeat (first|refine W.go rfl ?_|refine WL.nil ?_|refine WL.ev rfl ?_|refine WL.ar rfl rfl z42i ?_|refine WL.len rfl rfl zql ?_|refine WL.idx rfl rfl zqo zqm ?_|refine W.condT rfl ?_|refine W.condF rfl ?_)
 (first|refine (?_:W _ _ _ _ _)|refine (?_:WL _ _ _ _ _ _)|skip)
 try dsimp only [St.put,Nat.reduceAdd]
 refine W.tr (Tr.nil (t:=5) 45 6 rfl rfl) ?_
 dsimp only [St.put,St.new,St.upd,Nat.reduceAdd]
 refine W.tr (Tr.widen 0 rfl) ?_
 dsimp only [St.upd]
 repeat (first|refine W.go rfl ?_|refine WL.nil ?_|refine WL.ev rfl ?_|refine WL.ar rfl rfl z42i ?_|refine WL.len rfl rfl zql ?_|refine WL.idx rfl rfl zqo zqm ?_|refine W.condT rfl ?_|refine W.condF rfl ?_)
 (first|refine (?_:W _ _ _ _ _)|refine (?_:WL _ _ _ _ _ _)|skip)
 try dsimp only [St.put,Nat.reduceAdd]
 refine W.loop (fun k:Nat=>k≤evs.length) (fun k=>⟨[(1,.sc (.func (.func 103) #[] #[])),(5,.sl 0),(8,.ls 6 (evs.map eEv)),(9,.sc (.int .i64 evs.length)),(10,.sc (.int .i64 k))],[(0,.rwn 45 6 ((evs.take k).map eEvO))],1⟩) (fun k=>evs.length - k) 0 (by omega) (zqt id) fun k hk=>?_
 by_cases hlt:k < evs.length
 ·have hC:=uCopied evs[k] (by have:=h20 _ (List.getElem_mem hlt);omega)
  have hrow:(evs.take k).map eEvO++[eEvO evs[k]]=(evs.take (k+1)).map eEvO:=by rw [List.take_succ_eq_append_getElem hlt,List.map_append];rfl
  have hl:((evs.take k).map eEvO).length=k:=by rw [List.length_map,List.length_take];omega
  obtain ⟨R,hR⟩:∃ z,(evs.take k).map eEvO=z:=⟨_,rfl⟩
  rw [hR] at hrow hl ⊢
  repeat (first|refine W.gob rfl ?_|refine WL.nil ?_|refine WL.bt rfl rfl rfl zqo ?_|refine WL.bf rfl rfl rfl zqo ?_|refine WL.e1 rfl ?_|refine WL.ar rfl rfl z42i ?_|refine WL.len rfl rfl zql ?_|refine WL.idx rfl rfl zqo zqm ?_|refine W.condT rfl ?_|refine W.condF rfl ?_)
  (first|refine (?_:W _ _ _ _ _)|refine (?_:WL _ _ _ _ _ _)|skip)
  try dsimp only [St.put,Nat.reduceAdd]
  refine WL.cto (truH _) [] rfl rfl (callF Tryz.func103 rfl rfl) hC rfl rfl rfl trivial rfl rfl rfl rfl ?_
  repeat (first|refine W.go rfl ?_|refine WL.nil ?_|refine WL.ev rfl ?_|refine WL.ar rfl rfl z42i ?_|refine WL.len rfl rfl zql ?_|refine WL.idx rfl rfl zqo zqm ?_|refine W.condT rfl ?_|refine W.condF rfl ?_)
  (first|refine (?_:W _ _ _ _ _)|refine (?_:WL _ _ _ _ _ _)|skip)
  try dsimp only [St.put,Nat.reduceAdd]
  refine WL.bdO 5 rfl rfl rfl rfl ?_
  refine WL.tr (Tr.close_ 4 rfl rfl rfl rfl (by show 5 < 6;omega) rfl) ?_
  dsimp only [St.upd,St.drop,rem,cond,Nat.beq]
  refine WL.apM rfl rfl rfl rfl (by show R.length+1≤1000000000;omega) ?_
  repeat (first|refine W.go rfl ?_|refine WL.nil ?_|refine WL.ev rfl ?_|refine WL.ar rfl rfl z42i ?_|refine WL.len rfl rfl zql ?_|refine WL.idx rfl rfl zqo zqm ?_|refine W.condT rfl ?_|refine W.condF rfl ?_)
  (first|refine (?_:W _ _ _ _ _)|refine (?_:WL _ _ _ _ _ _)|skip)
  try dsimp only [St.put,Nat.reduceAdd]
  refine ⟨k+1,by omega,by omega,?_⟩
  exact (zqu (fun q=>bif Nat.beq q 0 then 5 else q) (by repeat (first|exact trivial|refine ⟨⟨?_,?_,?_⟩,?_⟩|rfl|exact congrArg (fun q=>some (AO.row _ _ q)) hrow|exact congrArg (fun q=>some (AO.rwn _ _ q)) hrow)) rfl)
 ·obtain rfl:k=evs.length:=by omega
  rw [List.take_length]
  repeat (first|refine W.gob rfl ?_|refine WL.nil ?_|refine WL.bt rfl rfl rfl zqo ?_|refine WL.bf rfl rfl rfl zqo ?_|refine WL.e1 rfl ?_|refine WL.ar rfl rfl z42i ?_|refine WL.len rfl rfl zql ?_|refine WL.idx rfl rfl zqo zqm ?_|refine W.condT rfl ?_|refine W.condF rfl ?_)
  (first|refine (?_:W _ _ _ _ _)|refine (?_:WL _ _ _ _ _ _)|skip)
  try dsimp only [St.put,Nat.reduceAdd]
  refine W.tr (σ':=⟨[(4,.sl 0)],[(0,.rwn 45 6 (evs.map eEvO))],1⟩) (zqt id) ?_
  exact W.ret (finM rfl rfl rfl rfl rfl)
theorem uAppend (p:Pce) (hO:PcOk p) (h0:pceE p=0):Cto truB 0 Tryz.prog 49 [ePce p,.ag [.ls 3 (p.cs.map eCrs),.ls 1 (p.st.map eInt),.ls 6 []]] [] 0 (.tu [.ag [.ls 3 (p.cs.map eCrs),.ls 1 (p.st.map eInt),.sl 0],.sc (.int .i64 0)])
  [(0,.rwn 45 6 (p.evs.map eEvO)),(1,.box 29 [.ls 3 (p.cs.map eCrs),.ls 1 (p.st.map eInt),.sl 0])] 2:=by
 have hC:=pCheck_FS p hO
 rw [h0] at hC
 have hE0:pceE ⟨p.cs,p.st,[]⟩=0:=by
  unfold pceE
  rw [if_neg (by simpa using (pceE_zero h0).1),if_neg (by show ¬ 400 < 0;omega)];rfl
 have hC2:=pCheck_FS ⟨p.cs,p.st,[]⟩ ⟨hO.n1,hO.n2,Nat.zero_le _,fun k hk=>by cases hk⟩
 rw [hE0] at hC2
 have hC2:Ctr Tryz.prog 45 [.ag [.ls 3 (p.cs.map eCrs),.ls 1 (p.st.map eInt),.ls 6 []]] (.sc (.int .i64 0)):=hC2
 have hC:Ctr Tryz.prog 45 [.ag [.ls 3 (p.cs.map eCrs),.ls 1 (p.st.map eInt),.ls 6 (p.evs.map eEv)]] (.sc (.int .i64 0)):=hC
 have hS:=pSameI_FS p.cs p.st p.cs p.st hO.n1 hO.n2 hO.n1 hO.n2
 rw [sameI_self] at hS
 have hS:Ctr Tryz.prog 81 [.ag [.ls 3 (p.cs.map eCrs),.ls 1 (p.st.map eInt)],.ag [.ls 3 (p.cs.map eCrs),.ls 1 (p.st.map eInt)]] (.sc (.bool true)):=hS
 have hI:=copiedIns_FS p.cs p.st hO.n1 hO.n2
 have hI:Ctr Tryz.prog 101 [.ag [.ls 3 (p.cs.map eCrs),.ls 1 (p.st.map eInt)]] (.ag [.ls 3 (p.cs.map eCrs),.ls 1 (p.st.map eInt)]):=hI
 obtain ⟨_,h400,_⟩:=pceE_zero h0
 have hM:=uMapC p.evs zqo fun e he=>by
  obtain ⟨i,hi,rfl⟩:=List.getElem_of_mem he
  exact hO.n4 i hi
 have hEl:(p.evs.map eEv).length=p.evs.length:=List.length_map _
 have hOl:(p.evs.map eEvO).length=p.evs.length:=List.length_map _
 have hnil:([]:List (List AV)).length=0:=rfl
 show Cto truB 0 Tryz.prog 49 [.ag [.ls 3 (p.cs.map eCrs),.ls 1 (p.st.map eInt),.ls 6 (p.evs.map eEv)],.ag [.ls 3 (p.cs.map eCrs),.ls 1 (p.st.map eInt),.ls 6 []]] [] 0 _ _ 2
 obtain ⟨EV,hEV⟩:∃ z,p.evs.map eEv=z:=⟨_,rfl⟩
 obtain ⟨EO,hEO⟩:∃ z,p.evs.map eEvO=z:=⟨_,rfl⟩
 rw [hEV] at hC hM hEl ⊢
 rw [hEO] at hM hOl ⊢
 refine Cto.intro truS Tryz.func49 rfl Tryz.ntmps49 (Nat.le_of_ble_eq_true rfl) rfl fun w0 F0 fp pg hB=>?_
 dsimp only [number,Nat.reduceAdd]
 repeat (first|refine W.go rfl ?_|refine WL.nil ?_|refine WL.ar rfl rfl z42i ?_|refine WL.len rfl rfl zql ?_|refine W.condF rfl ?_)
 (first|refine (?_:W _ _ _ _ _)|refine (?_:WL _ _ _ _ _ _)|skip)
 try dsimp only [St.put,Nat.reduceAdd]
 refine WL.vl rfl (zqc Tryz.func45 hC) ?_
 repeat (first|refine W.gob rfl ?_|refine WL.nil ?_|refine WL.bf rfl rfl rfl zqo ?_|refine WL.nf rfl rfl rfl zqo ?_|refine WL.e1 rfl ?_|refine WL.ar rfl rfl z42i ?_|refine WL.len rfl rfl zql ?_|refine W.condF rfl ?_)
 (first|refine (?_:W _ _ _ _ _)|refine (?_:WL _ _ _ _ _ _)|skip)
 try dsimp only [St.put,Nat.reduceAdd]
 refine WL.vl rfl (zqc Tryz.func45 hC2) ?_
 repeat (first|refine W.gob rfl ?_|refine WL.nil ?_|refine WL.bf rfl rfl rfl zqo ?_|refine WL.nf rfl rfl rfl zqo ?_|refine WL.e1 rfl ?_|refine WL.ar rfl rfl z42i ?_|refine WL.len rfl rfl zql ?_|refine W.condF rfl ?_)
 (first|refine (?_:W _ _ _ _ _)|refine (?_:WL _ _ _ _ _ _)|skip)
 try dsimp only [St.put,Nat.reduceAdd]
 refine WL.vl rfl (zqc Tryz.func81 hS) ?_
 repeat (first|refine W.gob rfl ?_|refine WL.nil ?_|refine WL.bf rfl rfl rfl zqo ?_|refine WL.nf rfl rfl rfl zqo ?_|refine WL.e1 rfl ?_|refine WL.ar rfl rfl z42i ?_|refine WL.len rfl rfl zql ?_|refine W.condF rfl ?_)
 (first|refine (?_:W _ _ _ _ _)|refine (?_:WL _ _ _ _ _ _)|skip)
 try dsimp only [St.put,Nat.reduceAdd]
 refine W.of_wa zqk ?_
 refine WA.dt [false,false,false,false,false,true,false,false,false,true,true,true,false] [0,1] [0,1] 11 zqk zqk zqk ⟨rfl,rfl,trivial⟩ ⟨rfl,rfl,trivial⟩ ?_
 refine DTK.st rfl zqk rfl ?_
 refine DTK.st rfl zqk rfl ?_
 refine DTK.v0 rfl (zqc Tryz.func101 hI) ?_
 refine DTK.st rfl zqk rfl ?_
 refine DTK.st rfl zqk rfl ?_
 refine DTK.ct (truH _) [] rfl rfl (callF Tryz.func102 rfl rfl) hM rfl rfl rfl trivial rfl rfl rfl rfl ⟨rfl,rfl,trivial⟩ (fun _=>⟨rfl,rfl,trivial⟩) ?_
 refine DTK.st rfl zqk rfl ?_
 refine DTK.st rfl zqk rfl ?_
 refine DTK.v0 rfl (zqc Tryz.func102 mapC_0) ?_
 refine DTK.apW rfl rfl (by show EO.length+0≤1000000000;omega) ⟨rfl,rfl,trivial⟩ (fun _=>⟨rfl,rfl,trivial⟩) ?_
 refine yDTK_bs rfl rfl rfl rfl rfl rfl ⟨rfl,rfl,trivial⟩ (fun _=>⟨rfl,rfl,trivial⟩) ?_
 refine DTK.sto rfl rfl rfl rfl rfl rfl rfl rfl rfl rfl rfl rfl rfl rfl ⟨rfl,rfl,trivial⟩ (fun h=>by cases h) ?_
 refine DTK.v0 rfl (stepV_of rfl rfl) ?_
 refine DTK.nil ?_
 repeat (first|refine W.go rfl ?_|refine WL.nil ?_|refine WL.ar rfl rfl z42i ?_|refine WL.len rfl rfl zql ?_|refine W.condF rfl ?_)
 (first|refine (?_:W _ _ _ _ _)|refine (?_:WL _ _ _ _ _ _)|skip)
 try dsimp only [St.put,Nat.reduceAdd]
 rw [List.append_nil]
 refine W.tr (σ':=⟨[(4,.pt 1 0 0),(5,.sc (.int .i64 0))],[(0,.rwn 45 6 EO),(1,.box 29 [.ls 3 (p.cs.map eCrs),.ls 1 (p.st.map eInt),.sl 0])],2⟩) (zqt (fun q=>bif Nat.beq q 0 then 4 else bif Nat.beq q 1 then 2 else q)) ?_
 exact W.ret (finM rfl rfl rfl rfl rfl)
end
section
open Go.RowKit
theorem uTrans0 (cs:List (Int×Int×Bool)) (st:List Int) (hI0:insE cs st=0):Ctr Tryz.prog 122 [.ag [.ls 3 (cs.map eCrs),.ls 1 (st.map eInt)],.sc (.int .i64 0)] (.tu [.ag [.ls 3 (cs.map eCrs),.ls 1 (st.map eInt)],.sc (.int .i64 0)]):=by
 have hI:Ctr Tryz.prog 93 [.ag [.ls 3 (cs.map eCrs),.ls 1 (st.map eInt)]] (.sc (.int .i64 (insE cs st))):=yInsCheck_FS cs st
 rw [hI0] at hI
 obtain ⟨l1,l2,l3,l4,l5⟩:=insE_len hI0
 have hcl:=clone_FS cs st zqo zqo
 have hcp:=yCrsE_p l5
 have hRt:Ctr Tryz.prog 123 [.ag [.ls 3 (cs.map eCrs),.ls 1 (st.map eInt)]] (.tu [.ag [.ls 3 (cs.map eCrs),.ls 1 (st.map eInt)],.sc (.int .i64 0)]):=by
  refine zqe Tryz.func123 Tryz.ntmps123 fun w0 F0=>?_;dsimp only [St.init,number,Nat.reduceAdd]
  repeat (first|refine WL.vl rfl (WV.nch rfl rfl) ?_|refine W.gob rfl ?_|refine WL.nil ?_|refine WL.bt rfl rfl rfl zqo ?_|refine WL.bf rfl rfl rfl zqo ?_|refine WL.nf rfl rfl rfl zqo ?_|refine WL.e1 rfl ?_|refine WL.gyes rfl rfl rfl rfl ?_|refine WL.ar rfl rfl z42i ?_|refine WL.len rfl rfl rfl ?_|refine WL.ixs rfl rfl zqs ?_|refine W.condT rfl ?_|refine W.condF rfl ?_)
  (first|refine (?_:W _ _ _ _ _)|refine (?_:WL _ _ _ _ _ _)|skip)
  try dsimp only [St.put,Nat.reduceAdd]
  refine WL.vl rfl (zqc Tryz.func93 hI) ?_
  repeat (first|refine WL.vl rfl (WV.nch rfl rfl) ?_|refine W.gob rfl ?_|refine WL.nil ?_|refine WL.bt rfl rfl rfl zqo ?_|refine WL.bf rfl rfl rfl zqo ?_|refine WL.nf rfl rfl rfl zqo ?_|refine WL.e1 rfl ?_|refine WL.gyes rfl rfl rfl rfl ?_|refine WL.ar rfl rfl z42i ?_|refine WL.len rfl rfl rfl ?_|refine WL.ixs rfl rfl zqs ?_|refine W.condT rfl ?_|refine W.condF rfl ?_)
  (first|refine (?_:W _ _ _ _ _)|refine (?_:WL _ _ _ _ _ _)|skip)
  try dsimp only [St.put,Nat.reduceAdd]
  exact W.ret (finN rfl rfl rfl rfl)
 have hCl:(cs.map eCrs).length=cs.length:=List.length_map _
 have hrow:∀ k (h:k < cs.length),(cs.map eCrs)[k]?=some [.sc (.int .i64 cs[k].1),.sc (.int .i64 cs[k].2.1),.sc (.bool cs[k].2.2)]:=fun k h=>by
  rw [List.getElem?_map,List.getElem?_eq_getElem h];rfl
 obtain ⟨CS,hCS⟩:∃ z,cs.map eCrs=z:=⟨_,rfl⟩
 rw [hCS] at hI hcl hRt hCl ⊢
 simp only [hCS] at hrow
 clear hCS
 refine zqe Tryz.func122 Tryz.ntmps122 fun w0 F0=>?_;dsimp only [St.init,number,Nat.reduceAdd]
 repeat (first|refine WL.vl rfl (WV.nch rfl rfl) ?_|refine W.gob rfl ?_|refine WL.nil ?_|refine WL.bt rfl rfl rfl zqo ?_|refine WL.bf rfl rfl rfl zqo ?_|refine WL.nf rfl rfl rfl zqo ?_|refine WL.e1 rfl ?_|refine WL.gyes rfl rfl rfl rfl ?_|refine WL.ar rfl rfl z42i ?_|refine WL.len rfl rfl rfl ?_|refine WL.ixs rfl rfl zqs ?_|refine W.condT rfl ?_|refine W.condF rfl ?_)
 (first|refine (?_:W _ _ _ _ _)|refine (?_:WL _ _ _ _ _ _)|skip)
 try dsimp only [St.put,Nat.reduceAdd]
 refine WL.vl rfl (zqc Tryz.func93 hI) ?_
 repeat (first|refine WL.vl rfl (WV.nch rfl rfl) ?_|refine W.gob rfl ?_|refine WL.nil ?_|refine WL.bt rfl rfl rfl zqo ?_|refine WL.bf rfl rfl rfl zqo ?_|refine WL.nf rfl rfl rfl zqo ?_|refine WL.e1 rfl ?_|refine WL.gyes rfl rfl rfl rfl ?_|refine WL.ar rfl rfl z42i ?_|refine WL.len rfl rfl rfl ?_|refine WL.ixs rfl rfl zqs ?_|refine W.condT rfl ?_|refine W.condF rfl ?_)
 (first|refine (?_:W _ _ _ _ _)|refine (?_:WL _ _ _ _ _ _)|skip)
 try dsimp only [St.put,Nat.reduceAdd]
 refine WL.cto (truH _) [] rfl rfl (callF Tryz.func117 rfl rfl) hcl rfl rfl rfl trivial rfl rfl rfl rfl ?_
 repeat (first|refine WL.vl rfl (WV.nch rfl rfl) ?_|refine W.gob rfl ?_|refine WL.nil ?_|refine WL.bt rfl rfl rfl zqo ?_|refine WL.bf rfl rfl rfl zqo ?_|refine WL.nf rfl rfl rfl zqo ?_|refine WL.e1 rfl ?_|refine WL.gyes rfl rfl rfl rfl ?_|refine WL.ar rfl rfl z42i ?_|refine WL.len rfl rfl rfl ?_|refine WL.ixs rfl rfl zqs ?_|refine W.condT rfl ?_|refine W.condF rfl ?_)
 (first|refine (?_:W _ _ _ _ _)|refine (?_:WL _ _ _ _ _ _)|skip)
 try dsimp only [St.put,Nat.reduceAdd]
 refine W.loop (fun k:Nat=>k≤cs.length) (fun k=>⟨[(1,.sc (.int .i64 0)),(4,.pt 1 0 0),(7,.pt 3 0 0),(26,.sc (.int .i64 cs.length)),(27,.sc (.int .i64 k))],[(1,.box 26 [.sc (.slice none 0 0),.sc (.slice none 0 0)]),(2,.row 70 3 CS),(3,.box 26 [.sl 2,.ls 1 (st.map eInt)])],4⟩) (fun k=>cs.length - k) 0 (by omega) (by rw [← hCl];exact (zqt (fun q=>bif Nat.beq q 3 then 4 else q))) fun k hk=>?_
 by_cases hlt:k < cs.length
 ·have hr:=hrow k hlt
  have hp:=hcp k hlt
  obtain ⟨X,hX⟩:∃ z,cs[k]=z:=⟨_,rfl⟩
  rw [hX] at hr hp
  have hset:CS.set k (putL 0 [.sc (.int .i64 (X.1+0))] [.sc (.int .i64 X.1),.sc (.int .i64 X.2.1),.sc (.bool X.2.2)])=CS:=by
   rw [show X.1+0=X.1 by omega]
   obtain ⟨hl,e⟩:=List.getElem?_eq_some_iff.1 hr
   show CS.set k [.sc (.int .i64 X.1),.sc (.int .i64 X.2.1),.sc (.bool X.2.2)]=CS
   rw [← e,List.set_getElem_self]
  repeat (first|refine WL.vl rfl (WV.nch rfl rfl) ?_|refine W.gob rfl ?_|refine WL.nil ?_|refine WL.bt rfl rfl rfl zqo ?_|refine WL.bf rfl rfl rfl zqo ?_|refine WL.nf rfl rfl rfl zqo ?_|refine WL.e1 rfl ?_|refine WL.gyes rfl rfl rfl rfl ?_|refine WL.ar rfl rfl z42i ?_|refine WL.len rfl rfl rfl ?_|refine WL.ixs rfl rfl zqs ?_|refine W.condT rfl ?_|refine W.condF rfl ?_)
  (first|refine (?_:W _ _ _ _ _)|refine (?_:WL _ _ _ _ _ _)|skip)
  try dsimp only [St.put,Nat.reduceAdd]
  refine WL.ldr rfl rfl hr rfl rfl ?_
  repeat (first|refine WL.vl rfl (WV.nch rfl rfl) ?_|refine W.gob rfl ?_|refine WL.nil ?_|refine WL.bt rfl rfl rfl zqo ?_|refine WL.bf rfl rfl rfl zqo ?_|refine WL.nf rfl rfl rfl zqo ?_|refine WL.e1 rfl ?_|refine WL.gyes rfl rfl rfl rfl ?_|refine WL.ar rfl rfl z42i ?_|refine WL.len rfl rfl rfl ?_|refine WL.ixs rfl rfl zqs ?_|refine W.condT rfl ?_|refine W.condF rfl ?_)
  (first|refine (?_:W _ _ _ _ _)|refine (?_:WL _ _ _ _ _ _)|skip)
  try dsimp only [St.put,Nat.reduceAdd]
  refine WL.sto rfl rfl rfl rfl hr (by show 0+1≤3;omega) ?_
  dsimp only [AV.cells]
  rw [Int.toNat_natCast,hset]
  repeat (first|refine WL.vl rfl (WV.nch rfl rfl) ?_|refine W.gob rfl ?_|refine WL.nil ?_|refine WL.bt rfl rfl rfl zqo ?_|refine WL.bf rfl rfl rfl zqo ?_|refine WL.nf rfl rfl rfl zqo ?_|refine WL.e1 rfl ?_|refine WL.gyes rfl rfl rfl rfl ?_|refine WL.ar rfl rfl z42i ?_|refine WL.len rfl rfl rfl ?_|refine WL.ixs rfl rfl zqs ?_|refine W.condT rfl ?_|refine W.condF rfl ?_)
  (first|refine (?_:W _ _ _ _ _)|refine (?_:WL _ _ _ _ _ _)|skip)
  try dsimp only [St.put,Nat.reduceAdd]
  exact ⟨k+1,by omega,by omega,(zqt id)⟩
 ·obtain rfl:k=cs.length:=by omega
  repeat (first|refine WL.vl rfl (WV.nch rfl rfl) ?_|refine W.gob rfl ?_|refine WL.nil ?_|refine WL.bt rfl rfl rfl zqo ?_|refine WL.bf rfl rfl rfl zqo ?_|refine WL.nf rfl rfl rfl zqo ?_|refine WL.e1 rfl ?_|refine WL.gyes rfl rfl rfl rfl ?_|refine WL.ar rfl rfl z42i ?_|refine WL.len rfl rfl rfl ?_|refine WL.ixs rfl rfl zqs ?_|refine W.condT rfl ?_|refine W.condF rfl ?_)
  (first|refine (?_:W _ _ _ _ _)|refine (?_:WL _ _ _ _ _ _)|skip)
  try dsimp only [St.put,Nat.reduceAdd]
  refine WL.tr (Tr.freeze 2 rfl) ?_
  refine WL.vl rfl (zqc Tryz.func123 hRt) ?_
  repeat (first|refine WL.vl rfl (WV.nch rfl rfl) ?_|refine W.gob rfl ?_|refine WL.nil ?_|refine WL.bt rfl rfl rfl zqo ?_|refine WL.bf rfl rfl rfl zqo ?_|refine WL.nf rfl rfl rfl zqo ?_|refine WL.e1 rfl ?_|refine WL.gyes rfl rfl rfl rfl ?_|refine WL.ar rfl rfl z42i ?_|refine WL.len rfl rfl rfl ?_|refine WL.ixs rfl rfl zqs ?_|refine W.condT rfl ?_|refine W.condF rfl ?_)
  (first|refine (?_:W _ _ _ _ _)|refine (?_:WL _ _ _ _ _ _)|skip)
  try dsimp only [St.put,Nat.reduceAdd]
  exact W.ret (finN rfl rfl rfl rfl)
end
end Go.Proofs.YtaeelcfjkhfpkaaGreat
