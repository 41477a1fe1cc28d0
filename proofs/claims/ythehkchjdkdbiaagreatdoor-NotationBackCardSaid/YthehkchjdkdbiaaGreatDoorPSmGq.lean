/- piece.Same of the program: a piece is the same as itself. -/
import Derived.Test.YthehkchjdkdbiaaGreatDoorBwubGq
set_option maxHeartbeats 8000000
set_option maxRecDepth 100000
set_option linter.unusedVariables false
set_option linter.unusedSimpArgs false
namespace Go.Proofs.YthehkchjdkdbiaaGreatDoor
section
open Go.RowKit
theorem nw_sym_all:((List.range' 1 4).all fun s=>(List.range' 1 14).all fun c=>(List.range 19).all fun f=>(rS (s:Int) (c:Int) (f:Int)).all nwB)=true:=by decide +kernel
theorem nw_mk_all:((List.range' 1 4).all fun s=>((List.range 4).all fun r=>(rR (s:Int) (r:Int)).all nwB) && ((List.range 5).all fun g=>(rG (s:Int) (g:Int)).all nwB) && ((List.range 16).all fun h=>(pH (s:Int) (h:Int) 15).all nwB))=true:=by decide +kernel
theorem nw_bytes {s crs:Int} {w:List UInt8} {x:N5} (hsp:spotErr s crs=0) (h:nr_cl s crs w=some x):∀ b∈w,nwB b=true:=by
 have hs:=spotErr_sys hsp
 obtain ⟨a1,a2,a3,a4⟩:=nr_cl_of h
 obtain ⟨a5,a6,a7⟩:=stM_ok a4
 obtain ⟨c,f,r,g,hh⟩:=x
 dsimp only at a1 a2 a5 a6 a7
 obtain ⟨l1,l2⟩:=sym_law s c f hs zqo zqo
 unfold cellOk at a6
 simp only [Bool.and_eq_true] at a6
 obtain ⟨k,rfl⟩:=Int.eq_ofNat_of_zero_le (show 0≤s by omega)
 have h1:=List.all_eq_true.1 (List.all_eq_true.1 (List.all_eq_true.1 (List.all_eq_true.1 nw_sym_all k (List.mem_range'_1.2 zqo)) c (List.mem_range'_1.2 zqo)) f (List.mem_range.2 zqo))
 have h2:=List.all_eq_true.1 nw_mk_all k (List.mem_range'_1.2 zqo)
 simp only [Bool.and_eq_true] at h2
 have h3:=List.all_eq_true.1 (List.all_eq_true.1 h2.1.1 r (List.mem_range.2 zqo))
 have h4:=List.all_eq_true.1 (List.all_eq_true.1 h2.1.2 g (List.mem_range.2 zqo))
 have h5:=List.all_eq_true.1 (List.all_eq_true.1 h2.2 hh (List.mem_range.2 zqo))
 intro b hb
 rw [← a7] at hb
 unfold cellS at hb
 rw [l2 a6.1.1.1] at hb
 simp only [List.mem_append] at hb
 rcases hb with((x|x)|x)|x
 ·exact h1 b x
 ·exact h3 b x
 ·exact h4 b x
 ·exact h5 b x
theorem nw_st_bytes {s:Int} {L:Int→Nat} {x:Stp} (hs:1≤s∧s≤4)(hx:NwS s L x):∀ b∈stT s L x,nwB b=true:=by
 obtain⟨h1,h2⟩:=nw_spotOf (c:=x.1) hs hx.c.1
 exact nw_bytes h1 (nw_cl hs hx h1 h2)
theorem nw_body_bytes {s:Int} {L:Int→Nat} {n:Nat} {l:List Stp} (hs:1≤s∧s≤4)(hl:∀ x∈l,NwS s L x):∀ w∈nw_body s L n l,∀ b∈w,nwB b=true:=by
 intro w hw
 have hw2:w∈nw_W s L n l:=by rw [← nw_rev];exact nw_rev_mem.2 hw
 unfold nw_W at hw2
 rcases List.mem_append.1 hw2 with k|k
 ·obtain⟨j,_,rfl⟩:=List.mem_map.1 k
  unfold stF
  cases hx:stOn l ((j:Int)+1)with
  | none=>intro b hb;rw [List.mem_singleton.1 hb];decide
  | some x=>exact nw_st_bytes hs (hl x (stOn_eq hx).1)
 ·obtain⟨x,hx,rfl⟩:=List.mem_map.1 k
  exact nw_st_bytes hs (hl x (List.mem_filter.1 hx).1)
theorem nw_tW_all:((List.range 8).all fun v=>(List.range 3).all fun i=>(tW (v:Int) i).all nwB && !(tW (v:Int) i == [124]))=true:=by decide +kernel
theorem nw_tW {v:Int} {i:Nat} (hv:0≤v∧v≤7)(hi:i<3):(∀ b∈tW v i,nwB b=true)∧tW v i≠[124]:=by
 obtain⟨k,rfl⟩:=Int.eq_ofNat_of_zero_le hv.1
 have:=List.all_eq_true.1 (List.all_eq_true.1 nw_tW_all k (List.mem_range.2 zqo)) i (List.mem_range.2 hi)
 simp only [Bool.and_eq_true,List.all_eq_true,Bool.not_eq_true',beq_eq_false_iff_ne] at this
 exact this
theorem nw_lk {b:Bool} {i c w:Int} (h:lkIf b i c w=[]):b=true:=by cases b<;>first|rfl|cases h
def nw_nc (s:Int)(e:Ev):NC:=⟨e.bar,e.val.toNat,sgI e.dot e.three,e.tie,e.stops.map (nw_5 s)⟩
section
variable {s:Int} {p:Pce} {i:Int} {e:Ev}
theorem nw_form (hs:1≤s∧s≤4) (hsg:sgOk e.val e.dot e.three=true) (htie:e.tie=true→e.stops=[]) (hlk:lackE s p i e=[]) (hl:∀ x∈e.stops,NwS s (fun c=>longestN p.evs i c) x) (ha:asc 0 e.stops) (hcs:∀ x∈e.stops,x.1≤p.cs.length) :
  nr_form s (nr_staff s p.cs) (colS s p i e)=some (nw_nc s e)∧rq_NoB 10 (colS s p i e):=by
 have hlk0:=hlk
 rw [lackE_eq] at hlk
 have hh:=(List.append_eq_nil_iff.1 hlk).1
 obtain ⟨k1,k2⟩:=List.append_eq_nil_iff.1 hh
 obtain ⟨k2,k3⟩:=List.append_eq_nil_iff.1 k2
 have hv7:0≤e.val∧e.val≤7:=by
  unfold sgOk at hsg
  simp only [Bool.or_eq_true,Bool.and_eq_true,beq_iff_eq,decide_eq_true_eq] at hsg
  omega
 have hsI:sgI e.dot e.three<3:=by unfold sgI;split;omega;split<;>omega
 have hto:tOk s e.val (sgI e.dot e.three)=true:=by
  unfold tOk
  by_cases v0:e.val=0
  ·rw [if_pos v0]
   unfold lk1 at k1
   rw [if_pos v0] at k1
   have:=nw_lk k1
   rcases nw_sys hs with rfl|rfl|rfl|rfl<;>first|rfl|cases this
  ·rw [if_neg v0]
   cases ht:e.three with
   | false=>unfold sgI;cases e.dot<;>rfl
   | true =>
    unfold lk2 at k2
    rw [if_pos ht] at k2
    have:=nw_lk k2
    rcases nw_sys hs with rfl|rfl|rfl|rfl<;>first|(simp;done)|exact absurd this (by decide)
 have hte:timeErr s e.val e.dot e.three=0:=by
  unfold timeErr
  rw [if_neg (fun q=>q hs),if_neg (by rw [hsg];decide),if_neg (by rw [hto];decide)]
 obtain ⟨p1,p2,p3,p4⟩:=parse_back s e.val e.dot e.three hte
 have htx:timeTxt s e.val e.dot e.three=tW e.val (sgI e.dot e.three):=if_pos hte
 rw [htx] at p1
 obtain ⟨t1,t2⟩:=nw_tW hv7 hsI
 obtain ⟨SG,hSG⟩:∃ z,tW e.val (sgI e.dot e.three)=z:=⟨_,rfl⟩
 rw [hSG] at p1 t1 t2
 obtain ⟨B,hB⟩:∃ z,(if e.tie=true then [[126]] else if e.stops.length=0 then [[37]] else nw_body s (fun c=>longestN p.evs i c) (staffN s p) e.stops:List (List UInt8))=z:=⟨_,rfl⟩
 have hbody:nr_body s (nr_staff s p.cs) e.bar e.val.toNat (sgI e.dot e.three) B=some (nw_nc s e)∧(∀ w∈B,∀ b∈w,b≠32∧b≠10)∧B≠[]:=by
  unfold nr_body nw_nc
  by_cases h7:e.tie=true
  ·rw [if_pos h7] at hB
   subst hB
   have h4:s≠4:=by
    unfold lk3 at k3
    rw [if_pos h7] at k3
    have:=nw_lk k3
    rintro rfl
    cases this
   rw [if_pos ⟨rfl,h4⟩,h7,htie h7]
   refine ⟨rfl,fun w hw b hb=>?_,by simp⟩
   rw [List.mem_singleton.1 hw] at hb
   rw [List.mem_singleton.1 hb];decide
  rw [if_neg h7] at hB
  have h7f:e.tie=false:=by simpa using h7
  by_cases h8:e.stops.length=0
  ·rw [if_pos h8] at hB
   subst hB
   have h3:s≠3:=by
    unfold lk3 at k3
    rw [if_neg h7,if_pos h8] at k3
    have:=nw_lk k3
    rintro rfl
    cases this
   rw [if_neg (fun q=>absurd q.1 (by decide)),if_pos ⟨rfl,h3⟩,h7f,List.eq_nil_of_length_eq_zero h8]
   refine ⟨rfl,fun w hw b hb=>?_,by simp⟩
   rw [List.mem_singleton.1 hw] at hb
   rw [List.mem_singleton.1 hb];decide
  rw [if_neg h8] at hB
  have hby:=nw_body_bytes (n:=staffN s p) hs hl
  rw [hB] at hby
  have hne:e.stops≠[]:=fun q=>h8 (by rw [q];rfl)
  obtain ⟨n6,n4⟩:staffN s p≤6∧(s=4→staffN s p=0):=by
   unfold staffN
   split
   ·exact ⟨by omega,fun _=>rfl⟩
   ·rename_i h;exact ⟨by omega,fun q=>absurd q h⟩
  have hn:s=4∨∀ x∈e.stops,((staffN s p:Nat):Int)<x.1→6<x.1:=by
   by_cases q:s=4
   ·exact .inl q
   ·refine .inr fun x hx hlt=>?_
    unfold staffN at hlt
    rw [if_neg q] at hlt
    have:=hcs x hx
    omega
  have hch:=nw_ch (n:=staffN s p) hs n6 n4 hn hl ha hne
  rw [hB] at hch
  have hBne:B≠[]:=by
   intro q
   rw [q] at hch
   unfold nr_ch at hch
   rw [show nr_rev s ([]:List (List UInt8))=[] by unfold nr_rev;split<;>rfl,nr_ch_nil rfl] at hch
   cases hch
  rw [if_neg (fun q=>by
   have:=(nwB_of (hby [126] (by rw [q.1];simp) 126 (by simp))).2.2.1
   exact this rfl),if_neg (fun q=>by
   have:=(nwB_of (hby [37] (by rw [q.1];simp) 37 (by simp))).2.2.2
   exact this rfl),show nr_staff s p.cs=staffN s p from rfl,hch,h7f]
  exact ⟨rfl,fun w hw b hb=>⟨(nwB_of (hby w hw b hb)).1,(nwB_of (hby w hw b hb)).2.1⟩,hBne⟩
 obtain ⟨b1,b2,b3⟩:=hbody
 obtain ⟨w1,r1,rfl⟩:∃ w r,B=w::r:=by
  cases B with
  | nil=>exact absurd rfl b3
  | cons w r=>exact ⟨w,r,rfl⟩
 have htime:∀ bar,bar=e.bar→nr_time s (nr_staff s p.cs) bar (SG::w1::r1)=some (nw_nc s e):=fun bar hbar=>by
  subst hbar
  show (scanT (tmM s SG) 0 8).bind _=_
  rw [p1]
  exact b1
 have hcw:colS s p i e=joinW (headW s e++(w1::r1)):=by unfold colS;rw [colW_eq,hB]
 rw [hcw]
 have hSGn:rq_NoB 32 SG:=fun b hb=>(nwB_of (t1 b hb)).1
 have hBn:∀ x∈w1::r1,rq_NoB 32 x:=fun x hx b hb=>(b2 x hx b hb).1
 have hten:∀ (W:List (List UInt8)),(∀ w∈W,∀ b∈w,b≠10)→rq_NoB 10 (joinW W):=by
  intro W hW
  cases W with
  | nil=>intro b hb;cases hb
  | cons w r =>
   intro b hb
   rcases List.mem_append.1 hb with q|q
   ·exact hW w (by simp) b q
   ·obtain ⟨x,hx,hbx⟩:=List.mem_flatMap.1 q
    unfold sp at hbx
    rcases List.mem_cons.1 hbx with rfl|k
    ·decide
    ·exact hW x (by simp [hx]) b k
 cases hbar:e.bar with
 | true =>
  have hd:headW s e=[[124],SG]:=by unfold headW;rw [if_pos hbar,hSG]
  rw [hd]
  refine ⟨?_,hten _ fun w hw b hb=>?_⟩
  ·unfold nr_form
   rw [show ([[124],SG]++(w1::r1):List (List UInt8))=[124]::(SG::w1::r1) from rfl,nw_wds rfl _ _ (by intro b hb;rw [List.mem_singleton.1 hb];decide) (fun x hx=>by
    rcases List.mem_cons.1 hx with rfl|hx
    ·exact hSGn
    ·exact hBn x hx)]
   show (if ([124]:List UInt8)=[124] then _ else _)=_
   rw [if_pos rfl]
   exact htime true hbar.symm
  ·rcases List.mem_append.1 hw with q|q
   ·rcases List.mem_cons.1 q with rfl|q
    ·rw [List.mem_singleton.1 hb];decide
    ·rw [List.mem_singleton.1 q] at hb;exact (nwB_of (t1 b hb)).2.1
   ·exact (b2 w q b hb).2
 | false =>
  have hd:headW s e=[SG]:=by unfold headW;rw [if_neg (by rw [hbar];decide),hSG]
  rw [hd]
  refine ⟨?_,hten _ fun w hw b hb=>?_⟩
  ·unfold nr_form
   rw [show ([SG]++(w1::r1):List (List UInt8))=SG::(w1::r1) from rfl,nw_wds rfl _ _ hSGn hBn]
   show (if SG=[124] then _ else _)=_
   rw [if_neg t2]
   exact htime false hbar.symm
  ·rcases List.mem_append.1 hw with q|q
   ·rw [List.mem_singleton.1 q] at hb;exact (nwB_of (t1 b hb)).2.1
   ·exact (b2 w q b hb).2
end
end
section
open Go.RowKit
theorem nw_notes {cs:List Crs}:∀ {l:List N5},(∀ x∈l,nr_note cs x=0)→nr_notes cs l=0
 | [],_=>rfl
 | x::r,h=>by
  unfold nr_notes
  rw [if_neg (fun q=>q (h x (by simp))),nw_notes fun y hy=>h y (by simp [hy])]
section
variable {s:Int} {p:Pce}
theorem nw_crsE {s:Int} {e:Ev} (h:∀ x∈e.stops,1≤x.1):nr_crsE (nr_ev0 (nw_nc s e))=nr_crsE e:=by
 unfold nr_crsE nr_ev0 nr_evW nw_nc restB
 refine Prod.ext ?_ ?_
 ·show (List.map _ (List.map _ (List.map _ _)))=_
  rw [List.map_map,List.map_map]
  refine List.map_congr_left fun x hx=>?_
  have:=h x hx
  show ((x.1.toNat:Nat):Int)=x.1
  omega
 ·show ((List.map _ (List.map _ _)).length == 0 && !e.tie)=_
  rw [List.length_map,List.length_map]
theorem nw_long (h:NwP s p)(i c:Int):longestN ((p.evs.map (nw_nc s)).map nr_ev0) i c=longestN p.evs i c:=by
 refine nr_longest ?_ i c
 rw [List.map_map,List.map_map]
 refine List.map_congr_left fun e he=>?_
 obtain⟨k,hk,rfl⟩:=List.getElem_of_mem he
 exact nw_crsE fun x hx=>((nw_stops h hk).1 x hx).2.1
theorem nw_back_v {s:Int} {h:Int} {lg:Nat} (hs:1≤s∧s≤4)(hb:0≤h∧h≤lg)(ok:okH s h lg=true):nw_v s lg (nw_h s h)=h:=by
 unfold nw_v nw_h
 by_cases h0:h=0
 ·rw [if_pos h0,if_pos rfl,h0]
 rw [if_neg h0]
 by_cases s1:s=1
 ·rw [if_pos s1,if_neg (by omega),if_pos s1];omega
 ·rw [if_neg s1,if_neg (by omega),if_neg s1]
  unfold okH rH at ok
  rw [if_neg s1]at ok
  by_cases q:(s=2∨s=4)∧h=lg
  ·exact q.2.symm
  ·rw [if_neg q]at ok
   simp at ok
   exact absurd ok h0
theorem nw_ev (h:NwP s p) {i:Nat} (hi:i < p.evs.length):nr_evW (nw_nc s p.evs[i]) (nr_hV s (p.evs.map (nw_nc s)) i)=p.evs[i]:=by
 obtain ⟨q1,_,_,_,_⟩:=evOk_of h.e hi
 obtain ⟨hst,_⟩:=nw_stops h hi
 have hL:=fun c=>nw_long h i c
 obtain ⟨E,hE⟩:∃ z,p.evs.map (nw_nc s)=z:=⟨_,rfl⟩
 rw [hE] at hL ⊢
 obtain ⟨e,he⟩:∃ z,p.evs[i]=z:=⟨_,rfl⟩
 rw [he] at q1 hst ⊢
 obtain ⟨bar,v,d,t,tie,l⟩:=e
 have hv:0≤v∧(sgD (sgI d t)=d∧sgT (sgI d t)=t):=by
  unfold sgOk at q1
  dsimp only at q1
  refine ⟨by simp only [Bool.or_eq_true,Bool.and_eq_true,beq_iff_eq,decide_eq_true_eq] at q1;omega,?_⟩
  cases d<;>cases t<;>first|exact ⟨rfl,rfl⟩|(simp at q1)
 unfold nr_evW nw_nc
 dsimp only at hst ⊢
 rw [hv.2.1,hv.2.2,List.map_map]
 have e1:((v.toNat:Nat):Int)=v:=by omega
 have e2:l.map ((fun n:N5=>((n.1:Int),(n.2.1:Int),(n.2.2.1:Int),(n.2.2.2.1:Int),nr_hV s E i n)) ∘ nw_5 s)=l:=by
  refine Eq.trans (List.map_congr_left fun x hx=>?_) (List.map_id l)
  obtain ⟨hx1,_⟩:=hst x hx
  have hk:=hx1.k
  unfold stK cellOk at hk
  simp only [Bool.and_eq_true] at hk
  have hbv:=nw_back_v h.y hx1.h hk.2
  obtain ⟨c1,c2,c3,c4,c5,c6,c7,c8⟩:=hx1
  obtain ⟨c,f,r,g,k⟩:=x
  dsimp only at c1 c2 c3 c4 hbv
  have hh:nr_hV s E i (nw_5 s (c,f,r,g,k))=k:=by
   refine Eq.trans ?_ hbv
   show (if nw_h s k=0 then 0 else if s=1 then ((nw_h s k:Nat):Int) else ((longestN (E.map nr_ev0) i ((c.toNat:Nat):Int):Nat):Int))=_
   rw [hL,show ((c.toNat:Nat):Int)=c by omega]
   rfl
  show (((c.toNat:Nat):Int),((f.toNat:Nat):Int),((r.toNat:Nat):Int),((g.toNat:Nat):Int),nr_hV s E i (nw_5 s (c,f,r,g,k)))=(c,f,r,g,k)
  rw [hh,show ((c.toNat:Nat):Int)=c by omega,show ((f.toNat:Nat):Int)=f by omega,show ((r.toNat:Nat):Int)=r by omega,show ((g.toNat:Nat):Int)=g by omega]
 rw [e1,e2]
theorem nw_hE_no (h:NwP s p) {i:Nat} (hi:i<p.evs.length):∀ y∈(nw_nc s p.evs[i]).l,nr_hE s (p.evs.map (nw_nc s)) i y=false:=by
 intro y hy
 obtain⟨x,hx,rfl⟩:=List.mem_map.1 hy
 obtain⟨hx1,h1,_⟩:=(nw_stops h hi).1 x hx
 have hL:=nw_long h i x.1
 have hk:=hx1.k
 unfold stK cellOk at hk
 simp only [Bool.and_eq_true] at hk
 obtain⟨b1,b2,b3,b4⟩:=nw_back h.y hx1.h (by have:=hx1.l;omega) hk.2
 unfold nr_hE nr_lg
 show (decide (nw_h s x.2.2.2.2≠0) && (decide (((longestN ((p.evs.map (nw_nc s)).map nr_ev0) i ((x.1.toNat:Nat):Int):Nat):Int)=0)|| (decide (s=1) && decide (((longestN ((p.evs.map (nw_nc s)).map nr_ev0) i ((x.1.toNat:Nat):Int):Nat):Int)<((nw_h s x.2.2.2.2:Nat):Int)))))=false
 rw [show ((x.1.toNat:Nat):Int)=x.1 by omega,hL]
 have hh:=hx1.h
 by_cases h0:nw_h s x.2.2.2.2=0
 ·rw [decide_eq_false (by simpa using h0)];rfl
 ·have:0<x.2.2.2.2:=b4.1 zqo
  rw [decide_eq_false (show ¬ ((longestN p.evs i x.1:Nat):Int)=0 by omega)]
  by_cases s1:s=1
  ·have e:nw_h s x.2.2.2.2=x.2.2.2.2.toNat:=by unfold nw_h;rw [if_neg (by omega),if_pos s1]
   rw [e,decide_eq_false (show ¬ ((longestN p.evs i x.1:Nat):Int)<((x.2.2.2.2.toNat:Nat):Int) by omega)]
   simp
  ·rw [decide_eq_false s1];simp
theorem nw_col_form (h:NwP s p) {i:Nat} (hi:i<p.evs.length):nr_form s (nr_staff s p.cs) (colS s p i p.evs[i])=some (nw_nc s p.evs[i])∧rq_NoB 10 (colS s p i p.evs[i]):=by
 obtain ⟨q1,_,q3,_,_⟩:=evOk_of h.e hi
 obtain ⟨hst,ha⟩:=nw_stops h hi
 exact nw_form h.y q1 (fun ht=>(q3 ht).1) (h.l i hi) (fun x hx=>(hst x hx).1) ha fun x hx=>(hst x hx).2.2.1
theorem nw_col_err (h:NwP s p) {i:Nat} (hi:i<p.evs.length):nr_err s p.cs i (colS s p i p.evs[i])=0:=by
 obtain ⟨q1,q2,q3,_,_⟩:=evOk_of h.e hi
 obtain ⟨hst,ha⟩:=nw_stops h hi
 unfold nr_err
 rw [(nw_col_form h hi).1]
 dsimp only
 unfold nr_chk
 have hv:0≤p.evs[i].val:=by
  unfold sgOk at q1
  simp only [Bool.or_eq_true,Bool.and_eq_true,beq_iff_eq,decide_eq_true_eq]at q1;omega
 rw [if_neg (fun q=>q2 (by
  have a1:i=0:=by simpa using q.1
  have a2:p.evs[i].val.toNat=0:=q.2
  exact ⟨by omega,by omega⟩)),if_neg (fun q=>by
  rw [Bool.and_eq_true]at q
  have a1:i=0:=by simpa using q.1
  have:=(q3 q.2).2
  omega)]
 refine nw_notes fun y hy=>?_
 obtain ⟨x,hx,rfl⟩:=List.mem_map.1 hy
 obtain ⟨hx1,h1,h2,h3⟩:=hst x hx
 have hf:=hx1.f
 refine (nw_note_iff (show 1≤x.1.toNat by omega)).2 ⟨show x.1.toNat≤p.cs.length by omega,?_⟩
 show ((x.2.1.toNat:Nat):Int)≤fretsOf p.cs ((x.1.toNat:Nat):Int)
 rw [show ((x.1.toNat:Nat):Int)=x.1 by omega]
 omega
theorem nw_read (h:NwP s p):nr_read (nw_T s p)=(s,p,0,0):=by
 obtain ⟨h1,h2,h3⟩:=pceE_zero h.e
 obtain ⟨i1,i2⟩:=nw_ins h1
 obtain ⟨y1,y2⟩:=nw_sys_of h.y
 have hspl:rq_spl 10 (nw_T s p)=(nw_l0 s::fmT p.cs p.st::nw_cols s p,[]):=by
  refine rq_spl_uniq (fun l hl=>?_) (fun b hb=>by cases hb)
  rcases List.mem_cons.1 hl with rfl|hl
  ·exact y2
  ·rcases List.mem_cons.1 hl with rfl|hl
   ·exact i2
   ·obtain ⟨i,hi,rfl⟩:=List.getElem_of_mem hl
    rw [nw_cols_at hi]
    exact (nw_col_form h _).2
 unfold nr_read
 rw [hspl]
 show (match nr_sys (nw_l0 s)with|none=>nr_no 1 4|some s'=>nr_two s' [] (fmT p.cs p.st::nw_cols s p))=_
 rw [y1]
 show nr_two s [] (fmT p.cs p.st::nw_cols s p)=_
 unfold nr_two
 dsimp only
 rw [i1]
 dsimp only
 rw [if_neg (fun q=>q rfl),if_neg (by rw [nw_cols_len,if_pos rfl];omega)]
 unfold nr_evs
 rw [nr_bad_none fun i hi=>by
  rw [Nat.zero_add,nw_cols_at hi]
  exact nw_col_err h _]
 dsimp only
 rw [if_neg (fun q=>q rfl)]
 have hE:(nw_cols s p).map (nr_nc s p.cs)=p.evs.map (nw_nc s):=by
  apply List.ext_getElem
  ·rw [List.length_map,List.length_map,nw_cols_len]
  ·intro i a1 a2
   rw [List.getElem_map,List.getElem_map,nw_cols_at]
   unfold nr_nc
   rw [(nw_col_form h _).1];rfl
 rw [hE]
 have hB:nr_hB s (p.evs.map (nw_nc s))=none:=by
  unfold nr_hB
  rw [List.find?_eq_none]
  intro i hi
  rw [List.length_map]at hi
  have hil:=List.mem_range.1 hi
  rw [List.getElem?_map,List.getElem?_eq_getElem hil]
  show ¬ (nw_nc s p.evs[i]).l.any _=true
  rw [Bool.not_eq_true,List.any_eq_false]
  intro y hy
  rw [nw_hE_no h hil y hy];decide
 rw [hB]
 dsimp only
 have hF:nr_fin s (p.evs.map (nw_nc s))=p.evs:=by
  unfold nr_fin
  apply List.ext_getElem
  ·rw [List.length_mapIdx,List.length_map]
  ·intro i a1 a2
   rw [List.getElem_mapIdx,List.getElem_map]
   exact nw_ev h a2
 rw [hF]
end
end
section
open Go.RowKit
theorem nw_of_wr {s:Int} {p:Pce} (h:lksE s p=0) (h2:lksR s p=[]):NwP s p:=by
 have hs:1≤s∧s≤4:=by
  by_cases k:1≤s∧s≤4
  ·exact k
  ·have:=(lks_bad (p:=p) k).2;omega
 have h0:pceE p=0:=by
  by_cases k:pceE p=0
  ·exact k
  ·have:=(lks_err hs k).2;omega
 have hR:=(lks_ok hs h0).1
 exact ⟨h0,hs,fun i hi=>lksTo_none p.evs.length (Nat.le_refl _) (by rw [← hR];exact h2) i hi hi⟩
end
section
open Go.RowKit
structure Va where
 kd:Int
 pl:Int
 ev:Ev
end
section
open Go.RowKit
theorem eqs_sign (x:Int) (a b:Bool) (y:Int) (c d:Bool) (w:World):(Op.equalIn 10000 87 (.agg #[.int .i64 x,.bool a,.bool b]) (.agg #[.int .i64 y,.bool c,.bool d])).run Tryz.prog w=.ok (decide (x=y∧a=c∧b=d)) w:=by
 rw [run_equalIn_agg w 9999 _ _ _ zqk zqk]
 refine Eq.trans (congrArg (fun fs=>Sem.run _ (Op.eqFields 9999 _ _ fs) w) (rfl:(Tryz.prog.fieldsOf 87).toList=[_,_,_])) ?_
 by_cases h1:x=y
 ·subst h1
  cases a<;>cases b<;>cases c<;>cases d<;>simp [go_sem]
 ·simp [go_sem,h1]
end
section
open Go.RowKit
theorem eqs_stp (a b c d e a' b' c' d' e':Int) (w:World):(Op.equalIn 10000 69 (.agg #[.int .i64 a,.int .i64 b,.int .i64 c,.int .i64 d,.int .i64 e]) (.agg #[.int .i64 a',.int .i64 b',.int .i64 c',.int .i64 d',.int .i64 e'])).run Tryz.prog w=.ok (decide ((a,b,c,d,e)=(a',b',c',d',e'))) w:=by
 rw [run_equalIn_agg w 9999 _ _ _ zqk zqk]
 refine Eq.trans (congrArg (fun fs=>Sem.run _ (Op.eqFields 9999 _ _ fs) w) (rfl:(Tryz.prog.fieldsOf 69).toList=[_,_,_,_,_])) ?_
 by_cases h1:a=a'
 ·subst h1
  by_cases h2:b=b'
  ·subst h2
   by_cases h3:c=c'
   ·subst h3
    by_cases h4:d=d'
    ·subst h4
     by_cases h5:e=e'
     ·subst h5;simp [go_sem]
     ·simp [go_sem,h5]
    ·simp [go_sem,h4]
   ·simp [go_sem,h3]
  ·simp [go_sem,h2]
 ·simp [go_sem,h1]
theorem ext_len' {α:Type} {l m:List α} (h1:l.length=m.length)(h2:∀ k(h:k<l.length),l[k]=m[k]'(by omega)):l=m:=List.ext_getElem h1 fun i a b=>h2 i a
theorem ne_at' {α:Type} {l m:List α} {k:Nat} (h1:k<l.length)(h2:k<m.length)(h:¬ l[k]=m[k]):¬ l=m:=fun e=>by subst e;exact h rfl
theorem eqStp_FS (l m:List Stp) (h1:l.length≤1000) (h2:m.length≤1000):Ctr Tryz.prog 63 [.ls 5 (l.map eStp),.ls 5 (m.map eStp)] (.sc (.bool (decide (l=m)))):=by
 by_cases hl:l.length=m.length
 rotate_left
 ·have e:decide (l=m)=false:=decide_eq_false fun h=>hl (by rw [h])
  rw [e]
  refine zqe Tryz.func63 Tryz.ntmps63 fun w0 F0=>?_;dsimp only [St.init,number,Nat.reduceAdd]
  refine zqg45 ?_
  exact W.ret zqr
 refine zqe Tryz.func63 Tryz.ntmps63 fun w0 F0=>?_;dsimp only [St.init,number,Nat.reduceAdd]
 refine zqg45 ?_
 refine W.loop (fun k:Nat=>k≤l.length∧∀ i (hi:i < k) (h:i < l.length),l[i]=m[i]' zqo) (fun k=>⟨[(0,.ls 5 (l.map eStp)),(1,.ls 5 (m.map eStp)),(12,.sc (.int .i64 l.length)),(13,.sc (.int .i64 k))],[],0⟩) (fun k=>l.length - k) 0 ⟨by omega,fun i hi=>by omega⟩ (zqt id) fun k hk=>?_
 obtain ⟨hk,hgood⟩:=hk
 by_cases hlt:k < l.length
 ·have hlt2:k < m.length:=by omega
  by_cases he:l[k]=m[k]
  ·refine zqg45 ?_
   refine W.drawK zqk zqk ?_
   repeat (first|refine DK.st rfl ?_|refine DK.idx rfl rfl zqo zqm ?_|refine DK.nil ?_)
   refine DK.vl rfl (WV.ane rfl rfl rfl rfl rfl zqk (fun w=>eqs_stp _ _ _ _ _ _ _ _ _ _ w)) ?_
   repeat (first|refine DK.st rfl ?_|refine DK.idx rfl rfl zqo zqm ?_|refine DK.nil ?_)
   have hd:decide ((l[k].1,l[k].2.1,l[k].2.2.1,l[k].2.2.2.1,l[k].2.2.2.2)=(m[k].1,m[k].2.1,m[k].2.2.1,m[k].2.2.2.1,m[k].2.2.2.2))=true:=decide_eq_true he
   rw [hd]
   refine zqg46 ?_
   exact ⟨k+1,⟨by omega,fun i hi h=>by
    by_cases e:i=k
    ·subst e;exact he
    ·exact hgood i zqo h⟩,by omega,(zqt id)⟩
  ·have e:decide (l=m)=false:=decide_eq_false (ne_at' hlt hlt2 he)
   rw [e]
   refine zqg45 ?_
   refine W.drawK zqk zqk ?_
   repeat (first|refine DK.st rfl ?_|refine DK.idx rfl rfl zqo zqm ?_|refine DK.nil ?_)
   refine DK.vl rfl (WV.ane rfl rfl rfl rfl rfl zqk (fun w=>eqs_stp _ _ _ _ _ _ _ _ _ _ w)) ?_
   repeat (first|refine DK.st rfl ?_|refine DK.idx rfl rfl zqo zqm ?_|refine DK.nil ?_)
   have hd:decide ((l[k].1,l[k].2.1,l[k].2.2.1,l[k].2.2.2.1,l[k].2.2.2.2)=(m[k].1,m[k].2.1,m[k].2.2.1,m[k].2.2.2.1,m[k].2.2.2.2))=false:=decide_eq_false he
   rw [hd]
   refine zqg46 ?_
   exact W.ret zqr
 have hlm:l=m:=ext_len' hl fun q hq=>hgood q zqo hq
 have e:decide (l=m)=true:=decide_eq_true hlm
 rw [e]
 refine zqg45 ?_
 exact W.ret zqr
end
section
open Go.RowKit
theorem eqs_crs (x y:Int) (b:Bool) (x2 y2:Int) (b2:Bool) (w:World):(Op.equalIn 10000 117 (.agg #[.int .i64 x,.int .i64 y,.bool b]) (.agg #[.int .i64 x2,.int .i64 y2,.bool b2])).run Tryz.prog w=.ok (decide ((x,y,b)=(x2,y2,b2))) w:=by
 rw [run_equalIn_agg w 9999 _ _ _ zqk zqk]
 refine Eq.trans (congrArg (fun fs=>Sem.run _ (Op.eqFields 9999 _ _ fs) w) (rfl:(Tryz.prog.fieldsOf 117).toList=[_,_,_])) ?_
 by_cases h1:x=x2
 ·subst h1
  by_cases h2:y=y2
  ·subst h2
   cases b<;>cases b2<;>simp [go_sem]
  ·simp [go_sem,h2]
 ·simp [go_sem,h1]
def sameI (cs:List (Int×Int×Bool))(st:List Int)(cs2:List (Int×Int×Bool))(st2:List Int):Bool:=decide (cs=cs2∧st=st2)
theorem ext_len {α:Type} {l m:List α} (h1:l.length=m.length)(h2:∀ k(h:k<l.length),l[k]=m[k]'(by omega)):l=m:=List.ext_getElem h1 fun i a b=>h2 i a
theorem ne_at {α:Type} {l m:List α} {k:Nat} (h1:k<l.length)(h2:k<m.length)(h:¬ l[k]=m[k]):¬ l=m:=fun e=>by subst e;exact h rfl
theorem rSameI_FS (cs:List (Int×Int×Bool)) (st:List Int) (cs2:List (Int×Int×Bool)) (st2:List Int) (h1:cs.length≤64) (h2:st.length≤64) (h3:cs2.length≤64) (h4:st2.length≤64):Ctr Tryz.prog 48 [.ag (eIns cs st),.ag (eIns cs2 st2)] (.sc (.bool (sameI cs st cs2 st2))):=by
 by_cases hl1:cs.length=cs2.length
 rotate_left
 ·have e:sameI cs st cs2 st2=false:=decide_eq_false fun h=>hl1 (by rw [h.1])
  rw [e]
  refine zqe Tryz.func48 Tryz.ntmps48 fun w0 F0=>?_;dsimp only [St.init,number,Nat.reduceAdd]
  refine zqg47 ?_
  exact W.ret zqr
 by_cases hl2:st.length=st2.length
 rotate_left
 ·have e:sameI cs st cs2 st2=false:=decide_eq_false fun h=>hl2 (by rw [h.2])
  rw [e]
  refine zqe Tryz.func48 Tryz.ntmps48 fun w0 F0=>?_;dsimp only [St.init,number,Nat.reduceAdd]
  refine zqg47 ?_
  exact W.ret zqr
 refine zqe Tryz.func48 Tryz.ntmps48 fun w0 F0=>?_;dsimp only [St.init,number,Nat.reduceAdd]
 refine zqg47 ?_
 refine W.loop (fun k:Nat=>k≤cs.length∧∀ i (hi:i < k) (h:i < cs.length),cs[i]=cs2[i]' zqo) (fun k=>⟨[(2,.pt 0 0 0),(3,.pt 1 0 0),(5,.sc (.int .i64 k))],[(0,.box 27 (eIns cs st)),(1,.box 27 (eIns cs2 st2))],2⟩) (fun k=>cs.length - k) 0 ⟨by omega,fun i hi=>by omega⟩ (zqt id) fun k hk=>?_
 obtain ⟨hk,hgood⟩:=hk
 by_cases hlt:k < cs.length
 ·have hlt2:k < cs2.length:=by omega
  by_cases he:cs[k]=cs2[k]
  ·refine zqg47 ?_
   refine W.drawK zqk zqk ?_
   refine zqg54 ?_
   refine DK.vl rfl (WV.ane rfl rfl rfl rfl rfl zqk (fun w=>eqs_crs _ _ _ _ _ _ w)) ?_
   refine zqg54 ?_
   have hd:decide ((cs[k].1,cs[k].2.1,cs[k].2.2)=(cs2[k].1,cs2[k].2.1,cs2[k].2.2))=true:=decide_eq_true he
   rw [hd]
   refine zqg48 ?_
   exact ⟨k+1,⟨by omega,fun i hi h=>by
    by_cases e:i=k
    ·subst e;exact he
    ·exact hgood i zqo h⟩,by omega,(zqt id)⟩
  ·have e:sameI cs st cs2 st2=false:=decide_eq_false fun h=>ne_at hlt hlt2 he h.1
   rw [e]
   refine zqg47 ?_
   refine W.drawK zqk zqk ?_
   refine zqg54 ?_
   refine DK.vl rfl (WV.ane rfl rfl rfl rfl rfl zqk (fun w=>eqs_crs _ _ _ _ _ _ w)) ?_
   refine zqg54 ?_
   have hd:decide ((cs[k].1,cs[k].2.1,cs[k].2.2)=(cs2[k].1,cs2[k].2.1,cs2[k].2.2))=false:=decide_eq_false he
   rw [hd]
   refine zqg48 ?_
   exact W.ret zqr
 have hcs:cs=cs2:=ext_len hl1 fun q hq=>hgood q zqo hq
 refine zqg47 ?_
 refine W.loop (fun k:Nat=>k≤st.length∧∀ i (hi:i < k) (h:i < st.length),st[i]=st2[i]' zqo) (fun k=>⟨[(2,.pt 0 0 0),(3,.pt 1 0 0),(6,.sc (.int .i64 k))],[(0,.box 27 (eIns cs st)),(1,.box 27 (eIns cs2 st2))],2⟩) (fun k=>st.length - k) 0 ⟨by omega,fun i hi=>by omega⟩ (zqt id) fun k hk=>?_
 obtain ⟨hk,hgood2⟩:=hk
 by_cases hlt:k < st.length
 ·have hlt2:k < st2.length:=by omega
  by_cases he:st[k]=st2[k]
  ·refine zqg47 ?_
   refine W.drawK zqk zqk ?_
   refine zqg54 ?_
   have hd:decide (st[k]=st2[k])=true:=decide_eq_true he
   rw [hd]
   refine zqg48 ?_
   exact ⟨k+1,⟨by omega,fun i hi h=>by
    by_cases e:i=k
    ·subst e;exact he
    ·exact hgood2 i zqo h⟩,by omega,(zqt id)⟩
  ·have e:sameI cs st cs2 st2=false:=decide_eq_false fun h=>ne_at hlt hlt2 he h.2
   rw [e]
   refine zqg47 ?_
   refine W.drawK zqk zqk ?_
   refine zqg54 ?_
   have hd:decide (st[k]=st2[k])=false:=decide_eq_false he
   rw [hd]
   refine zqg48 ?_
   exact W.ret zqr
 have hst:st=st2:=ext_len hl2 fun q hq=>hgood2 q zqo hq
 have e:sameI cs st cs2 st2=true:=decide_eq_true ⟨hcs,hst⟩
 rw [e]
 refine zqg47 ?_
 exact W.ret zqr
theorem pSameI_FS (cs:List (Int×Int×Bool)) (st:List Int) (cs2:List (Int×Int×Bool)) (st2:List Int) (h1:cs.length≤64) (h2:st.length≤64) (h3:cs2.length≤64) (h4:st2.length≤64):Ctr Tryz.prog 60 [.ag (eIns cs st),.ag (eIns cs2 st2)] (.sc (.bool (sameI cs st cs2 st2))):=by
 by_cases hl1:cs.length=cs2.length
 rotate_left
 ·have e:sameI cs st cs2 st2=false:=decide_eq_false fun h=>hl1 (by rw [h.1])
  rw [e]
  refine zqe Tryz.func60 Tryz.ntmps60 fun w0 F0=>?_;dsimp only [St.init,number,Nat.reduceAdd]
  refine zqg49 ?_
  exact W.ret zqr
 by_cases hl2:st.length=st2.length
 rotate_left
 ·have e:sameI cs st cs2 st2=false:=decide_eq_false fun h=>hl2 (by rw [h.2])
  rw [e]
  refine zqe Tryz.func60 Tryz.ntmps60 fun w0 F0=>?_;dsimp only [St.init,number,Nat.reduceAdd]
  refine zqg49 ?_
  exact W.ret zqr
 refine zqe Tryz.func60 Tryz.ntmps60 fun w0 F0=>?_;dsimp only [St.init,number,Nat.reduceAdd]
 refine zqg49 ?_
 refine W.loop (fun k:Nat=>k≤cs.length∧∀ i (hi:i < k) (h:i < cs.length),cs[i]=cs2[i]' zqo) (fun k=>⟨[(2,.pt 0 0 0),(3,.pt 1 0 0),(25,.sc (.int .i64 cs.length)),(26,.sc (.int .i64 k))],[(0,.box 27 (eIns cs st)),(1,.box 27 (eIns cs2 st2))],2⟩) (fun k=>cs.length - k) 0 ⟨by omega,fun i hi=>by omega⟩ (zqt id) fun k hk=>?_
 obtain ⟨hk,hgood⟩:=hk
 by_cases hlt:k < cs.length
 ·have hlt2:k < cs2.length:=by omega
  by_cases he:cs[k]=cs2[k]
  ·refine zqg49 ?_
   refine W.drawK zqk zqk ?_
   repeat (first|refine DK.st rfl ?_|refine DK.idx rfl rfl zqo zqm ?_|refine DK.nil ?_)
   refine DK.vl rfl (WV.ane rfl rfl rfl rfl rfl zqk (fun w=>eqs_crs _ _ _ _ _ _ w)) ?_
   repeat (first|refine DK.st rfl ?_|refine DK.idx rfl rfl zqo zqm ?_|refine DK.nil ?_)
   have hd:decide ((cs[k].1,cs[k].2.1,cs[k].2.2)=(cs2[k].1,cs2[k].2.1,cs2[k].2.2))=true:=decide_eq_true he
   rw [hd]
   refine zqg50 ?_
   exact ⟨k+1,⟨by omega,fun i hi h=>by
    by_cases e:i=k
    ·subst e;exact he
    ·exact hgood i zqo h⟩,by omega,(zqt id)⟩
  ·have e:sameI cs st cs2 st2=false:=decide_eq_false fun h=>ne_at hlt hlt2 he h.1
   rw [e]
   refine zqg49 ?_
   refine W.drawK zqk zqk ?_
   repeat (first|refine DK.st rfl ?_|refine DK.idx rfl rfl zqo zqm ?_|refine DK.nil ?_)
   refine DK.vl rfl (WV.ane rfl rfl rfl rfl rfl zqk (fun w=>eqs_crs _ _ _ _ _ _ w)) ?_
   repeat (first|refine DK.st rfl ?_|refine DK.idx rfl rfl zqo zqm ?_|refine DK.nil ?_)
   have hd:decide ((cs[k].1,cs[k].2.1,cs[k].2.2)=(cs2[k].1,cs2[k].2.1,cs2[k].2.2))=false:=decide_eq_false he
   rw [hd]
   refine zqg50 ?_
   exact W.ret zqr
 have hcs:cs=cs2:=ext_len hl1 fun q hq=>hgood q zqo hq
 refine zqg49 ?_
 refine W.loop (fun k:Nat=>k≤st.length∧∀ i (hi:i < k) (h:i < st.length),st[i]=st2[i]' zqo) (fun k=>⟨[(2,.pt 0 0 0),(3,.pt 1 0 0),(43,.sc (.int .i64 st.length)),(44,.sc (.int .i64 k))],[(0,.box 27 (eIns cs st)),(1,.box 27 (eIns cs2 st2))],2⟩) (fun k=>st.length - k) 0 ⟨by omega,fun i hi=>by omega⟩ (zqt id) fun k hk=>?_
 obtain ⟨hk,hgood2⟩:=hk
 by_cases hlt:k < st.length
 ·have hlt2:k < st2.length:=by omega
  by_cases he:st[k]=st2[k]
  ·refine zqg49 ?_
   refine W.drawK zqk zqk ?_
   repeat (first|refine DK.st rfl ?_|refine DK.idx rfl rfl zqo zqm ?_|refine DK.nil ?_)
   have hd:decide (st[k]=st2[k])=true:=decide_eq_true he
   rw [hd]
   refine zqg50 ?_
   exact ⟨k+1,⟨by omega,fun i hi h=>by
    by_cases e:i=k
    ·subst e;exact he
    ·exact hgood2 i zqo h⟩,by omega,(zqt id)⟩
  ·have e:sameI cs st cs2 st2=false:=decide_eq_false fun h=>ne_at hlt hlt2 he h.2
   rw [e]
   refine zqg49 ?_
   refine W.drawK zqk zqk ?_
   repeat (first|refine DK.st rfl ?_|refine DK.idx rfl rfl zqo zqm ?_|refine DK.nil ?_)
   have hd:decide (st[k]=st2[k])=false:=decide_eq_false he
   rw [hd]
   refine zqg50 ?_
   exact W.ret zqr
 have hst:st=st2:=ext_len hl2 fun q hq=>hgood2 q zqo hq
 have e:sameI cs st cs2 st2=true:=decide_eq_true ⟨hcs,hst⟩
 rw [e]
 refine zqg49 ?_
 exact W.ret zqr
end
section
open Go.RowKit
theorem sm1_FS (e:Ev) (h:e.stops.length≤20):Ctr Tryz.prog 62 [.ag (eEv e),.ag (eEv e)] (.sc (.bool true)):=by
 have hS:=eqStp_FS e.stops e.stops zqo zqo
 have hd:decide (e.stops=e.stops)=true:=decide_eq_true rfl
 rw [hd] at hS
 refine zqe Tryz.func62 Tryz.ntmps62 fun w0 F0=>?_;dsimp only [St.init,number,Nat.reduceAdd]
 refine zqg51 ?_
 refine WL.partG rfl rfl rfl rfl (fun hp=>?_) (fun hp=>absurd hp (by simp))
 refine zqg51 ?_
 refine WL.vl rfl (WV.aeq rfl rfl rfl rfl rfl zqk (fun w=>eqs_sign _ _ _ _ _ _ w)) ?_
 refine zqg51 ?_
 refine WL.partG rfl rfl rfl rfl (fun hp=>?_) (fun hp=>absurd hp (by simp))
 refine zqg51 ?_
 refine WL.partG rfl rfl rfl rfl (fun hp=>?_) (fun hp=>absurd hp (by simp))
 refine zqg51 ?_
 refine WL.vl rfl (zqc Tryz.func63 hS) ?_
 refine zqg51 ?_
 exact W.ret zqr
theorem eqF_FS (l:List Ev) (hl:l.length≤1000) (h20:∀ e∈l,e.stops.length≤20):Ctr Tryz.prog 61 [.ls 6 (l.map eEv),.ls 6 (l.map eEv),.sc (.func (.func 62) #[] #[])] (.sc (.bool true)):=by
 refine zqe Tryz.func61 Tryz.ntmps61 fun w0 F0=>?_;dsimp only [St.init,number,Nat.reduceAdd]
 refine zqg52 ?_
 refine W.loop (fun k:Nat=>k≤l.length) (fun k=>⟨[(1,.ls 6 (l.map eEv)),(2,.sc (.func (.func 62) #[] #[])),(15,.ls 6 (l.map eEv)),(16,.sc (.int .i64 l.length)),(17,.sc (.int .i64 k))],[],0⟩) (fun k=>l.length - k) 0 zqo (zqt id) fun k hk=>?_
 by_cases hlt:k < l.length
 ·have h1:=sm1_FS l[k] (h20 _ (List.getElem_mem hlt))
  refine zqg52 ?_
  refine WL.vl rfl (WV.callV (truH _) rfl (callF Tryz.func62 rfl rfl) rfl rfl rfl rfl rfl h1.g) ?_
  refine zqg53 ?_
  exact ⟨k+1,by omega,by omega,(zqt id)⟩
 ·obtain rfl:k=l.length:=by omega
  refine zqg52 ?_
  exact W.ret zqr
theorem pSame_FS (p:Pce) (hO:PcOk p):Ctr Tryz.prog 20 [ePce p,ePce p] (.sc (.bool true)):=by
 have hI:=pSameI_FS p.cs p.st p.cs p.st hO.n1 hO.n2 hO.n1 hO.n2
 have hd:sameI p.cs p.st p.cs p.st=true:=decide_eq_true ⟨rfl,rfl⟩
 rw [hd] at hI
 have hn:=hO.n3
 have hE:=eqF_FS p.evs zqo (fun e he=>by
  obtain ⟨k,hk,rfl⟩:=List.getElem_of_mem he
  exact hO.n4 k hk)
 refine zqe Tryz.func20 Tryz.ntmps20 fun w0 F0=>?_;dsimp only [St.init,number,Nat.reduceAdd]
 refine zqg51 ?_
 refine WL.vl rfl (zqc Tryz.func60 hI) ?_
 refine zqg51 ?_
 refine WL.vl rfl (zqc Tryz.func61 hE) ?_
 refine zqg51 ?_
 exact W.ret zqr
end
end Go.Proofs.YthehkchjdkdbiaaGreatDoor
