/- What Write writes is what is read back: plain words. -/
import Derived.Test.YthohlofpphjofaaGreatDoorNrDGq
import Derived.Test.YthohlofpphjofaaGreatDoorClmGq
set_option maxRecDepth 100000
set_option linter.unusedVariables false
set_option linter.unusedSimpArgs false
namespace Go.Proofs.YthohlofpphjofaaGreatDoor
theorem Jm {p:Prop}(h:p:=by show ¬ (4:Int)=0;decide):p:=h
theorem aer {p:Prop}(h:p:=by
 rw [List.mem_singleton.1 q] at hb;exact (zu (t1 b hb)).2.1):p:=h
theorem adQ {p:Prop}(h:p:=by
 ·cases pl with
  | true=>rw [List.mem_singleton.1 q];decide
  | false=>cases q):p:=h
theorem adu {p:Prop}(h:p:=by
 refine ⟨rfl,fun w hw b hb=>?_,by simp⟩
 rw [List.mem_singleton.1 hw] at hb
 rw [List.mem_singleton.1 hb];decide):p:=h
theorem UC {p:Prop}(h:p:=by
 rcases DJ hs with rfl|rfl|rfl|rfl<;>first|rfl|exact absurd rfl h4):p:=h
theorem Xg {p:Prop}(h:p:=by
 exact⟨by rw [hl,← e];rfl,by decide,by decide⟩):p:=h
section
open Go.RowKit
def nwB(b:UInt8):Bool:=b != 32 && b != 10 && b != 126 && b != 37
theorem Sz:((List.range' 1 4).all fun s=>(List.range' 1 14).all fun c=>(List.range 19).all fun f=>(rS (s:Int) (c:Int) (f:Int)).all nwB)=true:=by decide +kernel
theorem YM:((List.range' 1 4).all fun s=>((List.range 4).all fun r=>(rR (s:Int) (r:Int)).all nwB) && ((List.range 5).all fun g=>(rG (s:Int) (g:Int)).all nwB) && ((List.range 16).all fun h=>(pH (s:Int) (h:Int) 15).all nwB))=true:=by decide +kernel
theorem abr {s aQ:Int} {w:List UInt8} {x:N5} (hsp:aC s aQ=0) (h:iY s aQ w=some x):∀ b∈w,nwB b=true:=by
 have hs:=kD hsp
 obtain ⟨a1,a2,a3,a4⟩:=qA h
 obtain ⟨a5,a6,a7⟩:=su a4
 obtain ⟨c,f,r,g,hh⟩:=x
 dsimp only at a1 a2 a5 a6 a7
 obtain ⟨l1,l2⟩:=lU s c f hs aj aj
 unfold dZ at a6
 simp only [dw] at a6
 obtain ⟨k,rfl⟩:=dP (show 0≤s by omega)
 have h1:=List.all_eq_true.1 (List.all_eq_true.1 (List.all_eq_true.1 (List.all_eq_true.1 Sz k (List.mem_range'_1.2 aj)) c (List.mem_range'_1.2 aj)) f (List.mem_range.2 aj))
 have h2:=List.all_eq_true.1 YM k (List.mem_range'_1.2 aj)
 grind[cellS]
theorem zu {b:UInt8} (h:nwB b=true):b≠32∧b≠10∧b≠126∧b≠37:=by
 simp_all[nwB]
theorem Ir {s c:Int} (hs:1≤s∧s≤4)(hc:1≤c):aC s (uz s c)=0∧dU s (uz s c) c=true:=by
 grind[aC,dU,uz]
theorem Af {s:Int} {L:Int→Nat} {x:Stp} (hs:1≤s∧s≤4)(hx:U4 s L x):∀ b∈Ef s L x,nwB b=true:=by
 obtain⟨h1,h2⟩:=Ir (c:=x.1) hs hx.c.1
 exact abr h1 (VR hs hx h1 h2)
theorem DI {s:Int} {words:List (List UInt8)} {w:List UInt8}:w∈iL s words↔w∈words:=by grind[iL]
theorem Gp {s:Int} {L:Int→Nat} {n:Nat} {l:List Stp} (hs:1≤s∧s≤4)(hl:∀ x∈l,U4 s L x):∀ w∈jC s L n l,∀ b∈w,nwB b=true:=by
 intro w hw
 have hw2:w∈lY s L n l:=by grind[DF,DI]
 unfold lY at hw2
 rcases List.mem_append.1 hw2 with k|k
 ·obtain⟨j,_,rfl⟩:=List.mem_map.1 k
  unfold QA
  cases hx:oN l ((j:Int)+1)with
  | none=>intro b hb;rw [List.mem_singleton.1 hb];decide
  | some x=>exact Af hs (hl x (yI hx).1)
 grind[Af]
theorem YP:((List.range 8).all fun v=>(List.range 3).all fun i=>(tW (v:Int) i).all nwB && !(tW (v:Int) i == [124]))=true:=by decide +kernel
theorem amh {v:Int} {i:Nat} (hv:0≤v∧v≤7)(hi:i<3):(∀ b∈tW v i,nwB b=true)∧tW v i≠[124]:=by
 obtain⟨k,rfl⟩:=dP hv.1
 have:=List.all_eq_true.1 (List.all_eq_true.1 YP k (List.mem_range.2 aj)) i (List.mem_range.2 hi)
 simp_all
theorem KD {c:UInt8} (hc:c=32):∀ (r:List (List UInt8)) (w:List UInt8),aH c w→(∀ x∈r,aH c x)→aV c (jM (w::r))=w::r
 | [],w,h,_=>by
  subst hc
  show aV 32 (w++[])=[w]
  simp_all[Ea]
 | y::r,w,h,hr=>by
  subst hc
  have ih:=KD rfl r y (hr y (by simp)) (fun x hx=>hr x uQ)
  show aV 32 (w++32::jM (y::r))=_
  simp_all[Aq]
theorem VW:∀ (ls:List (List UInt8))(tl:List UInt8),jM (ls++[tl])=ak 32 ls tl
 | [],tl=>by show tl++[]=tl;rw [mG]
 | l::ls,tl=>by
  rw [aF,← VW ls tl]
  cases ls with
  | nil=>rfl
  | cons x r=>rfl
theorem OZ (t:List UInt8):jM (aV 32 t)=t:=by
 simp[aV,VW,iF]
theorem agT {s:Int} {sg:List UInt8} {v i:Nat} (h:jm (yV s sg) 0 8=some (v,i)):v≤7∧i<3∧(v≠0∨i=0)∧vV s v i=true∧tW v i=sg:=by
 grind[Ec,qF,yV]
theorem amg {v i:Nat} (hv:v≤7) (hi:i<3) (h:v≠0∨i=0):jo v (Ar i) (yG i)=true∧oM (Ar i) (yG i)=i:=by
 have h3:i=0∨i=1∨i=2:=by omega
 rcases h3 with rfl|rfl|rfl
 ·refine ⟨?_,rfl⟩
  grind[jo,Ar,yG]
 ·refine ⟨?_,rfl⟩
  grind[jo,yG]
 ·refine ⟨?_,rfl⟩
  grind[jo,Ar]
theorem VX {b:Bool} {i c w:Int} (h:kH b i c w=[]):b=true:=by cases b<;>first|rfl|cases h
def kS (s:Int)(e:Ev):NC:=⟨e.bar,e.val.toNat,oM e.dot e.three,e.tie,e.stops.map (yh s)⟩
section
variable {s:Int} {p:aN} {i:Int} {e:Ev}
theorem JH:rD s p i e=headW s e++(if e.tie=true then [[126]] else if e.stops.length=0 then [[37]] else jC s (fun c=>ah p.evs i c) (dh s p) e.stops):=rfl
theorem agR (hs:1≤s∧s≤4) (hsg:jo e.val e.dot e.three=true) (htie:e.tie=true→e.stops=[]) (hlk:jO s p i e=[]) (hl:∀ x∈e.stops,U4 s (fun c=>ah p.evs i c) x) (ha:F5 0 e.stops) (hcs:∀ x∈e.stops,x.1≤p.cs.length) :
  eY s (aG s p.cs) (colS s p i e)=some (kS s e)∧aH 10 (colS s p i e):=by
 have hlk0:=hlk
 rw [xW] at hlk
 have hh:=(List.append_eq_nil_iff.1 hlk).1
 obtain ⟨k1,k2⟩:=List.append_eq_nil_iff.1 hh
 obtain ⟨k2,k3⟩:=List.append_eq_nil_iff.1 k2
 have hv7:0≤e.val∧e.val≤7:=by
  unfold jo at hsg
  simp only [yM,dw,Je,bD] at hsg
  omega
 have hsI:oM e.dot e.three<3:=by unfold oM;split;omega;split<;>omega
 have hto:vV s e.val (oM e.dot e.three)=true:=by
  unfold vV
  by_cases v0:e.val=0
  ·rw [if_pos v0]
   unfold Yc at k1
   rw [if_pos v0] at k1
   have:=VX k1
   rcases DJ hs with rfl|rfl|rfl|rfl<;>first|rfl|cases this
  ·rw [if_neg v0]
   cases ht:e.three with
   | false=>unfold oM;cases e.dot<;>rfl
   | true =>
    unfold Yd at k2
    rw [if_pos ht] at k2
    have:=VX k2
    rcases DJ hs with rfl|rfl|rfl|rfl<;>first|(simp;done)|exact absurd this (by decide)
 have hte:vk s e.val e.dot e.three=0:=by
  unfold vk
  rw [if_neg (fun q=>q hs),if_neg (by rw [hsg];decide),if_neg (by rw [hto];decide)]
 obtain ⟨p1,p2,p3,p4⟩:=SL s e.val e.dot e.three hte
 have htx:BX s e.val e.dot e.three=tW e.val (oM e.dot e.three):=if_pos hte
 rw [htx] at p1
 obtain ⟨t1,t2⟩:=amh hv7 hsI
 obtain ⟨SG,hSG⟩:∃ z,tW e.val (oM e.dot e.three)=z:=⟨_,rfl⟩
 rw [hSG] at p1 t1 t2
 obtain ⟨B,hB⟩:∃ z,(if e.tie=true then [[126]] else if e.stops.length=0 then [[37]] else jC s (fun c=>ah p.evs i c) (dh s p) e.stops:List (List UInt8))=z:=⟨_,rfl⟩
 have hbody:iK s (aG s p.cs) e.bar e.val.toNat (oM e.dot e.three) B=some (kS s e)∧(∀ w∈B,∀ b∈w,b≠32∧b≠10)∧B≠[]:=by
  unfold iK kS
  by_cases h7:e.tie=true
  ·rw [if_pos h7] at hB
   subst hB
   have h4:s≠4:=by
    unfold Qz at k3
    rw [if_pos h7] at k3
    have:=VX k3
    rintro rfl
    cases this
   rw [if_pos ⟨rfl,h4⟩,h7,htie h7]
   exact adu
  rw [if_neg h7] at hB
  have h7f:e.tie=false:=by simpa using h7
  by_cases h8:e.stops.length=0
  ·rw [if_pos h8] at hB
   subst hB
   have h3:s≠3:=by
    unfold Qz at k3
    rw [if_neg h7,if_pos h8] at k3
    have:=VX k3
    rintro rfl
    cases this
   rw [if_neg (fun q=>absurd q.1 (by decide)),if_pos ⟨rfl,h3⟩,h7f,kU h8]
   exact adu
  rw [if_neg h8] at hB
  have hby:=Gp (n:=dh s p) hs hl
  rw [hB] at hby
  have hne:e.stops≠[]:=fun q=>h8 (by rw [q];rfl)
  obtain ⟨n6,n4⟩:dh s p≤6∧(s=4→dh s p=0):=by
   unfold dh
   split
   ·exact ⟨by omega,fun _=>rfl⟩
   ·rename_i h;exact ⟨by omega,fun q=>absurd q h⟩
  have hn:s=4∨∀ x∈e.stops,((dh s p:Nat):Int)<x.1→6<x.1:=by
   by_cases q:s=4
   ·exact .inl q
   ·refine .inr fun x hx hlt=>?_
    unfold dh at hlt
    rw [if_neg q] at hlt
    have:=hcs x hx
    omega
  have hch:=ame (n:=dh s p) hs n6 n4 hn hl ha hne
  rw [hB] at hch
  have hBne:B≠[]:=by
   intro q
   rw [q] at hch
   unfold zV at hch
   rw [show iL s ([]:List (List UInt8))=[] by unfold iL;split<;>rfl,Ia rfl] at hch
   cases hch
  rw [if_neg (fun q=>by
   have:=(zu (hby [126] (by rw [q.1];simp) 126 (by simp))).2.2.1
   exact this rfl),if_neg (fun q=>by
   have:=(zu (hby [37] (by rw [q.1];simp) 37 (by simp))).2.2.2
   exact this rfl),show aG s p.cs=dh s p from rfl,hch,h7f]
  exact ⟨rfl,fun w hw b hb=>⟨(zu (hby w hw b hb)).1,(zu (hby w hw b hb)).2.1⟩,hBne⟩
 obtain ⟨b1,b2,b3⟩:=hbody
 obtain ⟨w1,r1,rfl⟩:∃ w r,B=w::r:=by
  cases B with
  | nil=>exact absurd rfl b3
  | cons w r=>exact ⟨w,r,rfl⟩
 have ahX:∀ bar,bar=e.bar→kR s (aG s p.cs) bar (SG::w1::r1)=some (kS s e):=fun bar hbar=>by
  subst hbar
  show (jm (yV s SG) 0 8).bind _=_
  rw [p1]
  exact b1
 have hcw:colS s p i e=jM (headW s e++(w1::r1)):=by unfold colS;rw [JH,hB]
 rw [hcw]
 have alI:aH 32 SG:=fun b hb=>(zu (t1 b hb)).1
 have hBn:∀ x∈w1::r1,aH 32 x:=fun x hx b hb=>(b2 x hx b hb).1
 have al6:∀ (W:List (List UInt8)),(∀ w∈W,∀ b∈w,b≠10)→aH 10 (jM W):=by
  intro W hW
  cases W with
  | nil=>intro b hb;cases hb
  | cons w r =>
   intro b hb
   rcases List.mem_append.1 hb with q|q
   ·exact hW w (by simp) b q
   ·obtain ⟨x,hx,hbx⟩:=List.mem_flatMap.1 q
    unfold sp at hbx
    rcases List.mem_cons.1 hbx with rfl|k
    ·decide
    ·exact hW x uQ b k
 cases hbar:e.bar with
 | true =>
  have hd:headW s e=[[124],SG]:=by unfold headW;rw [if_pos hbar,hSG]
  rw [hd]
  refine ⟨?_,al6 _ fun w hw b hb=>?_⟩
  ·unfold eY
   rw [show ([[124],SG]++(w1::r1):List (List UInt8))=[124]::(SG::w1::r1) from rfl,KD rfl _ _ (by intro b hb;rw [List.mem_singleton.1 hb];decide) (fun x hx=>by
    rcases List.mem_cons.1 hx with rfl|hx
    ·exact alI
    ·exact hBn x hx)]
   show (if ([124]:List UInt8)=[124] then _ else _)=_
   rw [if_pos rfl]
   exact ahX true hbar.symm
  ·rcases List.mem_append.1 hw with q|q
   ·rcases List.mem_cons.1 q with rfl|q
    ·rw [List.mem_singleton.1 hb];decide
    ·exact aer
   ·exact (b2 w q b hb).2
 | false =>
  have hd:headW s e=[SG]:=by unfold headW;rw [if_neg (by rw [hbar];decide),hSG]
  rw [hd]
  refine ⟨?_,al6 _ fun w hw b hb=>?_⟩
  ·unfold eY
   rw [show ([SG]++(w1::r1):List (List UInt8))=SG::(w1::r1) from rfl,KD rfl _ _ alI hBn]
   show (if SG=[124] then _ else _)=_
   rw [if_neg t2]
   exact ahX false hbar.symm
  ·rcases List.mem_append.1 hw with q|q
   ·exact aer
   ·exact (b2 w q b hb).2
structure NwX (s:Int) (L:Int→Nat) (x:NC):Prop where
 sg:jo x.v (Ar x.i) (yG x.i)=true
 sI:oM (Ar x.i) (yG x.i)=x.i
 tie:x.tie=true→x.l=[]
 F5:gU x.l
 st:∀ y∈x.l,U4 s L (gW s L y)
theorem RF {s:Int} {a b:List (List UInt8)} (h:iL s a=iL s b):a=b:=by
 grind[iL,List.reverse_inj]
theorem agS {t:List UInt8} {x:NC} (hs:1≤s∧s≤4) (hf:eY s (aG s p.cs) t=some x) (hh:∀ y∈x.l,NwH s (fun c=>ah p.evs i c) y) :
  colS s p i (bZ x fun y=>oL s (ah p.evs i y.1) y.2.2.2.2)=t∧jO s p i (bZ x fun y=>oL s (ah p.evs i y.1) y.2.2.2.2)=[]∧NwX s (fun c=>ah p.evs i c) x:=by
 obtain ⟨n6,n4⟩:aG s p.cs≤6∧(s=4→aG s p.cs=0):=by
  grind[aG]
 have vO:=OZ t
 unfold eY at hf
 obtain ⟨ws,hws⟩:∃ z,aV 32 t=z:=⟨_,rfl⟩
 rw [hws] at hf vO
 obtain ⟨bar,W,hbar,hW,hf⟩:∃ bar W,ws=(if bar=true then [[124]] else [])++W∧True∧kR s (aG s p.cs) bar W=some x:=by
  grind
 obtain ⟨sg,w1,r1,rfl⟩:∃ sg w1 r1,W=sg::w1::r1:=by
  match W,hf with
  | [],hf=>cases hf
  | [_],hf=>cases hf
  | sg::w1::r1,_=>simp
 have hf2:(jm (yV s sg) 0 8).bind (fun x=>iK s (aG s p.cs) bar x.1 x.2 (w1::r1))=some x:=hf
 obtain ⟨⟨v,k⟩,hsc,hb⟩:=Option.bind_eq_some_iff.1 hf2
 dsimp only at hb
 obtain ⟨s1,s2,s3,s4,s5⟩:=agT hsc
 obtain ⟨g1,g2⟩:=amg s1 s2 s3
 have hB:x.bar=bar∧x.v=v∧x.i=k∧(x.tie=true→x.l=[]∧s≠4)∧(x.tie=false→x.l=[]→s≠3)∧gU x.l∧(∀ y∈x.l,U4 s (fun c=>ah p.evs i c) (gW s (fun c=>ah p.evs i c) y)) ∧
   (if x.tie=true then [[126]] else if x.l=[] then [[37]] else jC s (fun c=>ah p.evs i c) (aG s p.cs) (x.l.map (gW s fun c=>ah p.evs i c)))=w1::r1:=by
  unfold iK at hb
  split at hb
  ·rename_i q
   cases hb
   exact ⟨rfl,rfl,rfl,fun _=>⟨rfl,q.2⟩,fun h=>(by cases h),List.Pairwise.nil,fun y hy=>(yN hy).elim,by simp_all⟩
  ·split at hb
   ·rename_i q
    cases hb
    exact ⟨rfl,rfl,rfl,fun h=>(by cases h),fun _ _=>q.2,List.Pairwise.nil,fun y hy=>(yN hy).elim,by rw [if_neg (fun h=>by cases h),if_pos rfl];exact q.1.symm⟩
   ·obtain ⟨l,hl,e⟩:=Option.map_eq_some_iff.1 hb
    subst e
    obtain ⟨c1,c2,c3,c4⟩:=abt (L:=fun c=>ah p.evs i c) hs n6 n4 (show lM s (aG s p.cs) (iL s (w1::r1))=some l from hl) hh (fun c=>tX p.evs i c)
    refine ⟨rfl,rfl,rfl,fun h=>(by cases h),fun _ h=>absurd h c4,c3,fun y hy=>c2 _ (List.mem_map.2 ⟨y,hy,rfl⟩),?_⟩
    show (if false=true then [[126]] else if l=[] then [[37]] else _)=_
    rw [if_neg (by decide),if_neg c4]
    rw [← DF] at c1
    exact RF c1
 obtain ⟨e1,e2,e3,e4,e5,e6,e7,e8⟩:=hB
 have hstops:(bZ x fun y=>oL s (ah p.evs i y.1) y.2.2.2.2).stops=x.l.map (gW s fun c=>ah p.evs i c):=rfl
 refine ⟨?_,?_,⟨by rw [e2,e3];exact g1,by rw [e3];exact g2,fun h=>(e4 h).1,e6,e7⟩⟩
 ·unfold colS
  rw [JH,hstops]
  have hh2:headW s (bZ x fun y=>oL s (ah p.evs i y.1) y.2.2.2.2)=(if bar=true then [[124]] else [])++[sg]:=by
   unfold headW
   show (if x.bar=true then [[124],tW x.v (oM (Ar x.i) (yG x.i))] else [tW x.v (oM (Ar x.i) (yG x.i))])=_
   rw [e1,e2,e3,g2,s5]
   cases bar<;>rfl
  have hb2:(if (bZ x fun y=>oL s (ah p.evs i y.1) y.2.2.2.2).tie=true then [[126]] else if (x.l.map (gW s fun c=>ah p.evs i c)).length=0 then [[37]] else jC s (fun c=>ah p.evs i c) (dh s p) (x.l.map (gW s fun c=>ah p.evs i c)):List (List UInt8))=w1::r1:=by
   rw [← e8]
   show (if x.tie=true then _ else _)=_
   by_cases q:x.l=[]
   ·rw [q];rfl
   ·rw [if_neg (show ¬ (x.l.map (gW s fun c=>ah p.evs i c)).length=0 by rw [dH];exact fun h=>q (kU h)),if_neg q];rfl
  rw [hh2,hb2,← vO,hbar,lD];rfl
 ·rw [xW]
  have a1:Yc s i (bZ x fun y=>oL s (ah p.evs i y.1) y.2.2.2.2).val=[]:=by
   show Yc s i (x.v:Int)=[]
   unfold Yc
   by_cases q:(x.v:Int)=0
   ·rw [if_pos q]
    have h4:s≠4:=by
     intro h
     rw [h] at s4
     unfold vV at s4
     rw [if_pos (by omega)] at s4
     simp at s4
    exact UC
   ·rw [if_neg q]
  have a2:Yd s i (bZ x fun y=>oL s (ah p.evs i y.1) y.2.2.2.2).three=[]:=by
   show Yd s i (yG x.i)=[]
   unfold Yd
   by_cases q:yG x.i=true
   ·rw [if_pos q]
    have hk:k=2:=by rw [e3] at q;unfold yG at q;simpa using q
    have h4:s≠4:=by
     intro h
     rw [h,hk] at s4
     unfold vV at s4
     rw [if_neg (by omega)] at s4
     simp at s4
    exact UC
   ·rw [if_neg q]
  have a3:Qz s i (bZ x fun y=>oL s (ah p.evs i y.1) y.2.2.2.2).tie (bZ x fun y=>oL s (ah p.evs i y.1) y.2.2.2.2).stops.length=[]:=by
   rw [hstops,dH]
   show Qz s i x.tie x.l.length=[]
   unfold Qz
   by_cases q:x.tie=true
   ·rw [if_pos q]
    have h4:=(e4 q).2
    exact UC
   ·rw [if_neg q]
    by_cases q2:x.l.length=0
    ·rw [if_pos q2]
     have h3:=e5 pF (kU q2)
     rcases DJ hs with rfl|rfl|rfl|rfl<;>first|rfl|exact absurd rfl h3
    ·rw [if_neg q2]
  rw [a1,a2,a3,hstops]
  show (x.l.map (gW s fun c=>ah p.evs i c)).flatMap (gI s i fun c=>ah p.evs i c)=[]
  rw [List.flatMap_eq_nil_iff]
  intro y hy
  obtain ⟨z,hz,rfl⟩:=List.mem_map.1 hy
  have hk:=(e7 z hz).k
  unfold stK dZ at hk
  simp only [dw] at hk
  unfold gI
  rw [hk.1.1.1,hk.1.1.2,hk.1.2,hk.2]
  rfl
end
def Si (o:Int):List UInt8:=if o<0 then [45,49]else [UInt8.ofNat (48+o.toNat)]
theorem YO {o:Int} (h:-1≤o∧o≤9):Lib.itoa o=Si o:=by
 unfold Si
 by_cases h0:o < 0
 ·rw [if_pos h0]
  obtain rfl:o=-1:=by omega
  rw [itoa_neg _ (by omega),show (0:Int) - -1=((1:Nat):Int)by omega,nZ (by omega)]
  rfl
 grind[nZ,ig]
def DC (r:Int×Int×Int):List UInt8:=cut BA r.1 (r.1+1)++ZV r.2.1++Si r.2.2
theorem YN:((List.range 128).all fun p=>fC (DC (oH (p:Int) 0)) == (oH (p:Int) 0,0) && tC (oH (p:Int) 0).1 (oH (p:Int) 0).2.1 (oH (p:Int) 0).2.2 == (p:Int) && (DC (oH (p:Int) 0)).all (fun b=>b != 32 && b != 10 && b != 47))=true:=by decide +kernel
theorem abB {p:Int} (h:0≤p∧p≤127):nmT (oH p 0).1 (oH p 0).2.1 (oH p 0).2.2=DC (oH p 0)∧fC (DC (oH p 0))=(oH p 0,0)∧tC (oH p 0).1 (oH p 0).2.1 (oH p 0).2.2=p∧∀ b∈DC (oH p 0),b≠32∧b≠10∧b≠47:=by
 have hi:=(uy (TF h).2).1
 unfold qH at hi
 obtain⟨k,rfl⟩:=dP h.1
 grind[YN,nmT,DC,YO]
theorem RY:((List.range 128).all fun n=>(ig n).all (fun b=>b != 43 && b != 58) && !(ig n).isEmpty)=true:=by decide +kernel
theorem akr {n:Nat} (h:n<128):(∀ b∈ig n,b≠43∧b≠58)∧ig n≠[]:=by
 grind[RY]
def lZ (c:Crs):List UInt8:=nmT (oH c.1 0).1 (oH c.1 0).2.1 (oH c.1 0).2.2++[47]++Lib.itoa c.2.1++(if c.2.2 then [43]else [])
theorem abw {c:Crs} (h1:0≤c.1∧c.1≤127) (h2:0≤c.2.1∧c.2.1≤18):eu (lZ c)=(c,0)∧aH 32 (lZ c)∧aH 10 (lZ c)∧lZ c≠[58]:=by
 obtain ⟨p,f,pl⟩:=c
 dsimp only at h1 h2
 obtain ⟨n1,n2,n3,n4⟩:=abB h1
 obtain ⟨k,rfl⟩:=dP h2.1
 have hd:=nZ (n:=k) aj
 have hdo:=D7 (n:=k) aj
 obtain ⟨d1,d2⟩:=akr (n:=k) aj
 obtain ⟨T,hT⟩:∃ z,DC (oH p 0)=z:=⟨_,rfl⟩
 obtain ⟨D,hD⟩:∃ z,ig k=z:=⟨_,rfl⟩
 rw [hT]at n1 n2 n4
 rw [hD]at hd hdo d1 d2
 have hw:lZ (p,(k:Int),pl)=T++47::(D++if pl then [43]else []):=by
  simp_all[lZ]
 rw [hw]
 have hpl:gZ (D++if pl then [43]else [])=(D,pl):=by
  grind[gZ]
 refine ⟨?_,fun b hb=>?_,fun b hb=>?_,?_⟩
 ·unfold eu
  rw [IB (fun b hb=>(n4 b hb).2.2)]
  simp_all
 ·rcases List.mem_append.1 hb with q|q
  ·exact (n4 b q).1
  ·rcases List.mem_cons.1 q with rfl|q
   ·decide
   ·rcases List.mem_append.1 q with q|q
    ·exact hdo.2.1 b q
    exact adQ
 ·rcases List.mem_append.1 hb with q|q
  ·exact (n4 b q).2.1
  ·rcases List.mem_cons.1 q with rfl|q
   ·decide
   ·rcases List.mem_append.1 q with q|q
    ·exact hdo.2.2.1 b q
    exact adQ
 ·intro e
  have:(47:UInt8)∈T++47::(D++if pl then [43]else []):=by simp
  rw [e]at this
  exact absurd (List.mem_singleton.1 this) (by decide)
theorem YK {st:List Int}:∀ {cs:List Crs},tH st cs=0→∀ c∈cs,(0≤c.1∧c.1≤127)∧0≤c.2.1∧c.2.1≤st.length:=by
 intro cs
 induction cs<;>grind[tH]
def qC (cs:List Crs)(st:List Int):List (List UInt8):=cs.map lZ++[58]::st.map Lib.itoa
theorem wW:∀ (cs:List Crs)(st:List Int),Gf cs st=jM (qC cs st)
 | [],st=>by
  unfold Gf qC oQ qI
  show []++[58]++(st.map Zy).flatten=[58]++ZW (st.map Lib.itoa)
  unfold ZW
  rw [List.flatMap_map,List.flatMap_def];rfl
 | c::r,st=>by
  have ih:=wW r st
  have e:Gf (c::r) st=JK c++Gf r st:=by simp[Gf,oQ]
  have e2:JK c=lZ c++[32]:=by simp[JK,lZ]
  rw [e,e2,ih,lD]
  show lZ c++([32]++jM (qC r st))=jM (lZ c::qC r st)
  cases hw:qC r st with
  | nil=>simp_all[qC]
  | cons y q=>rfl
theorem abv:∀ {a b:List (List UInt8)},(∀ w∈a,w≠[58])→jH (a++[58]::b)=some (a,b)
 | [],b,_=>by simp[jH]
 | w::r,b,h=>by
  show (if w=[58]then some ([],r++[58]::b)else (jH (r++[58]::b)).map fun x=>(w::x.1,x.2))=_
  rw [if_neg (h w (by simp)),abv (fun x hx=>h x uQ)];rfl
theorem VT:∀ {l:List (List UInt8)},(∀ w∈l,(eu w).2=0)→jZ l=0
 | [],_=>rfl
 | w::r,h=>by
  unfold jZ
  rw [if_neg (fun q=>q (h w (by simp))),VT fun x hx=>h x uQ]
theorem VU:∀ {l:List (List UInt8)},(∀ w∈l,(bT w).isSome=true)→mV l=0
 | [],_=>rfl
 | w::r,h=>by
  unfold mV
  rw [if_pos (h w (by simp)),VU fun x hx=>h x uQ]
theorem abz {cs:List Crs} {st:List Int} (h:gB cs st=0):aA (Gf cs st)=((cs,st),0)∧aH 10 (Gf cs st):=by
 obtain ⟨l1,l2,l3,l4,l5⟩:=jK h
 have hc:=YK l5
 have hst:=kE (st:=st) (last:=0) (ni 0) l4
 have hs:∀ n∈st,1≤n∧n≤127:=fun n hn=>by
  grind[fZ]
 have hcw:∀ c∈cs,eu (lZ c)=(c,0)∧aH 32 (lZ c)∧aH 10 (lZ c)∧lZ c≠[58]:=fun c hcm=>by
  grind[abw]
 have hsw:∀ n∈st,bT (Lib.itoa n)=some n.toNat∧aH 32 (Lib.itoa n)∧aH 10 (Lib.itoa n):=fun n hn=>by
  grind[D7,nZ]
 have hmem:∀ w∈qC cs st,aH 32 w∧aH 10 w:=fun w hw=>by
  unfold qC at hw
  rcases List.mem_append.1 hw with q|q
  ·grind
  ·rcases List.mem_cons.1 q with rfl|q
   ·exact ⟨fun b hb=>by simp_all,fun b hb=>by simp_all⟩
   grind
 have an7:aV 32 (Gf cs st)=qC cs st:=by
  rw [wW]
  cases hw:qC cs st with
  | nil=>unfold qC at hw;simp at hw
  | cons y q =>
   rw [hw] at hmem
   exact KD rfl q y (hmem y (by simp)).1 fun x hx=>(hmem x uQ).1
 refine ⟨?_,?_⟩
 ·have hraw:jI (Gf cs st)=((cs,st),0):=by
   unfold jI
   rw [an7]
   unfold qC
   rw [abv (fun w hw=>by
    obtain ⟨c,hcm,rfl⟩:=List.mem_map.1 hw
    exact (hcw c hcm).2.2.2)]
   dsimp only
   rw [VT (fun w hw=>by
    obtain ⟨c,hcm,rfl⟩:=List.mem_map.1 hw
    rw [(hcw c hcm).1]),VU (fun w hw=>by
    obtain ⟨n,hn,rfl⟩:=List.mem_map.1 hw
    rw [(hsw n hn).1];rfl),if_neg (fun q=>q rfl),if_neg (fun q=>q rfl),oC,oC]
   have e1:cs.map ((fun w=>(eu w).1) ∘ lZ)=cs:=by
    refine Eq.trans (qO fun c hcm=>?_) (Jf cs)
    show (eu (lZ c)).1=c
    rw [(hcw c hcm).1]
   have e2:st.map ((fun w=>(((bT w).getD 0:Nat):Int)) ∘ Lib.itoa)=st:=by
    refine Eq.trans (qO fun n hn=>?_) (Jf st)
    show (((bT (Lib.itoa n)).getD 0:Nat):Int)=n
    rw [(hsw n hn).1]
    have:=hs n hn
    show ((n.toNat:Nat):Int)=n
    omega
   rw [e1,e2]
  unfold aA
  rw [hraw]
  dsimp only
  rw [if_neg (fun q=>q rfl),if_neg (fun q=>q h)]
 ·rw [wW]
  cases hw:qC cs st with
  | nil=>intro b hb;cases hb
  | cons y q =>
   rw [hw] at hmem
   intro b hb
   rcases List.mem_append.1 hb with k|k
   ·exact (hmem y (by simp)).2 b k
   ·obtain ⟨x,hx,hbx⟩:=List.mem_flatMap.1 k
    unfold sp at hbx
    rcases List.mem_cons.1 hbx with rfl|k
    ·decide
    ·exact (hmem x uQ).2 b k
def abD(s:Int):List UInt8:=if s=1 then [102,114,101,110,99,104]else if s=2 then [105,116,97,108,105,97,110]else if s=3 then [115,112,97,110,105,115,104]else [103,101,114,109,97,110]
def l7(s:Int):List UInt8:=[116,97,98,108,97,116,117,114,101,32]++abD s
def iM (s:Int)(p:aN):List (List UInt8):=p.evs.mapIdx fun i e=>colS s p i e
def zx (s:Int)(p:aN):List UInt8:=ak 10 (l7 s::Gf p.cs p.st::iM s p) []
theorem Iu {s:Int} (hs:1≤s∧s≤4):iV (l7 s)=some s∧aH 10 (l7 s):=by
 have hb:∀ (k:Int),((l7 k).all fun b=>b != 10)=true→aH 10 (l7 k):=fun k h b hb=>by
  simp_all
 rcases DJ hs with rfl|rfl|rfl|rfl
 ·exact⟨by decide,hb 1 (by decide)⟩
 ·exact⟨by decide,hb 2 (by decide)⟩
 ·exact⟨by decide,hb 3 (by decide)⟩
 ·exact⟨by decide,hb 4 (by decide)⟩
theorem abA {l:List UInt8} {s:Int} (h:iV l=some s):l=l7 s∧1≤s∧s≤4:=by
 unfold iV at h
 split at h
 ·rename_i h0
  have hl:=(Fb 10 l).symm
  rw [h0]at hl
  split at h
  ·rename_i e
   cases h
   exact Xg
  ·split at h
   ·rename_i e
    cases h
    exact Xg
   ·split at h
    ·rename_i e
     cases h
     exact Xg
    ·split at h
     ·rename_i e
      cases h
      exact Xg
     ·cases h
 ·cases h
theorem O4 {cs:List Crs}:∀ {l:List N5},(∀ x∈l,dK cs x=0)→iO cs l=0
 | [],_=>rfl
 | x::r,h=>by
  unfold iO
  rw [if_neg (fun q=>q (h x (by simp))),O4 fun y hy=>h y qV]
theorem Ae {cs:List Crs}:∀ {l:List N5},iO cs l=0→∀ x∈l,dK cs x=0
 | [],_,x,hx=>by cases hx
 | y::r,h,x,hx=>by
  unfold iO at h
  by_cases e:dK cs y≠0
  ·omega
  ·rw [if_neg e]at h
   rcases List.mem_cons.1 hx with rfl|hx
   ·omega
   ·exact Ae h x hx
theorem Ad {cs:List Crs} {x:N5} (h1:1≤x.1):dK cs x=0↔(x.1≤cs.length∧(x.2.1:Int)≤dS cs x.1):=by
 grind[dK,dS]
section
variable {s:Int} {p:aN}
structure FZ(s:Int)(p:aN):Prop where
 e:aO p=0
 y:1≤s∧s≤4
 l:∀ i(h:i<p.evs.length),jO s p i p.evs[i]=[]
theorem Iq:∀ {l:List Stp} {m:Int},(∀ x∈l,m<x.1)→(l.Pairwise fun x y=>x.1<y.1)→F5 m l
 | [],_,_,_=>trivial
 | x::r,m,h1,h2=>⟨h1 x (by simp),Iq (List.pairwise_cons.1 h2).1 (List.pairwise_cons.1 h2).2⟩
theorem qE (h:FZ s p) {i:Nat} (hi:i<p.evs.length):(∀ x∈p.evs[i].stops,U4 s (fun c=>ah p.evs i c) x∧1≤x.1∧x.1≤p.cs.length∧x.2.1≤dS p.cs x.1)∧F5 0 p.evs[i].stops:=by
 obtain⟨q1,q2,q3,q4,q5⟩:=kM h.e hi
 have hin:=oh h.e i hi
 have hk:=akU (h.l i hi)
 refine⟨fun x hx=>?_,Iq (fun x hx=>by have:=(q4 x hx).aQ;omega) q5⟩
 obtain⟨j,hj,rfl⟩:=fZ hx
 have hb:=hin j hj
 have hq:=q4 _ hx
 exact⟨⟨hb.1,hb.2.1,hb.2.2.1,hb.2.2.2.1,⟨hq.hold.1,hq.hold.2⟩,tX _ _ _,hq.h0,hk _ hx⟩,hq.aQ.1,hq.aQ.2,hq.ajB.2⟩
theorem agQ {s:Int} {e:Ev} (h:∀ x∈e.stops,1≤x.1):jU (dJ (kS s e))=jU e:=by
 unfold jU dJ bZ kS jl
 refine Prod.ext ?_ ?_
 ·show (List.map _ (List.map _ (List.map _ _)))=_
  rw [oC,oC]
  refine qO fun x hx=>?_
  have:=h x hx
  show ((x.1.toNat:Nat):Int)=x.1
  omega
 simp
theorem VY (h:FZ s p)(i c:Int):ah ((p.evs.map (kS s)).map dJ) i c=ah p.evs i c:=by
 grind[wR,qO,fZ,agQ,qE]
theorem YI {s:Int} {h:Int} {lg:Nat} (hs:1≤s∧s≤4)(hb:0≤h∧h≤lg)(ok:qY s h lg=true):oL s lg (wV s h)=h:=by
 grind[oL,wV,qY,rH]
theorem amf (h:FZ s p) {i:Nat} (hi:i < p.evs.length):bZ (kS s p.evs[i]) (bP s (p.evs.map (kS s)) i)=p.evs[i]:=by
 obtain ⟨q1,_,_,_,_⟩:=kM h.e hi
 obtain ⟨hst,_⟩:=qE h hi
 have hL:=fun c=>VY h i c
 obtain ⟨E,hE⟩:∃ z,p.evs.map (kS s)=z:=⟨_,rfl⟩
 rw [hE] at hL ⊢
 obtain ⟨e,he⟩:∃ z,p.evs[i]=z:=⟨_,rfl⟩
 rw [he] at q1 hst ⊢
 obtain ⟨bar,v,d,t,tie,l⟩:=e
 have hv:0≤v∧(Ar (oM d t)=d∧yG (oM d t)=t):=by
  unfold jo at q1
  dsimp only at q1
  refine ⟨by grind,?_⟩
  cases d<;>cases t<;>first|exact ⟨rfl,rfl⟩|(simp at q1)
 unfold bZ kS
 dsimp only at hst ⊢
 rw [hv.2.1,hv.2.2,oC]
 have e1:((v.toNat:Nat):Int)=v:=by omega
 have e2:l.map ((fun n:N5=>((n.1:Int),(n.2.1:Int),(n.2.2.1:Int),(n.2.2.2.1:Int),bP s E i n)) ∘ yh s)=l:=by
  refine Eq.trans (qO fun x hx=>?_) (Jf l)
  obtain ⟨hx1,_⟩:=hst x hx
  have hk:=hx1.k
  unfold stK dZ at hk
  simp only [dw] at hk
  have hbv:=YI h.y hx1.h hk.2
  obtain ⟨c1,c2,c3,c4,c5,c6,c7,c8⟩:=hx1
  obtain ⟨c,f,r,g,k⟩:=x
  dsimp only at c1 c2 c3 c4 hbv
  have hh:bP s E i (yh s (c,f,r,g,k))=k:=by
   refine Eq.trans ?_ hbv
   show (if wV s k=0 then 0 else if s=1 then ((wV s k:Nat):Int) else ((ah (E.map dJ) i ((c.toNat:Nat):Int):Nat):Int))=_
   rw [hL,show ((c.toNat:Nat):Int)=c by omega]
   rfl
  grind[yh]
 rw [e1,e2]
theorem abx (h:FZ s p) {i:Nat} (hi:i<p.evs.length):∀ y∈(kS s p.evs[i]).l,nT s (p.evs.map (kS s)) i y=false:=by
 intro y hy
 obtain⟨x,hx,rfl⟩:=List.mem_map.1 hy
 obtain⟨hx1,h1,_⟩:=(qE h hi).1 x hx
 have hL:=VY h i x.1
 have hk:=hx1.k
 unfold stK dZ at hk
 simp only [dw] at hk
 obtain⟨b1,b2,b3,b4⟩:=VQ h.y hx1.h (by have:=hx1.l;omega) hk.2
 unfold nT sN
 show (decide (wV s x.2.2.2.2≠0) && (decide (((ah ((p.evs.map (kS s)).map dJ) i ((x.1.toNat:Nat):Int):Nat):Int)=0)|| (decide (s=1) && decide (((ah ((p.evs.map (kS s)).map dJ) i ((x.1.toNat:Nat):Int):Nat):Int)<((wV s x.2.2.2.2:Nat):Int)))))=false
 rw [show ((x.1.toNat:Nat):Int)=x.1 by omega,hL]
 have hh:=hx1.h
 grind[wV]
theorem fB(s:Int)(p:aN):(iM s p).length=p.evs.length:=Jg
theorem ji {i:Nat} (h:i<(iM s p).length):(iM s p)[i]=colS s p i (p.evs[i]'(by simp_all[fB])):=by
 grind[iM]
theorem oW (h:FZ s p) {i:Nat} (hi:i<p.evs.length):eY s (aG s p.cs) (colS s p i p.evs[i])=some (kS s p.evs[i])∧aH 10 (colS s p i p.evs[i]):=by
 obtain ⟨q1,_,q3,_,_⟩:=kM h.e hi
 obtain ⟨hst,ha⟩:=qE h hi
 exact agR h.y q1 (fun ht=>(q3 ht).1) (h.l i hi) (fun x hx=>(hst x hx).1) ha fun x hx=>(hst x hx).2.2.1
theorem RX (h:FZ s p) {i:Nat} (hi:i<p.evs.length):eX s p.cs i (colS s p i p.evs[i])=0:=by
 obtain ⟨q1,q2,q3,_,_⟩:=kM h.e hi
 obtain ⟨hst,ha⟩:=qE h hi
 unfold eX
 rw [(oW h hi).1]
 dsimp only
 unfold kP
 have hv:0≤p.evs[i].val:=by
  grind[jo]
 rw [if_neg (fun q=>q2 (by
  have a1:i=0:=by simpa using q.1
  have a2:p.evs[i].val.toNat=0:=q.2
  omega)),if_neg (fun q=>by
  rw [dw]at q
  have a1:i=0:=by simpa using q.1
  have:=(q3 q.2).2
  omega)]
 refine O4 fun y hy=>?_
 obtain ⟨x,hx,rfl⟩:=List.mem_map.1 hy
 obtain ⟨hx1,h1,h2,h3⟩:=hst x hx
 have hf:=hx1.f
 refine (Ad (show 1≤x.1.toNat by omega)).2 ⟨show x.1.toNat≤p.cs.length by omega,?_⟩
 show ((x.2.1.toNat:Nat):Int)≤dS p.cs ((x.1.toNat:Nat):Int)
 grind
theorem VZ (h:FZ s p):au (zx s p)=(s,p,0,0):=by
 obtain ⟨h1,h2,h3⟩:=fK h.e
 obtain ⟨i1,i2⟩:=abz h1
 obtain ⟨y1,y2⟩:=Iu h.y
 have an2:aI 10 (zx s p)=(l7 s::Gf p.cs p.st::iM s p,[]):=by
  refine o8 (fun l hl=>?_) (fun b hb=>by cases hb)
  rcases List.mem_cons.1 hl with rfl|hl
  ·exact y2
  ·rcases List.mem_cons.1 hl with rfl|hl
   ·exact i2
   ·obtain ⟨i,hi,rfl⟩:=fZ hl
    simp_all[ji,oW]
 unfold au
 rw [an2]
 show (match iV (l7 s)with|none=>fV 1 4|some s'=>pU s' [] (Gf p.cs p.st::iM s p))=_
 rw [y1]
 show pU s [] (Gf p.cs p.st::iM s p)=_
 unfold pU
 dsimp only
 rw [i1]
 dsimp only
 rw [if_neg (fun q=>q rfl),if_neg (by simp_all[fB])]
 unfold jG
 rw [oV fun i hi=>by
  simp_all[ji,RX]]
 dsimp only
 rw [if_neg (fun q=>q rfl)]
 have hE:(iM s p).map (aX s p.cs)=p.evs.map (kS s):=by
  grind[jT,dH,fB,ji,aX,oW]
 rw [hE]
 have hB:mZ s (p.evs.map (kS s))=none:=by
  grind[mZ,abx]
 rw [hB]
 dsimp only
 have hF:lN s (p.evs.map (kS s))=p.evs:=by
  grind[lN,jT,Jg,amf]
 rw [hF]
end
theorem zU {s:Int} {cs:List Crs}:∀ {L:List (List UInt8)} {k:Nat},jY s cs k L=none→∀ i (h:i<L.length),eX s cs (k+i) L[i]=0
 | t::r,k,h,i,hi=>by
  unfold jY at h
  by_cases e:eX s cs k t≠0
  ·simp_all
  ·rw [if_neg e] at h
   cases i with
   | zero=>simp_all
   | succ i =>
    have:=zU h i (by simpa using hi)
    grind
theorem H9 {s:Int} {cs:List Crs}:∀ {L:List (List UInt8)} {k:Nat} {x:Nat×Int},jY s cs k L=some x→x.2≠0
 | t::r,k,x,h=>by
  unfold jY at h
  by_cases e:eX s cs k t≠0
  ·grind
  ·rw [if_neg e]at h;exact H9 h
structure NwR (t:List UInt8)(s:Int)(l1:List UInt8)(F:List (List UInt8)):Prop where
 spl:aI 10 t=(l7 s::l1::F,[])
 y:1≤s∧s≤4
 ins:(aA l1).2=0
 len:F.length≤400
 bad:∀ i (h:i<F.length),eX s (aA l1).1.1 i F[i]=0
 hb:mZ s (F.map (aX s (aA l1).1.1))=none
 eq:au t=(s,⟨(aA l1).1.1,(aA l1).1.2,lN s (F.map (aX s (aA l1).1.1))⟩,0,0)
theorem wX {t:List UInt8} (h:(au t).2.2.2=0):∃ s l1 F,NwR t s l1 F:=by
 have e0:au t=kQ (aI 10 t).2 (aI 10 t).1:=rfl
 obtain⟨⟨F0,tl⟩,hF⟩:∃ z,aI 10 t=z:=⟨_,rfl⟩
 rw [e0,hF]at h
 rw [hF]at e0
 dsimp only at h e0
 cases F0 with
 | nil=>exact absurd h Jm
 | cons l0 F1 =>
  unfold kQ at h e0
  dsimp only at h e0
  cases hs:iV l0 with
  | none=>rw [hs]at h;exact absurd h Jm
  | some s =>
   rw [hs]at h e0
   dsimp only at h e0
   cases F1 with
   | nil=>exact absurd h Jm
   | cons l1 F =>
    unfold pU at h e0
    dsimp only at h e0
    by_cases hi:(aA l1).2≠0
    ·rw [if_pos hi]at h
     exact absurd h hi
    rw [if_neg hi]at h e0
    by_cases hm:400<F.length+(if tl=[]then 0 else 1)
    ·rw [if_pos hm]at h
     exact absurd h (by show ¬ (2:Int)=0;decide)
    rw [if_neg hm]at h e0
    unfold jG at h e0
    cases hb:jY s (aA l1).1.1 0 F with
    | some x =>
     rw [hb]at h
     exact absurd h (H9 hb)
    | none =>
     rw [hb]at h e0
     dsimp only at h e0
     by_cases ht:tl≠[]
     ·rw [if_pos ht]at h
      exact absurd h Jm
     rw [if_neg ht]at h e0
     have ht2:tl=[]:=Decidable.not_not.1 ht
     cases hh:mZ s (F.map (aX s (aA l1).1.1))with
     | some i =>
      rw [hh]at h
      exact absurd h (by show ¬ (24:Int)=0;decide)
     | none =>
      rw [hh]at e0
      obtain⟨q1,q2⟩:=abA hs
      subst q1
      subst ht2
      refine⟨s,l1,F,hF,q2,Decidable.not_not.1 hi,by simpa using hm,fun i hi=>?_,hh,e0⟩
      have:=zU hb i hi
      rw [mJ]at this
      exact this
theorem YL {s:Int} {cs:List Crs} {k:Nat} {t:List UInt8} (h:eX s cs k t=0):eY s (aG s cs) t=some (aX s cs t)∧¬ (k=0∧(aX s cs t).v=0)∧¬ (k=0∧(aX s cs t).tie=true)∧∀ y∈(aX s cs t).l,dK cs y=0:=by
 grind[eX,aX,kP,Ae]
theorem RZ {l:List UInt8} (h:(aA l).2=0):gB (aA l).1.1 (aA l).1.2=0:=by
 grind[aA]
theorem G8 {p:aN}:∀ {l:List Ev} {k:Nat},(∀ i (h:i<l.length),MX p ((k+i:Nat):Int) l[i]=0)→Bv p k l=0
 | [],_,_=>rfl
 | e::r,k,h=>by
  have h0:=h 0 (by simp)
  simp only [vY,uK] at h0
  unfold Bv
  rw [if_neg (by rw [h0];decide)]
  exact G8 fun i hi=>by
   have:=h (i+1) (by simpa using hi)
   grind
theorem Sj {p:aN} (h1:gB p.cs p.st=0)(h2:p.evs.length≤400)(h3:∀ i(h:i<p.evs.length),MX p i p.evs[i]=0):aO p=0:=by
 simp_all[aO,G8]
theorem Aw {p:aN} {i:Int}:∀ {l:List Stp} {last:Int},(l.Pairwise fun x y=>x.1<y.1)→(∀ x∈l,last<x.1)→(∀ x∈l,∀ la,la<x.1→gY p i x la=0)→iW p i last l=0
 | [],_,_,_,_=>rfl
 | x::r,last,h1,h2,h3=>by
  unfold iW
  rw [if_neg (by simp_all)]
  exact Aw (List.pairwise_cons.1 h1).2 (List.pairwise_cons.1 h1).1 fun y hy=>h3 y qV
section
variable {t:List UInt8} {s:Int} {l1:List UInt8} {F:List (List UInt8)}
noncomputable def jh (s:Int)(l1:List UInt8)(F:List (List UInt8)):aN:=⟨(aA l1).1.1,(aA l1).1.2,lN s (F.map (aX s (aA l1).1.1))⟩
theorem Rx(s:Int)(E:List NC):(lN s E).length=E.length:=Jg
theorem OY (s:Int)(E:List NC)(i c:Int):ah (lN s E) i c=ah (E.map dJ) i c:=by
 refine wR ?_ i c
 unfold lN
 apply jT
 all_goals simp[jU,dJ,bZ,jl]
theorem abp (h:NwR t s l1 F):(jh s l1 F).evs.length=F.length:=by
 show (lN s (F.map (aX s (aA l1).1.1))).length=_
 simp[Rx]
theorem yj (h:NwR t s l1 F) {i:Nat} (hi:i < (jh s l1 F).evs.length) (hF:i < F.length) :
  colS s (jh s l1 F) i (jh s l1 F).evs[i]=F[i]∧jO s (jh s l1 F) i (jh s l1 F).evs[i]=[]∧MX (jh s l1 F) i (jh s l1 F).evs[i]=0∧(jh s l1 F).evs[i].stops.length≤20:=by
 obtain ⟨e1,e2,e3,e4⟩:=YL (h.bad i hF)
 have hbn:=h.hb
 unfold mZ at hbn
 rw [EL] at hbn
 have hb:=hbn i (List.mem_range.2 (by simp_all))
 rw [bC,aB hF] at hb
 have hb2:∀ y∈(aX s (aA l1).1.1 F[i]).l,nT s (F.map (aX s (aA l1).1.1)) i y=false:=by
  simp_all
 have hlong:∀ c,ah (jh s l1 F).evs i c=ah ((F.map (aX s (aA l1).1.1)).map dJ) i c:=fun c=>OY _ _ _ _
 have hev:(jh s l1 F).evs[i]=bZ (aX s (aA l1).1.1 F[i]) fun y=>oL s (ah (jh s l1 F).evs i y.1) y.2.2.2.2:=by
  have:(jh s l1 F).evs[i]=bZ (aX s (aA l1).1.1 F[i]) (bP s (F.map (aX s (aA l1).1.1)) i):=by
   rw [List.getElem_of_eq (show (jh s l1 F).evs=(F.map (aX s (aA l1).1.1)).mapIdx fun i x=>bZ x (bP s (F.map (aX s (aA l1).1.1)) i) from rfl) hi,AL,EK]
  rw [this]
  congr 1
  funext y
  rw [hlong];rfl
 have hH:∀ y∈(aX s (aA l1).1.1 F[i]).l,NwH s (fun c=>ah (jh s l1 F).evs i c) y:=fun y hy=>by
  have:=hb2 y hy
  unfold nT sN at this
  rw [← hlong] at this
  refine ⟨fun h0=>?_,fun h1=>?_⟩
  all_goals grind
 obtain ⟨c1,c2,c3⟩:=agS (p:=jh s l1 F) (i:=(i:Int)) h.y e1 hH
 rw [← hev] at c1 c2
 refine ⟨c1,c2,?_,?_⟩
 ·-- the event is valid
  have hstops:(jh s l1 F).evs[i].stops=(aX s (aA l1).1.1 F[i]).l.map (gW s fun c=>ah (jh s l1 F).evs i c):=by rw [hev];rfl
  have hval:(jh s l1 F).evs[i].val=((aX s (aA l1).1.1 F[i]).v:Int):=by rw [hev];rfl
  have htie:(jh s l1 F).evs[i].tie=(aX s (aA l1).1.1 F[i]).tie:=by rw [hev];rfl
  have hsg:jo (jh s l1 F).evs[i].val (jh s l1 F).evs[i].dot (jh s l1 F).evs[i].three=true:=by rw [hev];exact c3.sg
  unfold MX
  rw [hstops,htie,hval] at *
  rw [if_neg (fun q=>by
   rcases q with q|q
   ·have:=hsg
    rw [q] at this;cases this
   ·exact e2 ⟨by omega,by omega⟩),if_neg (fun q=>by
   have hnil:=c3.tie q.1
   rcases q.2 with k|k
   ·rw [hnil] at k;simp at k
   ·exact e3 ⟨by omega,q.1⟩)]
  refine Aw ?_ ?_ ?_
  ·rw [List.pairwise_map]
   refine List.Pairwise.imp (fun {a b} hab=>?_) c3.F5
   show ((a.1:Nat):Int) < ((b.1:Nat):Int)
   omega
  ·intro x hx
   obtain ⟨y,hy,rfl⟩:=List.mem_map.1 hx
   have:=(c3.st y hy).c
   show 0 < (y.1:Int)
   have h2:(1:Int)≤(y.1:Int):=this.1
   omega
  ·intro x hx la hla
   obtain ⟨y,hy,rfl⟩:=List.mem_map.1 hx
   obtain ⟨d1,d2,d3,d4,d5,d6,d7,d8⟩:=c3.st y hy
   have h1:1≤y.1:=by have h2:(1:Int)≤(y.1:Int):=d1.1;omega
   obtain ⟨f1,f2⟩:=(Ad h1).1 (e4 y hy)
   have a1:(gW s (fun c=>ah (jh s l1 F).evs i c) y).1=(y.1:Int):=rfl
   have a2:(gW s (fun c=>ah (jh s l1 F).evs i c) y).2.1=(y.2.1:Int):=rfl
   have a3:(jh s l1 F).cs=(aA l1).1.1:=rfl
   refine Ei ?_ ?_ ?_ ?_ ?_
   ·rw [a1,a3];omega
   ·rw [a1,a2,a3];omega
   ·omega
   ·omega
   ·intro q
    rcases q with q|q
    ·rcases q with q|q
     ·omega
     ·omega
    ·exact d7 q.1 q.2
 ·rw [hev]
  show ((aX s (aA l1).1.1 F[i]).l.map _).length≤20
  rw [dH]
  rcases wO (a:=0) c3.F5 (fun x hx=>by
   have h2:=(c3.st x hx).c
   have h3:(1:Int)≤(x.1:Int)∧(x.1:Int)≤14:=h2
   omega) with q|q
  ·omega
  ·rw [q];simp
theorem wY (h:NwR t s l1 F):FZ s (jh s l1 F)∧fH (jh s l1 F)∧zx s (jh s l1 F)=ak 10 (l7 s::Gf (jh s l1 F).cs (jh s l1 F).st::F) []:=by
 have hl:=abp h
 have hI:=RZ h.ins
 obtain⟨i1,i2,i3,_,_⟩:=jK hI
 have hcols:iM s (jh s l1 F)=F:=by
  grind[jT,fB,ji,yj]
 refine⟨⟨Sj hI (by have:=h.len;omega) fun i hi=>(yj h hi aj).2.2.1,h.y,fun i hi=>(yj h hi aj).2.1⟩,⟨?_,?_,?_,fun k hk=>(yj h hk aj).2.2.2⟩,?_⟩
 ·show (aA l1).1.1.length≤64;omega
 ·show (aA l1).1.2.length≤64;omega
 ·have:=h.len;omega
 simp_all[zx]
end
def Hr:List UInt8:=[116,105,116,108,101,32]
def xI:List UInt8:=[101,110,100]
def fM (r:List (List UInt8)):Nat:=(r.takeWhile fun x=>!(x == xI)).length
def fP (L:List (List UInt8))(a:Nat):List UInt8:=ak 10 ((L.drop a).take (fM (L.drop a))) []
def nH (L:List (List UInt8))(a:Nat):List UInt8:=(L.getD a []).drop 6
def fO (L:List (List UInt8))(a:Nat)(b:List En):Int :=
 if ((L.getD a []).take 6 == Hr)=false then 4 else if b.length=64 then 2 else if iH (nH L a)=false∨iP b (nH L a)<b.length then 110 else 0
noncomputable def kZ (L:List (List UInt8)):Nat→Nat→List En→List En×Int×Int
 | 0,_,b=>(b,0,0)
 | k+1,a,b =>
  if L.length≤a then (b,0,0)
  else if fO L a b≠0 then ([],(a:Int)+1,fO L a b)
  else if L.length≤a+1+fM (L.drop (a+1))then ([],(L.length:Int)+1,4)
  else if (au (fP L (a+1))).2.2.2≠0 then ([],(a:Int)+1+(au (fP L (a+1))).2.2.1,(au (fP L (a+1))).2.2.2)
  else kZ L k (a+1+fM (L.drop (a+1))+1) (b++[⟨nH L a,(au (fP L (a+1))).1,(au (fP L (a+1))).2.1⟩])
theorem Vx (L:List (List UInt8)):∀ (k k' a:Nat)(b:List En),L.length≤a+k→L.length≤a+k'→kZ L k a b=kZ L k' a b:=by
 intro k
 induction k with
 | zero =>
  intro k' a b h h'
  cases k'<;>simp_all[kZ]
 | succ k ih =>
  intro k' a b h h'
  cases k'<;>grind[kZ]
noncomputable def kC (L:List (List UInt8))(a:Nat)(b:List En):List En×Int×Int:=kZ L L.length a b
theorem Rh {L:List (List UInt8)} {a:Nat} {b:List En} (h:L.length≤a):kC L a b=(b,0,0):=by
 unfold kC
 rw [Vx L L.length 1 a b (by omega) (by omega)]
 simp_all[kZ]
theorem akg {L:List (List UInt8)} {a:Nat} {b:List En} (h:a<L.length)(h1:fO L a b≠0):kC L a b=([],(a:Int)+1,fO L a b):=by
 unfold kC
 obtain⟨k,hk⟩:∃ k,L.length=k+1:=⟨L.length-1,by omega⟩
 simp_all[kZ,if_neg]
theorem agD {L:List (List UInt8)} {a:Nat} {b:List En} (h:a<L.length)(h1:fO L a b=0)(h2:L.length≤a+1+fM (L.drop (a+1))):kC L a b=([],(L.length:Int)+1,4):=by
 unfold kC
 obtain⟨k,hk⟩:∃ k,L.length=k+1:=⟨L.length-1,by omega⟩
 simp_all[kZ]
theorem akd {L:List (List UInt8)} {a:Nat} {b:List En} (h:a<L.length)(h1:fO L a b=0)(h2:¬ L.length≤a+1+fM (L.drop (a+1)))(h3:(au (fP L (a+1))).2.2.2≠0) :
  kC L a b=([],(a:Int)+1+(au (fP L (a+1))).2.2.1,(au (fP L (a+1))).2.2.2):=by
 unfold kC
 obtain⟨k,hk⟩:∃ k,L.length=k+1:=⟨L.length-1,by omega⟩
 simp_all[kZ,if_neg]
theorem ld_next {L:List (List UInt8)} {a:Nat} {b:List En} (h:a<L.length) (h1:fO L a b=0) (h2:¬ L.length≤a+1+fM (L.drop (a+1))) (h3:(au (fP L (a+1))).2.2.2=0) :
  kC L a b=kC L (a+1+fM (L.drop (a+1))+1) (b++[⟨nH L a,(au (fP L (a+1))).1,(au (fP L (a+1))).2.1⟩]):=by
 unfold kC
 obtain ⟨k,hk⟩:∃ k,L.length=k+1:=⟨L.length-1,by omega⟩
 grind[Vx,kZ]
noncomputable def bF (t:List UInt8):List En×Int×Int :=
 if (aI 10 t).2≠[]then ([],((aI 10 t).1.length:Int)+1,4)else kC (aI 10 t).1 0 []
theorem agC (r:List (List UInt8)):fM r≤r.length:=(Ez _).length_le
theorem J8:∀ {r:List (List UInt8)} {k:Nat} (h:k<fM r) (hk:k<r.length),(r[k] == xI)=false
 | [],k,h,hk=>by simp at hk
 | x::r,k,h,hk=>by
  unfold fM at h
  rw [Ey]at h
  cases hx:(x == xI)with
  | true=>simp_all
  | false =>
   rw [hx]at h
   cases k with
   | zero=>exact hx
   | succ k=>exact J8 (r:=r) (by simpa [fM]using h) sW
theorem J7:∀ {r:List (List UInt8)} (h:fM r<r.length),(r[fM r] == xI)=true
 | [],h=>by simp at h
 | x::r,h=>by
  cases hx:(x == xI)with
  | true =>
   grind[fM,Ey]
  | false =>
   have e:fM (x::r)=fM r+1:=by simp_all[fM]
   have h':fM r<r.length:=by simp_all
   have:=J7 h'
   simp_all
theorem agB {r:List (List UInt8)} {k:Nat} (hk:k≤r.length)(h1:∀ i (hi:i<k),(r[i]'(by omega) == xI)=false)(h2:∀ h:k<r.length,(r[k] == xI)=true):fM r=k:=by
 have hle:=agC r
 rcases Jb (fM r) k with h|h|h
 all_goals grind[J7,J8]
theorem J6 {l:List (List UInt8)} {k:Nat} (h:k<l.length):ak 10 (l.take (k+1)) []=ak 10 (l.take k) []++(l[k]++[10]):=by
 grind[gq,ak]
theorem tV:∀ (l:List (List UInt8))(k:Nat),(ak 10 (l.take k) []).length≤(ak 10 l []).length
 | [],k=>by simp
 | x::l,0=>by simp [ak]
 | x::l,k+1=>by
  have:=tV l k
  simp_all[aF]
theorem zT:∀ (l:List (List UInt8))(k:Nat),(ak 10 (l.drop k) []).length≤(ak 10 l []).length
 | [],k=>by simp
 | x::l,0=>by simp
 | x::l,k+1=>by
  have:=zT l k
  grind[aF]
theorem CX (t:List UInt8):(ak 10 (aI 10 t).1 []).length≤t.length:=by
 grind[iF,ak]
theorem N9 (t:List UInt8) (a:Nat):(fP (aI 10 t).1 a).length≤t.length :=
 iD (tV _ _) (iD (zT _ _) (CX t))
theorem H8 {s:Int} {cs:List Crs}:∀ {L:List (List UInt8)} {k:Nat} {x:Nat×Int},jY s cs k L=some x→k≤x.1∧x.1<k+L.length
 | [],k,x,h=>by cases h
 | t::r,k,x,h=>by
  unfold jY at h
  split at h
  ·grind
  ·have:=H8 h
   grind
theorem Yr {s:Int} {cs:List Crs} {st:List Int} {tl:List UInt8} {L:List (List UInt8)} (hL:L.length≤400):0≤(jG s cs st tl L).2.2.1∧(jG s cs st tl L).2.2.1≤403:=by
 unfold jG
 split
 ·rename_i k e hb
  have:=(H8 hb).2
  show 0≤(k:Int)+3∧(k:Int)+3≤403
  omega
 ·split
  ·show 0≤(L.length:Int)+3∧(L.length:Int)+3≤403
   omega
  ·split
   ·rename_i i hh
    have:=List.mem_of_find?_eq_some hh
    rw [List.mem_range,dH]at this
    show 0≤(i:Int)+3∧(i:Int)+3≤403
    omega
   simp
theorem YA (tl:List UInt8):∀ F:List (List UInt8),0≤(kQ tl F).2.2.1∧(kQ tl F).2.2.1≤403
 | []=>⟨by show (0:Int)≤1;omega,by show (1:Int)≤403;omega⟩
 | l0::F=>by
  unfold kQ
  dsimp only
  cases iV l0 with
  | none=>exact⟨by show (0:Int)≤1;omega,by show (1:Int)≤403;omega⟩
  | some s =>
   dsimp only
   cases F with
   | nil=>exact⟨by show (0:Int)≤2;omega,by show (2:Int)≤403;omega⟩
   | cons l L =>
    unfold pU
    dsimp only
    by_cases h1:(aA l).2≠0
    ·rw [if_pos h1];exact⟨by show (0:Int)≤2;omega,by show (2:Int)≤403;omega⟩
    ·rw [if_neg h1]
     by_cases h4:400<L.length+(if tl=[]then 0 else 1)
     ·rw [if_pos h4];exact⟨by show (0:Int)≤403;omega,by show (403:Int)≤403;omega⟩
     ·rw [if_neg h4];exact Yr (by omega)
theorem RD(t:List UInt8):0≤(au t).2.2.1∧(au t).2.2.1≤403:=YA _ _
def ldR (r:List En×Int×Int):AV:=.tu [Vb r.1,.sc (.int .i64 r.2.1),.sc (.int .i64 r.2.2)]
theorem CY {L:List (List UInt8)} {a:Nat} {b:List En} (h:fO L a b=0):b.length≠64:=fun e=>by
 unfold fO at h
 by_cases c:((L.getD a []).take 6 == Hr)=false
 ·rw [if_pos c]at h;cases h
 ·rw [if_neg c,if_pos e]at h;cases h
theorem J9 {L:List (List UInt8)} {a:Nat} {b:List En} (h:fO L a b=0):iH (nH L a)=true∧¬ iP b (nH L a)<b.length:=by
 unfold fO at h
 by_cases c:((L.getD a []).take 6 == Hr)=false
 ·rw [if_pos c]at h;cases h
 rw [if_neg c]at h
 by_cases d:b.length=64
 ·rw [if_pos d]at h;cases h
 rw [if_neg d]at h
 by_cases e:iH (nH L a)=false∨iP b (nH L a)<b.length
 ·rw [if_pos e]at h;cases h
 ·exact⟨by simpa using fun q=>e (.inl q),fun q=>e (.inr q)⟩
theorem zK {t:List UInt8} (h:iH t=true):t.length≤60:=by
 unfold iH at h
 simp only [dw,bD]at h
 exact h.1.1.1.2
theorem OQ {s:Int} {p:aN}:∀ k,k≤p.evs.length→qj s p k=ak 10 ((iM s p).take k) []
 | 0,_=>by rw [LU];rfl
 | k+1,h=>by
  have hk:k<(iM s p).length:=by rw [fB];exact h
  show qj s p k++afP s p k=_
  rw [OQ k (by omega),gq hk,JF (by omega),ji hk]
  unfold ak
  rw [Jd,mG,mG]
  simp
theorem aby {s:Int} {p:aN} (h:gB p.cs p.st=0):hdW s p=l7 s++10::(Gf p.cs p.st++[10]):=by
 unfold hdW fmA
 rw [if_pos h,show La s=abD s from rfl]
 unfold l7
 simp
theorem O7 {s:Int} {p:aN} (h:FZ s p):tq s p=0∧jB s p=[]∧ZX s p=0∧MZ s p=zx s p:=by
 obtain⟨h1,h2,h3⟩:=fK h.e
 obtain⟨a,b⟩:=mQ h.y h.e
 have hl:∀ k,k≤p.evs.length→oU s p k=[]:=by
  intro k
  induction k with
  | zero=>intro _;rfl
  | succ k ih =>
   intro hk
   rw [xY s p (by omega),ih (by omega),h.l k (by omega)];rfl
 have hR:jB s p=[]:=by rw [a];exact hl _ (Nat.le_refl _)
 obtain⟨w1,w2⟩:=Qe b hR
 refine⟨b,hR,w1,?_⟩
 rw [w2,aby h1,OQ _ (Nat.le_refl _)]
 unfold zx
 rw [aF,aF,← fB s p,fE]
 simp
theorem abC {s:Int} {p:aN} (h:tq s p=0) (h2:jB s p=[]):FZ s p:=by
 have hs:1≤s∧s≤4:=by
  by_cases k:1≤s∧s≤4
  ·exact k
  ·have:=(BO (p:=p) k).2;omega
 have h0:aO p=0:=by
  by_cases k:aO p=0
  ·exact k
  ·have:=(BP hs k).2;omega
 have hR:=(mQ hs h0).1
 exact ⟨h0,hs,fun i hi=>nP p.evs.length (Nat.le_refl _) (by rw [← hR];exact h2) i hi hi⟩
theorem OX:((List.range' 1 4).all fun s=>(List.range' 1 14).all fun c=>(List.range 19).all fun f=>decide ((rS (s:Int) (c:Int) (f:Int)).length≤4))=true:=by decide +kernel
theorem O1:((List.range' 1 4).all fun s=>((List.range 4).all fun r=>decide ((rR (s:Int) (r:Int)).length≤1)) && ((List.range 5).all fun g=>decide ((rG (s:Int) (g:Int)).length≤1)) && ((List.range 16).all fun h=>decide ((pH (s:Int) (h:Int) 15).length≤3)))=true:=by decide +kernel
theorem YJ {s aQ:Int} {w:List UInt8} {x:N5} (hsp:aC s aQ=0) (h:iY s aQ w=some x):w.length≤9:=by
 have hs:=kD hsp
 obtain ⟨a1,a2,a3,a4⟩:=qA h
 obtain ⟨a5,a6,a7⟩:=su a4
 obtain ⟨c,f,r,g,hh⟩:=x
 dsimp only at a1 a2 a5 a6 a7
 obtain ⟨l1,l2⟩:=lU s c f hs aj aj
 unfold dZ at a6
 simp only [dw] at a6
 obtain ⟨k,rfl⟩:=dP (show 0≤s by omega)
 have h1:=nC (List.all_eq_true.1 (List.all_eq_true.1 (List.all_eq_true.1 OX k (List.mem_range'_1.2 aj)) c (List.mem_range'_1.2 aj)) f (List.mem_range.2 aj))
 have h2:=List.all_eq_true.1 O1 k (List.mem_range'_1.2 aj)
 simp only [dw] at h2
 have h3:=nC (List.all_eq_true.1 h2.1.1 r (List.mem_range.2 aj))
 have h4:=nC (List.all_eq_true.1 h2.1.2 g (List.mem_range.2 aj))
 have h5:=nC (List.all_eq_true.1 h2.2 hh (List.mem_range.2 aj))
 rw [← a7]
 unfold cellS
 rw [l2 a6.1.1.1]
 simp only [bJ]
 omega
theorem OV {s:Int} {L:Int→Nat} {n:Nat} {l:List Stp} (hs:1≤s∧s≤4)(hl:∀ x∈l,U4 s L x):∀ w∈jC s L n l,w.length≤9:=by
 intro w hw
 have hst:∀ x∈l,(Ef s L x).length≤9:=fun x hx=>by
  obtain⟨h1,h2⟩:=Ir (c:=x.1) hs (hl x hx).c.1
  exact YJ h1 (VR hs (hl x hx) h1 h2)
 have hw2:w∈lY s L n l:=by rw [← DF];exact DI.2 hw
 unfold lY at hw2
 rcases List.mem_append.1 hw2 with k|k
 ·obtain⟨j,_,rfl⟩:=List.mem_map.1 k
  unfold QA
  cases hx:oN l ((j:Int)+1) with
  | none=>simp
  | some x=>exact hst x (yI hx).1
 ·obtain⟨x,hx,rfl⟩:=List.mem_map.1 k
  exact hst x (List.mem_filter.1 hx).1
theorem Dy:∀ {l:List Stp} {m:Int} {n:Int},F5 m l→n≤m→(∀ x∈l,x.1≤14)→(l.length:Int)≤14-n∨l=[]
 | [],_,_,_,_,_=>.inr rfl
 | x::r,m,n,h,hm,hb=>by
  have hx:=hb x (by simp)
  rcases Dy (n:=x.1) h.2 (ni _) (fun y hy=>hb y qV) with k|k
  ·left;simp only [bW];have:=h.1;omega
  ·subst k;left;simp only [bW,iC];have:=h.1;omega
theorem wU {n:Int}:∀ {l:List Stp} {m:Int},F5 m l→F5 (max m n) (l.filter fun x=>decide (n<x.1))
 | [],_,_=>trivial
 | x::r,m,h=>by
  by_cases e:n<x.1
  ·rw [LC (by simpa using e)]
   refine ⟨by have:=h.1;omega,?_⟩
   have:=wU (n:=n) h.2
   rw [show max x.1 n=x.1 by omega] at this
   exact this
  ·rw [Ue (by simpa using e)]
   have:=wU (n:=n) h.2
   rw [show max x.1 n=max m n by have:=h.1;omega] at this
   exact this
theorem OA {s:Int} {words:List (List UInt8)}:(iL s words).length=words.length:=by unfold iL;split<;>simp
theorem OT {s:Int} {L:Int→Nat} {n:Nat} {l:List Stp} (hn:n≤6) (ha:F5 0 l) (hb:∀ x∈l,x.1≤14):(jC s L n l).length≤14:=by
 have h1:(jC s L n l).length=(lY s L n l).length:=by rw [← DF,OA]
 rw [h1,OO]
 have h2:=wU (n:=(n:Int)) ha
 rcases Dy (n:=(n:Int)) h2 aj (fun x hx=>hb x (List.mem_filter.1 hx).1) with k|k
 ·omega
 ·rw [k];simp;omega
theorem Sr {b:Nat}:∀ {l:List (List UInt8)},(∀ w∈l,w.length≤b)→(ZW l).length≤(b+1)*l.length:=fun h=>Lc h
theorem Gq:((List.range 8).all fun v=>(List.range 3).all fun i=>decide ((tW (v:Int) i).length≤2))=true:=by decide +kernel
theorem Dz {s:Int} {p:aN} (h:FZ s p) {i:Nat} (hi:i<p.evs.length):(colS s p i p.evs[i]).length≤144:=by
 obtain ⟨q1,_,q3,_,_⟩:=kM h.e hi
 obtain ⟨hst,ha⟩:=qE h hi
 obtain ⟨e,he⟩:∃ z,p.evs[i]=z:=⟨_,rfl⟩
 rw [he] at q1 hst ha ⊢
 have hv7:0≤e.val∧e.val≤7:=by
  unfold jo at q1
  simp only [yM,dw,Je,bD] at q1
  omega
 have hsI:oM e.dot e.three<3:=by unfold oM;split;omega;split<;>omega
 have hsg:(tW e.val (oM e.dot e.three)).length≤2:=by
  obtain ⟨k,hk⟩:=dP hv7.1
  rw [hk]
  exact nC (List.all_eq_true.1 (List.all_eq_true.1 Gq k (List.mem_range.2 aj)) _ (List.mem_range.2 hsI))
 have agl:dh s p≤6:=by
  unfold dh
  split<;>omega
 have hB:(ZW (if e.tie=true then [[126]] else if e.stops.length=0 then [[37]] else jC s (fun c=>ah p.evs i c) (dh s p) e.stops:List (List UInt8))).length≤140:=by
  split
  ·simp [ZW,sp]
  ·split
   ·simp [ZW,sp]
   ·have h1:=Sr (OV (n:=dh s p) h.y fun x hx=>(hst x hx).1)
    have h2:=OT (s:=s) (L:=fun c=>ah p.evs i c) (n:=dh s p) agl ha fun x hx=>(hst x hx).1.c.2
    omega
 unfold colS
 rw [JH]
 have hj:=XW s e (if e.tie=true then [[126]] else if e.stops.length=0 then [[37]] else jC s (fun c=>ah p.evs i c) (dh s p) e.stops:List (List UInt8))
 rw [hj,bJ]
 have hh:(BR s e).length≤4:=by
  unfold BR
  rw [bJ]
  split
  ·simp;omega
  ·simp;omega
 omega
theorem uh {b:Nat}:∀ {l:List (List UInt8)},(∀ w∈l,w.length≤b)→(ak 10 l []).length≤(b+1)*l.length
 | [],_=>by simp [ak]
 | x::r,h=>by
  have h1:=h x (by simp)
  have h2:=uh (l:=r) (b:=b) fun w hw=>h w (by simp [hw])
  rw [aF,bJ,bW,bW,Nat.mul_succ]
  omega
theorem OM {s:Int} {p:aN} (h:FZ s p):(zx s p).length≤65536:=by
 obtain ⟨h1,h2,h3⟩:=fK h.e
 have hf:=JW p.cs p.st
 rw [show fmA p.cs p.st=Gf p.cs p.st from if_pos h1] at hf
 have h0:(l7 s).length≤17:=by
  unfold l7
  have:=Ee s
  rw [show La s=abD s from rfl] at this
  simp;omega
 have hc:=uh (b:=144) (l:=iM s p) fun w hw=>by
  obtain ⟨i,hi,rfl⟩:=fZ hw
  rw [ji hi]
  exact Dz h _
 rw [fB] at hc
 unfold zx
 rw [aF,aF,bJ,bW,bJ,bW]
 omega
end
end Go.Proofs.YthohlofpphjofaaGreatDoor
