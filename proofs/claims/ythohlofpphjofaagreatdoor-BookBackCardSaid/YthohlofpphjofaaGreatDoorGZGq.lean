/- A walk that knows values as trees: in a drawn region a struct with a slice of its own is put into a slice literal, and moved behind rows that own. -/
import Derived.Test.YthohlofpphjofaaGreatDoorPlEGq
import Derived.Test.YthohlofpphjofaaGreatDoorFZGq
set_option maxHeartbeats 8000000
set_option maxRecDepth 100000
set_option linter.unusedVariables false
set_option linter.unusedSimpArgs false
namespace Go.Proofs.YthohlofpphjofaaGreatDoor
section
variable {p:Prop}
theorem UZ(h:p:=by
 refine fG ?_
 refine (?_:Tr _ _ _)
 exact afj):p:=h
theorem aes(h:p:=by
 refine⟨by decide,rfl,rfl,fun h0=>?_⟩
 subst h0;cases h):p:=h
theorem MB(h:p:=by
 refine amx ?_
 exact W.ret vJ):p:=h
theorem adT(h:p:=by
 rw [oC]
 exact (qO fun t _=>rfl).trans (Jf l)):p:=h
theorem ai8(h:p:=by
 rw [e,gK] at vO
 rw [e]
 refine fG ?_
 refine WL.tr (Tr.freeze 4 rfl) ?_
 refine WL.vl rfl (bU Tryz.func111 vO) ?_
 refine fG ?_
 exact W.ret vJ):p:=h
theorem ai1(h:p:=by
 exact (mP (fun q=>bif Nat.beq q 2 then 3 else q) BK rfl)):p:=h
theorem aiV(h:p:=by
 rw [bC] at hx
 cases hq:l[j]? with
 | none=>simp [hq] at hx
 | some t =>
  rw [hq] at hx
  obtain rfl:bs t=x:=by simpa using hx
  have:=hcell j _ (by rw [bC,hq];rfl) 0 (.string (bs t)) rfl
  rw [add_flat,EZ,vY] at this
  exact this):p:=h
theorem aiR(h:p:=by
 have:=hcell 0 _ (aB (by simp;omega)) 0 (.string (bs (l[0]'(by omega)))) (by simp)
 rw [uG,vY,add_zero'] at this
 unfold World.cell? at this
 cases hs:ad.spot with
 | none=>rfl
 | some q =>
  split at this
  ·rw [hs] at this;simp at this
  ·cases this):p:=h
end
section
open Go.RowKit
structure En where
 t:List UInt8
 s:Int
 p:aN
def sJ (e:En):List AV:=[.sc (.string (bs e.t)),.sc (.int .u8 e.s),.ls 3 (e.p.cs.map aW),.ls 1 (e.p.st.map eInt),.ls 6 (e.p.evs.map iq)]
def Vb (b:List En):AV:=.ag [.ls 5 (b.map sJ)]
def JE (c:UInt8):Bool:=decide (32≤(c.toNat:Int)) && decide ((c.toNat:Int)≤126)
def iH (t:List UInt8):Bool:=decide (1≤t.length∧t.length≤60) && !(((t.getD 0 0).toNat:Int) == 32) && !(((t.getD (t.length-1) 0).toNat:Int) == 32) && t.all JE
def iP(b:List En)(t:List UInt8):Nat:=(b.takeWhile fun e=>!(e.t == t)).length
def TV(b:List En)(t:List UInt8):Int:=if iP b t<b.length then(iP b t:Int)else -1
theorem WB(b:List En)(t:List UInt8):iP b t≤b.length:=(Ez _).length_le
theorem kF {b:List En} {t:List UInt8} {k:Nat} (h:k<iP b t) (hk:k<b.length):(b[k].t == t)=false:=by
 have h1:(b.takeWhile fun e=>!(e.t == t))[k]'h∈b.takeWhile fun e=>!(e.t == t):=fA _
 have h2:(b.takeWhile fun e=>!(e.t == t))[k]'h=b[k]:=(Ud _).getElem _
 have h3:=List.all_eq_true.1 (List.all_takeWhile (p:=fun e:En=>!(e.t == t)) (l:=b)) _ h1
 rw [h2] at h3
 simpa using h3
theorem vw {b:List En} {t:List UInt8} (h:iP b t<b.length):(b[iP b t].t == t)=true:=by
 have h1:b.drop (iP b t)=b.dropWhile fun e=>!(e.t == t):=by
  have e:=List.takeWhile_append_dropWhile (p:=fun e:En=>!(e.t == t)) (l:=b)
  have:=List.drop_left (l₁:=b.takeWhile fun e=>!(e.t == t)) (l₂:=b.dropWhile fun e=>!(e.t == t))
  rw [e] at this
  exact this
 have h2:b.drop (iP b t)=b[iP b t]::b.drop (iP b t+1):=kV h
 rw [h1] at h2
 have h3:=List.head?_dropWhile_not (fun e:En=>!(e.t == t)) b
 rw [h2] at h3
 simpa [aB h] using h3
theorem Lm {b:List En} {t:List UInt8} {k:Nat} (hk:k<b.length) (h1:∀ i (hi:i<k),(b[i]'(by omega)).t≠t) (h2:b[k].t=t):iP b t=k:=by
 rcases Jb (iP b t) k with h|h|h
 ·have:=vw (b:=b) (t:=t) aj
  exact absurd (by simpa using this) (h1 _ h)
 ·exact h
 ·have:=kF h hk
  rw [h2] at this;simp at this
def wG(b:List En)(i:Nat)(e:En):Int :=
 if iH e.t=false∨iP b e.t<i then 110 else if ¬ (1≤e.s∧e.s≤4)then 30 else if aO e.p≠0 then aO e.p else if jB e.s e.p=[]then 0 else 31
def Bo (b:List En):Nat→List En→Int
 | _,[]=>0
 | i,e::r=>if wG b i e=0 then Bo b (i+1) r else wG b i e
def vN(b:List En):Int:=if 64<b.length then 2 else Bo b 0 b
theorem Ny {b:List En}:∀ {l:List En} {i:Nat},(∀ k (h:k<l.length),wG b (i+k) l[k]=0)→Bo b i l=0
 | [],_,_=>rfl
 | e::r,i,h=>by
  have h0:wG b i e=0:=h 0 (by simp)
  have e1:Bo b i (e::r)=Bo b (i+1) r:=if_pos h0
  rw [e1]
  refine Ny fun k hk=>?_
  have:=h (k+1) sW
  rw [show i+1+k=i+(k+1) by omega]
  exact this
theorem Vl {b:List En}:∀ {l:List En} {i k:Nat} (h:k<l.length),(∀ j (hj:j<k),wG b (i+j) (l[j]'(by omega))=0)→wG b (i+k) l[k]≠0→Bo b i l=wG b (i+k) l[k]
 | [],_,k,h,_,_=>by simp at h
 | e::r,i,0,h,_,h2=>if_neg h2
 | e::r,i,k+1,h,h1,h2=>by
  have h0:wG b i e=0:=h1 0 aj
  have e1:Bo b i (e::r)=Bo b (i+1) r:=if_pos h0
  have e2:i+(k+1)=i+1+k:=by omega
  rw [e1]
  simp only [LY] at h2 ⊢
  rw [e2] at h2 ⊢
  exact Vl uT (fun j hj=>by
   have:=h1 (j+1) aj
   simp only [LY] at this
   rw [show i+1+j=i+(j+1) by omega]
   exact this) h2
theorem Z9 {b:List En} (h:¬ 64<b.length)(h1:∀ k(h:k<b.length),wG b k b[k]=0):vN b=0:=by
 unfold vN
 rw [if_neg h]
 exact Ny fun k hk=>by simpa using h1 k hk
theorem ajq {b:List En} (h:¬ 64<b.length) {k:Nat} (hk:k<b.length) (h1:∀ j (hj:j<k),wG b j (b[j]'(by omega))=0) (h2:wG b k b[k]≠0):vN b=wG b k b[k]:=by
 unfold vN
 rw [if_neg h]
 have:=Vl (b:=b) (i:=0) hk (fun j hj=>by simpa using h1 j hj) Qp
 exact jy
structure Na(b:List En):Prop where
 n:b.length≤70
 p:∀ k(h:k<b.length),fH b[k].p
 t:∀ k(h:k<b.length),b[k].t.length≤1000
def eSg (e:Ev):AV:=.ag [.sc (.int .i64 e.val),.sc (.bool e.dot),.sc (.bool e.three)]
theorem Ed {v:Int} {d t:Bool} (h:jo v d t=true):0≤v∧v≤7∧oM d t≤2∧d=Ar (oM d t)∧t=yG (oM d t)∧(v=0→oM d t=0):=by
 have hv:0≤v∧v≤7:=by
  unfold jo at h
  simp only [yM,dw,Je,bD]at h
  omega
 refine⟨hv.1,hv.2,?_⟩
 cases d<;>cases t
 ·exact⟨by decide,rfl,rfl,fun _=>rfl⟩
 ·exact aes
 ·exact aes
 ·exfalso
  unfold jo at h
  by_cases h1:1≤v<;>by_cases h2:v≤7<;>simp [h1,h2]at h
theorem Qb (s:Int) (hs:1≤s∧s≤4) (e:Ev) (h:jo e.val e.dot e.three=true):Ctr Tryz.prog 110 [.sc (aU s),eSg e] (.tu [.sc (.string (bs (tW e.val (oM e.dot e.three)))),.sc (.bool (vV s e.val (oM e.dot e.three)))]):=by
 obtain ⟨h1,h2,h3,h4,h5,h6⟩:=Ed h
 obtain ⟨i,hi⟩:∃ i,oM e.dot e.three=i:=⟨_,rfl⟩
 rw [hi] at h3 h4 h5 h6 ⊢
 unfold eSg
 rw [h4,h5]
 exact Qa s hs e.val i ⟨h1,h2⟩ h3 h6
theorem Pn (p:aN) (hO:fH p) (i x:Int):Ctr Tryz.prog 95 [eF p,.sc (.int .i64 i),.sc (.int .i64 x)] (.sc (.int .i64 (ah p.evs i x))) :=
 Ctr.V3 (pre:=[]) (post:=[.sc (.int .i64 i),.sc (.int .i64 x)]) rfl rfl (fun _=>.sc _) fun w M hM=>rP M p i x w hM hO
theorem Iz (cs:List (Int×Int×Bool)) (st:List Int) (h:cs.length≤64):Ctr Tryz.prog 112 [.ag (oJ cs st)] (.sc (.int .i64 ((min cs.length 6:Nat):Int))):=by
 refine jc Tryz.func112 Tryz.ntmps112 fun w0 F0=>?_;dsimp only [St.init,number,Nat.reduceAdd]
 refine aib ?_
 refine WL.mm rfl rfl (show _=((min cs.length 6:Nat):Int) by split<;>omega) ?_
 refine aib ?_
 exact W.ret vJ
def Oa(s:Int):FuncId:=if s=1 then 317 else if s=2 then 332 else if s=3 then 340 else 347
def BM(s:Int):FuncId:=if s=1 then 319 else if s=2 then 334 else if s=3 then 342 else 349
theorem VA (s:Int) (hs:1≤s∧s≤4) (c n:Int) (hc:1≤c∧c≤14) (hn:0≤n∧n≤6):Ctr Tryz.prog (Oa s) [.ag [],.sc (.int .i64 c),.sc (.int .i64 n)] (.sc (.int .i64 (qp s c n))):=by
 rcases bI hs with rfl|rfl|rfl|rfl
 ·show Ctr Tryz.prog 317 _ _
  refine jc Tryz.func317 Tryz.ntmps317 fun w0 F0=>?_;dsimp only [St.init,number,Nat.reduceAdd]
  exact MB
 ·show Ctr Tryz.prog 332 _ _
  refine jc Tryz.func332 Tryz.ntmps332 fun w0 F0=>?_;dsimp only [St.init,number,Nat.reduceAdd]
  exact MB
 ·show Ctr Tryz.prog 340 _ _
  refine jc Tryz.func340 Tryz.ntmps340 fun w0 F0=>?_;dsimp only [St.init,number,Nat.reduceAdd]
  exact MB
 ·show Ctr Tryz.prog 347 _ _
  refine jc Tryz.func347 Tryz.ntmps347 fun w0 F0=>?_;dsimp only [St.init,number,Nat.reduceAdd]
  exact MB
theorem y5 (s:Int) (hs:1≤s∧s≤4):Ctr Tryz.prog (BM s) [.ag []] (.sc (.bool (!decide (s=2)))):=by
 rcases bI hs with rfl|rfl|rfl|rfl
 ·show Ctr Tryz.prog 319 _ _
  refine jc Tryz.func319 Tryz.ntmps319 fun w0 F0=>?_;dsimp only [St.init,number,Nat.reduceAdd]
  exact wE
 ·show Ctr Tryz.prog 334 _ _
  refine jc Tryz.func334 Tryz.ntmps334 fun w0 F0=>?_;dsimp only [St.init,number,Nat.reduceAdd]
  exact wE
 ·show Ctr Tryz.prog 342 _ _
  refine jc Tryz.func342 Tryz.ntmps342 fun w0 F0=>?_;dsimp only [St.init,number,Nat.reduceAdd]
  exact wE
 ·show Ctr Tryz.prog 349 _ _
  refine jc Tryz.func349 Tryz.ntmps349 fun w0 F0=>?_;dsimp only [St.init,number,Nat.reduceAdd]
  exact wE
def eStr (t:List UInt8):List AV:=[.sc (.string (bs t))]
theorem agx (l:List (List UInt8)) (h1:l.length≤1000) (h2:(jM l).length≤1000000):Ctr Tryz.prog 111 [.ls 1 (l.map eStr),.sc (.string (bs [32]))] (.sc (.string (bs (jM l)))):=by
 intro w F vs hF hR
 match vs,hR.1 with
 | [v,v2],_ =>
  obtain rfl:=(hR.2 1 _ v2 rfl rfl).sc_eq
  obtain ⟨A,c,rfl,hrd,hc⟩:=uo (n:=1) (f:=fun t=>[Value.string (bs t)]) hF aj (fun _=>rfl) (fun x j u h=>by
   match j with
   | 0=>cases h;rfl
   | j+1=>simp at h) (hR.2 0 _ v rfl rfl)
  have fin:∀ e w',e=Ending.returned (.string (bs (jM l)))→Below w.heap.size w w'→∃ v F',e=.returned v∧Below w.heap.size w w'∧View.le F F'∧(∀ p u,F' p=some u→w'.cell? p=some u)∧(∀ p u,F' p=some u→F p=some u∨w.heap.size≤p.block)∧RP F' (.sc (.string (bs (jM l)))) v :=
   fun e w' he hb=>⟨_,F,he,hb,fun _ _ h=>h,fun p u x=>by rw [hb.cell (cell_block (hF p u x))];exact hF p u x,fun _ _ h=>.inl h,.sc _⟩
  by_cases h0:l.length=0
  ·obtain rfl:=kU h0
   exact (strings_Join_none A c (bs [32]) w).mono fun e w' ⟨he,hw⟩=>fin e w' he (hw ▸ Below.refl _ _)
  ·obtain ⟨ad,had,hlt,hcell⟩:=hrd (by simp;omega)
   subst had
   have hsp:ad.spot=none:=by
    exact aiR
   obtain ⟨bk,off,sp⟩:=ad
   simp only at hsp hlt
   subst hsp
   have hm:(l.map bs).map (fun b=>b.data.toList)=l:=by
    exact adT
   have:=strings_Join bk off c (l.map bs) (bs [32]) w (fun j x hx=>?_) hlt (by simp;omega) (by simpa using hc) (by rw [hm,bs_data,Hq];omega)
   ·rw [hm,bs_data,Hq,dH] at this
    exact this.mono fun e w' ⟨he,hb⟩=>fin e w' he hb
   ·exact aiV
theorem XV {s:Int} {e:Ev} (h:e.bar=true):headW s e=[[124],tW e.val (oM e.dot e.three)]:=if_pos h
theorem aaH {s:Int} {e:Ev} (h:e.bar=false):headW s e=[tW e.val (oM e.dot e.three)]:=if_neg Ba
def nO (n k:Nat):List (List UInt8):=(List.range n).map fun j=>if j<k then [45]else []
theorem QW (n:Nat):(nO n 0).map eStr=List.replicate n [.sc (.string ⟨#[]⟩)]:=by
 unfold nO
 rw [oC]
 apply jT
 ·simp
 ·intro i h1 h2;simp [eStr,bs]
theorem XA(n k:Nat):(nO n k).length=n:=by simp [nO]
theorem QV (n k:Nat)(h:k<n):(nO n k).set k [45]=nO n (k+1):=by
 unfold nO
 apply jT
 ·simp
 ·intro i h1 h2
  rw [EJ]
  simp only [EK,Un]
  by_cases e:k=i
  ·rw [if_pos e,if_pos (by omega)]
  ·rw [if_neg e]
   by_cases e2:i<k
   ·rw [if_pos e2,if_pos (by omega)]
   ·rw [if_neg e2,if_neg (by omega)]
theorem Xz(s:Int)(L:Int→Nat)(n:Nat):nO n n=dV s L n []:=by
 rw [TI]
 unfold nO
 apply jT
 ·simp
 ·intro i h1 h2
  have hi:i<n:=by simpa using h1
  simp [hi]
theorem He(s:Int)(e:Ev):(headW s e).length≤2:=by unfold headW;split<;>simp
theorem IJ(s:Int)(p:aN):dh s p≤6:=by unfold dh;split<;>omega
theorem xA(s:Int)(L:Int→Nat)(n:Nat)(l:List Stp):(dV s L n l).length=n:=by simp [dV]
theorem akX (v:Int)(i:Nat)(h:0≤v∧v≤7):(tW v i).length≤2:=by
 unfold tW
 have hc:(cut Qc (v-1) v).length≤1:=by simp only [cut,jR,qK];omega
 split
 ·decide
 ·split
  ·omega
  ·split<;>simp<;>omega
theorem ahv (s:Int)(hs:1≤s∧s≤4)(L:Int→Nat)(l:List Stp)(c:Int)(h:∀ x∈l,(1≤x.1∧x.1≤14)∧(0≤x.2.1∧x.2.1≤18)):(QA s L l c).length≤12:=by
 unfold QA
 split
 ·rename_i x hx
  have:=h x (yI hx).1
  exact GL _ _ _ _ _ _ _ hs this.1 this.2
 ·simp
theorem al9 {e:Ev} (h:BL e):∀ x∈e.stops,(1≤x.1∧x.1≤14)∧(0≤x.2.1∧x.2.1≤18):=fun x hx=>by
 obtain⟨k,hk,rfl⟩:=fZ hx
 exact⟨(h k hk).1,(h k hk).2.1⟩
theorem X5 {n:Nat} (l:List (List UInt8))(h:∀ t∈l,t.length≤n):(jM l).length≤(n+1)*l.length:=by
 cases l with
 | nil=>simp [jM]
 | cons x r =>
  have h1:=Lc (l:=r) fun t ht=>h t (by simp [ht])
  have h2:=h x (by simp)
  simp only [jM,bJ,bW,Nat.mul_succ]
  omega
theorem NW (s:Int) (hs:1≤s∧s≤4) (p:aN) (i:Int) (e:Ev) (hsg:jo e.val e.dot e.three=true) (hv:BL e) (h20:e.stops.length≤20):(rD s p i e).length≤1000∧(jM (rD s p i e)).length≤1000000:=by
 have hi:=al9 hv
 have hh:=He s e
 have hst:∀ t∈dV s (fun c=>ah p.evs i c) (dh s p) e.stops,t.length≤12:=fun t ht=>by
  unfold dV at ht
  obtain ⟨j,_,rfl⟩:=List.mem_map.1 ht
  exact ahv s hs _ _ _ hi
 have hou:∀ t∈nI s (fun c=>ah p.evs i c) (dh s p) e.stops,t.length≤12:=fun t ht=>by
  have:t∈(e.stops.filter fun x=>decide (((dh s p:Nat):Int)<x.1)).map (Ef s fun c=>ah p.evs i c):=by
   unfold nI at ht
   split at ht
   ·simpa using ht
   ·exact ht
  obtain ⟨x,hx,rfl⟩:=List.mem_map.1 this
  have:=hi x (List.mem_filter.1 hx).1
  exact GL _ _ _ _ _ _ _ hs this.1 this.2
 have hlo:=DU s (fun c=>ah p.evs i c) (dh s p) e.stops
 have hls:=xA s (fun c=>ah p.evs i c) (dh s p) e.stops
 have hn6:=IJ s p
 have hall:∀ t∈rD s p i e,t.length≤12:=fun t ht=>by
  unfold rD at ht
  rcases List.mem_append.1 ht with ht|ht
  ·have htw:=akX e.val (oM e.dot e.three) ⟨(Ed hsg).1,(Ed hsg).2.1⟩
   unfold headW at ht
   split at ht
   ·simp only [E8,yN,or_false] at ht
    rcases ht with rfl|rfl
    ·simp
    ·omega
   ·simp only [E8,yN,or_false] at ht
    subst ht;omega
  ·split at ht
   ·simp at ht;subst ht;simp
   ·split at ht
    ·simp at ht;subst ht;simp
    ·split at ht
     ·rcases List.mem_append.1 ht with ht|ht
      ·exact hou t ht
      ·exact hst t ht
     ·rcases List.mem_append.1 ht with ht|ht
      ·exact hst t ht
      ·exact hou t ht
 have hlen:(rD s p i e).length≤40:=by
  unfold rD
  rw [bJ]
  split
  ·simp;omega
  ·split
   ·simp;omega
   ·split
    ·rw [bJ];omega
    ·rw [bJ];omega
 refine ⟨by omega,?_⟩
 have:=X5 _ hall
 have h2:(12+1)*(rD s p i e).length≤13*40:=Uo 13 hlen
 omega
theorem GR (s:Int) (hs:1≤s∧s≤4) (p:aN) (i:Nat) (hi:i < p.evs.length) (hO:fH p) (h0:aO p=0) :
  Ctr Tryz.prog 54 [.sc (.int .u8 s),.sc (aU s),eF p,.sc (.int .i64 i)] (.sc (.string (bs (colS s p i p.evs[i])))):=by
 have hn3:=hO.n3
 have hE:=(fK h0).2.2 i hi
 have hv:=oh h0 i hi
 have hsg:=(tK hE).1
 refine jc Tryz.func54 Tryz.ntmps54 fun w0 F0=>?_;dsimp only [St.init,number,Nat.reduceAdd]
 refine fG ?_
 refine WL.vl rfl (WV.call rfl (callF Tryz.func110 rfl rfl) rfl rfl (Qb s hs p.evs[i] hsg)) ?_
 refine fG ?_
 refine W.meet ⟨[(0,.sc (.int .u8 s)),(1,.sc (aU s)),(3,.sc (.int .i64 i)),(6,.pt 0 0 0),(9,.pt 1 0 0),(12,.sl 2)],[(0,.box 30 (eF p).cells),(1,.box 90 (iq p.evs[i])),(2,.row 9 1 ((headW s p.evs[i]).map eStr))],3⟩ ?_ ?_
 ·(refine W.cond rfl (fun hif=>?_) (fun hif=>?_)<;>(try simp only [bD,bK,dM,dN,dn,dO] at hif))
  ·rw [XV hif]
   refine fG ?_
   refine (?_:Tr _ _ _)
   exact ai1
  ·rw [aaH hif]
   exact UZ
 obtain ⟨L,hL⟩:∃ L:Int→Nat,L=fun c=>ah p.evs i c:=⟨_,rfl⟩
 have hwl:=He s p.evs[i]
 have hjl:=NW s hs p i p.evs[i] hsg hv (hO.n4 i hi)
 unfold colS at *
 obtain ⟨n,hn⟩:∃ n,dh s p=n:=⟨_,rfl⟩
 have hn6:=IJ s p
 rw [hn] at hn6
 have vO:=agx (rD s p i p.evs[i]) hjl.1 hjl.2
 have e1:p.evs[i].tie=true→rD s p i p.evs[i]=headW s p.evs[i]++[[126]]:=fun h=>by unfold rD;rw [if_pos h]
 have e2:p.evs[i].tie=false→(p.evs[i].stops.length:Int)=0→rD s p i p.evs[i]=headW s p.evs[i]++[[37]]:=fun h h1=>by unfold rD;rw [if_neg Ba,if_pos (by omega)]
 have e3:p.evs[i].tie=false→¬ (p.evs[i].stops.length:Int)=0→s=2→rD s p i p.evs[i]=headW s p.evs[i]++nI s L n p.evs[i].stops++dV s L n p.evs[i].stops:=fun h h1 h2=>by
  unfold rD;rw [if_neg Ba,if_neg (by omega),if_pos h2,hn,← hL,lD]
 have e4:p.evs[i].tie=false→¬ (p.evs[i].stops.length:Int)=0→¬ s=2→rD s p i p.evs[i]=headW s p.evs[i]++dV s L n p.evs[i].stops++nI s L n p.evs[i].stops:=fun h h1 h2=>by
  unfold rD;rw [if_neg Ba,if_neg (by omega),if_neg h2,hn,← hL,lD]
 obtain ⟨hd,hhd⟩:∃ l,headW s p.evs[i]=l:=⟨_,rfl⟩
 obtain ⟨cw,hcw⟩:∃ l,rD s p i p.evs[i]=l:=⟨_,rfl⟩
 rw [hhd] at e1 e2 e3 e4 hwl ⊢
 rw [hcw] at e1 e2 e3 e4 vO ⊢
 clear hcw hjl
 refine fG ?_
 (refine W.cond rfl (fun hif=>?_) (fun hif=>?_)<;>(try simp only [bD,bK,dM,dN,dn,dO] at hif))
 ·have e:=e1 hif
  exact ai8
 have htie:=hif
 refine fG ?_
 (refine W.cond rfl (fun hif=>?_) (fun hif=>?_)<;>(try simp only [bD,bK,dM,dN,dn,dO] at hif))
 ·have e:=e2 htie hif
  exact ai8
 have hne:=hif
 have e3:=e3 htie hne
 have e4:=e4 htie hne
 refine fG ?_
 refine W.meet ⟨[(0,.sc (.int .u8 s)),(1,.sc (aU s)),(3,.sc (.int .i64 i)),(6,.pt 0 0 0),(9,.pt 1 0 0),(12,.sl 2),(13,.sc (.int .i64 (n:Int)))],[(0,.box 30 (eF p).cells),(1,.box 90 (iq p.evs[i])),(2,.row 9 1 (hd.map eStr))],3⟩ ?_ ?_
 ·(refine W.cond rfl (fun hif=>?_) (fun hif=>?_)<;>(try simp only [bD,bK,dM,dN,dn,dO] at hif))
  ·have hsn:¬ s=4:=by simpa using hif
   have hc0:n=min p.cs.length 6:=by rw [← hn];exact if_neg hsn
   rw [hc0]
   refine fG ?_
   refine WL.vl rfl (WV.call rfl (callF Tryz.func112 rfl rfl) rfl rfl (Iz p.cs p.st hO.n1)) ?_
   exact UZ
  ·have hsn:s=4:=by simpa using hif
   have hc0:n=0:=by rw [← hn];exact if_pos hsn
   rw [hc0]
   exact UZ
 refine fG ?_
 refine WL.op rfl (WO.make1 (k:=n) rfl rfl rfl rfl rfl rfl (fun k=>by rw [EZ];exact toList_madeCells_one _ _) rfl rfl rfl rfl rfl (by omega) rfl) ?_
 refine fG ?_
 have hz:=QW n
 refine W.loop (fun k:Nat=>k≤n) (fun k=>⟨[(0,.sc (.int .u8 s)),(1,.sc (aU s)),(3,.sc (.int .i64 i)),(6,.pt 0 0 0),(9,.pt 1 0 0),(12,.sl 2),(13,.sc (.int .i64 (n:Int))),(14,.sl 3),(63,.sc (.int .i64 (n:Int))),(64,.sc (.int .i64 k))],[(0,.box 30 (eF p).cells),(1,.box 90 (iq p.evs[i])),(2,.row 9 1 (hd.map eStr)),(3,.row 9 1 ((nO n k).map eStr))],4⟩) (fun k=>n - k) 0 aj (mP (fun q=>q) (by repeat (first|exact trivial|refine ⟨⟨?_,?_,?_⟩,?_⟩|rfl|exact congrArg (fun q=>some (AO.row _ _ q)) hz.symm)) rfl) fun k hk=>?_
 refine fG ?_
 (refine W.cond rfl (fun hif=>?_) (fun hif=>?_)<;>(try simp only [bD,bK,dM,dN,dn,dO] at hif))
 ·have hk2:k < n:=by omega
  have hl:=XA n k
  have hset:((nO n k).map eStr).set k (eStr [45])=(nO n (k+1)).map eStr:=by rw [← Az,QV n k hk2]
  have hix:0≤(k:Int)∧(k:Int) < ((nO n k).map eStr).length:=⟨by omega,by simp [hl];omega⟩
  have hat:((nO n k).map eStr)[((k:Nat):Int).toNat]?=some (eStr ((nO n k)[k]' aj)):=wI aj
  refine fG ?_
  refine WL.sto rfl rfl rfl rfl hat (by exact Nat.le_refl _) ?_
  refine fG ?_
  refine ⟨k+1,by omega,by omega,?_⟩
  exact (mP (fun q=>q) ak2 rfl)
 have hkn:k=n:=by omega
 rw [hkn,Xz s L n]
 refine fG ?_
 refine W.tr (Tr.nil (t:=16) 9 1 rfl rfl) ?_
 have hasc:F5 0 p.evs[i].stops:=Z4 (tK hE).2.2.2
 refine W.loop (fun k:Nat=>k≤p.evs[i].stops.length) (fun k=>⟨[(0,.sc (.int .u8 s)),(1,.sc (aU s)),(3,.sc (.int .i64 i)),(6,.pt 0 0 0),(9,.pt 1 0 0),(12,.sl 2),(13,.sc (.int .i64 (n:Int))),(14,.sl 3),(16,.sl 4),(72,aao p.evs[i].stops),(73,.sc (.int .i64 p.evs[i].stops.length)),(74,.sc (.int .i64 k))],[(0,.box 30 (eF p).cells),(1,.box 90 (iq p.evs[i])),(2,.row 9 1 (hd.map eStr)),(3,.row 9 1 ((dV s L n (p.evs[i].stops.take k)).map eStr)),(4,.row 9 1 ((nI s L n (p.evs[i].stops.take k)).map eStr))],5⟩) (fun k=>p.evs[i].stops.length - k) 0 (by omega) (mP (fun q=>q) (by repeat (first|exact trivial|refine ⟨⟨?_,?_,?_⟩,?_⟩|rfl|exact congrArg (fun q=>some (AO.row _ _ q)) (by rw [LU];unfold nI;split<;>rfl))) rfl) fun k hk=>?_
 refine fG ?_
 (refine W.cond rfl (fun hif=>?_) (fun hif=>?_)<;>(try simp only [bD,bK,dM,dN,dn,dO] at hif))
 ·have hk2:k < p.evs[i].stops.length:=by omega
  have hb:=hv k hk2
  have hlt:=Z5 k hk2 hasc
  have htk:=gq hk2
  have hLx:(ah p.evs i p.evs[i].stops[k].1:Int)=L p.evs[i].stops[k].1:=by rw [hL]
  obtain ⟨x,hx⟩:∃ x,p.evs[i].stops[k]=x:=⟨_,rfl⟩
  obtain ⟨tk,an5⟩:∃ l,p.evs[i].stops.take k=l:=⟨_,rfl⟩
  obtain ⟨tk1,agm⟩:∃ l,p.evs[i].stops.take (k+1)=l:=⟨_,rfl⟩
  have h20:=hO.n4 i hi
  have hol:=DU s L n (p.evs[i].stops.take k)
  rw [jR] at hol
  refine fG ?_
  rw [hx] at hb hlt htk hLx ⊢
  rw [an5] at hlt htk hol ⊢
  rw [agm] at htk
  refine iT ?_
  refine yT ?_
  refine DK.vl rfl (WV.call rfl (callF Tryz.func95 rfl rfl) rfl rfl (Pn p hO i _)) ?_
  refine DK.vl rfl (WV.call rfl (callF Tryz.func87 rfl rfl) rfl rfl (afM s hs x _ hb.1 hb.2.1 hb.2.2.1 hb.2.2.2.1 hb.2.2.2.2)) ?_
  refine yT ?_
  rw [hLx]
  refine fG ?_
  (refine W.cond rfl (fun hif=>?_) (fun hif=>?_)<;>(try simp only [bD,bK,dM,dN,dn,dO] at hif))
  ·have hxn:x.1≤n:=hif
   have hs4:s≠4:=fun e=>by rw [← hn,dh,if_pos e] at hxn;omega
   have hli:1≤qp s x.1 n∧qp s x.1 n≤n:=by
    unfold qp
    rw [if_neg hs4]
    split<;>omega
   have hst:=PZ s L n tk x hs4 hlt hb.1.1 hxn
   have hou:=agV s L n tk x hxn
   rw [← htk] at hst hou
   have hsl:=xA s L n tk
   obtain ⟨lv,hlv⟩:∃ z,qp s x.1 n=z:=⟨_,rfl⟩
   rw [hlv] at hli hst
   have hix:0≤lv - 1∧lv - 1 < ((dV s L n tk).map eStr).length:=⟨by omega,by rw [dH,hsl];omega⟩
   have hat:((dV s L n tk).map eStr)[(lv - 1).toNat]?=some (eStr ((dV s L n tk)[(lv - 1).toNat]'(by omega))):=Kq (by omega) (by rw [hsl];omega)
   have hset:((dV s L n tk).map eStr).set (lv - 1).toNat (eStr (Ef s L x))=(dV s L n tk1).map eStr:=by rw [hst,Az]
   have hlf:=VA s hs x.1 n hb.1 ⟨by omega,by omega⟩
   rw [hlv] at hlf
   refine fG ?_
   refine WL.vl rfl (WV.sys hs Oa rfl rfl (fun vs w=>by kernel_rfl) (fun vs w=>by kernel_rfl) (fun vs w=>by kernel_rfl) (fun vs w=>by kernel_rfl) rfl rfl hlf) ?_
   refine fG ?_
   refine WL.sto rfl rfl rfl rfl hat (by exact Nat.le_refl _) ?_
   refine fG ?_
   refine ⟨k+1,by omega,by omega,?_⟩
   rw [agm]
   exact (mP (fun q=>q) (by repeat (first|exact trivial|refine ⟨⟨?_,?_,?_⟩,?_⟩|rfl|exact congrArg (fun q=>some (AO.row _ _ q)) hset|exact congrArg (fun q=>some (AO.row _ _ q)) (congrArg (List.map eStr) hou.symm))) rfl)
  have hxn:¬ x.1≤n:=by omega
  have hst:dV s L n tk1=dV s L n tk:=by
   rw [htk]
   unfold dV
   apply qO
   intro j hj
   rw [PX s L tk x _ hlt,if_neg]
   have hj:j < n:=by simpa using hj
   unfold cAt
   split<;>omega
  have hou:=abJ s L n tk x hxn
  rw [← htk] at hou
  have aaC:¬ s=2→(nI s L n tk).map eStr++[eStr (Ef s L x)]=(nI s L n tk1).map eStr:=fun h=>by rw [hou,if_neg h,gK];rfl
  have aaD:s=2→[eStr (Ef s L x)]++(nI s L n tk).map eStr=(nI s L n tk1).map eStr:=fun h=>by rw [hou,if_pos h];rfl
  refine fG ?_
  refine WL.vl rfl (WV.sys hs BM rfl rfl (fun vs w=>by kernel_rfl) (fun vs w=>by kernel_rfl) (fun vs w=>by kernel_rfl) (fun vs w=>by kernel_rfl) rfl rfl (y5 s hs)) ?_
  refine fG ?_
  (refine W.cond rfl (fun hif=>?_) (fun hif=>?_)<;>(try simp only [bD,bK,dM,dN,dn,dO] at hif))
  ·have hs2:s≠2:=by simpa using hif
   have aaC:=aaC hs2
   refine fG ?_
   refine ⟨k+1,by omega,by omega,?_⟩
   rw [agm]
   exact (mP (fun q=>bif Nat.beq q 4 then 7 else q) (by repeat (first|exact trivial|refine ⟨⟨?_,?_,?_⟩,?_⟩|rfl|exact congrArg (fun q=>some (AO.row _ _ q)) (congrArg (List.map eStr) hst.symm)|exact congrArg (fun q=>some (AO.row _ _ q)) aaC)) rfl)
  have hs2:s=2:=by simpa using hif
  have aaD:=aaD hs2
  refine fG ?_
  refine ⟨k+1,by omega,by omega,?_⟩
  rw [agm]
  exact (mP (fun q=>bif Nat.beq q 4 then 7 else q) (by repeat (first|exact trivial|refine ⟨⟨?_,?_,?_⟩,?_⟩|rfl|exact congrArg (fun q=>some (AO.row _ _ q)) (congrArg (List.map eStr) hst.symm)|exact congrArg (fun q=>some (AO.row _ _ q)) aaD)) rfl)
 have hke:k=p.evs[i].stops.length:=by omega
 rw [hke,fE]
 have hsl:=xA s L n p.evs[i].stops
 have hol:=DU s L n p.evs[i].stops
 have h20:=hO.n4 i hi
 refine fG ?_
 refine WL.vl rfl (WV.sys hs BM rfl rfl (fun vs w=>by kernel_rfl) (fun vs w=>by kernel_rfl) (fun vs w=>by kernel_rfl) (fun vs w=>by kernel_rfl) rfl rfl (y5 s hs)) ?_
 refine fG ?_
 (refine W.cond rfl (fun hif=>?_) (fun hif=>?_)<;>(try simp only [bD,bK,dM,dN,dn,dO] at hif))
 ·have e:=e4 (by simpa using hif)
  rw [e,gK,gK] at vO
  rw [e]
  refine fG ?_
  refine WL.tr (Tr.freeze 6 rfl) ?_
  refine WL.vl rfl (bU Tryz.func111 vO) ?_
  refine fG ?_
  exact W.ret vJ
 have e:=e3 (by simpa using hif)
 rw [e,gK,gK] at vO
 rw [e]
 refine fG ?_
 refine WL.tr (Tr.freeze 6 rfl) ?_
 refine WL.vl rfl (bU Tryz.func111 vO) ?_
 refine fG ?_
 exact W.ret vJ
section
variable {P:Program} {C:Cx} {σ σ' σ'':St} {o:Oper} {d:Tmp} {av:AV} {ops:Array Oper} {rest:List Oper} {Q:Exit→St→Prop} {mem:List Bool} {Mc McB:List (Nat×AO)} {e0 nk0 k:Nat}
theorem Tr.sub {t:List (Nat×AV)} {M M':List (Nat×AO)} {nk:Nat} (hs:msSub M' M):Tr C ⟨t,M,nk⟩ ⟨t,M',nk⟩:=fun G a w ok=>by
 have g:=msSub_at hs
 exact ⟨G,⟨ok.sz,ok.df,ok.tm,ok.bel,ok.fw,ok.f0,ok.f1,fun k o x=>ok.ob k o (g k o x),fun k o x h1 h2=>ok.my k o x (g k o h1) h2,fun k o k' o' x h1 h2=>ok.dj k o k' o' x (g k o h1) (g k' o' h2),fun k o x p u h1=>ok.dF k o x p u (g k o h1)⟩⟩
theorem WO.tr(h:WO P C o σ σ')(t:Tr C σ' σ''):WO P C o σ σ'':=fun G a w ok N Q' hN=>h G a w ok N Q' fun G' a' w' ok'=>by
 obtain⟨G2,ok2⟩:=t G' a' w' ok'
 exact hN G2 a' w' ok2
theorem DTK.bdC {T e n q T' n' j0:Nat} {z:Value} {parts:Array (Nat×Operand)} {x0:Operand} {av0:AV} {acH rows2:List (List AV)} {M':List (Nat×AO)} (hm:mem.getD k false=true) (hg:o.guard=none) (ho:o.op=.buildSlice T 1 parts) (hT:P.underlying T=some (.slice e)) (hn:sizeB P e=some n) (hz:(P.info? e).bind (·.zero)=some z)
  (hp:parts.toList=number 0 [x0]) (hb:Nat.ble (1*n) 16777216=true) (hds:o.dst=some d) (hd:Nat.blt d C.N=true) (hx:σ.ev x0=some av0) (hcB:av0.cellB=true) (hcl:av0.cells.length=n) (hc1:av0.cells.all AV.oneB=true) (hcj:av0.cells[j0]?=some (.sl q)) (hc0:pu0But j0 0 av0.cells=true)
  (hq:look q σ.M=some (.row T' n' acH)) (hqn:Nat.beq σ.nk q=false) (he:[av0.cells.set j0 (.ow T' n' acH)]=rows2) (hM:msSub M' (((σ.new (.rwo e n [av0.cells] 0 j0 (.sl q))).drop q).upd σ.nk (.rwn e n rows2)).M) (hs:msSub Mc M') (hsB:Nat.blt k e0=true→msSub McB M')
  (r:DTK P C ops mem Mc McB e0 nk0 (k+1) rest ⟨(d,.sl σ.nk)::σ.t,M',σ.nk+1⟩ Q):DTK P C ops mem Mc McB e0 nk0 k (o::rest) σ Q:=by
 have hen:ent1 o.dst true (.sl σ.nk)=[(d,.sl σ.nk)]:=by rw [hds];rfl
 refine DTK.wr (.sl σ.nk) hm (nG (uH _)) hs hsB ⟨hg,fun t H=>?_⟩ (by rw [hen];exact r)
 rw [hen]
 have hmem:x0∈o.op.operands.toList:=by
  simp_all[number,Op.operands]
 have h1:=WO.buildO (P:=P) (C:=C) (σ:=⟨t,σ.M,σ.nk⟩) ho hT hn hz hp hb hds hd ((ev_agree H hmem).trans hx) hcB hcl hc1 hcj (fun s x hs hx=>pu0But_at hc0 s x aj hx) rfl
 refine WO.tr h1 ?_
 have hlq:look q ((σ.nk,AO.rwo e n [av0.cells] 0 j0 (.sl q))::σ.M)=some (.row T' n' acH):=by
  grind[look_set_other,Nat.beq_refl]
 have h2:=Tr.close_ (C:=C) (σ:=(((⟨t,σ.M,σ.nk⟩:St).new (.rwo e n [av0.cells] 0 j0 (.sl q))).put d (.sl σ.nk))) (m:=q) (i:=0) (j:=j0) (rows:=[av0.cells]) (r:=av0.cells) (rows2:=rows2) σ.nk look_set_same hlq hqn rfl (List.getElem?_eq_some_iff.1 hcj).1 (by rw [← he];rfl)
 exact Tr.trans h2 (Tr.sub hM)
theorem DTK.apM {T e n by_ q1 q2 e2:Nat} {z:Value} {i:TypeInfo} {x y:Operand} {rows rows2 rows':List (List AV)} {M':List (Nat×AO)} (hm:mem.getD k false=true) (hg:o.guard=none) (ho:o.op=.call { callee:=.builtin .append,args:=#[x,y],argTypes:=#[T,T] }) (hT:P.underlying T=some (.slice e))
  (hi:P.info? e=some i) (hz:i.zero=some z) (hn:i.size=n) (hby:i.bytes=by_) (hzs:z.cells.size=n) (h0:Nat.blt 0 n=true) (hds:o.dst=some d) (hd:Nat.blt d C.N=true)
  (hx:σ.ev x=some (.sl q1)) (hk:look q1 σ.M=some (.rwn e n rows)) (hy:σ.ev y=some (.sl q2)) (hq:look q2 σ.M=some (.rwn e2 n rows2)) (hkq:Nat.beq q1 q2=false) (hb1:rows.length+rows2.length≤1000000000) (hb2:Nat.ble by_ 100000=true) (hrr:rows++rows2=rows')
  (hM:msSub M' (((σ.drop q1).drop q2).new (.rwn e n rows')).M) (hs:msSub Mc M') (hsB:Nat.blt k e0=true→msSub McB M')
  (r:DTK P C ops mem Mc McB e0 nk0 (k+1) rest ⟨(d,.sl σ.nk)::σ.t,M',σ.nk+1⟩ Q):DTK P C ops mem Mc McB e0 nk0 k (o::rest) σ Q:=by
 have hen:ent1 o.dst true (.sl σ.nk)=[(d,.sl σ.nk)]:=by rw [hds];rfl
 refine DTK.wr (.sl σ.nk) hm (nG (uH _)) hs hsB ⟨hg,fun t H=>?_⟩ (by rw [hen];exact r)
 rw [hen]
 have hmem:∀ q∈[x,y],q∈o.op.operands.toList:=fun q hq=>by simp_all[Op.operands,Call.operands]
 have h1:=WO.appendM (P:=P) (C:=C) (σ:=⟨t,σ.M,σ.nk⟩) ho hT hi hz hn hby hzs h0 hds hd ((ev_agree H (hmem x (by simp))).trans hx) hk ((ev_agree H (hmem y (by simp))).trans hy) hq hkq rfl hb1 hb2 hrr
 exact WO.tr h1 (Tr.sub hM)
end
end
end Go.Proofs.YthohlofpphjofaaGreatDoor
