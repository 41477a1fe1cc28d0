/- Reading of texts: slices.Reverse over strings. -/
import Derived.Test.YthehkchjdkdbiaaGreatDoorNrDKq
import Derived.Test.YthehkchjdkdbiaaGreatDoorREeKq
import Derived.Test.YthehkchjdkdbiaaGreatDoorYZKq
set_option maxHeartbeats 8000000
set_option maxRecDepth 100000
set_option linter.unusedVariables false
set_option linter.unusedSimpArgs false
namespace Go.Proofs.YthehkchjdkdbiaaGreatDoor
theorem ajB {p:Prop}(h:p:=by simp only [iw,o9];omega):p:=h
theorem Ub {p:Prop}(h:p:=by
 refine yE ?_
 exact qM):p:=h
theorem aaV {p:Prop}(h:p:=by
 refine ⟨k+1,by omega,by omega,?_⟩
 exact apb):p:=h
theorem aaU {p:Prop}(h:p:=by
 refine jc ?_
 refine (?_:Tr _ _ _)
 exact apb):p:=h
theorem arq {p:Prop}(h:p:=by
 rw [e,fC] at Ba
 rw [e]
 refine jc ?_
 refine WL.tr (Tr.freeze 4 rfl) ?_
 refine WL.vl rfl (bZ Tryz.func111 Ba) ?_
 refine jc ?_
 exact W.ret vS):p:=h
section
open Go.RowKit
theorem QU {st:List Int}:∀ {cs:List (Int×Int×Bool)},yJ st cs=0→∀ k (h:k<cs.length),(0≤cs[k].1∧cs[k].1≤127)∧0≤cs[k].2.1∧cs[k].2.1≤st.length
 | [],_,k,h=>by simp at h
 | x::r,hc,k,h=>by
  unfold yJ at hc
  split at hc
  ·cases hc
  ·split at hc
   ·cases hc
   ·cases k with
    | zero=>simp only [zM];omega
    | succ k=>simp only [Ie];exact QU hc k rP
theorem OC {cs:List (Int×Int×Bool)} {st:List Int} (h:fU cs st=0) (k:Nat):(uF (cs.take k)).length≤700:=by
 obtain ⟨h1,h2,h3,h4,h5⟩:=mF h
 have:=ET (l:=cs.take k) (f:=QW) (b:=46) fun x hx=>by
  obtain ⟨j,hj,rfl⟩:=eu (List.mem_of_mem_take hx)
  have:=QU h5 j hj
  exact agk this.1 ⟨this.2.1,by omega⟩
 have hl:(cs.take k).length≤14:=by rw [fP];omega
 have:46*(cs.take k).length≤46*14:=aaw 46 hl
 unfold uF;omega
theorem Qe {cs:List (Int×Int×Bool)} {st:List Int} (h:fU cs st=0) (k:Nat):(wP (st.take k)).length≤400:=by
 obtain ⟨h1,h2,h3,h4,h5⟩:=mF h
 have:=ET (l:=st.take k) (f:=afw) (b:=21) fun x hx=>by
  obtain ⟨j,hj,rfl⟩:=eu (List.mem_of_mem_take hx)
  have:=lF (yD 0) h4 j hj
  have:=vY (n:=st[j]) au
  unfold afw
  exact ac9
 have hl:(st.take k).length≤18:=by rw [fP];omega
 have:21*(st.take k).length≤21*18:=aaw 21 hl
 unfold wP;omega
def fmA (cs:List (Int×Int×Bool))(st:List Int):List UInt8:=if fU cs st=0 then Ug cs st else []
theorem as7 {l al o:Int} (h:jG l al o=true):nmA l al o=nmT l al o:=if_pos h
theorem aeT (cs:List (Int×Int×Bool)) (st:List Int):kJ LU Tryz.prog 52 [.ag (mX cs st)] (.tu [.sc (.string (bs (fmA cs st))),.sc (.int .i64 (fU cs st))]):=by
 refine kJ.intro LP Tryz.func52 rfl Tryz.ntmps52 (bU rfl) (gG rfl) fun w0 F0 hB=>?_;dsimp only [St.init,number,Nat.reduceAdd]
 refine awQ ?_
 refine WL.vl rfl (WV.call rfl (ak Tryz.func103 rfl rfl) rfl rfl (D5 cs st)) ?_
 by_cases h0:fU cs st=0
 rotate_left
 ·have hA:fmA cs st=[]:=if_neg h0
  rw [hA]
  refine nJ ?_
  exact qM
 have hA:fmA cs st=uF cs++[58]++wP st:=if_pos h0
 have hz:=mF h0
 obtain ⟨hz1,hz2,hz3,hz4,hz5⟩:=hz
 have hcl:=OC h0
 have hsl:=Qe h0
 rw [h0,hA]
 clear hA
 refine nJ ?_
 first|refine W.tr (Tr.xq 1 5 rfl) ?_|refine WL.tr (Tr.xq 1 5 rfl) ?_
 dsimp only [St.upd]
 refine nJ ?_
 refine W.loop (fun k:Nat=>k≤cs.length) (fun k=>⟨[(1,.pt 0 0 0),(5,.pt 1 0 0),(19,.ls 3 (cs.map aF)),(20,.sc (.int .i64 cs.length)),(21,.sc (.int .i64 k))],[(0,.box 27 (mX cs st)),(1,.xq 103 5 (uF (cs.take k)))],2⟩) (fun k=>cs.length - k) 0 au (zqt id) fun k hk=>?_
 by_cases hk2:k < cs.length
 ·have hb:=QU hz5 k hk2
  have hsp:=Z4 hb.1
  have hSp:=aij cs[k].1 0
  have hNm:=aie (yP cs[k].1 0).1 (yP cs[k].1 0).2.1 (yP cs[k].1 0).2.2
  have hnl:=abR hsp.2
  have hil:=vY (n:=cs[k].2.1) au
  have hIt:=YQ cs[k].2.1 zW
  have hrow:=Yi hk2
  have hck:=hcl k
  unfold QW at hrow
  rw [hsp.1] at hSp
  rw [(qW hsp.2).2,as7 hsp.2] at hNm
  obtain ⟨x,hx⟩:∃ x,cs[k]=x:=⟨_,rfl⟩
  refine nJ ?_
  rw [hx] at hb hSp hNm hnl hil hIt hrow hsp ⊢
  obtain ⟨sp,ayR⟩:∃ z,yP x.1 0=z:=⟨_,rfl⟩
  rw [ayR] at hSp hNm hnl hrow
  obtain ⟨nm,ayO⟩:∃ z,nmT sp.1 sp.2.1 sp.2.2=z:=⟨_,rfl⟩
  rw [ayO] at hNm hnl hrow
  obtain ⟨io,asF⟩:∃ z,Lib.itoa x.2.1=z:=⟨_,rfl⟩
  rw [asF] at hIt hil hrow
  obtain ⟨cc,hcc⟩:∃ z,uF (cs.take k)=z:=⟨_,rfl⟩
  rw [hcc] at hrow hck ⊢
  refine WL.vl rfl (WV.eH hB rfl (ak Tryz.func106 rfl rfl) rfl rfl hSp) ?_
  refine nJ ?_
  refine WL.vl rfl (WV.eH hB rfl (ak Tryz.func107 rfl rfl) rfl rfl hNm) ?_
  refine nJ ?_
  refine WL.vl rfl (WV.eH hB rfl (ak Tryz.func108 rfl rfl) rfl rfl hIt) ?_
  have NV:(nm++[47]).length≤23:=by simp only [aY,iw,o9];omega
  have az8:(nm++[47]++io).length≤43:=by rw [aY];omega
  refine nJ ?_
  refine WL.bw rfl rfl rfl (ak Tryz.func53 rfl rfl) uD au rfl ?_
  have avz:(cc++(nm++[47]++io)).length≤743:=by rw [aY];omega
  refine nJ ?_
  (refine W.cond rfl (fun hif=>?_) (fun hif=>?_)<;>(try simp only [gu,jS,kQ,kR,iy,kS] at hif))
  ·rw [hif,if_pos rfl] at hrow
   have hrow2:cc++(nm++[47]++io)++[43]++[32]=uF (cs.take (k+1)):=by rw [hrow];simp [jA]
   refine nJ ?_
   refine WL.bw rfl rfl rfl (ak Tryz.func53 rfl rfl) uD ajB rfl ?_
   refine nJ ?_
   refine WL.bw rfl rfl rfl (ak Tryz.func53 rfl rfl) uD (by simp only [aY,iw,o9] at avz ⊢;omega) hrow2 ?_
   refine nJ ?_
   exact aaV
  ·rw [hif] at hrow
   have hrow2:cc++(nm++[47]++io)++[32]=uF (cs.take (k+1)):=by rw [hrow];simp [jA]
   refine nJ ?_
   refine WL.bw rfl rfl rfl (ak Tryz.func53 rfl rfl) uD ajB hrow2 ?_
   refine nJ ?_
   exact aaV
 have hke:k=cs.length:=by omega
 have hck:=hcl cs.length
 rw [hke]
 rw [jH] at hck ⊢
 obtain ⟨cc,hcc⟩:∃ z,uF cs=z:=⟨_,rfl⟩
 rw [hcc] at hck ⊢
 refine nJ ?_
 refine WL.bw rfl rfl rfl (ak Tryz.func53 rfl rfl) uD ajB rfl ?_
 refine nJ ?_
 refine W.loop (fun j:Nat=>j≤st.length) (fun j=>⟨[(1,.pt 0 0 0),(5,.pt 1 0 0),(56,.ls 1 (st.map eInt)),(57,.sc (.int .i64 st.length)),(58,.sc (.int .i64 j))],[(0,.box 27 (mX cs st)),(1,.xq 103 5 (cc++[58]++wP (st.take j)))],2⟩) (fun j=>st.length - j) 0 au (kL (fun q=>q) (by repeat (first|exact trivial|refine ⟨⟨?_,?_,?_⟩,?_⟩|rfl|exact congrArg (fun q=>some (AO.row _ _ q)) (show cc++[58]=cc++[58]++wP (st.take 0) from (nI _).symm)|exact congrArg (fun q=>some (AO.xq _ _ q)) (show cc++[58]=cc++[58]++wP (st.take 0) from (nI _).symm))) rfl) fun j hj=>?_
 by_cases hj2:j < st.length
 ·have hb:=lF (yD 0) hz4 j hj2
  have hil:=vY (n:=st[j]) au
  have hIt:=YQ st[j] zW
  have hsj:=hsl j
  have hrow:=Z8 hj2
  unfold afw at hrow
  obtain ⟨x,hx⟩:∃ x,st[j]=x:=⟨_,rfl⟩
  refine nJ ?_
  rw [hx] at hb hil hIt hrow ⊢
  obtain ⟨io,asF⟩:∃ z,Lib.itoa x=z:=⟨_,rfl⟩
  rw [asF] at hIt hil hrow
  have hrow2:cc++[58]++wP (st.take j)++([32]++io)=cc++[58]++wP (st.take (j+1)):=by rw [hrow];simp [jA]
  refine WL.vl rfl (WV.eH hB rfl (ak Tryz.func108 rfl rfl) rfl rfl hIt) ?_
  refine nJ ?_
  refine WL.bw rfl rfl rfl (ak Tryz.func53 rfl rfl) uD (by simp only [aY,iw,o9];omega) hrow2 ?_
  refine nJ ?_
  refine ⟨j+1,by omega,by omega,?_⟩
  exact apb
 have hje:j=st.length:=by omega
 rw [hje,jH]
 refine nJ ?_
 refine WL.bs rfl rfl rfl (ak Tryz.func55 rfl rfl) aa4 (by simp) ?_
 refine nJ ?_
 exact qM
theorem ad3 {s:Int} {e:Ev} (h:e.bar=true):headW s e=[[124],tW e.val (sH e.dot e.three)]:=if_pos h
theorem agX {s:Int} {e:Ev} (h:e.bar=false):headW s e=[tW e.val (sH e.dot e.three)]:=if_neg EC
def sO (n k:Nat):List (List UInt8):=(List.range n).map fun j=>if j<k then [45]else []
theorem Yr (n:Nat):(sO n 0).map eStr=List.replicate n [.sc (.string ⟨#[]⟩)]:=by
 unfold sO
 rw [oO]
 apply fZ
 ·simp
 ·intro i h1 h2;simp [eStr,bs]
theorem adI(n k:Nat):(sO n k).length=n:=by simp [sO]
theorem Yq (n k:Nat)(h:k<n):(sO n k).set k [45]=sO n (k+1):=by
 unfold sO
 apply fZ
 ·simp
 ·intro i h1 h2
  rw [Eu]
  simp only [iZ,TB]
  by_cases e:k=i
  ·rw [if_pos e,if_pos (by omega)]
  ·rw [if_neg e]
   by_cases e2:i<k
   ·rw [if_pos e2,if_pos (by omega)]
   ·rw [if_neg e2,if_neg (by omega)]
theorem adH(s:Int)(L:Int→Nat)(n:Nat):sO n n=gJ s L n []:=by
 rw [Z5]
 unfold sO
 apply fZ
 ·simp
 ·intro i h1 h2
  have hi:i<n:=by simpa using h1
  simp [hi]
theorem OO(s:Int)(e:Ev):(headW s e).length≤2:=by unfold headW;split<;>simp
theorem Qb(s:Int)(p:aS):fA s p≤6:=by unfold fA;split<;>omega
theorem CV(s:Int)(L:Int→Nat)(n:Nat)(l:List Stp):(gJ s L n l).length=n:=by simp [gJ]
theorem atX (v:Int)(i:Nat)(h:0≤v∧v≤7):(tW v i).length≤2:=by
 unfold tW
 have hc:(cut Xk (v-1) v).length≤1:=by simp only [cut,fP,yB];omega
 split
 ·decide
 ·split
  ·omega
  ·split<;>simp<;>omega
theorem aoU (s:Int)(hs:1≤s∧s≤4)(L:Int→Nat)(l:List Stp)(c:Int)(h:∀ x∈l,(1≤x.1∧x.1≤14)∧(0≤x.2.1∧x.2.1≤18)):(Uj s L l c).length≤12:=by
 unfold Uj
 split
 ·rename_i x hx
  have:=h x (Eh hx).1
  exact Oy _ _ _ _ _ _ _ hs this.1 this.2
 ·simp
theorem avZ {e:Ev} (h:IJ e):∀ x∈e.stops,(1≤x.1∧x.1≤14)∧(0≤x.2.1∧x.2.1≤18):=fun x hx=>by
 obtain⟨k,hk,rfl⟩:=eu hx
 exact⟨(h k hk).1,(h k hk).2.1⟩
theorem ad9 {n:Nat} (l:List (List UInt8))(h:∀ t∈l,t.length≤n):(lU l).length≤(n+1)*l.length:=by
 cases l with
 | nil=>simp [lU]
 | cons x r =>
  have h1:=SL (l:=r) fun t ht=>h t (by simp [ht])
  have h2:=h x (by simp)
  simp only [lU,aY,iw,Nat.mul_succ]
  omega
theorem Vb (s:Int) (hs:1≤s∧s≤4) (p:aS) (i:Int) (e:Ev) (hsg:gZ e.val e.dot e.three=true) (hv:IJ e) (h20:e.stops.length≤20):(xw s p i e).length≤1000∧(lU (xw s p i e)).length≤1000000:=by
 have hi:=avZ hv
 have hh:=OO s e
 have hst:∀ t∈gJ s (fun c=>ah p.evs i c) (fA s p) e.stops,t.length≤12:=fun t ht=>by
  unfold gJ at ht
  obtain ⟨j,_,rfl⟩:=List.mem_map.1 ht
  exact aoU s hs _ _ _ hi
 have hou:∀ t∈rX s (fun c=>ah p.evs i c) (fA s p) e.stops,t.length≤12:=fun t ht=>by
  have:t∈(e.stops.filter fun x=>decide (((fA s p:Nat):Int)<x.1)).map (FX s fun c=>ah p.evs i c):=by
   unfold rX at ht
   split at ht
   ·simpa using ht
   ·exact ht
  obtain ⟨x,hx,rfl⟩:=List.mem_map.1 this
  have:=hi x (List.mem_filter.1 hx).1
  exact Oy _ _ _ _ _ _ _ hs this.1 this.2
 have hlo:=Kz s (fun c=>ah p.evs i c) (fA s p) e.stops
 have hls:=CV s (fun c=>ah p.evs i c) (fA s p) e.stops
 have hn6:=Qb s p
 have hall:∀ t∈xw s p i e,t.length≤12:=fun t ht=>by
  unfold xw at ht
  rcases List.mem_append.1 ht with ht|ht
  ·have htw:=atX e.val (sH e.dot e.three) ⟨(LD hsg).1,(LD hsg).2.1⟩
   unfold headW at ht
   split at ht
   ·simp only [Et,BF,or_false] at ht
    rcases ht with rfl|rfl
    ·simp
    ·omega
   ·simp only [Et,BF,or_false] at ht
    subst ht;omega
  ·split at ht
   ·simp at ht;subst ht;simp
   ·split at ht
    ·simp at ht;subst ht;simp
    ·split at ht
     ·rcases List.mem_append.1 ht with ht|ht
      ·exact hou t ht
      ·exact hst t ht
     ·rcases List.mem_append.1 ht with ht|ht
      ·exact hst t ht
      ·exact hou t ht
 have hlen:(xw s p i e).length≤40:=by
  unfold xw
  rw [aY]
  split
  ·simp;omega
  ·split
   ·simp;omega
   ·split
    ·rw [aY];omega
    ·rw [aY];omega
 refine ⟨by omega,?_⟩
 have:=ad9 _ hall
 have h2:(12+1)*(xw s p i e).length≤13*40:=aaw 13 hlen
 omega
theorem ady (s:Int) (hs:1≤s∧s≤4) (p:aS) (i:Nat) (hi:i < p.evs.length) (hO:jm p) (h0:aV p=0) :
  aU Tryz.prog 54 [.sc (.int .u8 s),.sc (bG s),bK p,.sc (.int .i64 i)] (.sc (.string (bs (colS s p i p.evs[i])))):=by
 have hn3:=hO.n3
 have hE:=(dY h0).2.2 i hi
 have hv:=lG h0 i hi
 have hsg:=(qp hE).1
 refine jl Tryz.func54 Tryz.ntmps54 fun w0 F0=>?_;dsimp only [St.init,number,Nat.reduceAdd]
 refine jc ?_
 refine WL.vl rfl (WV.call rfl (ak Tryz.func110 rfl rfl) rfl rfl (Xj s hs p.evs[i] hsg)) ?_
 refine jc ?_
 refine W.meet ⟨[(0,.sc (.int .u8 s)),(1,.sc (bG s)),(3,.sc (.int .i64 i)),(6,.pt 0 0 0),(9,.pt 1 0 0),(12,.sl 2)],[(0,.box 30 (bK p).cells),(1,.box 90 (dI p.evs[i])),(2,.row 9 1 ((headW s p.evs[i]).map eStr))],3⟩ ?_ ?_
 ·(refine W.cond rfl (fun hif=>?_) (fun hif=>?_)<;>(try simp only [gu,jS,kQ,kR,iy,kS] at hif))
  ·rw [ad3 hif]
   refine jc ?_
   refine (?_:Tr _ _ _)
   exact (kL (fun q=>bif Nat.beq q 2 then 3 else q) qc rfl)
  ·rw [agX hif]
   exact aaU
 obtain ⟨L,hL⟩:∃ L:Int→Nat,L=fun c=>ah p.evs i c:=⟨_,rfl⟩
 have hwl:=OO s p.evs[i]
 have hjl:=Vb s hs p i p.evs[i] hsg hv (hO.n4 i hi)
 unfold colS at *
 obtain ⟨n,hn⟩:∃ n,fA s p=n:=⟨_,rfl⟩
 have hn6:=Qb s p
 rw [hn] at hn6
 have Ba:=anL (xw s p i p.evs[i]) hjl.1 hjl.2
 have e1:p.evs[i].tie=true→xw s p i p.evs[i]=headW s p.evs[i]++[[126]]:=fun h=>by unfold xw;rw [if_pos h]
 have e2:p.evs[i].tie=false→(p.evs[i].stops.length:Int)=0→xw s p i p.evs[i]=headW s p.evs[i]++[[37]]:=fun h h1=>by unfold xw;rw [if_neg EC,if_pos (by omega)]
 have e3:p.evs[i].tie=false→¬ (p.evs[i].stops.length:Int)=0→s=2→xw s p i p.evs[i]=headW s p.evs[i]++rX s L n p.evs[i].stops++gJ s L n p.evs[i].stops:=fun h h1 h2=>by
  unfold xw;rw [if_neg EC,if_neg (by omega),if_pos h2,hn,← hL,jA]
 have e4:p.evs[i].tie=false→¬ (p.evs[i].stops.length:Int)=0→¬ s=2→xw s p i p.evs[i]=headW s p.evs[i]++gJ s L n p.evs[i].stops++rX s L n p.evs[i].stops:=fun h h1 h2=>by
  unfold xw;rw [if_neg EC,if_neg (by omega),if_neg h2,hn,← hL,jA]
 obtain ⟨hd,hhd⟩:∃ l,headW s p.evs[i]=l:=⟨_,rfl⟩
 obtain ⟨cw,hcw⟩:∃ l,xw s p i p.evs[i]=l:=⟨_,rfl⟩
 rw [hhd] at e1 e2 e3 e4 hwl ⊢
 rw [hcw] at e1 e2 e3 e4 Ba ⊢
 clear hcw hjl
 refine jc ?_
 (refine W.cond rfl (fun hif=>?_) (fun hif=>?_)<;>(try simp only [gu,jS,kQ,kR,iy,kS] at hif))
 ·have e:=e1 hif
  exact arq
 have htie:=hif
 refine jc ?_
 (refine W.cond rfl (fun hif=>?_) (fun hif=>?_)<;>(try simp only [gu,jS,kQ,kR,iy,kS] at hif))
 ·have e:=e2 htie hif
  exact arq
 have hne:=hif
 have e3:=e3 htie hne
 have e4:=e4 htie hne
 refine jc ?_
 refine W.meet ⟨[(0,.sc (.int .u8 s)),(1,.sc (bG s)),(3,.sc (.int .i64 i)),(6,.pt 0 0 0),(9,.pt 1 0 0),(12,.sl 2),(13,.sc (.int .i64 (n:Int)))],[(0,.box 30 (bK p).cells),(1,.box 90 (dI p.evs[i])),(2,.row 9 1 (hd.map eStr))],3⟩ ?_ ?_
 ·(refine W.cond rfl (fun hif=>?_) (fun hif=>?_)<;>(try simp only [gu,jS,kQ,kR,iy,kS] at hif))
  ·have hsn:¬ s=4:=by simpa using hif
   have hc0:n=min p.cs.length 6:=by rw [← hn];exact if_neg hsn
   rw [hc0]
   refine jc ?_
   refine WL.vl rfl (WV.call rfl (ak Tryz.func112 rfl rfl) rfl rfl (PV p.cs p.st hO.n1)) ?_
   exact aaU
  ·have hsn:s=4:=by simpa using hif
   have hc0:n=0:=by rw [← hn];exact if_pos hsn
   rw [hc0]
   exact aaU
 refine jc ?_
 refine WL.op rfl (WO.av8 (k:=n) rfl rfl rfl rfl rfl rfl (fun k=>by rw [Nat.mul_one];exact toList_madeCells_one _ _) rfl rfl rfl rfl rfl (by omega) rfl) ?_
 refine jc ?_
 have hz:=Yr n
 refine W.loop (fun k:Nat=>k≤n) (fun k=>⟨[(0,.sc (.int .u8 s)),(1,.sc (bG s)),(3,.sc (.int .i64 i)),(6,.pt 0 0 0),(9,.pt 1 0 0),(12,.sl 2),(13,.sc (.int .i64 (n:Int))),(14,.sl 3),(63,.sc (.int .i64 (n:Int))),(64,.sc (.int .i64 k))],[(0,.box 30 (bK p).cells),(1,.box 90 (dI p.evs[i])),(2,.row 9 1 (hd.map eStr)),(3,.row 9 1 ((sO n k).map eStr))],4⟩) (fun k=>n - k) 0 au (kL (fun q=>q) (by repeat (first|exact trivial|refine ⟨⟨?_,?_,?_⟩,?_⟩|rfl|exact congrArg (fun q=>some (AO.row _ _ q)) hz.symm)) rfl) fun k hk=>?_
 refine jc ?_
 (refine W.cond rfl (fun hif=>?_) (fun hif=>?_)<;>(try simp only [gu,jS,kQ,kR,iy,kS] at hif))
 ·have hk2:k < n:=by omega
  have hl:=adI n k
  have hset:((sO n k).map eStr).set k (eStr [45])=(sO n (k+1)).map eStr:=by rw [← wX,Yq n k hk2]
  have hix:0≤(k:Int)∧(k:Int) < ((sO n k).map eStr).length:=⟨by omega,by simp [hl];omega⟩
  have hat:((sO n k).map eStr)[((k:Nat):Int).toNat]?=some (eStr ((sO n k)[k]' au)):=y7 au
  refine jc ?_
  refine WL.yT rfl rfl rfl rfl hat (by exact bJ _) ?_
  refine jc ?_
  refine ⟨k+1,by omega,by omega,?_⟩
  exact (kL (fun q=>q) (by repeat (first|exact trivial|refine ⟨⟨?_,?_,?_⟩,?_⟩|rfl|exact congrArg (fun q=>some (AO.row _ _ q)) hset)) rfl)
 have hkn:k=n:=by omega
 rw [hkn,adH s L n]
 refine jc ?_
 refine W.tr (Tr.nil (t:=16) 9 1 rfl rfl) ?_
 have hasc:EK 0 p.evs[i].stops:=afY (qp hE).2.2.2
 refine W.loop (fun k:Nat=>k≤p.evs[i].stops.length) (fun k=>⟨[(0,.sc (.int .u8 s)),(1,.sc (bG s)),(3,.sc (.int .i64 i)),(6,.pt 0 0 0),(9,.pt 1 0 0),(12,.sl 2),(13,.sc (.int .i64 (n:Int))),(14,.sl 3),(16,.sl 4),(72,abf p.evs[i].stops),(73,.sc (.int .i64 p.evs[i].stops.length)),(74,.sc (.int .i64 k))],[(0,.box 30 (bK p).cells),(1,.box 90 (dI p.evs[i])),(2,.row 9 1 (hd.map eStr)),(3,.row 9 1 ((gJ s L n (p.evs[i].stops.take k)).map eStr)),(4,.row 9 1 ((rX s L n (p.evs[i].stops.take k)).map eStr))],5⟩) (fun k=>p.evs[i].stops.length - k) 0 (by omega) (kL (fun q=>q) (by repeat (first|exact trivial|refine ⟨⟨?_,?_,?_⟩,?_⟩|rfl|exact congrArg (fun q=>some (AO.row _ _ q)) (by rw [List.take_zero];unfold rX;split<;>rfl))) rfl) fun k hk=>?_
 refine jc ?_
 (refine W.cond rfl (fun hif=>?_) (fun hif=>?_)<;>(try simp only [gu,jS,kQ,kR,iy,kS] at hif))
 ·have hk2:k < p.evs[i].stops.length:=by omega
  have hb:=hv k hk2
  have hlt:=afZ k hk2 hasc
  have htk:=mJ hk2
  have hLx:(ah p.evs i p.evs[i].stops[k].1:Int)=L p.evs[i].stops[k].1:=by rw [hL]
  obtain ⟨x,hx⟩:∃ x,p.evs[i].stops[k]=x:=⟨_,rfl⟩
  obtain ⟨tk,ayU⟩:∃ l,p.evs[i].stops.take k=l:=⟨_,rfl⟩
  obtain ⟨tk1,anx⟩:∃ l,p.evs[i].stops.take (k+1)=l:=⟨_,rfl⟩
  have h20:=hO.n4 i hi
  have hol:=Kz s L n (p.evs[i].stops.take k)
  rw [fP] at hol
  refine jc ?_
  rw [hx] at hb hlt htk hLx ⊢
  rw [ayU] at hlt htk hol ⊢
  rw [anx] at htk
  refine iF ?_
  refine BL ?_
  refine DK.vl rfl (WV.call rfl (ak Tryz.func95 rfl rfl) rfl rfl (Wn p hO i _)) ?_
  refine DK.vl rfl (WV.call rfl (ak Tryz.func87 rfl rfl) rfl rfl (aa9 s hs x _ hb.1 hb.2.1 hb.2.2.1 hb.2.2.2.1 hb.2.2.2.2)) ?_
  refine BL ?_
  rw [hLx]
  refine jc ?_
  (refine W.cond rfl (fun hif=>?_) (fun hif=>?_)<;>(try simp only [gu,jS,kQ,kR,iy,kS] at hif))
  ·have hxn:x.1≤n:=hif
   have hs4:s≠4:=fun e=>by rw [← hn,fA,if_pos e] at hxn;omega
   have BX:1≤uH s x.1 n∧uH s x.1 n≤n:=by
    unfold uH
    rw [if_neg hs4]
    split<;>omega
   have hst:=Xb s L n tk x hs4 hlt hb.1.1 hxn
   have hou:=an8 s L n tk x hxn
   rw [← htk] at hst hou
   have hsl:=CV s L n tk
   obtain ⟨lv,hlv⟩:∃ z,uH s x.1 n=z:=⟨_,rfl⟩
   rw [hlv] at BX hst
   have hix:0≤lv - 1∧lv - 1 < ((gJ s L n tk).map eStr).length:=⟨by omega,by rw [aH,hsl];omega⟩
   have hat:((gJ s L n tk).map eStr)[(lv - 1).toNat]?=some (eStr ((gJ s L n tk)[(lv - 1).toNat]'(by omega))):=Rz (by omega) (by rw [hsl];omega)
   have hset:((gJ s L n tk).map eStr).set (lv - 1).toNat (eStr (FX s L x))=(gJ s L n tk1).map eStr:=by rw [hst,wX]
   have hlf:=abK s hs x.1 n hb.1 ⟨by omega,by omega⟩
   rw [hlv] at hlf
   refine jc ?_
   refine WL.vl rfl (WV.sys hs Vm rfl rfl (fun vs w=>by kernel_rfl) (fun vs w=>by kernel_rfl) (fun vs w=>by kernel_rfl) (fun vs w=>by kernel_rfl) rfl rfl hlf) ?_
   refine jc ?_
   refine WL.yT rfl rfl rfl rfl hat (by exact bJ _) ?_
   refine jc ?_
   refine ⟨k+1,by omega,by omega,?_⟩
   rw [anx]
   exact (kL (fun q=>q) (by repeat (first|exact trivial|refine ⟨⟨?_,?_,?_⟩,?_⟩|rfl|exact congrArg (fun q=>some (AO.row _ _ q)) hset|exact congrArg (fun q=>some (AO.row _ _ q)) (congrArg (List.map eStr) hou.symm))) rfl)
  have hxn:¬ x.1≤n:=by omega
  have hst:gJ s L n tk1=gJ s L n tk:=by
   rw [htk]
   unfold gJ
   apply qK
   intro j hj
   rw [Xa s L tk x _ hlt,if_neg]
   have hj:j < n:=by simpa using hj
   unfold cAt
   split<;>omega
  have hou:=ah6 s L n tk x hxn
  rw [← htk] at hou
  have agR:¬ s=2→(rX s L n tk).map eStr++[eStr (FX s L x)]=(rX s L n tk1).map eStr:=fun h=>by rw [hou,if_neg h,fC];rfl
  have agS:s=2→[eStr (FX s L x)]++(rX s L n tk).map eStr=(rX s L n tk1).map eStr:=fun h=>by rw [hou,if_pos h];rfl
  refine jc ?_
  refine WL.vl rfl (WV.sys hs IK rfl rfl (fun vs w=>by kernel_rfl) (fun vs w=>by kernel_rfl) (fun vs w=>by kernel_rfl) (fun vs w=>by kernel_rfl) rfl rfl (EM s hs)) ?_
  refine jc ?_
  (refine W.cond rfl (fun hif=>?_) (fun hif=>?_)<;>(try simp only [gu,jS,kQ,kR,iy,kS] at hif))
  ·have hs2:s≠2:=by simpa using hif
   have agR:=agR hs2
   refine jc ?_
   refine ⟨k+1,by omega,by omega,?_⟩
   rw [anx]
   exact (kL (fun q=>bif Nat.beq q 4 then 7 else q) (by repeat (first|exact trivial|refine ⟨⟨?_,?_,?_⟩,?_⟩|rfl|exact congrArg (fun q=>some (AO.row _ _ q)) (congrArg (List.map eStr) hst.symm)|exact congrArg (fun q=>some (AO.row _ _ q)) agR)) rfl)
  have hs2:s=2:=by simpa using hif
  have agS:=agS hs2
  refine jc ?_
  refine ⟨k+1,by omega,by omega,?_⟩
  rw [anx]
  exact (kL (fun q=>bif Nat.beq q 4 then 7 else q) (by repeat (first|exact trivial|refine ⟨⟨?_,?_,?_⟩,?_⟩|rfl|exact congrArg (fun q=>some (AO.row _ _ q)) (congrArg (List.map eStr) hst.symm)|exact congrArg (fun q=>some (AO.row _ _ q)) agS)) rfl)
 have hke:k=p.evs[i].stops.length:=by omega
 rw [hke,jH]
 have hsl:=CV s L n p.evs[i].stops
 have hol:=Kz s L n p.evs[i].stops
 have h20:=hO.n4 i hi
 refine jc ?_
 refine WL.vl rfl (WV.sys hs IK rfl rfl (fun vs w=>by kernel_rfl) (fun vs w=>by kernel_rfl) (fun vs w=>by kernel_rfl) (fun vs w=>by kernel_rfl) rfl rfl (EM s hs)) ?_
 refine jc ?_
 (refine W.cond rfl (fun hif=>?_) (fun hif=>?_)<;>(try simp only [gu,jS,kQ,kR,iy,kS] at hif))
 ·have e:=e4 XL
  rw [e,fC,fC] at Ba
  rw [e]
  refine jc ?_
  refine WL.tr (Tr.freeze 6 rfl) ?_
  refine WL.vl rfl (bZ Tryz.func111 Ba) ?_
  refine jc ?_
  exact W.ret vS
 have e:=e3 XL
 rw [e,fC,fC] at Ba
 rw [e]
 refine jc ?_
 refine WL.tr (Tr.freeze 6 rfl) ?_
 refine WL.vl rfl (bZ Tryz.func111 Ba) ?_
 refine jc ?_
 exact W.ret vS
def hd1(s i:Int)(e:Ev):List sJ:=if s=4∧e.three=true then [(i,0,5)]else []
def hd2(s i:Int)(e:Ev):List sJ:=if s=4∧e.val=0 then [(i,0,6)]else []
def hd3(s i:Int)(e:Ev):List sJ:=if s=4∧e.tie=true then [(i,0,7)]else []
def hd4(s i:Int)(e:Ev):List sJ:=if s=3∧jU e=true then [(i,0,8)]else []
def WX(s:Int):List UInt8:=if s=1 then [102,114,101,110,99,104]else if s=2 then [105,116,97,108,105,97,110]else if s=3 then [115,112,97,110,105,115,104]else [103,101,114,109,97,110]
def apP(s:Int):FuncId:=if s=1 then 318 else if s=2 then 333 else if s=3 then 341 else 348
theorem WY(s:Int):(WX s).length≤7:=by unfold WX;split<;>(try split)<;>(try split)<;>simp
theorem anV (s:Int) (hs:1≤s∧s≤4):aU Tryz.prog (apP s) [.ag []] (.sc (.string (bs (WX s)))):=by
 exact aqR
def hdW(s:Int)(p:aS):List UInt8:=[116,97,98,108,97,116,117,114,101,32]++WX s++[10]++fmA p.cs p.st++[10]
def amO(s:Int)(p:aS)(i:Nat):List UInt8:=(match p.evs[i]? with
 | some e=>colS s p i e
 | none=>[])++[10]
def vV(s:Int)(p:aS):Nat→List UInt8
 | 0=>[]
 | k+1=>vV s p k++amO s p k
def wrX(s:Int)(p:aS):Int:=if qR s p≠0 then qR s p else if iT s p=[]then 0 else 31
def wrT(s:Int)(p:aS):List UInt8:=if wrX s p=0 then hdW s p++vV s p p.evs.length else []
theorem QO {s:Int} {p:aS} {i:Nat} (h:i<p.evs.length):amO s p i=colS s p i p.evs[i]++[10]:=by unfold amO;rw [aI h]
theorem Uz {s:Int} (hs:1≤s∧s≤4) {p:aS} (hO:jm p) (h0:aV p=0) (i:Nat) (hi:i<p.evs.length):(colS s p i p.evs[i]).length≤1000000 :=
 (Vb s hs p i p.evs[i] (qp ((dY h0).2.2 i hi)).1 (lG h0 i hi) (hO.n4 i hi)).2
theorem Ox {s:Int} (hs:1≤s∧s≤4) {p:aS} (hO:jm p)(h0:aV p=0):∀ k,k≤p.evs.length→(vV s p k).length≤1000001*k
 | 0,_=>by simp [vV]
 | k+1,h=>by
  have h1:=Ox hs hO h0 k au
  have h2:=Uz hs hO h0 k au
  unfold vV
  rw [QO (by omega)]
  exact ac9
theorem abn (cs:List (Int×Int×Bool))(st:List Int):(fmA cs st).length≤1200:=by
 unfold fmA
 split
 ·rename_i h
  have h1:=OC h cs.length
  have h2:=Qe h st.length
  rw [jH]at h1 h2
  unfold Ug
  exact ac9
 ·simp
theorem BZ {s:Int} {p:aS}:∀ k,k≤p.evs.length→kY s p k=[]→∀ i (h:i<k)(h2:i<p.evs.length),mG s p i p.evs[i]=[]
 | 0,_,_,i,h,_=>by omega
 | k+1,hk,hn,i,h,h2=>by
  rw [nX s p (by omega:k<p.evs.length)] at hn
  have:=List.append_eq_nil_iff.1 hn
  by_cases e:i=k
  ·subst e;exact this.2
  ·exact BZ k au this.1 i au h2
theorem L6 {s:Int} {p:aS} (h:qR s p≠0):wrX s p=qR s p∧wrT s p=[]:=by
 have:wrX s p=qR s p:=if_pos h
 exact⟨this,by unfold wrT;rw [this,if_neg h]⟩
theorem ajm {s:Int} {p:aS} (h:qR s p=0)(h2:iT s p≠[]):wrX s p=31∧wrT s p=[]:=by
 have:wrX s p=31:=by unfold wrX;rw [if_neg (fun k=>k h),if_neg h2]
 exact⟨this,by unfold wrT;rw [this];rfl⟩
theorem ajn {s:Int} {p:aS} (h:qR s p=0)(h2:iT s p=[]):wrX s p=0∧wrT s p=hdW s p++vV s p p.evs.length:=by
 have:wrX s p=0:=by unfold wrX;rw [if_neg (fun k=>k h),if_pos h2]
 exact⟨this,by unfold wrT;rw [this];rfl⟩
theorem Wu (s:Int) (p:aS) (hO:jm p):kJ LU Tryz.prog 14 [.sc (.int .u8 s),bK p] (.tu [.sc (.string (bs (wrT s p))),.sc (.int .i64 (wrX s p))]):=by
 have hn3:=hO.n3
 refine kJ.intro LP Tryz.func14 rfl Tryz.ntmps14 (bU rfl) (gG rfl) fun w0 F0 hB=>?_;dsimp only [St.init,number,Nat.reduceAdd]
 refine awR ?_
 refine WL.vl rfl (WV.call rfl (ak Tryz.func50 rfl rfl) rfl rfl (G9 s)) ?_
 by_cases hs:1≤s∧s≤4
 rotate_left
 ·have hE:=(Ai (p:=p) hs).2
  rw [(L6 (by omega)).1,(L6 (by omega)).2,hE,cZ hs]
  exact Ub
 rw [dG hs]
 refine yE ?_
 refine WL.vl rfl (WV.call rfl (ak Tryz.func51 rfl rfl) rfl rfl (nD p hO)) ?_
 by_cases h0:aV p=0
 rotate_left
 ·have hE:=(uJ hs h0).2
  rw [(L6 (by omega)).1,(L6 (by omega)).2,hE]
  exact Ub
 have hE:=(pI hs h0).2
 have hR:=(pI hs h0).1
 have hc:=acd s p hO
 rw [hE] at hc
 rw [h0]
 refine yE ?_
 by_cases hl:iT s p=[]
 rotate_left
 ·rw [(ajm hE hl).1,(ajm hE hl).2]
  have hb:((0:Int) == 0 && ((iT s p).length:Int) == 0)=false:=by
   have:(iT s p).length≠0:=fun h=>hl (oN h)
   simp;omega
  rw [hb] at hc
  refine WL.vl rfl (bZ Tryz.func19 hc) ?_
  exact Ub
 rw [(ajn hE hl).1,(ajn hE hl).2]
 have hb:((0:Int) == 0 && ((iT s p).length:Int) == 0)=true:=by rw [hl];rfl
 rw [hb] at hc
 refine WL.vl rfl (bZ Tryz.func19 hc) ?_
 refine yE ?_
 have hF:=aeT p.cs p.st
 have hins:fU p.cs p.st=0:=(dY h0).1
 rw [hins] at hF
 refine WL.vl rfl (WV.eH hB rfl (ak Tryz.func52 rfl rfl) rfl rfl hF) ?_
 refine yE ?_
 first|refine W.tr (Tr.xq 1 5 rfl) ?_|refine WL.tr (Tr.xq 1 5 rfl) ?_
 dsimp only [St.upd]
 have hsl:=WY s
 have hfl:=abn p.cs p.st
 have hhd:hdW s p=[116,97,98,108,97,116,117,114,101,32]++WX s++[10]++fmA p.cs p.st++[10]:=rfl
 obtain ⟨sn,hsn⟩:∃ z,WX s=z:=⟨_,rfl⟩
 obtain ⟨fm,hfm⟩:∃ z,fmA p.cs p.st=z:=⟨_,rfl⟩
 have hnm:=anV s hs
 rw [hsn] at hsl hhd hnm
 rw [hfm] at hfl hhd ⊢
 have hd1:([116,97,98,108,97,116,117,114,101,32]++sn).length≤17:=by simp only [aY,iw,o9];omega
 have hd2:([116,97,98,108,97,116,117,114,101,32]++sn++[10]).length≤18:=by simp only [aY,iw,o9];omega
 have hd3:([116,97,98,108,97,116,117,114,101,32]++sn++[10]++fm).length≤1218:=by simp only [aY,iw,o9];omega
 have hd4:([116,97,98,108,97,116,117,114,101,32]++sn++[10]++fm++[10]).length≤1219:=by simp only [aY,iw,o9];omega
 refine yE ?_
 refine WL.vl rfl (WV.sys hs apP rfl rfl (fun vs w=>by kernel_rfl) (fun vs w=>by kernel_rfl) (fun vs w=>by kernel_rfl) (fun vs w=>by kernel_rfl) rfl rfl hnm) ?_
 refine yE ?_
 rw [← hhd] at hd4 ⊢
 obtain ⟨hd,avK⟩:∃ z,hdW s p=z:=⟨_,rfl⟩
 rw [avK] at hd4 ⊢
 refine WL.bw rfl rfl rfl (ak Tryz.func53 rfl rfl) uD (by simp only [o9];omega) (ug _) ?_
 refine yE ?_
 have hbl:=Ox hs hO h0
 have hnil:∀ i (h:i < p.evs.length),mG s p i p.evs[i]=[]:=fun i h=>BZ p.evs.length (bJ _) (by rw [← hR];exact hl) i h h
 refine W.loop (fun k:Nat=>k≤p.evs.length) (fun k=>⟨[(0,.sc (.int .u8 s)),(3,.pt 0 0 0),(6,.sc (bG s)),(11,.pt 1 0 0),(48,.sc (.int .i64 p.evs.length)),(49,.sc (.int .i64 k))],[(0,.box 30 (bK p).cells),(1,.xq 103 5 (hd++vV s p k))],2⟩) (fun k=>p.evs.length - k) 0 au (kL (fun q=>q) (by repeat (first|exact trivial|refine ⟨⟨?_,?_,?_⟩,?_⟩|rfl|exact congrArg (fun q=>some (AO.row _ _ q)) (nI _).symm|exact congrArg (fun q=>some (AO.xq _ _ q)) (nI _).symm)) rfl) fun k hk=>?_
 have hbk:=hbl k hk
 by_cases hk2:k < p.evs.length
 ·have hcl:=Uz hs hO h0 k hk2
  have hrow:hd++vV s p k++(colS s p k p.evs[k]++[10])=hd++vV s p (k+1):=by
   rw [jA,← QO hk2];rfl
  have Ri:=ady s hs p k hk2 hO h0
  obtain ⟨co,hco⟩:∃ z,colS s p k p.evs[k]=z:=⟨_,rfl⟩
  rw [hco] at hcl hrow Ri
  have hln:(hd++vV s p k).length≤500000000:=by rw [aY];omega
  have hcn:(co++[10]).length≤1000001:=by rw [aY];simp only [iw,o9];omega
  refine yE ?_
  refine WL.vl rfl (bZ Tryz.func54 Ri) ?_
  refine yE ?_
  refine WL.bw rfl rfl rfl (ak Tryz.func53 rfl rfl) uD au hrow ?_
  refine yE ?_
  exact aaV
 have hke:k=p.evs.length:=by omega
 rw [hke]
 have hne:hd++vV s p p.evs.length≠[]:=by
  rw [← avK,hhd];simp
 refine yE ?_
 refine WL.bs rfl rfl rfl (ak Tryz.func55 rfl rfl) aa4 hne ?_
 exact Ub
theorem VT {s:Int} {p:aS}:∀ k,k≤p.evs.length→vV s p k=bF 10 ((lQ s p).take k) []
 | 0,_=>by rw [List.take_zero];rfl
 | k+1,h=>by
  have hk:k<(lQ s p).length:=by rw [lC];exact h
  show vV s p k++amO s p k=_
  rw [VT k (by omega),mJ hk,QO (by omega),pV hk]
  unfold bF
  rw [Tt,nI,nI]
  simp
theorem awi {s:Int} {p:aS} (h:fU p.cs p.st=0):hdW s p=uO s++10::(Ug p.cs p.st++[10]):=by
 unfold hdW fmA
 rw [if_pos h,show WX s=ahY s from rfl]
 unfold uO
 simp
theorem V7 {s:Int} {p:aS} (h:Jl s p):qR s p=0∧iT s p=[]∧wrX s p=0∧wrT s p=vF s p:=by
 obtain⟨h1,h2,h3⟩:=dY h.e
 obtain⟨a,b⟩:=pI h.y h.e
 have hl:∀ k,k≤p.evs.length→kY s p k=[]:=by
  intro k
  induction k with
  | zero=>intro _;rfl
  | succ k ih =>
   intro hk
   rw [nX s p (by omega),ih (by omega),h.l k (by omega)];rfl
 have hR:iT s p=[]:=by rw [a];exact hl _ (bJ _)
 obtain⟨w1,w2⟩:=ajn b hR
 refine⟨b,hR,w1,?_⟩
 rw [w2,awi h1,VT _ (bJ _)]
 unfold vF
 rw [fE,fE,← lC s p,jH]
 simp
theorem Kq {s:Int} {p:aS} (h:qR s p=0) (h2:iT s p=[]):Jl s p:=by
 have hs:1≤s∧s≤4:=by
  by_cases k:1≤s∧s≤4
  ·exact k
  ·have:=(Ai (p:=p) k).2;omega
 have h0:aV p=0:=by
  by_cases k:aV p=0
  ·exact k
  ·have:=(uJ hs k).2;omega
 have hR:=(pI hs h0).1
 exact ⟨h0,hs,fun i hi=>BZ p.evs.length (bJ _) (by rw [← hR];exact h2) i hi hi⟩
theorem aeO {s:Int} {p:aS}:wrX s p=0↔Jl s p:=by
 constructor
 ·intro h
  by_cases a:qR s p=0
  ·by_cases b:iT s p=[]
   ·exact Kq a b
   ·have:=(ajm a b).1;omega
  ·have:=(L6 a).1;omega
 ·exact fun h=>(V7 h).2.2.1
theorem VX:((List.range' 1 4).all fun s=>(List.range' 1 14).all fun c=>(List.range 19).all fun f=>decide ((rS (s:Int) (c:Int) (f:Int)).length≤4))=true:=by decide +kernel
theorem V3:((List.range' 1 4).all fun s=>((List.range 4).all fun r=>decide ((rR (s:Int) (r:Int)).length≤1)) && ((List.range 5).all fun g=>decide ((rG (s:Int) (g:Int)).length≤1)) && ((List.range 16).all fun h=>decide ((pH (s:Int) (h:Int) 15).length≤3)))=true:=by decide +kernel
theorem aeG {s aT:Int} {w:List UInt8} {x:N5} (hsp:aK s aT=0) (h:jr s aT w=some x):w.length≤9:=by
 have hs:=nH hsp
 obtain ⟨a1,a2,a3,a4⟩:=wF h
 obtain ⟨a5,a6,a7⟩:=xX a4
 obtain ⟨c,f,r,g,hh⟩:=x
 dsimp only at a1 a2 a5 a6 a7
 obtain ⟨l1,l2⟩:=qm s c f hs au au
 unfold dK at a6
 simp only [aW] at a6
 obtain ⟨k,rfl⟩:=gq (show 0≤s by omega)
 have h1:=iY (List.all_eq_true.1 (List.all_eq_true.1 (List.all_eq_true.1 VX k (List.mem_range'_1.2 au)) c (List.mem_range'_1.2 au)) f (List.mem_range.2 au))
 have h2:=List.all_eq_true.1 V3 k (List.mem_range'_1.2 au)
 simp only [aW] at h2
 have h3:=iY (List.all_eq_true.1 h2.1.1 r (List.mem_range.2 au))
 have h4:=iY (List.all_eq_true.1 h2.1.2 g (List.mem_range.2 au))
 have h5:=iY (List.all_eq_true.1 h2.2 hh (List.mem_range.2 au))
 rw [← a7]
 unfold cellS
 rw [l2 a6.1.1.1]
 simp only [aY]
 omega
theorem VW {s:Int} {L:Int→Nat} {n:Nat} {l:List Stp} (hs:1≤s∧s≤4)(hl:∀ x∈l,NwS s L x):∀ w∈lN s L n l,w.length≤9:=by
 intro w hw
 have hst:∀ x∈l,(FX s L x).length≤9:=fun x hx=>by
  obtain⟨h1,h2⟩:=PD (c:=x.1) hs (hl x hx).c.1
  exact aeG h1 (ab2 hs (hl x hx) h1 h2)
 have hw2:w∈qy s L n l:=by rw [← Kr];exact Kt.2 hw
 unfold qy at hw2
 rcases List.mem_append.1 hw2 with k|k
 ·obtain⟨j,_,rfl⟩:=List.mem_map.1 k
  unfold Uj
  cases hx:qX l ((j:Int)+1) with
  | none=>simp
  | some x=>exact hst x (Eh hx).1
 ·obtain⟨x,hx,rfl⟩:=List.mem_map.1 k
  exact hst x (List.mem_filter.1 hx).1
theorem J9:∀ {l:List Stp} {m:Int} {n:Int},EK m l→n≤m→(∀ x∈l,x.1≤14)→(l.length:Int)≤14-n∨l=[]
 | [],_,_,_,_,_=>.inr rfl
 | x::r,m,n,h,hm,hb=>by
  have hx:=hb x (by simp)
  rcases J9 (n:=x.1) h.2 (yD _) (fun y hy=>hb y BK) with k|k
  ·left;simp only [iw];have:=h.1;omega
  ·subst k;left;simp only [iw,o9];have:=h.1;omega
theorem CB {n:Int}:∀ {l:List Stp} {m:Int},EK m l→EK (max m n) (l.filter fun x=>decide (n<x.1))
 | [],_,_=>trivial
 | x::r,m,h=>by
  by_cases e:n<x.1
  ·rw [Gj Qx]
   refine ⟨by have:=h.1;omega,?_⟩
   have:=CB (n:=n) h.2
   rw [show max x.1 n=x.1 by omega] at this
   exact this
  ·rw [MH Qx]
   have:=CB (n:=n) h.2
   rw [show max x.1 n=max m n by have:=h.1;omega] at this
   exact this
theorem VE {s:Int} {words:List (List UInt8)}:(ku s words).length=words.length:=by unfold ku;split<;>simp
theorem VU {s:Int} {L:Int→Nat} {n:Nat} {l:List Stp} (hn:n≤6) (ha:EK 0 l) (hb:∀ x∈l,x.1≤14):(lN s L n l).length≤14:=by
 have h1:(lN s L n l).length=(qy s L n l).length:=by rw [← Kr,VE]
 rw [h1,VR]
 have h2:=CB (n:=(n:Int)) ha
 rcases J9 (n:=(n:Int)) h2 au (fun x hx=>hb x (List.mem_filter.1 hx).1) with k|k
 ·omega
 ·rw [k];simp;omega
theorem Zn {b:Nat}:∀ {l:List (List UInt8)},(∀ w∈l,w.length≤b)→(spW l).length≤(b+1)*l.length:=fun h=>SL h
theorem Ob:((List.range 8).all fun v=>(List.range 3).all fun i=>decide ((tW (v:Int) i).length≤2))=true:=by decide +kernel
theorem Zf {s:Int} {p:aS} (h:Jl s p) {i:Nat} (hi:i<p.evs.length):(colS s p i p.evs[i]).length≤144:=by
 obtain ⟨q1,_,q3,_,_⟩:=ji h.e hi
 obtain ⟨hst,ha⟩:=sW h hi
 obtain ⟨e,he⟩:∃ z,p.evs[i]=z:=⟨_,rfl⟩
 rw [he] at q1 hst ha ⊢
 have hv7:0≤e.val∧e.val≤7:=by
  unfold gZ at q1
  simp only [qI,aW,qH,gu] at q1
  omega
 have hsI:sH e.dot e.three<3:=by unfold sH;split;omega;split<;>omega
 have hsg:(tW e.val (sH e.dot e.three)).length≤2:=by
  obtain ⟨k,hk⟩:=gq hv7.1
  rw [hk]
  exact iY (List.all_eq_true.1 (List.all_eq_true.1 Ob k (List.mem_range.2 au)) _ (List.mem_range.2 hsI))
 have anw:fA s p≤6:=by
  unfold fA
  split<;>omega
 have hB:(spW (if e.tie=true then [[126]] else if e.stops.length=0 then [[37]] else lN s (fun c=>ah p.evs i c) (fA s p) e.stops:List (List UInt8))).length≤140:=by
  split
  ·simp [spW,sp]
  ·split
   ·simp [spW,sp]
   ·have h1:=Zn (VW (n:=fA s p) h.y fun x hx=>(hst x hx).1)
    have h2:=VU (s:=s) (L:=fun c=>ah p.evs i c) (n:=fA s p) anw ha fun x hx=>(hst x hx).1.c.2
    omega
 unfold colS
 rw [QS]
 have hj:=ad4 s e (if e.tie=true then [[126]] else if e.stops.length=0 then [[37]] else lN s (fun c=>ah p.evs i c) (fA s p) e.stops:List (List UInt8))
 rw [hj,aY]
 have hh:(Je s e).length≤4:=by
  unfold Je
  rw [aY]
  split
  ·simp;omega
  ·simp;omega
 omega
theorem GX {b:Nat}:∀ {l:List (List UInt8)},(∀ w∈l,w.length≤b)→(bF 10 l []).length≤(b+1)*l.length
 | [],_=>by simp [bF]
 | x::r,h=>by
  have h1:=h x (by simp)
  have h2:=GX (l:=r) (b:=b) fun w hw=>h w (by simp [hw])
  rw [fE,aY,iw,iw,Nat.mul_succ]
  omega
theorem J8 {s:Int} {p:aS} (h:Jl s p):(vF s p).length≤65536:=by
 obtain ⟨h1,h2,h3⟩:=dY h.e
 have hf:=abn p.cs p.st
 rw [show fmA p.cs p.st=Ug p.cs p.st from if_pos h1] at hf
 have h0:(uO s).length≤17:=by
  unfold uO
  have:=WY s
  rw [show WX s=ahY s from rfl] at this
  simp;omega
 have hc:=GX (b:=144) (l:=lQ s p) fun w hw=>by
  obtain ⟨i,hi,rfl⟩:=eu hw
  rw [pV hi]
  exact Zf h _
 rw [lC] at hc
 unfold vF
 rw [fE,fE,aY,iw,aY,iw]
 omega
theorem ae9 (l:List (List UInt8)) (hl:l.length≤1000000):jI jE 0 Tryz.prog 162 [.sl 0] [(0,.row 9 1 (l.map iV))] 1 (.tu []) [(0,.row 9 1 (l.reverse.map iV))] 1:=by
 refine jI.intro kV Tryz.func162 rfl Tryz.ntmps162 (bU rfl) rfl fun w0 F0 fp pg hB=>?_
 refine gB ?_
 have hml:(l.map iV).length=l.length:=aH _
 refine Xv ?_
 refine W.loop (fun k:Nat=>2*k≤l.length) (fun k=>⟨[(0,.sl 0),(2,.sc (.int .i64 (k:Int))),(3,.sc (.int .i64 ((l.length:Int) - 1 - (k:Int))))],[(0,.row 9 1 ((kK l k).map iV))],1⟩) (fun k=>l.length - 2*k) 0 (by omega) (by rw [show (l.length:Int) - 1 - ((0:Nat):Int)=(l.length:Int) - 1 by omega];exact (kL (fun q=>q) (by repeat (first|exact trivial|refine ⟨⟨?_,?_,?_⟩,?_⟩|rfl|exact congrArg (fun q=>some (AO.row _ _ q)) (by rw [ahJ]))) rfl)) fun k hk=>?_
 by_cases hlt:2*k+1 < l.length
 rotate_left
 ·rw [Y8 (l:=l) (k:=k) (by omega)]
  refine Xv ?_
  exact xB (σ':=⟨[],[(0,.row 9 1 (l.reverse.map iV))],1⟩) (zqt id) (sQ rfl rfl rfl rfl rfl)
 have z0:((k:Int)).toNat=k:=fO k
 have z1:((l.length:Int) - 1 - (k:Int)).toNat=l.length - 1 - k:=by omega
 obtain ⟨x,hx⟩:∃ z,l[k]' au=z:=⟨_,rfl⟩
 obtain ⟨y,hy⟩:∃ z,l[l.length - 1 - k]' au=z:=⟨_,rfl⟩
 have r0:((kK l k).map iV)[((k:Int)).toNat]?=some (iV x):=by rw [z0,bT,aey hlt,hx];rfl
 have r1:((kK l k).map iV)[((l.length:Int) - 1 - (k:Int)).toNat]?=some (iV y):=by rw [z1,bT,aex hlt,hy];rfl
 have r2:(((kK l k).map iV).set ((k:Int)).toNat (iV y))[((l.length:Int) - 1 - (k:Int)).toNat]?=some (iV y):=by
  rw [uf (by omega)];exact r1
 have r3:(((kK l k).map iV).set ((k:Int)).toNat (iV y)).set ((l.length:Int) - 1 - (k:Int)).toNat (iV x)=(kK l (k+1)).map iV:=by
  rw [z0,z1,← ahK hlt,wX,wX,hx,hy]
 obtain ⟨D,hD⟩:∃ z,(kK l k).map iV=z:=⟨_,rfl⟩
 have hDl:D.length=l.length:=by rw [← hD,aH,lu]
 rw [hD] at r0 r1 r2 r3 ⊢
 refine Xv ?_
 refine W.Js 14 bD bD bD ?_
 refine WA.dt [false,false,false,false,false,false,false,false,false,false,false,false,false,true] [] [0] 13 bD bD bD trivial ⟨rfl,trivial⟩ ?_
 refine Df ?_
 refine Io ?_
 refine Df ?_
 refine XT ?_
 refine aZ.ldr rfl bD rfl r1 rfl rfl ?_
 refine Df ?_
 refine XT ?_
 refine aZ.ldr rfl bD rfl r0 rfl rfl ?_
 refine XT ?_
 refine aZ.yT rfl rfl rfl rfl rfl rfl rfl rfl rfl rfl rfl rfl (Jd r0 (by show 0+1≤1;omega) rfl) rfl trivial (fun h=>by cases h) ?_
 refine aZ.nil ?_
 refine ⟨rfl,?_⟩
 refine (?_:WL _ _ _ _ _ _)
 refine Xv ?_
 refine WL.yT rfl rfl rfl rfl r2 (by show 0+1≤1;omega) ?_
 refine Xv ?_
 refine ⟨k+1,by omega,by omega,?_⟩
 rw [show (l.length:Int) - 1 - (k:Int) - 1=(l.length:Int) - 1 - ((k+1:Nat):Int) by omega]
 exact (kL (fun q=>q) (by repeat (first|exact trivial|refine ⟨⟨?_,?_,?_⟩,?_⟩|rfl|exact congrArg (fun q=>some (AO.row _ _ q)) r3)) rfl)
end
end Go.Proofs.YthehkchjdkdbiaaGreatDoor
