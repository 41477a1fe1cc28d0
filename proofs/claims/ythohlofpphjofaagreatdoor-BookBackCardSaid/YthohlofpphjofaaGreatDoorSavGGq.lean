/- (any length that fits) A book's text: program and reference, and the law BookSaves. BLD -/
import Derived.Test.YthohlofpphjofaaGreatDoorGbGq
import Derived.Test.YthohlofpphjofaaGreatDoorW11Gq
import Derived.Test.YthohlofpphjofaaGreatDoorNw5Gq
set_option maxHeartbeats 8000000
set_option maxRecDepth 100000
set_option linter.unusedVariables false
set_option linter.unusedSimpArgs false
namespace Go.Proofs.YthohlofpphjofaaGreatDoor
theorem aeY {p:Prop}(h:p:=by
 have h2:=Ee s
 have h3:=JW p.cs p.st
 unfold hdW
 exact Jv):p:=h
theorem aiP {p:Prop}(h:p:=by
 refine WA.ds [false,false,false,false,false,false,false,false,false,false,true,true,true,true] [0,1] aK aK ⟨rfl,rfl,trivial⟩ ?_
 refine amI ?_
 refine (?_:W _ _ _ _ _)
 refine Jk ?_
 simp only [hb]
 refine Jk ?_
 refine WL.vl rfl (WV.call rfl (callF Tryz.func13 rfl rfl) rfl rfl (ahh b[k].p hO)) ?_
 refine Jk ?_
 exact ⟨k+1,by omega,by omega,(zqt id)⟩):p:=h
section
open Go.RowKit
theorem Tc (b:List En) (hB:Na b):Ctr Tryz.prog 27 [Vb b] (Vb b):=by
 have hn:=hB.n
 refine jc Tryz.func27 Tryz.ntmps27 fun w0 F0=>?_;dsimp only [St.init,number,Nat.reduceAdd]
 refine ais ?_
 refine W.tr (Tr.nilBox (k:=2) (j:=0) 129 5 rfl rfl rfl rfl) ?_
 refine W.loop (fun k:Nat=>k≤b.length) (fun k=>⟨[(1,.pt 0 0 0),(2,.pt 1 0 0),(3,.pt 2 0 0),(4,.sc (.int .i64 k))],[(0,.box 47 [.ls 5 (b.map sJ)]),(1,.box 47 [.sc (.slice none 0 0)]),(2,.box 47 [.sl 3]),(3,.row 129 5 ((b.take k).map sJ))],4⟩) (fun k=>b.length - k) 0 aj (zqt id) fun k hk=>?_
 by_cases hlt:k < b.length
 ·have hO:=hB.p k hlt
  refine ait ?_
  refine WL.vl rfl (WV.call rfl (callF Tryz.func18 rfl rfl) rfl rfl (YZ b[k].p hO)) ?_
  refine ais ?_
  refine ⟨k+1,by omega,by omega,?_⟩
  exact (mP (fun q=>bif Nat.beq q 3 then 6 else q) (by repeat (first|exact trivial|refine ⟨⟨?_,?_,?_⟩,?_⟩|rfl|exact congrArg (fun q=>some (AO.row _ _ q)) (vW hlt))) rfl)
 ·obtain rfl:k=b.length:=by omega
  rw [fE]
  refine ait ?_
  refine W.tr (Tr.freeze 3 rfl) ?_
  exact W.ret (fin_cell rfl rfl rfl rfl rfl rfl rfl rfl)
theorem Td (b:List En) (hB:Na b):Ctr Tryz.prog 24 [Vb b,Vb b] (.sc (.bool true)):=by
 have hn:=hB.n
 refine jc Tryz.func24 Tryz.ntmps24 fun w0 F0=>?_;dsimp only [St.init,number,Nat.reduceAdd]
 refine Jk ?_
 refine W.loop (fun k:Nat=>k≤b.length) (fun k=>⟨[(2,.pt 0 0 0),(3,.pt 1 0 0),(5,.sc (.int .i64 k))],[(0,.box 47 [.ls 5 (b.map sJ)]),(1,.box 47 [.ls 5 (b.map sJ)])],2⟩) (fun k=>b.length - k) 0 aj (zqt id) fun k hk=>?_
 by_cases hlt:k < b.length
 rotate_left
 ·refine Jk ?_
  exact W.ret vJ
 have hO:=hB.p k hlt
 have hb:(b[k].t == b[k].t)=true:=by simp
 refine Jk ?_
 refine W.of_wa aK ?_
 refine WA.eitherL [0,1,2,3,4,5,6,7,8,9,10,11,12,13] [0,1,2,3,4,5,6,7,8,9,10,11,12,13] [0,1,2,3,4,5,6,7,8,9,11,10,12,13] [0,1,2,3,4,5,6,7,8,9,11,10,12,13] 10 11 aK aK rfl ?_ ?_
 ·exact aiP
 ·exact aiP
def Bg:List En→Nat→Bool
 | [],n=>decide (200<(n:Int))
 | e::r,n=>xZ e.p|| (decide (1000<(e.t.length:Int))|| Bg r (n+e.p.evs.length))
def F9(l:List En):Nat:=(l.map fun e=>e.p.evs.length).sum
def bigT (b:List En):Bool:=decide (70<(b.length:Int))|| Bg b 0
theorem JC:∀ {l:List En} {n:Nat},Bg l n=false→∀ k (h:k<l.length),xZ l[k].p=false∧l[k].t.length≤1000
 | [],n,_,k,h=>by simp at h
 | e::r,n,hb,k,h=>by
  simp only [Bg,AB,bK]at hb
  cases k with
  | zero=>exact⟨hb.1,by have:=hb.2.1;simp only [uK];omega⟩
  | succ k=>exact JC hb.2.2 k uT
theorem afJ {b:List En} (h:bigT b=false):Na b:=by
 simp only [bigT,AB,bK]at h
 exact⟨by omega,fun k hk=>abT (JC h.2 k hk).1,fun k hk=>(JC h.2 k hk).2⟩
theorem ND {b:List En} {k:Nat} (h:k<b.length):F9 (b.take (k+1))=F9 (b.take k)+b[k].p.evs.length:=by
 unfold F9
 rw [gq h,gK,List.sum_append]
 simp only [qM,I5,List.sum_cons,List.sum_nil,vY]
theorem Xm {b:List En} {k n:Nat} (h:k<b.length):Bg (b.drop k) n=(xZ b[k].p|| (decide (1000<(b[k].t.length:Int))|| Bg (b.drop (k+1)) (n+b[k].p.evs.length))):=by
 exact FN
theorem Z8 (b:List En):Ctr Tryz.prog 25 [Vb b] (.sc (.bool (bigT b))):=by
 by_cases hn:70 < (b.length:Int)
 ·refine jc Tryz.func25 Tryz.ntmps25 fun w0 F0=>?_;dsimp only [St.init,number,Nat.reduceAdd]
  refine jF ?_
  exact W.ret (fin1 rfl rfl (o9 (by unfold bigT;rw [fQ hn];rfl)) rfl)
 refine jc Tryz.func25 Tryz.ntmps25 fun w0 F0=>?_;dsimp only [St.init,number,Nat.reduceAdd]
 refine jF ?_
 refine W.loop (fun k:Nat=>k≤b.length∧F9 (b.take k)≤60*k∧Bg (b.drop k) (F9 (b.take k))=Bg b 0) (fun k=>⟨[(1,.pt 0 0 0),(3,.sc (.int .i64 (F9 (b.take k)))),(4,.sc (.int .i64 k))],[(0,.box 47 [.ls 5 (b.map sJ)])],1⟩) (fun k=>b.length - k) 0 ⟨dD _,by simp [F9],by simp [F9]⟩ (zqt id) fun k hk=>?_
 obtain ⟨hk,hs,hd⟩:=hk
 by_cases hlt:k < b.length
 rotate_left
 ·obtain rfl:k=b.length:=by omega
  rw [List.drop_length,fE] at hd
  rw [fE] at hs ⊢
  refine jF ?_
  refine W.ret (fin1 rfl rfl (o9 ?_) rfl)
  unfold bigT
  rw [dW hn,E5,← hd]
  unfold Bg
  first|rfl|(rw [decide_eq_decide];omega)
 have hgd:=Xm (n:=F9 (b.take k)) hlt
 refine jF ?_
 refine WL.vl rfl (WV.call rfl (callF Tryz.func70 rfl rfl) rfl rfl (agE b[k].p)) ?_
 refine jF ?_
 refine WL.partG rfl rfl rfl rfl (fun hp=>?_) (fun hp=>?_)
 ·refine jF ?_
  refine W.ret (fin1 rfl rfl (o9 ?_) rfl)
  unfold bigT
  rw [dW hn,E5,← hd,hgd,hp];rfl
 rw [hp,E5] at hgd
 by_cases ht:1000 < (b[k].t.length:Int)
 ·refine jF ?_
  refine W.ret (fin1 rfl rfl (o9 ?_) rfl)
  unfold bigT
  rw [dW hn,E5,← hd,hgd,fQ ht];rfl
 rw [dW ht,E5] at hgd
 have hev:b[k].p.evs.length≤60:=by
  unfold xZ at hp
  simp only [AB,bK] at hp
  omega
 have hst:=ND hlt
 refine jF ?_
 refine ⟨k+1,⟨by omega,by omega,by rw [hst,← hgd,hd]⟩,by omega,?_⟩
 rw [hst]
 exact (zqt id)
def enT(e:En):List UInt8:=[116,105,116,108,101,32]++e.t++[10]++MZ e.s e.p++[101,110,100,10]
def ahi(b:List En)(i:Nat):List UInt8:=match b[i]? with
 | some e=>enT e
 | none=>[]
def rZ(b:List En):Nat→List UInt8
 | 0=>[]
 | k+1=>rZ b k++ahi b k
def yE(b:List En):List UInt8:=if vN b=0 then rZ b b.length else []
theorem yD {b:List En} {i:Nat} (h:i<b.length):ahi b i=enT b[i]:=by unfold ahi;rw [aB h]
theorem G7 {b:List En}:∀ {l:List En} {i:Nat},Bo b i l=0→∀ k (h:k<l.length),wG b (i+k) l[k]=0
 | [],_,_,k,h=>by simp at h
 | e::r,i,h0,k,h=>by
  have h1:wG b i e=0:=by
   by_cases h2:wG b i e=0
   ·exact h2
   ·have e1:Bo b i (e::r)=wG b i e:=if_neg h2
    rw [← e1];exact h0
  have e1:Bo b i (e::r)=Bo b (i+1) r:=if_pos h1
  cases k with
  | zero=>exact h1
  | succ k =>
   have:=G7 (e1 ▸ h0) k uT
   rw [show i+1+k=i+(k+1) by omega] at this
   exact jy
theorem nN {b:List En} (h:vN b=0):b.length≤64∧∀ k(h:k<b.length),wG b k b[k]=0:=by
 unfold vN at h
 by_cases h1:64<b.length
 ·rw [if_pos h1]at h;omega
 ·rw [if_neg h1]at h
  refine⟨by omega,fun k hk=>?_⟩
  have:=G7 h k hk
  exact jy
theorem Nw {b:List En} {i:Nat} {e:En} (h:wG b i e=0):(1≤e.s∧e.s≤4)∧aO e.p=0∧jB e.s e.p=[]:=by
 unfold wG at h
 by_cases h1:iH e.t=false∨iP b e.t<i
 ·rw [if_pos h1]at h;omega
 rw [if_neg h1]at h
 by_cases h2:1≤e.s∧e.s≤4
 rotate_left
 ·rw [if_pos h2]at h;omega
 rw [if_neg (fun k=>k h2)]at h
 by_cases h3:aO e.p=0
 rotate_left
 ·rw [if_pos h3]at h;exact absurd h h3
 rw [if_neg (fun k=>k h3)]at h
 by_cases h4:jB e.s e.p=[]
 ·exact⟨h2,h3,h4⟩
 ·rw [if_neg h4]at h;omega
theorem Nh:∀ {l:List En} {n:Nat},Bg l n=false→n+F9 l≤200
 | [],n,h=>by
  simp only [Bg,bK]at h
  simp only [F9,I5,List.sum_nil];omega
 | e::r,n,h=>by
  simp only [Bg,AB]at h
  have:=Nh h.2.2
  unfold F9 at this ⊢
  simp only [qM,List.sum_cons]
  omega
theorem ajA {b:List En} (h:bigT b=false):F9 b≤200:=by
 simp only [bigT,AB]at h
 have:=Nh h.2
 omega
theorem ajz (b:List En)(k:Nat):F9 (b.take k)≤F9 b:=by
 have e:F9 b=F9 (b.take k)+F9 (b.drop k):=by
  unfold F9
  rw [← List.sum_append,← gK,Fb]
 omega
theorem ahz {s:Int} (hs:1≤s∧s≤4) {p:aN} (hO:fH p)(h0:aO p=0)(hl:jB s p=[]):ZX s p=0∧(MZ s p).length≤1219+1000001*p.evs.length:=by
 have hE:=(mQ hs h0).2
 rw [(Qe hE hl).1,(Qe hE hl).2]
 refine⟨rfl,?_⟩
 have h1:=y7 hs hO h0 p.evs.length (Nat.le_refl _)
 exact aeY
theorem Vh(e:En):(enT e).length=11+e.t.length+(MZ e.s e.p).length:=by
 unfold enT
 exact Jv
def enR (e:En):List (List UInt8):=l7 e.s::Gf e.p.cs e.p.st::iM e.s e.p
def zN (e:En):List (List UInt8):=(Hr++e.t)::(enR e++[xI])
theorem agz:iV xI=none:=rfl
theorem agy:(aA xI).2≠0:=by decide +kernel
theorem aaU (s:Int)(n:Nat):eY s n xI=none:=by
 unfold eY
 rw [show aV 32 xI=[xI]from rfl]
 dsimp only
 rw [if_neg (by decide)]
 rfl
theorem aaq {e:En} (hp:FZ e.s e.p):∀ w∈enR e,(w == xI)=false∧aH 10 w:=by
 intro w hw
 have hI:=(fK hp.e).1
 unfold enR at hw
 rcases List.mem_cons.1 hw with rfl|hw
 ·obtain⟨h1,h2⟩:=Iu hp.y
  refine⟨?_,h2⟩
  cases hb:(l7 e.s == xI) with
  | false=>rfl
  | true=>rw [show l7 e.s=xI by simpa using hb,agz] at h1;cases h1
 rcases List.mem_cons.1 hw with rfl|hw
 ·obtain⟨h1,h2⟩:=abz hI
  refine⟨?_,h2⟩
  cases hb:(Gf e.p.cs e.p.st == xI) with
  | false=>rfl
  | true =>
   rw [show Gf e.p.cs e.p.st=xI by simpa using hb] at h1
   exact absurd (by rw [h1]) agy
 ·obtain⟨i,hi,rfl⟩:=fZ hw
  have hi2:i<e.p.evs.length:=by rw [← fB e.s e.p];exact hi
  rw [ji hi]
  obtain⟨h1,h2⟩:=oW hp hi2
  refine⟨?_,h2⟩
  cases hb:(colS e.s e.p i e.p.evs[i] == xI) with
  | false=>rfl
  | true=>rw [show colS e.s e.p i e.p.evs[i]=xI by simpa using hb,aaU] at h1;cases h1
theorem acS {t:List UInt8} (h:iH t=true):aH 10 (Hr++t):=by
 unfold iH at h
 simp only [dw]at h
 intro b hb e
 subst e
 rcases List.mem_append.1 hb with x|x
 ·revert x;decide
 ·have:=List.all_eq_true.1 h.2 _ x
  revert this;decide
theorem ajv {e:En} (hp:FZ e.s e.p)(ht:iH e.t=true):∀ w∈zN e,aH 10 w:=by
 intro w hw
 unfold zN at hw
 rcases List.mem_cons.1 hw with rfl|hw
 ·exact acS ht
 rcases List.mem_append.1 hw with x|x
 ·exact(aaq hp w x).2
 ·rw [List.mem_singleton.1 x]
  intro b hb e
  subst e;revert hb;decide
theorem Hl (a b:List (List UInt8)):ak 10 (a++b) []=ak 10 a []++ak 10 b []:=by unfold ak;simp
theorem ajx {e:En} (hp:FZ e.s e.p):enT e=ak 10 (zN e) []:=by
 unfold enT zN
 rw [(O7 hp).2.2.2,aF,Hl]
 unfold enR zx
 simp [ak,Hr,xI]
theorem Wn {b:List En} (hP:∀ k (h:k<b.length),FZ b[k].s b[k].p):∀ k,k≤b.length→rZ b k=ak 10 ((b.take k).flatMap zN) []
 | 0,_=>rfl
 | k+1,h=>by
  show rZ b k++ahi b k=_
  rw [Wn hP k (by omega),yD (by omega),ajx (hP k (by omega)),gq (by omega),Jd,Hl]
  simp
theorem akq {b:List En} {i:Nat} {e:En} (h:wG b i e=0):FZ e.s e.p:=by
 obtain⟨h1,h2,h3⟩:=Nw h
 refine abC ?_ h3
 unfold tq
 rw [if_pos h1]
 exact h2
theorem QS {b:List En} {i:Nat} {e:En} (h:wG b i e=0):iH e.t=true∧¬ iP b e.t<i:=by
 unfold wG at h
 by_cases h1:iH e.t=false∨iP b e.t<i
 ·rw [if_pos h1]at h;omega
 ·exact⟨by simpa using fun q=>h1 (.inl q),fun q=>h1 (.inr q)⟩
theorem ZG {b:List En} {t:List UInt8} {i:Nat} (hi:i≤b.length) (h:¬ iP b t<i):iP (b.take i) t=i:=by
 have h1:(b.take i).length=i:=by rw [jR];omega
 have h2:=WB (b.take i) t
 rcases qJ (iP (b.take i) t) i with q|q
 ·have hh:=vw (b:=b.take i) (t:=t) aj
  rw [LZ] at hh
  have:=kF (b:=b) (t:=t) (k:=iP (b.take i) t) aj aj
  rw [this] at hh;cases hh
 ·omega
theorem pX {b:List En} (h:vN b=0):∀ k (hk:k<b.length),FZ b[k].s b[k].p:=fun k hk=>akq ((nN h).2 k hk)
theorem amq {b:List En} (h:vN b=0):yE b=ak 10 (b.flatMap zN) []:=by
 unfold yE
 rw [if_pos h,Wn (pX h) b.length (Nat.le_refl _),fE]
theorem KZ {b:List En} (h:vN b=0):aI 10 (yE b)=(b.flatMap zN,[]):=by
 have hno:∀ l∈b.flatMap zN,aH 10 l:=fun l hl=>by
  obtain ⟨e,he,hl⟩:=List.mem_flatMap.1 hl
  obtain ⟨k,hk,rfl⟩:=fZ he
  exact ajv (pX h k hk) (QS ((nN h).2 k hk)).1 l hl
 rw [amq h]
 exact o8 hno (fun b hb=>by cases hb)
theorem Eb {b:List En} (h:vN b=0) {k a:Nat} (hk:k<b.length) (ha:((b.take k).flatMap zN).length=a) {L:List (List UInt8)} (hL:b.flatMap zN=L) :
  a<L.length∧fO L a (b.take k)=0∧¬ L.length≤a+1+fM (L.drop (a+1))∧fP L (a+1)=zx b[k].s b[k].p∧a+1+fM (L.drop (a+1))+1=((b.take (k+1)).flatMap zN).length∧nH L a=b[k].t:=by
 obtain ⟨h64,hE⟩:=nN h
 have hp:=pX h k hk
 obtain ⟨ht,hn⟩:=QS (hE k hk)
 obtain ⟨T,hTl⟩:∃ z,(b.drop (k+1)).flatMap zN=z:=⟨_,rfl⟩
 have hdr:L.drop a=(Hr++b[k].t)::(enR b[k]++xI::T):=by
  rw [← hL,← ha]
  conv=>lhs;rw [← Fb k b,Jd]
  rw [List.drop_left',kV hk,LW,hTl]
  ·simp [zN]
  ·simp
 have hln:a<L.length:=by
  have:=congrArg List.length hdr
  rw [qK,bW] at this
  omega
 have hg:L.getD a []=Hr++b[k].t:=by
  have:=congrArg List.head? hdr
  rw [List.head?_drop,List.head?_cons] at this
  rw [dI,this];rfl
 have hd1:L.drop (a+1)=enR b[k]++xI::T:=by
  rw [show a+1=1+a by omega,← List.drop_drop,List.drop_drop,EF 1 a,← List.drop_drop,hdr];rfl
 have hN:fM (L.drop (a+1))=(enR b[k]).length:=by
  rw [hd1]
  refine agB (by simp) (fun i hi=>?_) (fun q=>?_)
  ·rw [Fa hi]
   exact (aaq hp _ (fA hi)).1
  ·rw [Um (Nat.le_refl _)]
   simp
 have hX:fP L (a+1)=zx b[k].s b[k].p:=by
  unfold fP
  rw [hN,hd1,List.take_left']
  ·rfl
  ·rfl
 have htt:nH L a=b[k].t:=by unfold nH;rw [hg];rfl
 have hte:fO L a (b.take k)=0:=by
  unfold fO
  rw [if_neg (by rw [hg];show ¬ (Hr == Hr)=false;decide),if_neg ada,htt,if_neg]
  rw [ZG (by omega) hn,ht,jR]
  simp;omega
 have hne:¬ L.length≤a+1+fM (L.drop (a+1)):=by
  have:=congrArg List.length hd1
  rw [qK,bJ,bW] at this
  omega
 refine ⟨hln,hte,hne,hX,?_,htt⟩
 rw [hN,gq hk,Jd,bJ,ha]
 simp [zN];omega
theorem ake {b:List En} (h:vN b=0):bF (yE b)=(b,0,0):=by
 unfold bF
 rw [KZ h]
 rw [if_neg (by simp)]
 have key:∀ j k,j+k=b.length→kC (b.flatMap zN) ((b.take k).flatMap zN).length (b.take k)=(b,0,0):=by
  intro j
  induction j with
  | zero =>
   intro k hk
   obtain rfl:k=b.length:=by omega
   rw [fE]
   exact Rh (Nat.le_refl _)
  | succ j ih =>
   intro k hjk
   have hk:k<b.length:=by omega
   obtain ⟨s1,s2,s3,s4,s5,s6⟩:=Eb h hk rfl rfl
   have hrd:=VZ (pX h k hk)
   rw [← s4]at hrd
   rw [ld_next s1 s2 s3 (by rw [hrd]),s5,s6,hrd]
   have h2:=ih (k+1) aj
   rw [gq hk]at h2 ⊢
   exact h2
 have:=key b.length 0 aj
 exact jy
def ZY(b:List En)(a:Nat)(c:List En):Prop:=∃ k,k≤b.length∧a=((b.take k).flatMap zN).length∧c=b.take k
theorem acr {b:List En} {a:Nat} {c:List En} (hV:ZY b a c)(ha:a<(b.flatMap zN).length):∃ k,k<b.length∧((b.take k).flatMap zN).length=a∧c=b.take k:=by
 obtain⟨k,h1,h2,h3⟩:=hV
 refine⟨k,?_,h2.symm,h3⟩
 rcases qJ k b.length with q|q
 ·exact q
 ·rw [lC q]at h2;omega
theorem akR {b:List En} (h:vN b=0) {a:Nat} {c:List En} (hV:ZY b a c) (ha:a<(b.flatMap zN).length):(fP (b.flatMap zN) (a+1)).length≤65536:=by
 obtain ⟨k,hk,h2,_⟩:=acr hV ha
 obtain ⟨s1,s2,s3,s4,s5,s6⟩:=Eb h hk h2 rfl
 rw [s4]
 exact OM (pX h k hk)
theorem akQ {b:List En} (h:vN b=0) {a:Nat} {c:List En} (hV:ZY b a c) (ha:a<(b.flatMap zN).length) :
  ZY b (a+1+fM ((b.flatMap zN).drop (a+1))+1) (c++[⟨nH (b.flatMap zN) a,(au (fP (b.flatMap zN) (a+1))).1,(au (fP (b.flatMap zN) (a+1))).2.1⟩]):=by
 obtain ⟨k,hk,h2,h3⟩:=acr hV ha
 obtain ⟨s1,s2,s3,s4,s5,s6⟩:=Eb h hk h2 rfl
 refine ⟨k+1,by omega,s5,?_⟩
 rw [s4,VZ (pX h k hk),s6,h3,gq hk]
theorem Vr(s:Int)(p:aN):(hdW s p).length≤1219:=by
 exact aeY
theorem agP {s:Int} {p:aN} (h:FZ s p):(zx s p).length≤1219+145*p.evs.length:=by
 have h1:=uh (b:=144) (l:=iM s p) fun w hw=>by
  obtain ⟨i,hi,rfl⟩:=fZ hw
  rw [ji hi]
  exact Dz h (by rw [← fB s p];exact hi)
 rw [fB] at h1
 have h3:=Vr s p
 rw [aby (fK h.e).1] at h3
 unfold zx
 rw [aF,aF]
 simp only [bJ,bW,iC] at h3 ⊢
 omega
theorem KY {b:List En} (h:vN b=0):∀ k,k≤b.length→(rZ b k).length≤1290*k+145*F9 (b.take k)
 | 0,_=>by simp [rZ]
 | k+1,hk=>by
  have hlt:k<b.length:=by omega
  have h1:=KY h k aj
  have h2:=agP (pX h k hlt)
  have h4:=ND hlt
  have h5:=Vh b[k]
  have h6:=zK (QS ((nN h).2 k hlt)).1
  rw [(O7 (pX h k hlt)).2.2.2]at h5
  unfold rZ
  rw [yD hlt,bJ]
  omega
theorem ahj {b:List En} (h:vN b=0)(he:F9 b≤200):(yE b).length≤200000:=by
 have h1:=KY h b.length (Nat.le_refl _)
 have h2:=(nN h).1
 rw [fE]at h1
 unfold yE
 rw [if_pos h]
 omega
theorem acR {b r:List En} {t:List UInt8} (h:iP b t<b.length):iP (b++r) t=iP b t:=by
 refine Lm (k:=iP b t) (by rw [bJ];omega) (fun i hi=>?_) ?_
 ·rw [Fa (by omega)]
  have:=kF hi aj
  exact jy
 ·rw [Fa h]
  simpa using vw h
theorem ZF {b:List En} {k:Nat} (h:k<b.length):iP b b[k].t<b.length:=by
 rcases qJ (iP b b[k].t) b.length with q|q
 ·exact q
 ·have:=kF (b:=b) (t:=b[k].t) (k:=k) aj h
  simp at this
def LdV(b:List En):Prop:=b.length≤64∧∀ k(h:k<b.length),wG b k b[k]=0
theorem agA {b:List En} {e:En} (h:LdV b) (hl:b.length≠64) (ht:iH e.t=true) (hn:¬ iP b e.t<b.length) (hp:FZ e.s e.p):LdV (b++[e]):=by
 refine ⟨by rw [bJ,EP];have:=h.1;omega,fun k hk=>?_⟩
 rw [bJ,EP] at hk
 rcases qJ k b.length with q|q
 ·rw [Fa q]
  have h2:=h.2 k q
  unfold wG at h2 ⊢
  rw [acR (ZF q)]
  exact h2
 ·obtain rfl:k=b.length:=by omega
  rw [Um (Nat.le_refl _)]
  have h5:iP (b++[e]) e.t=b.length:=by
   have h1:=WB b e.t
   refine Lm (by simp) (fun i hi=>?_) (by simp)
   rw [Fa hi]
   have:=kF (b:=b) (t:=e.t) (k:=i) aj hi
   exact jy
  have h6:=O7 hp
  simp only [Eu,uK]
  unfold wG
  rw [h5,ht,if_neg (by simp),if_neg (fun q=>q hp.y),if_neg (fun q=>q hp.e),if_pos h6.2.1]
theorem Vy (L:List (List UInt8)):∀ (k a:Nat)(b:List En),LdV b→(kZ L k a b).2.2=0→LdV (kZ L k a b).1
 | 0,a,b,h,_=>h
 | k+1,a,b,h,h0=>by
  unfold kZ at h0 ⊢
  by_cases h1:L.length≤a
  ·rw [if_pos h1];exact h
  rw [if_neg h1] at h0 ⊢
  by_cases h2:fO L a b≠0
  ·rw [if_pos h2] at h0;exact absurd h0 h2
  rw [if_neg h2] at h0 ⊢
  have h2:fO L a b=0:=Decidable.not_not.1 h2
  by_cases h3:L.length≤a+1+fM (L.drop (a+1))
  ·rw [if_pos h3] at h0;exact absurd h0 Jm
  rw [if_neg h3] at h0 ⊢
  by_cases h4:(au (fP L (a+1))).2.2.2≠0
  ·rw [if_pos h4] at h0;exact absurd h0 h4
  rw [if_neg h4] at h0 ⊢
  obtain⟨s,l1,F,hR⟩:=wX (Decidable.not_not.1 h4)
  obtain⟨t1,t2⟩:=J9 h2
  refine Vy L k _ _ (agA h (CY h2) t1 t2 ?_) h0
  show FZ (au (fP L (a+1))).1 (au (fP L (a+1))).2.1
  rw [hR.eq]
  exact (wY hR).1
theorem X9 {t:List UInt8} (h:(bF t).2.2=0):vN (bF t).1=0:=by
 have hV:LdV (bF t).1:=by
  unfold bF at h ⊢
  by_cases c:(aI 10 t).2≠[]
  ·rw [if_pos c] at h;exact absurd h Jm
  ·rw [if_neg c] at h ⊢
   exact Vy _ _ _ _ ⟨by simp,by simp⟩ h
 exact Z9 (by have:=hV.1;omega) hV.2
theorem ZK {t:List UInt8} {s:Int} {l1:List UInt8} {F:List (List UInt8)} (h:NwR t s l1 F):(MZ s (jh s l1 F)).length≤1219+t.length:=by
 obtain⟨hp,_,hT⟩:=wY h
 have h1:=iF 10 t
 rw [h.spl]at h1
 dsimp only at h1
 rw [aF,aF]at h1
 have h2:=congrArg List.length h1
 have h3:=Vr s (jh s l1 F)
 rw [aby (fK hp.e).1]at h3
 rw [(O7 hp).2.2.2,hT,aF,aF]
 simp only [bJ,bW,iC]at h2 h3 ⊢
 omega
def LdW(b:List En):Prop:=b.length≤64∧∀ e∈b,(MZ e.s e.p).length≤21219∧e.t.length≤60
theorem Vz {L:List (List UInt8)} (hx:∀ a,(fP L a).length≤20000):∀ (k a:Nat) (b:List En),LdW b→LdW (kZ L k a b).1
 | 0,a,b,h=>h
 | k+1,a,b,h=>by
  have hn:LdW []:=⟨by simp,by simp⟩
  unfold kZ
  by_cases h1:L.length≤a
  ·rw [if_pos h1];exact h
  rw [if_neg h1]
  by_cases h2:fO L a b≠0
  ·rw [if_pos h2];exact hn
  rw [if_neg h2]
  have h2:fO L a b=0:=Decidable.not_not.1 h2
  by_cases h3:L.length≤a+1+fM (L.drop (a+1))
  ·rw [if_pos h3];exact hn
  rw [if_neg h3]
  by_cases h4:(au (fP L (a+1))).2.2.2≠0
  ·rw [if_pos h4];exact hn
  rw [if_neg h4]
  refine Vz hx k _ _ ⟨?_,fun e he=>?_⟩
  ·exact adS
  ·rcases List.mem_append.1 he with x|x
   ·exact h.2 e x
   ·rw [List.mem_singleton.1 x]
    obtain ⟨s,l1,F,hR⟩:=wX (Decidable.not_not.1 h4)
    refine ⟨?_,zK (J9 h2).1⟩
    have:=ZK hR
    have:=hx (a+1)
    show (MZ (au (fP L (a+1))).1 (au (fP L (a+1))).2.1).length≤_
    rw [hR.eq]
    show (MZ s (jh s l1 F)).length≤_
    omega
theorem Ya {t:List UInt8} (ht:t.length≤20000):LdW (bF t).1:=by
 unfold bF
 split
 ·exact ⟨by simp,by simp⟩
 ·exact Vz (fun a=>iD (N9 t a) ht) _ _ _ ⟨by simp,by simp⟩
theorem acp {b:List En} (h:LdW b):∀ k,k≤b.length→(rZ b k).length≤21290*k
 | 0,_=>by simp [rZ]
 | k+1,hk=>by
  have h1:=acp h k aj
  obtain⟨h2,h3⟩:=h.2 _ (fA (show k<b.length by omega))
  have h5:=Vh (b[k]' aj)
  unfold rZ
  rw [yD (by omega),bJ]
  omega
theorem abQ (b:List En) (hB:Na b) (hne:b.length=0):Ctg qc Tryz.prog 26 [Vb b] (.tu [.sc (.string (bs (yE b))),.sc (.int .i64 (vN b))]):=by
 have hb:b=[]:=kU hne
 have hC:=um b hB
 have e0:vN b=0:=by rw [hb];rfl
 have eT:yE b=[]:=by rw [hb];rfl
 rw [eT,e0]
 rw [e0] at hC
 refine Ctg.intro jq Tryz.func26 rfl Tryz.ntmps26 (aP rfl) (aT rfl) fun w0 F0 hB=>?_;dsimp only [St.init,number,Nat.reduceAdd]
 refine amH ?_
 refine WL.vl rfl (bU Tryz.func28 hC) ?_
 refine ac7 ?_
 refine W.loop (fun k:Nat=>k=0) (fun k=>⟨[(5,.pt 1 0 0),(16,.ls 5 (b.map sJ)),(17,.sc (.int .i64 b.length)),(18,.sc (.int .i64 k))],[(1,.box 103 [.sc (.pointer none),.sc (.slice none 0 0)])],2⟩) (fun k=>k) 0 rfl (zqt id) fun k hk=>?_
 subst hk
 refine ac7 ?_
 refine WL.vl rfl (WV.afL rfl (callF Tryz.func55 rfl rfl) rfl rfl fun w b=>U6 w b _) ?_
 refine ac7 ?_
 exact oO
theorem abR (b:List En) (hB:Na b) (hS:vN b=0→∀ k,k≤b.length→(rZ b k).length≤400000000) (hwT:vN b=0→∀ k (h:k < b.length),(MZ b[k].s b[k].p).length≤210000000) (hne:0 < b.length):Ctg qc Tryz.prog 26 [Vb b] (.tu [.sc (.string (bs (yE b))),.sc (.int .i64 (vN b))]):=by
 have hn:=hB.n
 have hBt:=hB.t
 have hBp:=hB.p
 have hC:=um b hB
 by_cases h0:vN b=0
 rotate_left
 ·have eT:yE b=[]:=if_neg h0
  rw [eT]
  obtain ⟨E,hE⟩:∃ E,vN b=E:=⟨_,rfl⟩
  rw [hE] at h0 hC ⊢
  refine Ctg.intro jq Tryz.func26 rfl Tryz.ntmps26 (aP rfl) (aT rfl) fun w0 F0 hB=>?_;dsimp only [St.init,number,Nat.reduceAdd]
  refine ac4 ?_
  refine WL.vl rfl (bU Tryz.func28 hC) ?_
  exact MR
 have eT:yE b=rZ b b.length:=if_pos h0
 have hEn:=(nN h0).2
 have hlen:=hS h0
 rw [eT,h0]
 rw [h0] at hC
 refine Ctg.intro jq Tryz.func26 rfl Tryz.ntmps26 (aP rfl) (aT rfl) fun w0 F0 hB=>?_;dsimp only [St.init,number,Nat.reduceAdd]
 refine ac4 ?_
 refine WL.vl rfl (bU Tryz.func28 hC) ?_
 refine iR ?_
 first|refine W.tr (Tr.bld 1 5 rfl) ?_|refine WL.tr (Tr.bld 1 5 rfl) ?_
 dsimp only [St.upd]
 refine iR ?_
 refine W.loop (fun k:Nat=>k≤b.length) (fun k=>⟨[(5,.pt 1 0 0),(16,.ls 5 (b.map sJ)),(17,.sc (.int .i64 b.length)),(18,.sc (.int .i64 k))],[(1,.bld 103 5 (rZ b k))],2⟩) (fun k=>b.length - k) 0 aj (zqt id) fun k hk=>?_
 by_cases hlt:k < b.length
 rotate_left
 ·obtain rfl:k=b.length:=by omega
  have hBn:rZ b b.length≠[]:=by
   obtain ⟨n,hn⟩:∃ n,b.length=n+1:=⟨b.length - 1,by omega⟩
   rw [hn]
   unfold rZ
   rw [yD (by omega)]
   unfold enT
   simp
  refine iR ?_
  refine WL.bs rfl rfl rfl (callF Tryz.func55 rfl rfl) uU hBn ?_
  exact MR
 have h1:=hlen k hk
 have h3:=hBt k hlt
 obtain ⟨hs,hp,hl⟩:=Nw (hEn k hlt)
 have hwX:=(ahz hs (hBp k hlt) hp hl).1
 have hwl:=hwT h0 k hlt
 have hW:=abS b[k].s b[k].p (hBp k hlt)
 rw [hwX] at hW
 have hst:rZ b k++enT b[k]=rZ b (k+1):=by rw [← yD hlt];rfl
 have hn3:=(hBp k hlt).n3
 obtain ⟨SB,hSB⟩:∃ z,rZ b k=z:=⟨_,rfl⟩
 rw [hSB] at h1 hst ⊢
 refine iR ?_
 obtain ⟨e,he⟩:∃ e,b[k]=e:=⟨_,rfl⟩
 simp only [he] at hW hwl hst h3 hn3 ⊢
 unfold enT at hst
 obtain ⟨wt,hwt⟩:∃ z,MZ e.s e.p=z:=⟨_,rfl⟩
 rw [hwt] at hW hwl hst
 refine WL.vl rfl (WV.callG hB rfl (callF Tryz.func14 rfl rfl) rfl rfl hW) ?_
 have c1:([116,105,116,108,101,32]++e.t).length≤1006:=by rw [bJ];simp only [bW,iC];omega
 have c2:([116,105,116,108,101,32]++e.t++[10]).length≤1007:=by rw [bJ];simp only [bW,iC];omega
 have c3:([116,105,116,108,101,32]++e.t++[10]++wt).length≤210010000:=by rw [bJ];omega
 have c4:([116,105,116,108,101,32]++e.t++[10]++wt++[101,110,100,10]).length≤210010004:=by rw [bJ];simp only [bW,iC];omega
 refine iR ?_
 refine WL.bw rfl rfl rfl (callF Tryz.func53 rfl rfl) kJ aj hst ?_
 refine iR ?_
 exact afc
theorem V4 (b:List En)(hB:Na b)(hS:vN b=0→∀ k,k≤b.length→(rZ b k).length≤400000000)(hwT:vN b=0→∀ k (h:k<b.length),(MZ b[k].s b[k].p).length≤210000000):Ctg qc Tryz.prog 26 [Vb b] (.tu [.sc (.string (bs (yE b))),.sc (.int .i64 (vN b))]):=by
 by_cases h:b.length=0
 ·exact abQ b hB h
 ·exact abR b hB hS hwT aj
end
end Go.Proofs.YthohlofpphjofaaGreatDoor
