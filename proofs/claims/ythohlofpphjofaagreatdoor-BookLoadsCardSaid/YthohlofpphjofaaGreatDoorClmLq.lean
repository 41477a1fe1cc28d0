/- notation.Column, without its law. -/
import Derived.Test.YthohlofpphjofaaGreatDoorSlLq
import Derived.Test.YthohlofpphjofaaGreatDoorGfLq
import Derived.Test.YthohlofpphjofaaGreatDoorNrDLq
set_option maxHeartbeats 8000000
set_option maxRecDepth 100000
set_option linter.unusedVariables false
set_option linter.unusedSimpArgs false
namespace Go.Proofs.YthohlofpphjofaaGreatDoor
theorem avw {p:Prop}(h:p:=by repeat (first|exact trivial|refine ⟨⟨?_,?_,?_⟩,?_⟩|rfl|exact congrArg (λq=>some (AO.row _ _ q)) hset)):p:=h
section
variable {p:Prop}
theorem U6(h:p:=by
 refine ni ?_;exact kT):p:=h
theorem ab8(h:p:=by
 refine iM ?_;refine (?_:Tr _ _ _);exact ano):p:=h
theorem ame(h:p:=by
 refine kS ?_;simp only [ez,hc0];refine kG ?_;exact W.ret kR):p:=h
theorem abW(h:p:=by exact⟨this,by unfold Sj;rw [this];rfl⟩):p:=h
theorem al9(h:p:=by
 rw [dL,aO h]at h2;simpa using h2):p:=h
theorem alz(h:p:=by
 obtain rfl:k=t.length:=by omega
 rw [jw] at hall;rw [hall];refine kG ?_;exact W.ret kR):p:=h
theorem alx(h:p:=by
 refine kS ?_;simp only [ez,hc0];refine kS ?_;simp only [el,hc1];refine kG ?_;exact W.ret kR):p:=h
theorem asV(h:p:=by
 rw [e,iC] at Cc;rw [e];refine iM ?_;refine WL.tr (Tr.freeze 4 rfl) ?_;refine WL.vl rfl (aS Tryz.func111 Cc) ?_;refine iM ?_;exact W.ret kR):p:=h
theorem asQ(h:p:=by
 have e:jS t=false:=by unfold jS;rw [bW (by omega)];rfl
 rw [e];refine dV Tryz.func68 Tryz.ntmps68 λw0 F0=>?_;dsimp only [St.init,number,Nat.reduceAdd];refine kG ?_;exact W.ret kR):p:=h
theorem asP(h:p:=by
 have e:jS t=false:=by unfold jS;rw [bW (by omega)];rfl
 rw [e];refine dV Tryz.func71 Tryz.ntmps71 λw0 F0=>?_;dsimp only [St.init,number,Nat.reduceAdd];refine kG ?_;exact W.ret kR):p:=h
theorem asH(h:p:=by exact (ku (λq=>bif Nat.beq q 2 then 3 else q) mJ rfl)):p:=h
theorem ar5(h:p:=by
 have ek:((k:Nat):Int).toNat=k:=gy k;have hst:=λh=>aks hlt hall h;have hno:=λh=>avl hlt h;have hch:Ko (t.getD k 0)=(decide (32<=((t.getD k 0).toNat:Int)) && decide (((t.getD k 0).toNat:Int)<=126)):=rfl;obtain ⟨c,hc⟩:∃ c,((t.getD k 0).toNat:Int)=c:=⟨_,rfl⟩;rw [hc] at hch;rw [hch] at hst hno;by_cases h5:c < 32
 .rw [hno (by rw [bW (by omega)];rfl)];refine kS ?_;simp only [ek,hc];refine kG ?_;exact W.ret kR
 by_cases h6:c > 126
 .rw [hno (by rw [bW (show ¬ c<=126 by omega)];simp)];refine kS ?_;simp only [ek,hc];refine kS ?_;simp only [ek,hc];refine kG ?_;exact W.ret kR
 have hnext:=hst (by rw [bQ (show 32<=c by omega),bQ (show c<=126 by omega)];rfl);refine kS ?_;simp only [ek,hc];refine kS ?_;simp only [ek,hc];refine kG ?_;exact ⟨k+1,⟨by omega,hnext⟩,by omega,(zqt id)⟩):p:=h
end
theorem Oj {p q:Prop}(k:q)(h:iF q->p:=by
 intro hq;repeat (first|refine DK.st rfl ?_|refine DK.ar rfl rfl yg ?_|refine DK.idx rfl rfl au zqm ?_|refine DK.nil ?_)
 exact hq.k):p:=h ⟨k⟩
section
open Go.RowKit
theorem acz {l:Int}:(cut ZN l (l+1)).length<=1:=by simp only [cut,jT,vk];omega
def hd1(s i:Int)(e:Ev):List YX:=if s=4/\e.three=true then [(i,0,5)]else []
def hd2(s i:Int)(e:Ev):List YX:=if s=4/\e.val=0 then [(i,0,6)]else []
structure En where
 t:List UInt8
 s:Int
 p:bV
def yZ (e:En):List AV:=[.sc (.string (bs e.t)),.sc (.int .u8 e.s),.ls 3 (e.p.cs.map bg),.ls 1 (e.p.st.map eInt),.ls 6 (e.p.evs.map iO)]
def eBk (b:List En):AV:=.ag [.ls 5 (b.map yZ)]
def Ko (c:UInt8):Bool:=decide (32<=(c.toNat:Int)) && decide ((c.toNat:Int)<=126)
def jS (t:List UInt8):Bool:=decide (1<=t.length/\t.length<=60) && !(((t.getD 0 0).toNat:Int) == 32) && !(((t.getD (t.length-1) 0).toNat:Int) == 32) && t.all Ko
def wW(b:List En)(t:List UInt8):Nat:=(b.takeWhile λe=>!(e.t == t)).length
def agK(b:List En)(t:List UInt8):Int:=if wW b t<b.length then(wW b t:Int)else -1
theorem aqg(b:List En)(t:List UInt8):wW b t<=b.length:=(Yu _).length_le
theorem Yl {b:List En} {t:List UInt8} {k:Nat} (h:k<wW b t) (hk:k<b.length):(b[k].t == t)=false:=by
 have h1:(b.takeWhile λe=>!(e.t == t))[k]'h∈b.takeWhile λe=>!(e.t == t):=gB _;have h2:(b.takeWhile λe=>!(e.t == t))[k]'h=b[k]:=(abp _).getElem _;have h3:=List.all_eq_true.1 (List.all_takeWhile (p:=λe:En=>!(e.t == t)) (l:=b)) _ h1;rw [h2] at h3;simpa using h3
theorem Hz {b:List En} {t:List UInt8} (h:wW b t<b.length):(b[wW b t].t == t)=true:=by
 have h1:b.drop (wW b t)=b.dropWhile λe=>!(e.t == t):=by
  have e:=List.takeWhile_append_dropWhile (p:=λe:En=>!(e.t == t)) (l:=b);have:=Yv (l₁:=b.takeWhile λe=>!(e.t == t)) (l₂:=b.dropWhile λe=>!(e.t == t));rw [e] at this;exact this
 have h2:b.drop (wW b t)=b[wW b t]::b.drop (wW b t+1):=pX h;rw [h1] at h2;have h3:=List.head?_dropWhile_not (λe:En=>!(e.t == t)) b;rw [h2] at h3;simpa [aO h] using h3
theorem adL {b:List En} {t:List UInt8} {k:Nat} (hk:k<b.length) (h1:∀ i (hi:i<k),(b[i]'(by omega)).t≠t) (h2:b[k].t=t):wW b t=k:=by
 rcases Q8 (wW b t) k with h|h|h
 .have:=Hz (b:=b) (t:=t) au;exact absurd (by simpa using this) (h1 _ h)
 .exact h
 .have:=Yl h hk;rw [h2] at this;simp at this
structure asX(b:List En):Prop where
 n:b.length<=70p:∀ k(h:k<b.length),jh b[k].p
 t:∀ k(h:k<b.length),b[k].t.length<=1000
theorem aks {t:List UInt8} {k:Nat} (h:k<t.length)(h1:(t.take k).all Ko=true)(h2:Ko (t.getD k 0)=true):(t.take (k+1)).all Ko=true:=by
 rw [kF h,List.all_append,h1];exact al9
theorem avl {t:List UInt8} {k:Nat} (h:k<t.length)(h2:Ko (t.getD k 0)=false):t.all Ko=false:=by
 rw [List.all_eq_false];refine⟨t[k],gB h,?_⟩;exact al9
theorem afD (t:List UInt8) (hl:t.length<=1000000):bC Tryz.prog 71 [.sc (.string (bs t))] (.sc (.bool (jS t))):=by
 by_cases h1:t.length < 1;.exact asP
 by_cases h2:t.length > 60;.exact asP
 have e0:decide (1<=t.length/\t.length<=60)=true:=bQ au;have ez:((0:Int)).toNat=0:=rfl;have el:(((t.length:Nat):Int) - 1).toNat=t.length - 1:=by omega
 obtain ⟨c0,hc0⟩:∃ c,((t.getD 0 0).toNat:Int)=c:=⟨_,rfl⟩;obtain ⟨c1,hc1⟩:∃ c,((t.getD (t.length - 1) 0).toNat:Int)=c:=⟨_,rfl⟩;by_cases h3:c0=32
 .have e:jS t=false:=by unfold jS;rw [e0,hc0,h3];rfl
  rw [e];refine dV Tryz.func71 Tryz.ntmps71 λw0 F0=>?_;dsimp only [St.init,number,Nat.reduceAdd];exact ame
 by_cases h4:c1=32
 .have e:jS t=false:=by unfold jS;rw [e0,hc0,hc1,h4];simp
  rw [e];refine dV Tryz.func71 Tryz.ntmps71 λw0 F0=>?_;dsimp only [St.init,number,Nat.reduceAdd];exact alx
 have e:jS t=t.all Ko:=by unfold jS;rw [e0,hc0,hc1];simp [h3,h4]
 rw [e];refine dV Tryz.func71 Tryz.ntmps71 λw0 F0=>?_;dsimp only [St.init,number,Nat.reduceAdd];refine kS ?_;simp only [ez,hc0];refine kS ?_;simp only [el,hc1];refine kG ?_;refine W.loop (λk:Nat=>k<=t.length/\(t.take k).all Ko=true) (λk=>⟨[(0,.sc (.string (bs t))),(3,.sc (.int .i64 k))],[],0⟩) (λk=>t.length - k) 0 ⟨by omega,by simp⟩ (zqt id) λk hk=>?_;obtain ⟨hk,hall⟩:=hk;by_cases hlt:k < t.length;rotate_left;.exact alz
 exact ar5
theorem afR (t:List UInt8) (hl:t.length<=1000000):bC Tryz.prog 68 [.sc (.string (bs t))] (.sc (.bool (jS t))):=by
 by_cases h1:t.length < 1;.exact asQ
 by_cases h2:t.length > 60;.exact asQ
 have e0:decide (1<=t.length/\t.length<=60)=true:=bQ au;have ez:((0:Int)).toNat=0:=rfl;have el:(((t.length:Nat):Int) - 1).toNat=t.length - 1:=by omega
 obtain ⟨c0,hc0⟩:∃ c,((t.getD 0 0).toNat:Int)=c:=⟨_,rfl⟩;obtain ⟨c1,hc1⟩:∃ c,((t.getD (t.length - 1) 0).toNat:Int)=c:=⟨_,rfl⟩;by_cases h3:c0=32
 .have e:jS t=false:=by unfold jS;rw [e0,hc0,h3];rfl
  rw [e];refine dV Tryz.func68 Tryz.ntmps68 λw0 F0=>?_;dsimp only [St.init,number,Nat.reduceAdd];exact ame
 by_cases h4:c1=32
 .have e:jS t=false:=by unfold jS;rw [e0,hc0,hc1,h4];simp
  rw [e];refine dV Tryz.func68 Tryz.ntmps68 λw0 F0=>?_;dsimp only [St.init,number,Nat.reduceAdd];exact alx
 have e:jS t=t.all Ko:=by unfold jS;rw [e0,hc0,hc1];simp [h3,h4]
 rw [e];refine dV Tryz.func68 Tryz.ntmps68 λw0 F0=>?_;dsimp only [St.init,number,Nat.reduceAdd];refine kS ?_;simp only [ez,hc0];refine kS ?_;simp only [el,hc1];refine kG ?_;refine W.loop (λk:Nat=>k<=t.length/\(t.take k).all Ko=true) (λk=>⟨[(0,.sc (.string (bs t))),(3,.sc (.int .i64 k))],[],0⟩) (λk=>t.length - k) 0 ⟨by omega,by simp⟩ (zqt id) λk hk=>?_;obtain ⟨hk,hall⟩:=hk;by_cases hlt:k < t.length;rotate_left;.exact alz
 exact ar5
theorem aho {st:List Int}:∀ {cs:List (Int×Int×Bool)},Eh st cs=0->∀ k (h:k<cs.length),0<=cs[k].1/\cs[k].1<=127:=by
 intro cs;induction cs with
 | nil=>intro _ k h;simp at h| cons x r ih =>
  intro h k hk;unfold Eh at h;by_cases h1:x.2.1<0\/(st.length:Int)<x.2.1;.rw [if_pos h1]at h;cases h
  .rw [if_neg h1]at h;by_cases h2:(x.1<0\/127<x.1)\/127<Au st x;.rw [if_pos h2]at h;cases h
   .rw [if_neg h2]at h;cases k with
    | zero=>simp;omega| succ k=>simpa using ih h k FX
theorem aa7 (cs:List (Int×Int×Bool)) (st:List Int) (x:Int×Int×Bool) (f:Int) (hx:0<=x.1/\x.1<=127) (hf:0<=f/\f<=st.length) (hl:st.length<=18) (hs:∀ k (h:k < st.length),1<=st[k]/\st[k]<=127) :bC Tryz.prog 280 [.ag (jc cs st),.ag (bg x),.sc (.int .i64 f)] (.sc (.int .i64 (x.1+if 0 < f then st.getD (f - 1).toNat 0 else 0))):=by
 refine dV Tryz.func280 Tryz.ntmps280 λw0 F0=>?_;dsimp only [St.init,number,Nat.reduceAdd];by_cases h0:f=0
 .subst h0;have e0:x.1+(if (0:Int) < 0 then st.getD ((0:Int) - 1).toNat 0 else 0)=x.1:=by simp
  rw [e0];refine aq9 ?_;exact W.ret kR
 .have hlt:(f - 1).toNat < st.length:=by omega
  have hs1:=hs _ hlt;have hg:st.getD (f - 1).toNat 0=st[(f - 1).toNat]:=by rw [dL,aO hlt];rfl
  rw [if_pos (by omega),hg];refine ara ?_;refine iY ?_;refine Oj ?_;refine ara ?_;exact W.ret kR
theorem auI (cs:List (Int×Int×Bool)) (st:List Int) (c f:Int) (hI:jW cs st=0) (hc:1<=c/\c<=cs.length) (hf:0<=f/\f<=jV cs c) :bC Tryz.prog 266 [.ag (jc cs st),.ag [.sc (.int .i64 c),.sc (.int .i64 f)]] (.tu [.sc (.int .i64 (DJ cs st c f)),.sc (.int .i64 0)]):=by
 obtain ⟨l1,l2,l3,l4,l5⟩:=uG hI;have hC:=yJ cs st;rw [hI] at hC;have hk:(c - 1).toNat < cs.length:=by omega
 have hfr:=JJ l5 _ hk;have hp:=aho l5 _ hk;have ef:jV cs c=cs[(c - 1).toNat].2.1:=by exact abT
 rw [ef] at hf;have ep:DJ cs st c f=cs[(c - 1).toNat].1+if 0 < f then st.getD (f - 1).toNat 0 else 0:=by
  unfold DJ;rw [dL,aO hk];rfl
 rw [ep];have hS:=aa7 cs st cs[(c - 1).toNat] f hp ⟨hf.1,by omega⟩ l3 (wu (wz 0) l4);refine dV Tryz.func266 Tryz.ntmps266 λw0 F0=>?_;dsimp only [St.init,number,Nat.reduceAdd];refine ax8 ?_;refine WL.vl rfl (aS Tryz.func103 hC) ?_;refine arb ?_;refine WL.vl rfl (aS Tryz.func280 hS) ?_;refine arb ?_;exact W.ret (fin2 rfl rfl rfl rfl rfl rfl rfl)
theorem aeX {s:Int} {e:Ev} (h:e.bar=true):headW s e=[[124],tW e.val (Y3 e.dot e.three)]:=if_pos h
theorem ahW {s:Int} {e:Ev} (h:e.bar=false):headW s e=[tW e.val (Y3 e.dot e.three)]:=if_neg CZ
def uF (n k:Nat):List (List UInt8):=(List.range n).map λj=>if j<k then [45]else []
theorem Zh (n:Nat):(uF n 0).map eStr=List.replicate n [.sc (.string ⟨#[]⟩)]:=by
 unfold uF;rw [Jf];apply oV;.simp
 .intro i h1 h2;simp [eStr,bs]
theorem aeD(n k:Nat):(uF n k).length=n:=by simp [uF]
theorem Zg (n k:Nat)(h:k<n):(uF n k).set k [45]=uF n (k+1):=by
 unfold uF;apply oV;.simp
 .intro i h1 h2;rw [Yw];simp only [Yx,abq];by_cases e:k=i;.rw [if_pos e,if_pos (by omega)]
  .rw [if_neg e];by_cases e2:i<k;.rw [if_pos e2,if_pos (by omega)]
   .rw [if_neg e2,if_neg (by omega)]
theorem aeC(s:Int)(L:Int->Nat)(n:Nat):uF n n=gW s L n []:=by
 rw [aa5];unfold uF;apply oV;.simp
 .intro i h1 h2;have hi:i<n:=by simpa using h1
  simp [hi]
theorem PK(s:Int)(e:Ev):(headW s e).length<=2:=by unfold headW;split<;>simp
theorem QI(s:Int)(p:bV):nO s p<=6:=by unfold nO;split<;>omega
theorem DZ(s:Int)(L:Int->Nat)(n:Nat)(l:List Stp):(gW s L n l).length=n:=by simp [gW]
theorem avi (v:Int)(i:Nat)(h:0<=v/\v<=7):(tW v i).length<=2:=by
 unfold tW;have hc:(cut Ar (v-1) v).length<=1:=by simp only [cut,jT,vk];omega
 split;.decide
 .split;.omega
  .split<;>simp<;>omega
theorem aqc (s:Int)(hs:1<=s/\s<=4)(L:Int->Nat)(l:List Stp)(c:Int)(h:∀ x∈l,(1<=x.1/\x.1<=14)/\(0<=x.2.1/\x.2.1<=18)):(stF s L l c).length<=12:=by
 unfold stF;split
 .rename_i x hx;have:=h x (adF hx).1;exact Px _ _ _ _ _ _ _ hs this.1 this.2
 .simp
theorem axk {e:Ev} (h:JH e):∀ x∈e.stops,(1<=x.1/\x.1<=14)/\(0<=x.2.1/\x.2.1<=18):=λx hx=>by
 obtain⟨k,hk,rfl⟩:=oz hx;exact⟨(h k hk).1,(h k hk).2.1⟩
theorem ae4 {n:Nat} (l:List (List UInt8))(h:∀ t∈l,t.length<=n):(y5 l).length<=(n+1)*l.length:=by cases l with
 | nil=>simp [y5]| cons x r =>
  have h1:=adD (l:=r) λt ht=>h t (by simp [ht]);have h2:=h x (by simp);simp only [y5,dS,pW,Nat.mul_succ];omega
theorem V8 (s:Int) (hs:1<=s/\s<=4) (p:bV) (i:Int) (e:Ev) (hsg:qG e.val e.dot e.three=true) (hv:JH e) (h20:e.stops.length<=20):(yA s p i e).length<=1000/\(y5 (yA s p i e)).length<=1000000:=by
 have hi:=axk hv;have hh:=PK s e;have hst:∀ t∈gW s (λc=>ak p.evs i c) (nO s p) e.stops,t.length<=12:=λt ht=>by
  unfold gW at ht;obtain ⟨j,_,rfl⟩:=List.mem_map.1 ht;exact aqc s hs _ _ _ hi
 have hou:∀ t∈tq s (λc=>ak p.evs i c) (nO s p) e.stops,t.length<=12:=λt ht=>by
  have:t∈(e.stops.filter λx=>decide (((nO s p:Nat):Int)<x.1)).map (Y4 s λc=>ak p.evs i c):=by
   unfold tq at ht;split at ht;.simpa using ht
   .exact ht
  obtain ⟨x,hx,rfl⟩:=List.mem_map.1 this;have:=hi x (List.mem_filter.1 hx).1;exact Px _ _ _ _ _ _ _ hs this.1 this.2
 have hlo:=LY s (λc=>ak p.evs i c) (nO s p) e.stops;have hls:=DZ s (λc=>ak p.evs i c) (nO s p) e.stops;have hn6:=QI s p;have hall:∀ t∈yA s p i e,t.length<=12:=λt ht=>by
  unfold yA at ht;rcases List.mem_append.1 ht with ht|ht
  .have htw:=avi e.val (Y3 e.dot e.three) ⟨(Nb hsg).1,(Nb hsg).2.1⟩;unfold headW at ht;split at ht
   .simp only [NP,FK,or_false] at ht;rcases ht with rfl|rfl;.simp
    .omega
   .simp only [NP,FK,or_false] at ht;subst ht;omega
  .split at ht;.simp at ht;subst ht;simp
   .split at ht;.simp at ht;subst ht;simp
    .split at ht
     .rcases List.mem_append.1 ht with ht|ht;.exact hou t ht
      .exact hst t ht
     .rcases List.mem_append.1 ht with ht|ht;.exact hst t ht
      .exact hou t ht
 have hlen:(yA s p i e).length<=40:=by
  unfold yA;rw [dS];split;.simp;omega
  .split;.simp;omega
   .split;.rw [dS];omega
    .rw [dS];omega
 refine ⟨by omega,?_⟩;have:=ae4 _ hall;have h2:(12+1)*(yA s p i e).length<=13*40:=Nat.mul_le_mul_left 13 hlen;omega
theorem aev (s:Int) (hs:1<=s/\s<=4) (p:bV) (i:Nat) (hi:i < p.evs.length) (hO:jh p) (h0:bM p=0) :bC Tryz.prog 54 [.sc (.int .u8 s),.sc (bT s),iG p,.sc (.int .i64 i)] (.sc (.string (bs (colS s p i p.evs[i])))):=by
 have hn3:=hO.n3;have hE:=(uo h0).2.2 i hi;have hv:=yS h0 i hi;have hsg:=(zF hE).1;refine dV Tryz.func54 Tryz.ntmps54 λw0 F0=>?_;dsimp only [St.init,number,Nat.reduceAdd];refine iM ?_;refine WL.vl rfl (WV.call rfl (aj Tryz.func110 rfl rfl) rfl rfl (Yg s hs p.evs[i] hsg)) ?_;refine iM ?_;refine W.meet ⟨[(0,.sc (.int .u8 s)),(1,.sc (bT s)),(3,.sc (.int .i64 i)),(6,.pt 0 0 0),(9,.pt 1 0 0),(12,.sl 2)],[(0,.box 30 (iG p).cells),(1,.box 90 (iO p.evs[i])),(2,.row 9 1 ((headW s p.evs[i]).map eStr))],3⟩ ?_ ?_
 ·(refine W.cond rfl (λhif=>?_) (λhif=>?_)<;>(try simp only [dH,dO,eu,eF,dP,eG] at hif))
  ·rw [aeX hif];refine iM ?_;refine (?_:Tr _ _ _);exact asH
  ·rw [ahW hif];exact ab8
 obtain ⟨L,hL⟩:∃ L:Int->Nat,L=λc=>ak p.evs i c:=⟨_,rfl⟩;have hwl:=PK s p.evs[i];have hjl:=V8 s hs p i p.evs[i] hsg hv (hO.n4 i hi);unfold colS at *;obtain ⟨n,hn⟩:∃ n,nO s p=n:=⟨_,rfl⟩;have hn6:=QI s p;rw [hn] at hn6;have Cc:=ao0 (yA s p i p.evs[i]) hjl.1 hjl.2;have e1:p.evs[i].tie=true->yA s p i p.evs[i]=headW s p.evs[i]++[[126]]:=λh=>by unfold yA;rw [if_pos h]
 have e2:p.evs[i].tie=false->(p.evs[i].stops.length:Int)=0->yA s p i p.evs[i]=headW s p.evs[i]++[[37]]:=λh h1=>by unfold yA;rw [if_neg CZ,if_pos (by omega)]
 have e3:p.evs[i].tie=false->¬ (p.evs[i].stops.length:Int)=0->s=2->yA s p i p.evs[i]=headW s p.evs[i]++tq s L n p.evs[i].stops++gW s L n p.evs[i].stops:=λh h1 h2=>by unfold yA;rw [if_neg CZ,if_neg (by omega),if_pos h2,hn,← hL,vg]
 have e4:p.evs[i].tie=false->¬ (p.evs[i].stops.length:Int)=0->¬ s=2->yA s p i p.evs[i]=headW s p.evs[i]++gW s L n p.evs[i].stops++tq s L n p.evs[i].stops:=λh h1 h2=>by unfold yA;rw [if_neg CZ,if_neg (by omega),if_neg h2,hn,← hL,vg]
 obtain ⟨hd,hhd⟩:∃ l,headW s p.evs[i]=l:=⟨_,rfl⟩;obtain ⟨cw,hcw⟩:∃ l,yA s p i p.evs[i]=l:=⟨_,rfl⟩;rw [hhd] at e1 e2 e3 e4 hwl ⊢;rw [hcw] at e1 e2 e3 e4 Cc ⊢;clear hcw hjl;refine iM ?_;(refine W.cond rfl (λhif=>?_) (λhif=>?_)<;>(try simp only [dH,dO,eu,eF,dP,eG] at hif))
 ·have e:=e1 hif;exact asV
 have htie:=hif;refine iM ?_;(refine W.cond rfl (λhif=>?_) (λhif=>?_)<;>(try simp only [dH,dO,eu,eF,dP,eG] at hif))
 ·have e:=e2 htie hif;exact asV
 have hne:=hif;have e3:=e3 htie hne;have e4:=e4 htie hne;refine iM ?_;refine W.meet ⟨[(0,.sc (.int .u8 s)),(1,.sc (bT s)),(3,.sc (.int .i64 i)),(6,.pt 0 0 0),(9,.pt 1 0 0),(12,.sl 2),(13,.sc (.int .i64 (n:Int)))],[(0,.box 30 (iG p).cells),(1,.box 90 (iO p.evs[i])),(2,.row 9 1 (hd.map eStr))],3⟩ ?_ ?_
 ·(refine W.cond rfl (λhif=>?_) (λhif=>?_)<;>(try simp only [dH,dO,eu,eF,dP,eG] at hif))
  ·have hsn:¬ s=4:=by simpa using hif
   have hc0:n=min p.cs.length 6:=by rw [← hn];exact if_neg hsn
   rw [hc0];refine iM ?_;refine WL.vl rfl (WV.call rfl (aj Tryz.func112 rfl rfl) rfl rfl (Qv p.cs p.st hO.n1)) ?_;exact ab8
  ·have hsn:s=4:=by simpa using hif
   have hc0:n=0:=by rw [← hn];exact if_pos hsn
   rw [hc0];exact ab8
 refine iM ?_;refine WL.op rfl (WO.axr (k:=n) rfl rfl rfl rfl rfl rfl (λk=>by rw [NQ];exact toList_madeCells_one _ _) rfl rfl rfl rfl rfl (by omega) rfl) ?_;refine iM ?_;have hz:=Zh n;refine W.loop (λk:Nat=>k<=n) (λk=>⟨[(0,.sc (.int .u8 s)),(1,.sc (bT s)),(3,.sc (.int .i64 i)),(6,.pt 0 0 0),(9,.pt 1 0 0),(12,.sl 2),(13,.sc (.int .i64 (n:Int))),(14,.sl 3),(63,.sc (.int .i64 (n:Int))),(64,.sc (.int .i64 k))],[(0,.box 30 (iG p).cells),(1,.box 90 (iO p.evs[i])),(2,.row 9 1 (hd.map eStr)),(3,.row 9 1 ((uF n k).map eStr))],4⟩) (λk=>n - k) 0 au (ku (λq=>q) (by repeat (first|exact trivial|refine ⟨⟨?_,?_,?_⟩,?_⟩|rfl|exact congrArg (λq=>some (AO.row _ _ q)) hz.symm)) rfl) λk hk=>?_;refine iM ?_;(refine W.cond rfl (λhif=>?_) (λhif=>?_)<;>(try simp only [dH,dO,eu,eF,dP,eG] at hif))
 ·have hk2:k < n:=by omega
  have hl:=aeD n k;have hset:((uF n k).map eStr).set k (eStr [45])=(uF n (k+1)).map eStr:=by rw [← FI,Zg n k hk2]
  have hix:0<=(k:Int)/\(k:Int) < ((uF n k).map eStr).length:=⟨by omega,by simp [hl];omega⟩;have hat:((uF n k).map eStr)[((k:Nat):Int).toNat]?=some (eStr ((uF n k)[k]' au)):=zO au;refine iM ?_;refine WL.xq rfl rfl rfl rfl hat (by exact Nat.le_refl _) ?_;refine iM ?_;refine ⟨k+1,by omega,by omega,?_⟩;exact (ku (λq=>q) avw rfl)
 have hkn:k=n:=by omega
 rw [hkn,aeC s L n];refine iM ?_;refine W.tr (Tr.nil (t:=16) 9 1 rfl rfl) ?_;have hasc:asc 0 p.evs[i].stops:=ahb (zF hE).2.2.2;refine W.loop (λk:Nat=>k<=p.evs[i].stops.length) (λk=>⟨[(0,.sc (.int .u8 s)),(1,.sc (bT s)),(3,.sc (.int .i64 i)),(6,.pt 0 0 0),(9,.pt 1 0 0),(12,.sl 2),(13,.sc (.int .i64 (n:Int))),(14,.sl 3),(16,.sl 4),(72,ahw p.evs[i].stops),(73,.sc (.int .i64 p.evs[i].stops.length)),(74,.sc (.int .i64 k))],[(0,.box 30 (iG p).cells),(1,.box 90 (iO p.evs[i])),(2,.row 9 1 (hd.map eStr)),(3,.row 9 1 ((gW s L n (p.evs[i].stops.take k)).map eStr)),(4,.row 9 1 ((tq s L n (p.evs[i].stops.take k)).map eStr))],5⟩) (λk=>p.evs[i].stops.length - k) 0 (by omega) (ku (λq=>q) (by repeat (first|exact trivial|refine ⟨⟨?_,?_,?_⟩,?_⟩|rfl|exact congrArg (λq=>some (AO.row _ _ q)) (by rw [List.take_zero];unfold tq;split<;>rfl))) rfl) λk hk=>?_;refine iM ?_;(refine W.cond rfl (λhif=>?_) (λhif=>?_)<;>(try simp only [dH,dO,eu,eF,dP,eG] at hif))
 ·have hk2:k < p.evs[i].stops.length:=by omega
  have hb:=hv k hk2;have hlt:=ahc k hk2 hasc;have htk:=kF hk2;have hLx:(ak p.evs i p.evs[i].stops[k].1:Int)=L p.evs[i].stops[k].1:=by rw [hL]
  obtain ⟨x,hx⟩:∃ x,p.evs[i].stops[k]=x:=⟨_,rfl⟩;obtain ⟨tk,az2⟩:∃ l,p.evs[i].stops.take k=l:=⟨_,rfl⟩;obtain ⟨tk1,aoQ⟩:∃ l,p.evs[i].stops.take (k+1)=l:=⟨_,rfl⟩;have h20:=hO.n4 i hi;have hol:=LY s L n (p.evs[i].stops.take k);rw [jT] at hol;refine iM ?_;rw [hx] at hb hlt htk hLx ⊢;rw [az2] at hlt htk hol ⊢;rw [aoQ] at htk;refine iY ?_;refine wG ?_;refine DK.vl rfl (WV.call rfl (aj Tryz.func95 rfl rfl) rfl rfl (Xw p hO i _)) ?_;refine DK.vl rfl (WV.call rfl (aj Tryz.func87 rfl rfl) rfl rfl (an4 s hs x _ hb.1 hb.2.1 hb.2.2.1 hb.2.2.2.1 hb.2.2.2.2)) ?_;refine wG ?_;rw [hLx];refine iM ?_;(refine W.cond rfl (λhif=>?_) (λhif=>?_)<;>(try simp only [dH,dO,eu,eF,dP,eG] at hif))
  ·have hxn:x.1<=n:=hif;have hs4:s≠4:=λe=>by rw [← hn,nO,if_pos e] at hxn;omega
   have zJ:1<=xC s x.1 n/\xC s x.1 n<=n:=by
    unfold xC;rw [if_neg hs4];split<;>omega
   have hst:=X8 s L n tk x hs4 hlt hb.1.1 hxn;have hou:=aps s L n tk x hxn;rw [← htk] at hst hou;have hsl:=DZ s L n tk;obtain ⟨lv,hlv⟩:∃ z,xC s x.1 n=z:=⟨_,rfl⟩;rw [hlv] at zJ hst;have hix:0<=lv - 1/\lv - 1 < ((gW s L n tk).map eStr).length:=⟨by omega,by rw [bK,hsl];omega⟩;have hat:((gW s L n tk).map eStr)[(lv - 1).toNat]?=some (eStr ((gW s L n tk)[(lv - 1).toNat]'(by omega))):=Tj (by omega) (by rw [hsl];omega);have hset:((gW s L n tk).map eStr).set (lv - 1).toNat (eStr (Y4 s L x))=(gW s L n tk1).map eStr:=by rw [hst,FI]
   have hlf:=acW s hs x.1 n hb.1 ⟨by omega,by omega⟩;rw [hlv] at hlf;refine iM ?_;refine WL.vl rfl (WV.sys hs WG rfl rfl (λvs w=>by kernel_rfl) (λvs w=>by kernel_rfl) (λvs w=>by kernel_rfl) (λvs w=>by kernel_rfl) rfl rfl hlf) ?_;refine iM ?_;refine WL.xq rfl rfl rfl rfl hat (by exact Nat.le_refl _) ?_;refine iM ?_;refine ⟨k+1,by omega,by omega,?_⟩;rw [aoQ];exact (ku (λq=>q) (by repeat (first|exact trivial|refine ⟨⟨?_,?_,?_⟩,?_⟩|rfl|exact congrArg (λq=>some (AO.row _ _ q)) hset|exact congrArg (λq=>some (AO.row _ _ q)) (congrArg (List.map eStr) hou.symm))) rfl)
  have hxn:¬ x.1<=n:=by omega
  have hst:gW s L n tk1=gW s L n tk:=by
   rw [htk];unfold gW;apply Jg;intro j hj;rw [X7 s L tk x _ hlt,if_neg];have hj:j < n:=by simpa using hj
   unfold cAt;split<;>omega
  have hou:=ai3 s L n tk x hxn;rw [← htk] at hou;have ahO:¬ s=2->(tq s L n tk).map eStr++[eStr (Y4 s L x)]=(tq s L n tk1).map eStr:=λh=>by rw [hou,if_neg h,iC];rfl
  have ahP:s=2->[eStr (Y4 s L x)]++(tq s L n tk).map eStr=(tq s L n tk1).map eStr:=λh=>by rw [hou,if_pos h];rfl
  refine iM ?_;refine WL.vl rfl (WV.sys hs JI rfl rfl (λvs w=>by kernel_rfl) (λvs w=>by kernel_rfl) (λvs w=>by kernel_rfl) (λvs w=>by kernel_rfl) rfl rfl (F9 s hs)) ?_;refine iM ?_;(refine W.cond rfl (λhif=>?_) (λhif=>?_)<;>(try simp only [dH,dO,eu,eF,dP,eG] at hif))
  ·have hs2:s≠2:=by simpa using hif
   have ahO:=ahO hs2;refine iM ?_;refine ⟨k+1,by omega,by omega,?_⟩;rw [aoQ];exact (ku (λq=>bif Nat.beq q 4 then 7 else q) (by repeat (first|exact trivial|refine ⟨⟨?_,?_,?_⟩,?_⟩|rfl|exact congrArg (λq=>some (AO.row _ _ q)) (congrArg (List.map eStr) hst.symm)|exact congrArg (λq=>some (AO.row _ _ q)) ahO)) rfl)
  have hs2:s=2:=by simpa using hif
  have ahP:=ahP hs2;refine iM ?_;refine ⟨k+1,by omega,by omega,?_⟩;rw [aoQ];exact (ku (λq=>bif Nat.beq q 4 then 7 else q) (by repeat (first|exact trivial|refine ⟨⟨?_,?_,?_⟩,?_⟩|rfl|exact congrArg (λq=>some (AO.row _ _ q)) (congrArg (List.map eStr) hst.symm)|exact congrArg (λq=>some (AO.row _ _ q)) ahP)) rfl)
 have hke:k=p.evs[i].stops.length:=by omega
 rw [hke,jw];have hsl:=DZ s L n p.evs[i].stops;have hol:=LY s L n p.evs[i].stops;have h20:=hO.n4 i hi;refine iM ?_;refine WL.vl rfl (WV.sys hs JI rfl rfl (λvs w=>by kernel_rfl) (λvs w=>by kernel_rfl) (λvs w=>by kernel_rfl) (λvs w=>by kernel_rfl) rfl rfl (F9 s hs)) ?_;refine iM ?_;(refine W.cond rfl (λhif=>?_) (λhif=>?_)<;>(try simp only [dH,dO,eu,eF,dP,eG] at hif))
 ·have e:=e4 (by simpa using hif);rw [e,iC,iC] at Cc;rw [e];refine iM ?_;refine WL.tr (Tr.freeze 6 rfl) ?_;refine WL.vl rfl (aS Tryz.func111 Cc) ?_;refine iM ?_;exact W.ret kR
 have e:=e3 (by simpa using hif);rw [e,iC,iC] at Cc;rw [e];refine iM ?_;refine WL.tr (Tr.freeze 6 rfl) ?_;refine WL.vl rfl (aS Tryz.func111 Cc) ?_;refine iM ?_;exact W.ret kR
def axU(s:Int):List UInt8:=if s=1 then [102,114,101,110,99,104]else if s=2 then [105,116,97,108,105,97,110]else if s=3 then [115,112,97,110,105,115,104]else [103,101,114,109,97,110]
def aqT(s:Int):FuncId:=if s=1 then 318 else if s=2 then 333 else if s=3 then 341 else 348
theorem apd (s:Int) (hs:1<=s/\s<=4):bC Tryz.prog (aqT s) [.ag []] (.sc (.string (bs (axU s)))):=by
 rcases dN hs with rfl|rfl|rfl|rfl
 .show bC Tryz.prog 318 _ _;refine dV Tryz.func318 Tryz.ntmps318 λw0 F0=>?_;dsimp only [St.init,number,Nat.reduceAdd];exact Dc
 .show bC Tryz.prog 333 _ _;refine dV Tryz.func333 Tryz.ntmps333 λw0 F0=>?_;dsimp only [St.init,number,Nat.reduceAdd];exact Dc
 .show bC Tryz.prog 341 _ _;refine dV Tryz.func341 Tryz.ntmps341 λw0 F0=>?_;dsimp only [St.init,number,Nat.reduceAdd];exact Dc
 .show bC Tryz.prog 348 _ _;refine dV Tryz.func348 Tryz.ntmps348 λw0 F0=>?_;dsimp only [St.init,number,Nat.reduceAdd];exact Dc
theorem ahm {s:Int} (hs:1<=s/\s<=4) {p:bV} (hO:jh p) (h0:bM p=0) (i:Nat) (hi:i<p.evs.length):(colS s p i p.evs[i]).length<=1000000 :=(V8 s hs p i p.evs[i] (zF ((uo h0).2.2 i hi)).1 (yS h0 i hi) (hO.n4 i hi)).2
theorem Dl {s:Int} {p:bV}:∀ k,k<=p.evs.length->xE s p k=[]->∀ i (h:i<k)(h2:i<p.evs.length),qV s p i p.evs[i]=[]
 | 0,_,_,i,h,_=>by omega| k+1,hk,hn,i,h,h2=>by
  rw [KX s p (by omega:k<p.evs.length)] at hn;have:=List.append_eq_nil_iff.1 hn;by_cases e:i=k;.subst e;exact this.2
  .exact Dl k au this.1 i au h2
def BK(s:Int)(p:bV)(z:Int):Int :=if ¬ (1<=s/\s<=4)then 30 else if bM p≠0 then bM p else if z<0 then 1 else match p.evs[z.toNat]? with
  | some e=>if qV s p z e=[]then 0 else 31| none=>1
def Sj(s:Int)(p:bV)(z:Int):List UInt8 :=if BK s p z=0 then match p.evs[z.toNat]? with
  | some e=>colS s p z e| none=>[]else []
section
variable {s:Int} {p:bV} {z:Int}
theorem Vu(h:¬ (1<=s/\s<=4)):BK s p z=30/\Sj s p z=[]:=by
 have:BK s p z=30:=if_pos h;exact abW
theorem Vt (h:1<=s/\s<=4)(h1:bM p≠0):BK s p z=bM p/\Sj s p z=[]:=by
 have:BK s p z=bM p:=by unfold BK;rw [if_neg (λk=>k h),if_pos h1]
 exact⟨this,by unfold Sj;rw [this,if_neg h1]⟩
theorem Vs (h:1<=s/\s<=4)(h1:¬ bM p≠0)(h2:z<0\/(p.evs.length:Int)<=z):BK s p z=1/\Sj s p z=[]:=by
 have:BK s p z=1:=by
  unfold BK;rw [if_neg (λk=>k h),if_neg h1];by_cases h3:z<0;.rw [if_pos h3]
  .rw [if_neg h3,abr (by omega)]
 exact abW
theorem acw {i:Nat} (h:1<=s/\s<=4)(h1:¬ bM p≠0)(h2:i<p.evs.length)(h3:¬ qV s p i p.evs[i]=[]):BK s p i=31/\Sj s p i=[]:=by
 have:BK s p i=31:=by
  unfold BK;rw [if_neg (λk=>k h),if_neg h1,if_neg (by omega),gy,aO h2];exact if_neg h3
 exact abW
theorem Sl {i:Nat} (h:1<=s/\s<=4)(h1:¬ bM p≠0)(h2:i<p.evs.length)(h3:qV s p i p.evs[i]=[]):BK s p i=0/\Sj s p i=colS s p i p.evs[i]:=by
 have:BK s p i=0:=by
  unfold BK;rw [if_neg (λk=>k h),if_neg h1,if_neg (by omega),gy,aO h2];exact if_pos h3
 exact⟨this,by unfold Sj;rw [this,if_pos rfl,gy,aO h2]⟩
end
theorem aar (s:Int) (p:bV) (hO:jh p) (z:Int):bC Tryz.prog 118 [.sc (.int .u8 s),iG p,.sc (.int .i64 z)] (.tu [.sc (.string (bs (Sj s p z))),.sc (.int .i64 (BK s p z))]):=by
 have hn3:=hO.n3;refine dV Tryz.func118 Tryz.ntmps118 λw0 F0=>?_;dsimp only [St.init,number,Nat.reduceAdd];refine Rl ?_;refine WL.vl rfl (WV.call rfl (aj Tryz.func50 rfl rfl) rfl rfl (LU s)) ?_;refine Rl ?_;(refine W.cond rfl (λhif=>?_) (λhif=>?_)<;>(try simp only [dH,dO,eu,eF,dP,eG] at hif))
 .have hs:¬ (1<=s/\s<=4):=by simpa using hif
  rw [(Vu hs).1,(Vu hs).2];refine Rl ?_;exact kT
 have hs:1<=s/\s<=4:=by simpa using hif
 refine Rl ?_;refine WL.vl rfl (WV.call rfl (aj Tryz.func51 rfl rfl) rfl rfl (um p hO)) ?_;refine Rl ?_;(refine W.cond rfl (λhif=>?_) (λhif=>?_)<;>(try simp only [dH,dO,eu,eF,dP,eG] at hif))
 .have h0:bM p≠0:=by simpa using hif
  rw [(Vt hs h0).1,(Vt hs h0).2];refine Rl ?_;exact kT
 have h0:bM p=0:=by simpa using hif
 by_cases hz:z < 0\/(p.evs.length:Int)<=z
 .rw [(Vs hs (λh=>h h0) hz).1,(Vs hs (λh=>h h0) hz).2];by_cases hz0:z < 0;.exact U6
  .exact U6
 obtain ⟨i,rfl⟩:=kQ (show 0<=z by omega);have hi:i < p.evs.length:=by omega
 have hll:=Gw s p i p.evs[i] (hO.n4 i hi);refine ni ?_;refine WL.vl rfl (WV.call rfl (aj Tryz.func114 rfl rfl) rfl rfl (XA s hs p i hi hO (yS h0 i hi))) ?_;by_cases hk:qV s p i p.evs[i]=[]
 .rw [(Sl hs (λh=>h h0) hi hk).1,(Sl hs (λh=>h h0) hi hk).2,hk];refine ni ?_;refine WL.vl rfl (WV.call rfl (aj Tryz.func54 rfl rfl) rfl rfl (aev s hs p i hi hO h0)) ?_;exact U6
 .rw [(acw hs (λh=>h h0) hi hk).1,(acw hs (λh=>h h0) hi hk).2];have hpos:0 < (qV s p i p.evs[i]).length:=List.length_pos_iff.2 hk;exact U6
end
end Go.Proofs.YthohlofpphjofaaGreatDoor
