/- The reader of the program: a chord. -/
import Derived.Test.YthohlofpphjofaaGreatDoorNrELq
import Derived.Test.YthohlofpphjofaaGreatDoorMlPLq
set_option maxHeartbeats 8000000
set_option maxRecDepth 100000
set_option linter.unusedVariables false
set_option linter.unusedSimpArgs false
namespace Go.Proofs.YthohlofpphjofaaGreatDoor
theorem arA {p:Prop}(h:p:=by repeat (first|exact trivial|refine ⟨⟨?_,?_,?_⟩,?_⟩|rfl|exact congrArg (λq=>some (AO.row _ _ q)) hR2)):p:=h
theorem U8 {p:Prop}(h:p:=by
 refine AZ ?_;exact qL):p:=h
theorem abS {p:Prop}(h:p:=by
 unfold aJ;rw [if_neg (by omega),if_neg (by omega)]):p:=h
theorem als {p:Prop}(h:p:=by
 refine WL.ctp hB [0,1,2] rfl rfl (aj Tryz.func163 rfl rfl) hcc rfl rfl rfl ⟨⟨rfl,rfl,rfl⟩,trivial⟩ ?_;rfl):p:=h
theorem abM {p:Prop}(h:p:=by
 refine N7 ?_;refine ⟨nx,hN2,by omega,?_⟩;exact (zqt id)):p:=h
theorem abG {p q:Prop}(k:q)(h:iF q->p:=by
 intro hq;refine ayf ?_;refine Ot ?_;refine jl ?_;refine ayv ?_;exact hq.k):p:=h ⟨k⟩
theorem ayv {p q:Prop}(k:q)(h:iF q->p:=by
 intro hq;refine mM ?_;refine mM ?_;refine aV.v0 rfl (Bf rfl hcb) ?_;exact hq.k):p:=h ⟨k⟩
theorem RH {p q:Prop}(k:q)(h:iF q->p:=by
 intro hq;refine yc ?_;refine Om ?_;refine yc ?_;exact hq.k):p:=h ⟨k⟩
theorem Ot {p q:Prop}(k:q)(h:iF q->p:=by
 intro hq;refine mM ?_;refine C9 ?_;exact hq.k):p:=h ⟨k⟩
theorem A8 {p q:Prop}(k:q)(h:iF q->p:=by
 intro hq;refine mM ?_;refine aV.nil ?_;exact hq.k):p:=h ⟨k⟩
theorem akW {p q:Prop}(k:q)(h:iF q->p:=by
 intro hq;refine aV.v0 rfl (xP rfl ⟨by omega,by omega,by omega⟩) ?_;exact hq.k):p:=h ⟨k⟩
theorem arI {p q:Prop}(k:q)(h:iF q->p:=by
 intro hq;refine aV.nil ?_;refine N7 ?_;refine W.pK aK ?_;refine WA.dt [false,false,false,false,false,false,false,false,false,true,true,false] [0,5] [0,5] 10 aK aK aK ⟨rfl,rfl,trivial⟩ ⟨rfl,rfl,trivial⟩ ?_;exact hq.k):p:=h ⟨k⟩
theorem C9 {p q:Prop}(k:q)(h:iF q->p:=by
 intro hq;refine aV.v0 rfl (WV.IC rfl rfl) ?_;exact hq.k):p:=h ⟨k⟩
theorem ayf {p q:Prop}(k:q)(h:iF q->p:=by
 intro hq;refine N7 ?_;refine W.pK aK ?_;refine WA.dt [false,false,false,false,false,false,false,false,false,false,false,false,true,true,false] [0] [0] 13 aK aK aK ⟨rfl,trivial⟩ ⟨rfl,trivial⟩ ?_;exact hq.k):p:=h ⟨k⟩
section
open Go.RowKit
theorem adG:∀ w F F',View.le F F'->ng w F->ng w F':=λw F F' h⟨h1,h2⟩=>⟨λi v x=>h _ _ (h1 i v x),h2⟩
theorem aaS {s c f R G H:Int} {t:List UInt8} (h:xR s (decide (0<f)) t=some (R,G,H)):Hg s c f t=.tu [.ag [.sc (.int .i64 c),.sc (.int .i64 f),.sc (.int .i64 R),.sc (.int .i64 G),.sc (.int .i64 0),.sc (.int .i64 H)],.sc (.bool true)]:=by
 unfold xR at h;obtain⟨y,hy,e⟩:=Option.map_eq_some_iff.1 h;simp only [Prod.mk.injEq] at e;obtain⟨rfl,rfl,rfl⟩:=e;unfold Hg;rw [hy]
theorem af8 {s c f:Int} {t:List UInt8} (h:xR s (decide (0<f)) t=none):∃ R G,Hg s c f t=.tu [.ag [.sc (.int .i64 c),.sc (.int .i64 f),.sc (.int .i64 R),.sc (.int .i64 G),.sc (.int .i64 0),.sc (.int .i64 0)],.sc (.bool false)]:=by
 unfold xR at h;have hy:=Option.map_eq_none_iff.1 h;unfold Hg;rw [hy];exact⟨_,_,rfl⟩
theorem aiQ {s:Int} (hs:1<=s/\s<=4):∀ x∈[AV.sc (.int .u8 s),.sc (bT s)],onB x=true:=λx hx=>by
 rcases List.mem_cons.1 hx with rfl|hx;.rfl
 .obtain rfl:=List.mem_singleton.1 hx;rcases dN hs with rfl|rfl|rfl|rfl<;>rfl
theorem ac9 {a b:AV} {r:List AV}:∀ (j:Nat)x,[a,b][j]?=some x->(a::b::r)[j]?=some x
 | 0,x,h=>h| 1,x,h=>h| j+2,x,h=>by simp at h
def aiO (s n:Int)(M:List (Nat×AO))(nk:Nat):Option N5->UR
 | some x=>.ok (.ag (yt s x)) M nk| none=>.er (fA n 4)
theorem acv (s:Int) (hs:1<=s/\s<=4) (CS ST:List (List AV)) (n:Int) (T:List (List AV)) (cl:Bool) (aI:Int) (w:List UInt8) (hw:w.length<=400000) (hsp:aJ s aI=0) :OE ng zo Tryz.prog 163 [.pt 0 0 0,.sc (.int .i64 aI),.sc (.string (bs w))] [(0,iy (.int .u8 s) (bT s) CS ST n T cl)] 3 (aiO s n [(0,iy (.int .u8 s) (bT s) CS ST n T cl)] 7 (iP s aI w)):=by
 refine OE.intro jR Tryz.func163 rfl Tryz.ntmps163 (bG rfl) rfl λw0 F0 fp pg hB=>?_;unfold iy;refine iU ?_;have hTl:(w++[32]).length=w.length+1:=by simp
 refine N7 ?_;refine WL.rgs rfl rfl rfl rfl ?_;refine N7 ?_;refine W.loop (λpos:Nat=>Lm s aI w pos) (λpos=>⟨[(0,.pt 0 0 0),(1,.sc (.int .i64 aI)),(2,.sc (.string (bs w))),(6,.pt 3 0 0),(14,.sl 4)],[(0,.box 78 [.sc (.int .u8 s),.sc (bT s),.ls 3 CS,.ls 1 ST,.sl 1,.sl 2,.sc (.int .i64 n),.ls 1 T,.sc (.bool cl)]),(3,.box 157 [.sc (.int .i64 0),.sc (.int .i64 0),.sc (.int .i64 0),.sc (.int .i64 0),.sc (.int .i64 0),.sc (.int .i64 0)]),(4,.opq (itQ (w++[32]) pos))],5⟩) (λpos=>w.length+1 - pos) 0 (aiG s aI w) (zqt id) λpos hN=>?_;by_cases hlt:pos < w.length+1;rotate_left
 .rw [ZT hsp (by omega) hN];have hle:(w++[32]).length<=pos:=by omega
  refine W.seq ?_;refine W.region ?_;refine WL.vl rfl (WV.nxe rfl rfl rfl hle) ?_;refine N7 ?_;exact OD
 have hlt2:pos < (w++[32]).length:=by omega
 have hstep:=λh=>aiH hsp hlt hN h;have aCb:1<=(Utf8.decode (bs (w++[32])) pos).2:=Lib.width_pos _ _;obtain ⟨nx,hnx⟩:∃ z,pos+(Utf8.decode (bs (w++[32])) pos).2=z:=⟨_,rfl⟩;obtain ⟨ru,hru⟩:∃ z,(Utf8.decode (bs (w++[32])) pos).1=z:=⟨_,rfl⟩;refine W.seq ?_;refine W.region ?_;refine WL.nxs rfl rfl rfl rfl rfl hlt2 ?_;rw [hnx] at hstep ⊢;rw [hru];have hlow:pos < nx:=by omega
 by_cases h0:pos=0
 .have hN2:=hstep (.inl h0);exact abM
 have hP:=aji s aI (w.take pos);have hcb:0<=(0:Int)/\(0:Int)<=(pos:Int)/\(pos:Int)<=(w.length:Int):=by omega
 have hcc:cut w 0 (pos:Int)=w.take pos:=by unfold cut;simp
 have hcb2:0<=(pos:Int)/\(pos:Int)<=(w.length:Int)/\(w.length:Int)<=(w.length:Int):=by omega
 have awZ:=Dv w pos;have hdl:(w.drop pos).length<=1000000:=by rw [vk];omega
 rcases wR (w.take pos) hsp with ⟨c,f,hpl,_⟩|hpl;rotate_left
 .have hN2:=hstep (.inr λc f h=>by rw [hpl] at h;simp at h);rw [hpl] at hP;refine abG ?_;rw [hcc];refine aV.v0 rfl (aS Tryz.func35 hP) ?_;refine jl ?_;refine aV.al rfl rfl rfl rfl ⟨rfl,trivial⟩ (λ_=>⟨rfl,trivial⟩) ?_;refine aV.xq rfl rfl rfl rfl rfl rfl rfl rfl rfl rfl rfl rfl rfl rfl ⟨rfl,trivial⟩ (λh=>by cases h) ?_;refine A8 ?_;exact abM
 rw [hpl] at hP;dsimp only at hP;cases hmk:xR s (decide (0 < (f:Int))) (w.drop pos) with
 | none =>
  have hN2:=hstep (.inr λc' f' h=>by
   rw [hpl] at h;have h1:=(Prod.mk.inj h).2;have h2:=(Prod.mk.inj h1).1;have:f=f':=by omega
   subst this;exact hmk);obtain ⟨R,G,ho⟩:=af8 (c:=(c:Int)) hmk;have hM:=ac3 s hs (c:Int) (f:Int) (w.drop pos) hdl;rw [ho] at hM;refine abG ?_;rw [hcc];refine aV.v0 rfl (aS Tryz.func35 hP) ?_;refine jl ?_;refine aV.al rfl rfl rfl rfl ⟨rfl,trivial⟩ (λ_=>⟨rfl,trivial⟩) ?_;refine aV.xq rfl rfl rfl rfl rfl rfl rfl rfl rfl rfl rfl rfl rfl rfl ⟨rfl,trivial⟩ (λh=>by cases h) ?_;refine mM ?_;refine arI ?_;refine jl ?_;refine ak2 ?_;rw [awZ];refine aV.v0 rfl (WV.aqO hB rfl (aj Tryz.func221 rfl rfl) rfl (.cons (fG.prs rfl ac9 (aiQ hs)) (.cons (fG.pu rfl) (.cons (fG.pu rfl) .nil))) adG rfl hM) ?_;refine jl ?_;refine aV.al rfl rfl rfl rfl ⟨rfl,rfl,trivial⟩ (λ_=>⟨rfl,rfl,trivial⟩) ?_;refine aV.xq rfl rfl rfl rfl rfl rfl rfl rfl rfl rfl rfl rfl rfl rfl ⟨rfl,rfl,trivial⟩ (λh=>by cases h) ?_;refine A8 ?_;exact abM| some x =>
  obtain ⟨R,G,H⟩:=x;obtain ⟨⟨c',f',r',g',h'⟩,hcl,q1,q2,q3,q4,q5⟩:=auA hsp au au hpl hmk;have ho:=aaS (c:=(c:Int)) hmk;have hM:=ac3 s hs (c:Int) (f:Int) (w.drop pos) hdl;rw [ho] at hM;dsimp only at q1 q2 q3 q4 q5;obtain rfl:c=c':=by omega
  obtain rfl:f=f':=by omega
  subst q3 q4 q5;rw [hcl];unfold aiO yt;dsimp only;refine abG ?_;rw [hcc];refine aV.v0 rfl (aS Tryz.func35 hP) ?_;refine jl ?_;refine aV.al rfl rfl rfl rfl ⟨rfl,trivial⟩ (λ_=>⟨rfl,trivial⟩) ?_;refine aV.xq rfl rfl rfl rfl rfl rfl rfl rfl rfl rfl rfl rfl rfl rfl ⟨rfl,trivial⟩ (λh=>by cases h) ?_;refine mM ?_;refine arI ?_;refine jl ?_;refine ak2 ?_;rw [awZ];refine aV.v0 rfl (WV.aqO hB rfl (aj Tryz.func221 rfl rfl) rfl (.cons (fG.prs rfl ac9 (aiQ hs)) (.cons (fG.pu rfl) (.cons (fG.pu rfl) .nil))) adG rfl hM) ?_;refine jl ?_;refine aV.al rfl rfl rfl rfl ⟨rfl,rfl,trivial⟩ (λ_=>⟨rfl,rfl,trivial⟩) ?_;refine aV.xq rfl rfl rfl rfl rfl rfl rfl rfl rfl rfl rfl rfl rfl rfl ⟨rfl,rfl,trivial⟩ (λh=>by cases h) ?_;refine A8 ?_;refine N7 ?_;exact W.ret (sG rfl rfl rfl ⟨rfl,trivial⟩ rfl)
def auy (s n:Int)(M:List (Nat×AO))(nk:Nat):Option (List N5)->UR
 | some l=>.ok (.ls 6 (l.map (yt s))) M nk| none=>.er (fA n 4)
theorem Dw (s:Int)(words:List (List UInt8)):(fJ s words).length=words.length:=by unfold fJ;split<;>simp
theorem Z7 {s:Int} {words:List (List UInt8)} {w:List UInt8}:w∈fJ s words↔w∈words:=by unfold fJ;split<;>simp
theorem qY(s:Int)(cs:List Crs):aA s cs<=6/\(s=4->aA s cs=0):=by
 unfold aA;split;.exact⟨by omega,λ_=>rfl⟩
 .rename_i h;exact⟨by omega,λe=>absurd e h⟩
theorem aqb {s:Int} (hs:1<=s/\s<=4) {k:Nat} (h:k<6)(h4:s≠4):aJ s ((k:Int)+1)=0:=by exact abS
theorem aj8 {s:Int} (hs:1<=s/\s<=4):aJ s 0=0:=by exact abS
def OX (s:Int)(n:Nat)(W:List (List UInt8)):List (List AV):=if s=2 then (W.take n).reverse.map aX else (W.take n).map aX
theorem aiI {s:Int} {n:Nat} {W:List (List UInt8)} (h:n<=W.length):(OX s n W).length=n:=by unfold OX;split<;>simp<;>omega
theorem aph {s:Int} {n:Nat} {W:List (List UInt8)} (hs:1<=s/\s<=4)(h4:s=4->n=0)(hn:n<=W.length) {k:Nat} (h:k<W.length)(hk:k<n):(OX s n W)[(xC s ((k:Int)+1) n-1).toNat]?=some (aX W[k]):=by
 have h4':s≠4:=λe=>by have:=h4 e;omega
 unfold OX xC;rw [if_neg h4'];by_cases h2:s=2
 .rw [if_pos h2,if_pos h2,show ((n:Int)+1-((k:Int)+1)-1).toNat=n-1-k by omega];have hl:(W.take n).length=n:=by rw [jT];omega
  rw [dw,List.getElem?_reverse (by omega),hl,show n-1-(n-1-k)=k by omega,Uo hk,aO h];rfl
 .rw [if_neg h2,if_neg h2,show ((k:Int)+1-1).toNat=k by omega,dw,Uo hk,aO h];rfl
theorem Qm {L:List (List UInt8)} {n:Nat}:prt (L.map aX) 0 (n:Int)=(L.take n).map aX:=by unfold prt;simp [Uy]
theorem Ql {L:List (List UInt8)} {n m:Nat} (h:m=L.length):prt (L.map aX) (n:Int) (m:Int)=(L.drop n).map aX:=by
 subst h;unfold prt;rw [gy,gy,ou (by simp),Q7]
theorem EI (s:Int) (n:Nat) (W:List (List UInt8)):∀ k,(gQ s n W k).length<=k
 | 0=>by rw [auw];simp| k+1=>by
  have:=EI s n W k;have:=EP (s:=s) (n:=n) (W:=W) k;rw [wO,dS];omega
theorem EK {s:Int} {n:Nat} {W:List (List UInt8)} {k:Nat} (hk:k<=W.length)(h:¬ eX (gQ s n W k)):nM s n W=none :=Qd λh2=>h (ZU (aiF s n W hk) h2)
theorem an6 (s:Int) (hs:1<=s/\s<=4) (cs:List Crs) (st:List Int) (ln:Int) (T:List (List AV)) (cl:Bool) (words:List (List UInt8)) (hw:words.length<=400000) (hwl:∀ w∈words,w.length<=400000) (hcs:cs.length<=64) :OE ng zo Tryz.prog 93 [.pt 0 0 0,.ls 1 (words.map aX)] [(0,iy (.int .u8 s) (bT s) (cs.map bg) (st.map eInt) ln T cl)] 3 (auy s ln [(0,iy (.int .u8 s) (bT s) (cs.map bg) (st.map eInt) ln T cl)] 4 (pF s (aA s cs) words)):=by
 obtain ⟨n6,n4⟩:=qY s cs;have axf:=Qv cs st hcs;have hmin:s≠4->((min cs.length 6:Nat):Int)=(aA s cs:Int):=λh=>by unfold aA;rw [if_neg h]
 unfold pF;obtain ⟨n,hn⟩:∃ z,aA s cs=z:=⟨_,rfl⟩;rw [hn] at n6 n4 hmin ⊢;have hWl:=Dw s words;have hml:(words.map aX).length=words.length:=bK _;refine OE.intro jR Tryz.func93 rfl Tryz.ntmps93 (bG rfl) rfl λw0 F0 fp pg hB=>?_;unfold iy;refine iU ?_;refine AZ ?_;refine W.meet ⟨[(0,.pt 0 0 0),(1,.ls 1 (words.map aX)),(5,.sc (.int .i64 (n:Int)))],[(0,.box 78 [.sc (.int .u8 s),.sc (bT s),.ls 3 (cs.map bg),.ls 1 (st.map eInt),.sl 1,.sl 2,.sc (.int .i64 ln),.ls 1 T,.sc (.bool cl)])],3⟩ ?_ ?_
 .by_cases s4:s=4
  .rw [bQ s4];have:=n4 s4;subst this;exact U8
  .rw [bW s4];refine AZ ?_;refine WL.vl rfl (aS Tryz.func112 axf) ?_;rw [hmin s4];exact U8
 obtain ⟨L,hL⟩:∃ z,words.map aX=z:=⟨_,rfl⟩;by_cases hsh:words.length < n
 .rw [IG (by omega)];rw [hL] at hml ⊢;refine AZ ?_;exact OD
 obtain ⟨W0,hW0⟩:∃ z,fJ s words=z:=⟨_,rfl⟩;have hWm:∀ w∈W0,w.length<=400000:=λw h=>hwl w (Z7.1 (hW0 ▸ h));rw [hW0];have aBM:W0.length=words.length:=hW0 ▸ hWl;have hlo:prt L 0 (n:Int)=(words.take n).map aX:=by rw [← hL];exact Qm
 have hhi:prt L (n:Int) (words.length:Int)=(words.drop n).map aX:=by rw [← hL];exact Ql rfl
 have Y0:L.length=words.length:=by rw [← hL];exact hml
 have hbe:=F9 s hs;rw [hL];refine AZ ?_;refine iY ?_;refine wG ?_;refine DK.y8 rfl rfl ⟨by omega,by omega,by omega⟩ hlo ?_;refine wG ?_;refine DK.y8 rfl rfl ⟨by omega,by omega,by omega⟩ (show prt L (n:Int) (L.length:Int)=(words.drop n).map aX by rw [Y0];exact hhi) ?_;refine wG ?_;refine AZ ?_;refine WL.vl rfl (WV.sys hs JI rfl rfl (λvs w=>by kernel_rfl) (λvs w=>by kernel_rfl) (λvs w=>by kernel_rfl) (λvs w=>by kernel_rfl) rfl rfl hbe) ?_;refine AZ ?_;refine W.meet ⟨[(0,.pt 0 0 0),(5,.sc (.int .i64 (n:Int))),(6,.ls 1 (OX s n W0)),(7,.ls 1 ((W0.drop n).map aX))],[(0,.box 78 [.sc (.int .u8 s),.sc (bT s),.ls 3 (cs.map bg),.ls 1 (st.map eInt),.sl 1,.sl 2,.sc (.int .i64 ln),.ls 1 T,.sc (.bool cl)])],3⟩ ?_ ?_
 .by_cases s2:s=2
  .rw [bQ s2];have e:W0=words.reverse:=by rw [← hW0];exact if_pos s2
   have eO:OX s n W0=(words.drop (words.length - n)).map aX:=by rw [e,show OX s n words.reverse=(words.reverse.take n).reverse.map aX from if_pos s2,List.reverse_take,List.reverse_reverse,Uz]
   have eU:((words.take (words.length - n)).reverse).map aX=(W0.drop n).map aX:=by rw [e,List.reverse_take,show words.length - (words.length - n)=n by omega]
   have hc1:=aeu (words.take (words.length - n)) (by rw [jT];omega);have hr1:=afT (words.take (words.length - n)) (by rw [jT];omega);rw [eU] at hr1;have hm:((words.length - n:Nat):Int)=(words.length:Int) - (n:Int):=by omega
   have hlo2:prt L 0 ((L.length:Int) - (n:Int))=(words.take (words.length - n)).map aX:=by rw [Y0,← hm,← hL];exact Qm
   have hhi2:prt L ((L.length:Int) - (n:Int)) (L.length:Int)=OX s n W0:=by rw [Y0,← hm,← hL,eO];exact Ql rfl
   refine AZ ?_;refine W.pK aK ?_;refine WA.dt [false,false,false,false,false,false,true,false,false,false,false,false,false,true,false] [0] [0] 13 aK aK aK ⟨rfl,trivial⟩ ⟨rfl,trivial⟩ ?_;refine lQ ?_;refine aV.v0 rfl (vS rfl) ?_;refine mM ?_;refine aV.v0 rfl (uY rfl yg) ?_;refine akW ?_;rw [hlo2];refine aV.ct (dD _) [] rfl rfl (aj Tryz.func161 rfl rfl) hc1 rfl rfl rfl trivial rfl rfl rfl rfl ⟨rfl,trivial⟩ (λ_=>⟨rfl,trivial⟩) ?_;refine lQ ?_;refine aV.v0 rfl (vS rfl) ?_;refine mM ?_;refine aV.v0 rfl (uY rfl yg) ?_;refine akW ?_;rw [hhi2];refine aV.mv rfl rfl rfl rfl rfl rfl ⟨rfl,trivial⟩ (λh=>by cases h) ?_;refine A8 ?_;refine AZ ?_;refine WL.qQ (dD _) [3] rfl rfl (aj Tryz.func162 rfl rfl) hr1 rfl rfl rfl ⟨⟨rfl,rfl,rfl⟩,trivial⟩ rfl rfl rfl rfl ?_;refine WL.tr (Tr.freeze 3 rfl) ?_;exact U8
  .rw [bW s2];have e:W0=words:=by rw [← hW0];exact if_neg s2
   have eO:OX s n W0=(words.take n).map aX:=by rw [e];exact if_neg s2
   rw [eO,e];exact U8
 have hnW:n<=W0.length:=by omega
 have hOl:=aiI (s:=s) hnW;have aeT:=λ{k:Nat} (h:k < W0.length) (hk:k < n)=>aph hs n4 hnW h hk;obtain ⟨O,hO⟩:∃ z,OX s n W0=z:=⟨_,rfl⟩;have awL:((W0.drop n).map aX).length=W0.length - n:=by rw [bK,vk]
 have KH:∀ j (h:n+j < W0.length),((W0.drop n).map aX)[((j:Nat):Int).toNat]?=some (aX W0[n+j]):=λj h=>by rw [gy,dw,Nv,aO h];rfl
 obtain ⟨OU,hOU⟩:∃ z,(W0.drop n).map aX=z:=⟨_,rfl⟩;rw [hO] at hOl aeT ⊢;rw [hOU] at awL KH ⊢;clear hlo hhi hO hOU hL Y0 hml hW0 hWl axf hmin hbe;refine AZ ?_;refine W.tr (Tr.nil (t:=8) 157 6 rfl rfl) ?_;refine W.loop (λk:Nat=>k<=n/\∀ i (h:i < W0.length),i < k->(bF s n i W0[i]).isSome=true) (λk=>⟨[(0,.pt 0 0 0),(5,.sc (.int .i64 (n:Int))),(6,.ls 1 O),(7,.ls 1 OU),(8,.sl 3),(9,.sc (.int .i64 ((k:Int)+1)))],[(0,.box 78 [.sc (.int .u8 s),.sc (bT s),.ls 3 (cs.map bg),.ls 1 (st.map eInt),.sl 1,.sl 2,.sc (.int .i64 ln),.ls 1 T,.sc (.bool cl)]),(3,.row 157 6 ((gQ s n W0 k).map (yt s)))],4⟩) (λk=>n - k) 0 ⟨by omega,λi h h2=>absurd h2 au⟩ (zqt id) λk hk=>?_;obtain ⟨hk,hall⟩:=hk;have hRl:((gQ s n W0 k).map (yt s)).length<=400000:=by
  have:=EI s n W0 k;rw [bK];omega
 by_cases hlt:k < n
 .have hkW:k < W0.length:=by omega
  have h4:s≠4:=λe=>by have:=n4 e;omega
  have hat:=aeT hkW hlt;have hln:=acW s hs ((k:Int)+1) n ⟨by omega,by omega⟩ ⟨by omega,by omega⟩;have hlv:1<=xC s ((k:Int)+1) n/\xC s ((k:Int)+1) n<=10:=by
   unfold xC;rw [if_neg h4];split<;>omega
  obtain ⟨LV,hLV⟩:∃ z,xC s ((k:Int)+1) n=z:=⟨_,rfl⟩;rw [hLV] at hat hln hlv;have hcell:=acv s hs (cs.map bg) (st.map eInt) ln T cl ((k:Int)+1) W0[k] (hWm _ (gB hkW)) (aqb hs (by omega) h4);have hrs:=wO s n W0 k;have hnx:(bF s n k W0[k]).isSome=true->∀ i (h:i < W0.length),i < k+1->(bF s n i W0[i]).isSome=true:=λh i hi hik=>by
   by_cases e:i=k;.subst e;exact h
   .exact hall i hi au
  by_cases hd:W0[k]=[45]
  .have hwd:bF s n k W0[k]=some none:=by unfold bF;rw [if_pos hlt,if_pos hd]
   rw [BA hkW hwd,xX] at hrs;have hn2:=hnx (by rw [hwd];rfl);have hb:(W0[k] == ([45]:List UInt8))=true:=by rw [hd];rfl
   obtain ⟨wk,hwk⟩:∃ z,W0[k]=z:=⟨_,rfl⟩;rw [hwk] at hat hb;obtain ⟨R,hR⟩:∃ z,(gQ s n W0 k).map (yt s)=z:=⟨_,rfl⟩;have hR2:(gQ s n W0 (k+1)).map (yt s)=R:=by rw [hrs];exact hR
   rw [hR] at hRl ⊢;clear hall aeT KH hcell;refine yc ?_;refine WL.vl rfl (WV.sys hs WG rfl rfl (λvs w=>by kernel_rfl) (λvs w=>by kernel_rfl) (λvs w=>by kernel_rfl) (λvs w=>by kernel_rfl) rfl rfl hln) ?_;refine RH ?_;rw [hb];refine yc ?_;refine ⟨k+1,⟨by omega,hn2⟩,by omega,?_⟩;rw [hR2];exact (zqt id)
  .have hb:(W0[k] == ([45]:List UInt8))=false:=by simpa using hd
   have hwd:bF s n k W0[k]=(iP s ((k:Int)+1) W0[k]).map some:=by unfold bF;rw [if_pos hlt,if_neg hd]
   cases hcl:iP s ((k:Int)+1) W0[k] with
   | none =>
    rw [uO hkW (by rw [hwd,hcl];rfl)];have hcc:=hcell.er_ (by rw [hcl];rfl);obtain ⟨wk,hwk⟩:∃ z,W0[k]=z:=⟨_,rfl⟩;rw [hwk] at hat hb hcc;obtain ⟨R,hR⟩:∃ z,(gQ s n W0 k).map (yt s)=z:=⟨_,rfl⟩;rw [hR] at hRl ⊢;clear hall aeT KH hcell;refine yc ?_;refine WL.vl rfl (WV.sys hs WG rfl rfl (λvs w=>by kernel_rfl) (λvs w=>by kernel_rfl) (λvs w=>by kernel_rfl) (λvs w=>by kernel_rfl) rfl rfl hln) ?_;refine RH ?_;rw [hb];refine yc ?_;exact als| some x =>
    have hws:bF s n k W0[k]=some (some x):=by rw [hwd,hcl];rfl
    rw [jg hkW hws] at hrs;have hn2:=hnx (by rw [hws];rfl);have hcc:=hcell.ok_ (by rw [hcl];rfl);obtain ⟨wk,hwk⟩:∃ z,W0[k]=z:=⟨_,rfl⟩;rw [hwk] at hat hb hcc;obtain ⟨R,hR⟩:∃ z,(gQ s n W0 k).map (yt s)=z:=⟨_,rfl⟩;have hR2:R++[yt s x]=(gQ s n W0 (k+1)).map (yt s):=by rw [hrs,iC,hR];rfl
    rw [hR] at hRl ⊢;clear hall aeT KH hcell;refine yc ?_;refine WL.vl rfl (WV.sys hs WG rfl rfl (λvs w=>by kernel_rfl) (λvs w=>by kernel_rfl) (λvs w=>by kernel_rfl) (λvs w=>by kernel_rfl) rfl rfl hln) ?_;refine RH ?_;rw [hb];refine yc ?_;refine WL.qQ hB [0,1,2] rfl rfl (aj Tryz.func163 rfl rfl) hcc rfl rfl rfl ⟨⟨rfl,rfl,rfl⟩,trivial⟩ rfl rfl rfl rfl ?_;refine yc ?_;refine ⟨k+1,⟨by omega,hn2⟩,by omega,?_⟩;exact (ku (λq=>bif Nat.beq q 3 then 9 else q) arA rfl)
 obtain rfl:k=n:=by omega
 have aqB:eX (gQ s k W0 k):=Tv (Nat.le_refl _);clear aeT hlt hk hRl;refine yc ?_;have hl0:vW s k W0 (k+0)=0:=qA (Nat.le_refl _);refine W.loop (λj:Nat=>k+j<=W0.length/\(∀ i (h:i < W0.length),i < k+j->(bF s k i W0[i]).isSome=true)/\eX (gQ s k W0 (k+j))) (λj=>⟨[(0,.pt 0 0 0),(8,.sl 3),(11,.sc (.int .i64 (vW s k W0 (k+j):Nat))),(84,.ls 1 OU),(85,.sc (.int .i64 ((W0.length - k:Nat):Int))),(86,.sc (.int .i64 (j:Int)))],[(0,.box 78 [.sc (.int .u8 s),.sc (bT s),.ls 3 (cs.map bg),.ls 1 (st.map eInt),.sl 1,.sl 2,.sc (.int .i64 ln),.ls 1 T,.sc (.bool cl)]),(3,.row 157 6 ((gQ s k W0 (k+j)).map (yt s)))],4⟩) (λj=>W0.length - k - j) 0 ⟨by omega,λi h h2=>hall i h (by omega),aqB⟩ (by rw [hl0,awL];exact (zqt id)) λj hj=>?_;obtain ⟨hj,hok,hasc⟩:=hj;clear hall aqB hl0;have hRl:((gQ s k W0 (k+j)).map (yt s)).length<=400000:=by
  have:=EI s k W0 (k+j);rw [bK];omega
 by_cases hlt:k+j < W0.length;rotate_left
 .have e:k+j=W0.length:=by omega
  rw [e] at hok hasc ⊢;by_cases hnil:gQ s k W0 W0.length=[]
  .rw [Bv hnil,hnil];refine yc ?_;exact OD
  .rw [GL hnW (λi h=>hok i h h) hasc hnil];have hpos:0 < (gQ s k W0 W0.length).length:=List.length_pos_iff.2 hnil;obtain ⟨LL,VQ⟩:∃ z,gQ s k W0 W0.length=z:=⟨_,rfl⟩;rw [VQ] at hpos ⊢;have aBY:(LL.map (yt s)).length=LL.length:=bK _;refine AZ ?_;refine W.tr (Tr.freeze 3 rfl) ?_;exact W.ret (sG rfl rfl rfl ⟨rfl,trivial⟩ rfl)
 have hat:=KH j hlt;have hcell:=acv s hs (cs.map bg) (st.map eInt) ln T cl 0 W0[k+j] (hWm _ (gB hlt)) (aj8 hs);have hrs:=wO s k W0 (k+j);have hwd:bF s k (k+j) W0[k+j]=(iP s 0 W0[k+j]).map some:=by unfold bF;rw [if_neg (by omega)]
 cases hcl:iP s 0 W0[k+j] with
 | none =>
  rw [uO hlt (by rw [hwd,hcl];rfl)];have hcc:=hcell.er_ (by rw [hcl];rfl);obtain ⟨wk,hwk⟩:∃ z,W0[k+j]=z:=⟨_,rfl⟩;rw [hwk] at hat hcc;obtain ⟨R,hR⟩:∃ z,(gQ s k W0 (k+j)).map (yt s)=z:=⟨_,rfl⟩;rw [hR] at hRl ⊢;clear hok KH hcell;refine RH ?_;exact als| some x =>
  have hws:bF s k (k+j) W0[k+j]=some (some x):=by rw [hwd,hcl];rfl
  have hxn:=jg hlt hws;have hstep:=GH n6 n4 au hok au hasc hxn;have hlast:=GU (s:=s) (n:=k) (W:=W0) (k:=k+j) au hxn;rw [hxn] at hrs;have hxb:=Xl hws;have hcc:=hcell.ok_ (by rw [hcl];rfl);have hok2:∀ i (h:i < W0.length),i < k+(j+1)->(bF s k i W0[i]).isSome=true:=λi hi hik=>by
   by_cases e:i=k+j;.subst e;rw [hws];rfl
   .exact hok i hi au
  obtain ⟨wk,hwk⟩:∃ z,W0[k+j]=z:=⟨_,rfl⟩;rw [hwk] at hat hcc;obtain ⟨R,hR⟩:∃ z,(gQ s k W0 (k+j)).map (yt s)=z:=⟨_,rfl⟩;have hR2:R++[yt s x]=(gQ s k W0 (k+(j+1))).map (yt s):=by rw [show k+(j+1)=k+j+1 by omega,hrs,iC,hR];rfl
  rw [hR] at hRl ⊢;obtain ⟨la,hla⟩:∃ z,vW s k W0 (k+j)=z:=⟨_,rfl⟩;rw [hla] at hstep ⊢;clear hok KH hcell;obtain ⟨xc,xf,xr,xg,xh⟩:=x;dsimp only at hstep hlast hxb;unfold yt at hcc;dsimp only at hcc;by_cases hle:xc<=la
  .rw [EK (k:=k+j+1) (by omega) (λh=>by have:=hstep.1 h;omega)];refine RH ?_;refine WL.qQ hB [0,1,2] rfl rfl (aj Tryz.func163 rfl rfl) hcc rfl rfl rfl ⟨⟨rfl,rfl,rfl⟩,trivial⟩ rfl rfl rfl rfl ?_;refine yc ?_;exact OD
  .have awY:=hstep.2 au;refine RH ?_;refine WL.qQ hB [0,1,2] rfl rfl (aj Tryz.func163 rfl rfl) hcc rfl rfl rfl ⟨⟨rfl,rfl,rfl⟩,trivial⟩ rfl rfl rfl rfl ?_;refine yc ?_;refine ⟨j+1,⟨by omega,hok2,awY⟩,by omega,?_⟩;rw [show k+(j+1)=k+j+1 by omega] at hR2;rw [show k+(j+1)=k+j+1 by omega,hlast];exact (ku (λq=>bif Nat.beq q 3 then 10 else q) arA rfl)
end
end Go.Proofs.YthohlofpphjofaaGreatDoor
