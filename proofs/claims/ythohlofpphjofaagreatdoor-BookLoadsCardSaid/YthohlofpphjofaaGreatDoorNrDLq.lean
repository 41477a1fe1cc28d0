/- The reader of the program: fail, next, check. -/
import Derived.Test.YthohlofpphjofaaGreatDoorOncLq
import Derived.Test.YthohlofpphjofaaGreatDoorPlELq
set_option maxHeartbeats 4000000
set_option maxRecDepth 100000
set_option linter.unusedVariables false
set_option linter.unusedSimpArgs false
namespace Go.Proofs.YthohlofpphjofaaGreatDoor
section
variable {p:Prop}
theorem amY(h:p:=by
 rw [e,if_neg (by decide)];refine YG ?_;refine iY ?_;refine arl ?_;refine YG ?_;exact OD):p:=h
theorem amD(h:p:=by
 refine⟨by decide,rfl,rfl,λh0=>?_⟩;subst h0;cases h):p:=h
theorem al7(h:p:=by
 rw [e,if_pos rfl];refine ayr ?_;exact W.ret (BN rfl rfl rfl rfl rfl)):p:=h
theorem UU(h:p:=by
 refine ayb ?_;exact W.ret kR):p:=h
theorem alT(h:p:=by
 rw [Jf];exact (Jg λt _=>rfl).trans (List.map_id l)):p:=h
theorem alQ(h:p:=by exact hc.mono λe w' ⟨he,n,hw⟩=>⟨he,by subst hw;exact Pq (Below.refl _ _) _⟩):p:=h
theorem Dc(h:p:=by
 refine ard ?_;exact W.ret kR):p:=h
theorem asI(h:p:=by exact ⟨k+1,by omega,by omega,(ku (λq=>q) mJ rfl)⟩):p:=h
theorem RI(h:p:=by rw [gy,dw,aO h];rfl):p:=h
theorem asw(h:p:=by
 rw [dw] at hx;cases hq:l[j]? with
 | none=>simp [hq] at hx| some t =>
  rw [hq] at hx;obtain rfl:bs t=x:=by simpa using hx
  have:=hcell j _ (by rw [dw,hq];rfl) 0 (.string (bs t)) rfl;rw [uw,NQ,NU] at this;exact this):p:=h
theorem asq(h:p:=by
 have:=hcell 0 _ (aO (by simp;omega)) 0 (.string (bs (l[0]'(by omega)))) (by simp);rw [AP,NU,add_zero'] at this;unfold World.cell? at this;cases hs:ad.spot with
 | none=>rfl| some q =>
  split at this;.rw [hs] at this;simp at this
  .cases this):p:=h
theorem OD(h:p:=by
 refine WL.ctp (dD _) [0,1,2] rfl rfl (aj Tryz.func40 rfl rfl) (ahA _ _ _ _ _ _ _ _) rfl rfl rfl ⟨⟨rfl,rfl,rfl⟩,trivial⟩ ?_;rfl):p:=h
end
theorem arV {p q:Prop}(k:q)(h:iF q->p:=by
 intro hq;refine akL ?_;refine iY ?_;refine arE ?_;refine DK.idx rfl rfl au hat ?_;refine arE ?_;refine akL ?_;exact hq.k):p:=h ⟨k⟩
theorem ayr {p q:Prop}(k:q)(h:iF q->p:=by
 intro hq;refine YG ?_;refine iY ?_;refine arl ?_;refine YG ?_;refine iY ?_;refine arn ?_;refine DK.idx rfl rfl au hat ?_;refine arn ?_;refine YG ?_;exact hq.k):p:=h ⟨k⟩
theorem lQ {p q:Prop}(k:q)(h:iF q->p:=by
 intro hq;refine mM ?_;refine mM ?_;exact hq.k):p:=h ⟨k⟩
theorem akR {p q:Prop}(k:q)(h:iF q->p:=by
 intro hq;refine aV.st rfl aK rfl ?_;refine aV.st rfl aK rfl ?_;refine aV.ixs rfl aK rfl ⟨by omega,by omega⟩ ?_;exact hq.k):p:=h ⟨k⟩
theorem arE {p q:Prop}(k:q)(h:iF q->p:=by
 intro hq;repeat (first|refine DK.bt rfl rfl (by omega) ?_|refine DK.bf rfl rfl (by omega) ?_|refine DK.tt rfl Ia ?_|refine DK.ff rfl Ia ?_|refine DK.st rfl ?_|refine DK.ar rfl rfl yg ?_|refine DK.nil ?_)
 exact hq.k):p:=h ⟨k⟩
theorem mM {p q:Prop}(k:q)(h:iF q->p:=by
 intro hq;refine aV.v0 rfl (kE rfl rfl) ?_;exact hq.k):p:=h ⟨k⟩
section
open Go.RowKit
theorem Fv (c:UInt8) (t:List UInt8) (ht:t.length<=1000000):jB ng Tryz.prog 38 [.sc (.string (bs t)),.sc (.string (bs [c]))] (.ls 1 ((aZ c t).map aX)) :=jB.apr (T:=9) rfl λw F hB=>by
  obtain ⟨m,hm⟩:=hB.2.2;have h:=Tryz.strings_Split (bs t) (bs [c]) m w Rt hm (by rw [dI];simp);have hd:=Lib.splitB_data (bs [c]) 0 (Lib.countB (bs t) (bs [c])) (bs t);have hc:Lib.countB (bs t) (bs [c])=Lib.count t [c]:=by
   show Lib.count (bs t).data.toList (bs [c]).data.toList=_;rw [ig,ig]
  rw [ig,ig,hc,TW] at hd;have hl:=yQ c t;rw [hc] at h;rw [hl];have hv:(Lib.splitB (bs [c]) 0 (Lib.count t [c]) (bs t)).map Value.string=(aZ c t).map λl=>Value.string (bs l):=by
   rw [← hd,Jf];exact Jg λx _=>by
    show Value.string x=Value.string (bs x.data.toList);obtain ⟨l,rfl⟩:=awd x;rw [ig]
  rw [hv] at h;exact h
theorem adA {F:View} {u v x:Value}:RP F (.tu [.sc u,.sc v,.sc x]) (.tuple #[u,v,x]):=.tu _ _ rfl λi av y a b=>by match i with
 | 0=>cases a;cases b;exact .sc _| 1=>cases a;cases b;exact .sc _| 2=>cases a;cases b;exact .sc _| i+3=>simp at a
theorem ahq (c:UInt8) (l r:List UInt8) (h:bZ c l) (hl:l.length+r.length<=1000000):jB ng Tryz.prog 218 [.sc (.string (bs (l++c::r))),.sc (.string (bs [c]))] (.tu [.sc (.string (bs l)),.sc (.string (bs r)),.sc (.bool true)]) :=jB.aao (v:=.tuple #[.string (bs l),.string (bs r),.bool true]) rfl (λF=>adA) λw F hB=>by
  obtain ⟨m,hm⟩:=hB.2.2;have hc:=Tryz.strings_Cut (bs (l++c::r)) (bs [c]) m w (by rw [dI];simp;omega) hm;rw [ig,ig,af9 h] at hc;exact alQ
theorem ahs (c:UInt8) (l:List UInt8) (h:bZ c l) (hl:l.length<=1000000):jB ng Tryz.prog 218 [.sc (.string (bs l)),.sc (.string (bs [c]))] (.tu [.sc (.string (bs l)),.sc (.string (bs [])),.sc (.bool false)]) :=jB.aao (v:=.tuple #[.string (bs l),.string (bs []),.bool false]) rfl (λF=>adA) λw F hB=>by
  obtain ⟨m,hm⟩:=hB.2.2;have hc:=Tryz.strings_Cut (bs l) (bs [c]) m w Rt hm;rw [ig,ig,aga h] at hc;exact alQ
def bY(p l:List UInt8):Bool:=p.isPrefixOf l
theorem apu (l p:List UInt8):bC Tryz.prog 217 [.sc (.string (bs l)),.sc (.string (bs p))] (.sc (.bool (bY p l))) :=bC.nX rfl (λ_=>.sc _) λw=>(Tryz.stringslite_HasPrefix (bs l) (bs p) w).mono λe w' ⟨he,hw⟩=>⟨by rw [he,ig,ig];rfl,by subst hw;exact Below.refl _ _⟩
theorem TJ (l p:List UInt8):bC Tryz.prog 256 [.sc (.string (bs l)),.sc (.string (bs p))] (.sc (.bool (bY p l))) :=bC.nX rfl (λ_=>.sc _) λw=>(Tryz.strings_HasPrefix (bs l) (bs p) w).mono λe w' ⟨he,hw⟩=>⟨by rw [he,ig,ig];rfl,by subst hw;exact Below.refl _ _⟩
theorem ajY (l p:List UInt8) (h:l.length<=1000000):bC Tryz.prog 123 [.sc (.string (bs l)),.sc (.string (bs p))] (.sc (.bool (p.isSuffixOf l))) :=bC.nX rfl (λ_=>.sc _) λw=>(Tryz.stringslite_HasSuffix (bs l) (bs p) w Rt).mono λe w' ⟨he,hw⟩=>⟨by rw [he,ig,ig];rfl,by subst hw;exact Below.refl _ _⟩
theorem OV (s:List UInt8)(z:Int):bC Tryz.prog 235 [.sc (.string (bs s)),.sc (.int .u8 z)] (.sc (.int .i64 (Lib.indexByte s z.toNat.toUInt8))) :=bC.nX rfl (λ_=>.sc _) λw=>(Tryz.strings_IndexByte (bs s) z w).mono λe w'⟨he,hw⟩=>⟨by rw [he,ig],hw ▸ Below.refl _ _⟩
theorem Zc (l p:List UInt8) (h:l.length<=1000000):bC Tryz.prog 157 [.sc (.string (bs l)),.sc (.string (bs p))] (.tu [.sc (.string (bs (if bY p l=true then l.drop p.length else l))),.sc (.bool (bY p l))]):=by
 have hP:=apu l p;cases hb:bY p l with
 | false =>
  rw [hb] at hP;refine dV Tryz.func157 Tryz.ntmps157 λw0 F0=>?_;dsimp only [St.init,number,Nat.reduceAdd];refine YE ?_;refine WL.vl rfl (aS Tryz.func217 hP) ?_;refine YE ?_;exact kT| true =>
  have hle:p.length<=l.length:=(List.isPrefixOf_iff_prefix.1 hb).length_le;have hc:cut l p.length l.length=l.drop p.length:=by
   unfold cut;rw [gy,gy];first|(rw [jw];done)|(rw [ou (by simp)];done)|(simp;done)
  have hcb:0<=(p.length:Int)/\(p.length:Int)<=(l.length:Int)/\(l.length:Int)<=(l.length:Int):=by omega
  rw [hb] at hP;refine dV Tryz.func157 Tryz.ntmps157 λw0 F0=>?_;dsimp only [St.init,number,Nat.reduceAdd];refine YE ?_;refine WL.vl rfl (aS Tryz.func217 hP) ?_;refine YE ?_;refine WL.cut rfl rfl hcb ?_;rw [hc];refine YE ?_;exact kT
theorem Py (l p:List UInt8) (h:l.length<=1000000):bC Tryz.prog 89 [.sc (.string (bs l)),.sc (.string (bs p))] (.tu [.sc (.string (bs (if bY p l=true then l.drop p.length else l))),.sc (.bool (bY p l))]):=by
 have hP:=Zc l p h;refine dV Tryz.func89 Tryz.ntmps89 λw0 F0=>?_;dsimp only [St.init,number,Nat.reduceAdd];refine adQ ?_;refine WL.vl rfl (aS Tryz.func157 hP) ?_;refine adQ ?_;exact kT
theorem Xj {l:List UInt8} (h:l.getLast?=some 43):([43]:List UInt8).isSuffixOf l=true/\1<=l.length/\l.take (l.length-1)=l.dropLast:=by
 have hne:l≠[]:=by rintro rfl;cases h
 refine⟨?_,List.length_pos_iff.2 hne,(List.dropLast_eq_take).symm⟩;rw [List.isSuffixOf_iff_suffix];refine⟨l.dropLast,?_⟩;have:=List.dropLast_concat_getLast hne;rw [List.getLast?_eq_some_getLast hne]at h;rw [Option.some.inj h]at this;exact this
theorem Z4 {l:List UInt8} (h:l.getLast?≠some 43):([43]:List UInt8).isSuffixOf l=false:=by cases hb:([43]:List UInt8).isSuffixOf l with
 | false=>rfl| true =>
  obtain⟨u,rfl⟩:=List.isSuffixOf_iff_suffix.1 hb;exact absurd (by simp) h
theorem Zd (l:List UInt8) (h:l.length<=1000000):bC Tryz.prog 257 [.sc (.string (bs l)),.sc (.string (bs [43]))] (.tu [.sc (.string (bs (eP l).1)),.sc (.bool (eP l).2)]):=by
 have hP:=ajY l [43] h;have h43:([43]:List UInt8).length=1:=rfl;by_cases hg:l.getLast?=some 43
 .obtain ⟨h1,h2,h3⟩:=Xj hg;have e:eP l=(l.dropLast,true):=if_pos hg;rw [e];rw [h1] at hP;refine dV Tryz.func257 Tryz.ntmps257 λw0 F0=>?_;dsimp only [St.init,number,Nat.reduceAdd];refine Ro ?_;refine WL.vl rfl (aS Tryz.func123 hP) ?_;refine Ro ?_;have hc:cut l 0 ((l.length:Int) - (([43]:List UInt8).length:Int))=l.dropLast:=by
   rw [← h3];unfold cut;rw [show ((l.length:Int) - (([43]:List UInt8).length:Int)).toNat=l.length - 1 by rw [h43];omega];simp
  have hcb:0<=(0:Int)/\(0:Int)<=(l.length:Int) - (([43]:List UInt8).length:Int)/\(l.length:Int) - (([43]:List UInt8).length:Int)<=(l.length:Int):=by rw [h43];omega
  refine Ro ?_;refine WL.cut rfl rfl hcb ?_;rw [hc];refine Ro ?_;exact kT
 .have h1:=Z4 hg;have e:eP l=(l,false):=if_neg hg;rw [e];rw [h1] at hP;refine dV Tryz.func257 Tryz.ntmps257 λw0 F0=>?_;dsimp only [St.init,number,Nat.reduceAdd];refine Ro ?_;refine WL.vl rfl (aS Tryz.func123 hP) ?_;refine Ro ?_;exact kT
theorem aex (l:List UInt8) (h:l.length<=1000000):bC Tryz.prog 220 [.sc (.string (bs l)),.sc (.string (bs [43]))] (.tu [.sc (.string (bs (eP l).1)),.sc (.bool (eP l).2)]):=by
 have hP:=Zd l h;refine dV Tryz.func220 Tryz.ntmps220 λw0 F0=>?_;dsimp only [St.init,number,Nat.reduceAdd];refine adQ ?_;refine WL.vl rfl (aS Tryz.func257 hP) ?_;refine adQ ?_;exact kT
theorem KP (a b:List (List UInt8)) (d:List UInt8) (h:∀ w∈a,w≠d) (hl:a.length+b.length<=1000000):bC Tryz.prog 158 [.ls 1 ((a++d::b).map aX),.sc (.string (bs d))] (.sc (.int .i64 a.length)):=by
 obtain ⟨L,hL⟩:∃ L,a++d::b=L:=⟨_,rfl⟩;have hlen:L.length=a.length+b.length+1:=by rw [← hL];simp;omega
 have hat:∀ k (hk:k < a.length) h',L[k]'h'≠d:=λk hk h'=>by
  subst hL;rw [List.getElem_append_left hk];exact h _ (gB hk)
 have hd:∀ h',L[a.length]'h'=d:=λh'=>by subst hL;simp
 rw [hL];refine dV Tryz.func158 Tryz.ntmps158 λw0 F0=>?_;dsimp only [St.init,number,Nat.reduceAdd];refine YF ?_;refine W.loop (λk:Nat=>k<=a.length) (λk=>⟨[(0,.ls 1 (L.map aX)),(1,.sc (.string (bs d))),(7,.sc (.int .i64 L.length)),(8,.sc (.int .i64 k))],[],0⟩) (λk=>a.length - k) 0 au (zqt id) λk hk=>?_;have hkL:k < L.length:=by omega
 by_cases hlt:k < a.length
 .have hb:(d == L[k])=false:=by simpa using λe=>hat k hlt hkL e.symm
  refine YF ?_;rw [hb];refine YF ?_;exact asI
 .obtain rfl:k=a.length:=by omega
  have hb:(d == L[a.length])=true:=by rw [hd];simp
  refine YF ?_;rw [hb];refine YF ?_;exact W.ret kR
theorem KQ (L:List (List UInt8)) (d:List UInt8) (h:∀ w∈L,w≠d) (hl:L.length<=1000000):bC Tryz.prog 158 [.ls 1 (L.map aX),.sc (.string (bs d))] (.sc (.int .i64 (-1))):=by
 refine dV Tryz.func158 Tryz.ntmps158 λw0 F0=>?_;dsimp only [St.init,number,Nat.reduceAdd];refine fP ?_;refine W.loop (λk:Nat=>k<=L.length) (λk=>⟨[(0,.ls 1 (L.map aX)),(1,.sc (.string (bs d))),(7,.sc (.int .i64 L.length)),(8,.sc (.int .i64 k))],[],0⟩) (λk=>L.length - k) 0 au (zqt id) λk hk=>?_;by_cases hlt:k < L.length
 .have hb:(d == L[k])=false:=by simpa using λe=>h _ (gB hlt) e.symm
  refine fP ?_;rw [hb];refine fP ?_;exact asI
 .obtain rfl:k=L.length:=by omega
  refine fP ?_;exact W.ret kR
theorem aeu (l:List (List UInt8)) (h:l.length<=1000000):jr jJ 0 Tryz.prog 161 [.ls 1 (l.map aX)] [] 0 (.sl 0) [(0,.row 9 1 (l.map aX))] 1:=by
 refine jr.intro mG Tryz.func161 rfl Tryz.ntmps161 (bG rfl) rfl λw0 F0 fp pg hB=>?_;refine iU ?_;refine akK ?_;refine WL.nlq rfl rfl λb hb=>?_;cases b with
 | true =>
  have e:=hb rfl;refine akK ?_;refine W.tr (Tr.nil (t:=2) 9 1 rfl rfl) ?_;rw [e];refine W.tr (σ':=⟨[(2,.sl 0)],[(0,.row 9 1 [])],1⟩) (zqt id) ?_;exact lT| false =>
  refine akK ?_;refine W.tr (σ':=⟨[(2,.sl 0)],[(0,.row 9 1 (l.map aX))],1⟩) (ku (λq=>bif Nat.beq q 0 then 1 else q) mJ rfl) ?_;exact lT
def eSg (e:Ev):AV:=.ag [.sc (.int .i64 e.val),.sc (.bool e.dot),.sc (.bool e.three)]
theorem Nb {v:Int} {d t:Bool} (h:qG v d t=true):0<=v/\v<=7/\Y3 d t<=2/\d=DY (Y3 d t)/\t=BI (Y3 d t)/\(v=0->Y3 d t=0):=by
 have hv:0<=v/\v<=7:=by
  unfold qG at h;simp only [CQ,gG,beq_iff_eq,dH]at h;omega
 refine⟨hv.1,hv.2,?_⟩;cases d<;>cases t;.exact⟨by decide,rfl,rfl,λ_=>rfl⟩
 .exact amD
 .exact amD
 .exfalso;unfold qG at h;by_cases h1:1<=v<;>by_cases h2:v<=7<;>simp [h1,h2]at h
theorem Yg (s:Int) (hs:1<=s/\s<=4) (e:Ev) (h:qG e.val e.dot e.three=true):bC Tryz.prog 110 [.sc (bT s),eSg e] (.tu [.sc (.string (bs (tW e.val (Y3 e.dot e.three)))),.sc (.bool (Ec s e.val (Y3 e.dot e.three)))]):=by
 obtain ⟨h1,h2,h3,h4,h5,h6⟩:=Nb h;obtain ⟨i,hi⟩:∃ i,Y3 e.dot e.three=i:=⟨_,rfl⟩;rw [hi] at h3 h4 h5 h6 ⊢;unfold eSg;rw [h4,h5];exact Yf s hs e.val i ⟨h1,h2⟩ h3 h6
theorem Xw (p:bV)(hO:jh p)(i x:Int):bC Tryz.prog 95 [iG p,.sc (.int .i64 i),.sc (.int .i64 x)] (.sc (.int .i64 (ak p.evs i x))) :=L6 p hO i x
theorem Qv (cs:List (Int×Int×Bool)) (st:List Int) (h:cs.length<=64):bC Tryz.prog 112 [.ag (jc cs st)] (.sc (.int .i64 ((min cs.length 6:Nat):Int))):=by
 refine dV Tryz.func112 Tryz.ntmps112 λw0 F0=>?_;dsimp only [St.init,number,Nat.reduceAdd];refine arj ?_;refine WL.mm rfl rfl (show _=((min cs.length 6:Nat):Int) by split<;>omega) ?_;refine arj ?_;exact W.ret kR
def WG(s:Int):FuncId:=if s=1 then 317 else if s=2 then 332 else if s=3 then 340 else 347
def JI(s:Int):FuncId:=if s=1 then 319 else if s=2 then 334 else if s=3 then 342 else 349
theorem acW (s:Int) (hs:1<=s/\s<=4) (c n:Int) (hc:1<=c/\c<=14) (hn:0<=n/\n<=6):bC Tryz.prog (WG s) [.ag [],.sc (.int .i64 c),.sc (.int .i64 n)] (.sc (.int .i64 (xC s c n))):=by
 rcases dN hs with rfl|rfl|rfl|rfl
 .show bC Tryz.prog 317 _ _;refine dV Tryz.func317 Tryz.ntmps317 λw0 F0=>?_;dsimp only [St.init,number,Nat.reduceAdd];exact UU
 .show bC Tryz.prog 332 _ _;refine dV Tryz.func332 Tryz.ntmps332 λw0 F0=>?_;dsimp only [St.init,number,Nat.reduceAdd];exact UU
 .show bC Tryz.prog 340 _ _;refine dV Tryz.func340 Tryz.ntmps340 λw0 F0=>?_;dsimp only [St.init,number,Nat.reduceAdd];exact UU
 .show bC Tryz.prog 347 _ _;refine dV Tryz.func347 Tryz.ntmps347 λw0 F0=>?_;dsimp only [St.init,number,Nat.reduceAdd];exact UU
theorem F9 (s:Int) (hs:1<=s/\s<=4):bC Tryz.prog (JI s) [.ag []] (.sc (.bool (!decide (s=2)))):=by
 rcases dN hs with rfl|rfl|rfl|rfl
 .show bC Tryz.prog 319 _ _;refine dV Tryz.func319 Tryz.ntmps319 λw0 F0=>?_;dsimp only [St.init,number,Nat.reduceAdd];exact Dc
 .show bC Tryz.prog 334 _ _;refine dV Tryz.func334 Tryz.ntmps334 λw0 F0=>?_;dsimp only [St.init,number,Nat.reduceAdd];exact Dc
 .show bC Tryz.prog 342 _ _;refine dV Tryz.func342 Tryz.ntmps342 λw0 F0=>?_;dsimp only [St.init,number,Nat.reduceAdd];exact Dc
 .show bC Tryz.prog 349 _ _;refine dV Tryz.func349 Tryz.ntmps349 λw0 F0=>?_;dsimp only [St.init,number,Nat.reduceAdd];exact Dc
def eStr (t:List UInt8):List AV:=[.sc (.string (bs t))]
theorem ao0 (l:List (List UInt8)) (h1:l.length<=1000) (h2:(y5 l).length<=1000000):bC Tryz.prog 111 [.ls 1 (l.map eStr),.sc (.string (bs [32]))] (.sc (.string (bs (y5 l)))):=by
 intro w F vs hF hR;match vs,hR.1 with
 | [v,v2],_ =>
  obtain rfl:=(hR.2 1 _ v2 rfl rfl).fM;obtain ⟨A,c,rfl,hrd,hc⟩:=Ae (n:=1) (f:=λt=>[Value.string (bs t)]) hF au (λ_=>rfl) (λx j u h=>by match j with
   | 0=>cases h;rfl| j+1=>simp at h) (hR.2 0 _ v rfl rfl);have fin:∀ e w',e=Ending.returned (.string (bs (y5 l)))->Below w.heap.size w w'->∃ v F',e=.returned v/\Below w.heap.size w w'/\View.le F F'/\(∀ p u,F' p=some u->w'.cell? p=some u)/\(∀ p u,F' p=some u->F p=some u\/w.heap.size<=p.block)/\RP F' (.sc (.string (bs (y5 l)))) v :=λe w' he hb=>⟨_,F,he,hb,λ_ _ h=>h,λp u x=>by rw [hb.cell (aQ (hF p u x))];exact hF p u x,λ_ _ h=>.inl h,.sc _⟩;by_cases h0:l.length=0
  .obtain rfl:=sN h0;exact (strings_Join_none A c (bs [32]) w).mono λe w' ⟨he,hw⟩=>fin e w' he (hw ▸ Below.refl _ _)
  .obtain ⟨ad,had,hlt,hcell⟩:=hrd (by simp;omega);subst had;have hsp:ad.spot=none:=by exact asq
   obtain ⟨bk,off,sp⟩:=ad;simp only at hsp hlt;subst hsp;have hm:(l.map bs).map (λb=>b.data.toList)=l:=by exact alT
   have:=strings_Join bk off c (l.map bs) (bs [32]) w (λj x hx=>?_) hlt (by simp;omega) (by simpa using hc) (by rw [hm,ig,PY];omega)
   .rw [hm,ig,PY,bK] at this;exact this.mono λe w' ⟨he,hb⟩=>fin e w' he hb
   .exact asw
def fA (n e:Int):Value:=.iface 71 (.agg #[.int .i64 n,.int .i64 e])
def iy (v0 v1:Value)(CS ST:List (List AV))(n:Int)(T:List (List AV))(cl:Bool):AO:=.box 78 [.sc v0,.sc v1,.ls 3 CS,.ls 1 ST,.sl 1,.sl 2,.sc (.int .i64 n),.ls 1 T,.sc (.bool cl)]
theorem ahA (v0 v1:Value)(CS ST:List (List AV))(n:Int)(T:List (List AV))(cl:Bool)(e:Int):Ve jJ 0 Tryz.prog 40 [.pt 0 0 0,.sc (.int .i64 e)] [(0,iy v0 v1 CS ST n T cl)] 3 (fA n e):=by
 unfold iy;refine Ve.intro mG Tryz.func40 rfl Tryz.ntmps40 (bG rfl) rfl λw0 F0 fp pg hB=>?_;refine iU ?_;refine ark ?_;refine WL.vl rfl (WV.mki rfl (λv w=>by kernel_rfl) rfl rfl) ?_;refine ark ?_;refine WL.pan rfl rfl rfl rfl
def kZ (L:List (List UInt8))(cl:Bool)(n:Nat):Bool:=decide (n<L.length) && (cl|| decide (n+1<L.length))
theorem ZQ (v0 v1:Value) (CS ST:List (List AV)) (L:List (List UInt8)) (cl:Bool) (n:Nat) (hl:L.length<=1000000) (hn:n<=L.length) :OE jJ 0 Tryz.prog 42 [.pt 0 0 0] [(0,iy v0 v1 CS ST n (L.map aX) cl)] 3 (if kZ L cl n=true then .ok (.sc (.string (bs (L.getD n [])))) [(0,iy v0 v1 CS ST ((n:Int)+1) (L.map aX) cl)] 3 else .er (fA ((n:Int)+1) 4)):=by
 unfold iy;refine OE.intro mG Tryz.func42 rfl Tryz.ntmps42 (bG rfl) rfl λw0 F0 fp pg hB=>?_;refine iU ?_;by_cases h1:L.length<=n
 .have e:kZ L cl n=false:=by unfold kZ;rw [bW (by omega)];rfl
  exact amY
 have hat:(L.map aX)[((n:Int)+1 - 1).toNat]?=some (aX (L.getD n [])):=by rw [show ((n:Int)+1 - 1).toNat=n by omega,dw,dL,aO (by omega)];rfl
 obtain ⟨T,hT⟩:∃ z,L.map aX=z:=⟨_,rfl⟩;have hTl:T.length=L.length:=by rw [← hT];exact bK _
 obtain ⟨x,hx⟩:∃ z,L.getD n []=z:=⟨_,rfl⟩;rw [hT,hx] at hat;rw [hT,hx];by_cases h2:n+1=L.length;.cases cl with
  | false =>
   have e:kZ L false n=false:=by unfold kZ;rw [bQ (by omega),bW (by omega)];rfl
   exact amY| true =>
   have e:kZ L true n=true:=by unfold kZ;rw [bQ (by omega)];rfl
   exact al7
 .have e:kZ L cl n=true:=by unfold kZ;rw [bQ (show n < L.length by omega),bQ (show n+1 < L.length by omega)];simp
  exact al7
theorem an5 (s:Int) (v0 v1:Value) (cs:List Crs) (ST:List (List AV)) (n:Int) (T:List (List AV)) (cl:Bool) (x:N5) (h1:1<=x.1/\x.1<=100) (h2:x.2.1<=100) (hc:cs.length<=100) (hb:∀ c∈cs,0<=c.2.1/\c.2.1<=1000) :OE jJ 0 Tryz.prog 94 [.pt 0 0 0,.ag (yt s x)] [(0,iy v0 v1 (cs.map bg) ST n T cl)] 3 (if dX cs x=0 then .ok (.tu []) [(0,iy v0 v1 (cs.map bg) ST n T cl)] 3 else .er (fA n (dX cs x))):=by
 obtain ⟨c,f,r,g,h⟩:=x;dsimp only at h1 h2;unfold iy yt;refine OE.intro mG Tryz.func94 rfl Tryz.ntmps94 (bG rfl) rfl λw0 F0 fp pg hB=>?_;refine iU ?_;obtain ⟨H,hH⟩:∃ z,nH s h=z:=⟨_,rfl⟩;rw [hH];have hml:(cs.map bg).length=cs.length:=bK _;by_cases hlt:cs.length < c
 .have e:dX cs (c,f,r,g,h)=12:=if_pos hlt;rw [e,if_neg (by decide)];refine akL ?_;exact OD
 have hat:(cs.map bg)[((c:Int) - 1).toNat]?=some (bg (cs.getD (c - 1) (0,0,false))):=by rw [show ((c:Int) - 1).toNat=c - 1 by omega,dw,dL,aO (by omega)];rfl
 have hbc:=hb (cs.getD (c - 1) (0,0,false)) (by rw [dL,aO (by omega)];exact gB _);obtain ⟨⟨p,q,o⟩,hpq⟩:∃ z,cs.getD (c - 1) (0,0,false)=z:=⟨_,rfl⟩;have e:dX cs (c,f,r,g,h)=if q < (f:Int) then 13 else 0:=by unfold dX;dsimp only;rw [if_neg hlt,hpq]
 rw [e];rw [hpq] at hat hbc;dsimp only at hbc;obtain ⟨R,hR⟩:∃ z,cs.map bg=z:=⟨_,rfl⟩;rw [hR] at hml hat ⊢;by_cases hf:q < (f:Int)
 .rw [if_pos hf,if_neg (by decide)];refine arV ?_;exact OD
 .rw [if_neg hf,if_pos rfl];refine arV ?_;exact iD (σ':=⟨[],[(0,.box 78 [.sc v0,.sc v1,.ls 3 R,.ls 1 ST,.sl 1,.sl 2,.sc (.int .i64 n),.ls 1 T,.sc (.bool cl)])],3⟩) (zqt id) (yC rfl rfl rfl rfl rfl)
end
end Go.Proofs.YthohlofpphjofaaGreatDoor
