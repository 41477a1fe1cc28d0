/- The melody of a piece, and how it begins: the plain part. -/
import Derived.Test.YthohlofpphjofaaGreatDoorNrDLq
import Derived.Test.YthohlofpphjofaaGreatDoorNrNLq
import Derived.Test.YthohlofpphjofaaGreatDoorGfLq
set_option maxHeartbeats 4000000
set_option maxRecDepth 100000
set_option linter.unusedVariables false
set_option linter.unusedSimpArgs false
namespace Go.Proofs.YthohlofpphjofaaGreatDoor
theorem Rq {p:Prop}(h:p:=by show 0+1<=1;omega):p:=h
section
variable {p:Prop}
theorem ant(h:p:=by
 rw [hk,if_pos rfl] at hR;rw [(rZ hk).1,(rZ hk).2,hR];exact D8):p:=h
theorem anr(h:p:=by
 rw [hk,if_neg (by decide)] at hR;rw [(wV hk).1,(wV hk).2,hR];exact D8):p:=h
theorem D8(h:p:=by
 refine ny ?_;exact gZ):p:=h
theorem amK(h:p:=by
 refine ny ?_;refine arJ ?_;refine ak2 ?_;rw [hc2];refine mM ?_;refine aV.xq rfl rfl rfl rfl rfl rfl rfl rfl rfl rfl rfl rfl rfl rfl trivial (λh=>by cases h) ?_;refine aV.nil ?_;refine ⟨rfl,?_⟩;refine (?_:WL _ _ _ _ _ _);refine ny ?_;exact qL):p:=h
theorem amm(h:p:=by
 have:=aaP r;rw [hq] at this;exact gX this hrl):p:=h
theorem UN(h:p:=by
 unfold cut;rw [gy];simp):p:=h
theorem abH(h:p:=by
 show (match p.evs[m]? with|some e=>_|none=>_)=_;rw [aO hm']):p:=h
theorem ala(h:p:=by
 rcases List.mem_append.1 hy with hy|hy;.exact hE y hy
 .obtain ⟨z,hz,rfl⟩:=List.mem_map.1 hy;have:=hne z hz;simp at hyc;omega):p:=h
theorem aef(h:p:=by
 rw [yQ,Lib.count_one];have:=List.count_le_length (a:=(32:UInt8)) (l:=t);omega):p:=h
theorem YT(h:p:=by rw [kF hlt,iC,iC];rfl):p:=h
theorem qL(h:p:=by
 refine (?_:Tr _ _ _);exact (zqt id)):p:=h
end
theorem ak2 {p q:Prop}(k:q)(h:iF q->p:=by
 intro hq;refine mM ?_;refine aV.v0 rfl (Bf rfl hcb2) ?_;exact hq.k):p:=h ⟨k⟩
theorem Js {p q:Prop}(k:q)(h:iF q->p:=by
 intro hq;refine ny ?_;refine FY ?_;exact hq.k):p:=h ⟨k⟩
theorem arJ {p q:Prop}(k:q)(h:iF q->p:=by
 intro hq;refine W.xw 4 aK aK aK ?_;refine WA.dt [false,false,false,true] [] [] 3 aK aK aK trivial trivial ?_;exact hq.k):p:=h ⟨k⟩
theorem Om {p q:Prop}(k:q)(h:iF q->p:=by
 intro hq;refine WL.idx rfl rfl au hat ?_;exact hq.k):p:=h ⟨k⟩
section
open Go.RowKit
theorem G7 (l al o:Int):jB ng Tryz.prog 173 [.ag [.sc (.int .i64 l),.sc (.int .i64 al),.sc (.int .i64 o)]] (.tu [.sc (.int .i64 (aa3 l al o)),.sc (.int .i64 (aj1 l al o))]):=by
 refine jB.intro jR Tryz.func173 rfl Tryz.ntmps173 (bG rfl) (dW rfl) λw0 F0 hB=>?_;dsimp only [St.init,number,Nat.reduceAdd];have hc:(l < 0\/(¬ l < 0/\7<=l)\/(¬ l < 0/\¬ 7<=l/\al < -1)\/(¬ l < 0/\¬ 7<=l/\¬ al < -1/\1 < al)\/(¬ l < 0/\¬ 7<=l/\¬ al < -1/\¬ 1 < al/\o < -1)\/(¬ l < 0/\¬ 7<=l/\¬ al < -1/\¬ 1 < al/\¬ o < -1/\9 < o))\/wo l al o:=by unfold wo;omega
 rcases hc with hc|hc;.exact asO
 .obtain ⟨⟨h1,h2⟩,⟨h3,h4⟩,h5,h6⟩:=id hc;have hbd:=Ee ⟨h1,h2⟩;have htab:=abb ⟨h1,h2⟩;exact amG
theorem OY:((List.range 256).all λk=>decide (Lib.indexByte [67,68,69,70,71,65,66] (UInt8.ofNat k)=if jM (UInt8.ofNat k)<7 then (jM (UInt8.ofNat k):Int)else -1))=true:=by decide +kernel
theorem afo (b:UInt8):Lib.indexByte [67,68,69,70,71,65,66] b=if jM b<7 then (jM b:Int) else -1:=by
 have h:=rP (List.all_eq_true.1 OY b.toNat (List.mem_range.2 b.toNat_lt));rw [UInt8.ofNat_toNat] at h;exact h
def eNm (x:Int×Int×Int):AV:=.ag [.sc (.int .i64 x.1),.sc (.int .i64 x.2.1),.sc (.int .i64 x.2.2)]
theorem EJ (r:List UInt8):(∃ q,r=35::q/\lD r=(1,q))\/(∃ q,r=98::q/\lD r=(-1,q))\/(bY [35] r=false/\bY [98] r=false/\lD r=(0,r)):=by match r with
 | []=>exact .inr (.inr ⟨rfl,rfl,rfl⟩)| b::q =>
  by_cases h1:b=35;.subst h1;exact .inl ⟨q,rfl,rfl⟩
  .by_cases h2:b=98;.subst h2;exact .inr (.inl ⟨q,rfl,rfl⟩)
   .refine .inr (.inr ⟨?_,?_,?_⟩);.unfold bY;simp [List.isPrefixOf,Ne.symm h1]
    .unfold bY;simp [List.isPrefixOf,Ne.symm h2]
    .unfold lD;dsimp only;rw [if_neg h1,if_neg h2]
theorem EM (r:List UInt8):(r=[45,49]/\rY r=some (-1))\/(r≠[45,49]/\∃ b,r=[b]/\48<=b.toNat/\b.toNat<=57/\rY r=some ((b.toNat:Int)-48))\/(r≠[45,49]/\rY r=none/\(r.length≠1\/∃ b,r=[b]/\(b.toNat<48\/57<b.toNat))):=by
 by_cases h:r=[45,49];.exact .inl ⟨h,by unfold rY;rw [if_pos h]⟩
 .match r,h with
  | [],h=>exact .inr (.inr ⟨h,rfl,.inl (by decide)⟩)| [b],h =>
   by_cases hb:48<=b.toNat/\b.toNat<=57;.exact .inr (.inl ⟨h,b,rfl,hb.1,hb.2,by unfold rY;rw [if_neg h];dsimp only;rw [if_pos hb]⟩)
   .exact .inr (.inr ⟨h,by unfold rY;rw [if_neg h];dsimp only;rw [if_neg hb],.inr ⟨b,rfl,by omega⟩⟩)| a::b::q,h=>exact .inr (.inr ⟨h,by unfold rY;rw [if_neg h],.inl (by simp)⟩)
theorem Qk {c:UInt8} {r:List UInt8} (h:jM c<7):(rY (lD r).2=none->fE (c::r)=((0,0,0),4))/\(∀ o,rY (lD r).2=some o->fE (c::r)=if jQ (jM c) (lD r).1 o=true then ((((jM c:Nat):Int),(lD r).1,o),(0:Int))else ((0,0,0),10)):=by
 unfold fE;dsimp only;rw [if_neg (by omega)];exact ⟨λe=>by rw [e],λo e=>by rw [e]⟩
theorem apt (t:List UInt8) (ht:t.length<=1000000):jB ng Tryz.prog 219 [.sc (.string (bs t))] (.tu [eNm (fE t).1,.sc (.int .i64 (fE t).2)]):=by match t,ht with
 | [],_ =>
  refine jB.intro jR Tryz.func219 rfl Tryz.ntmps219 (bG rfl) (dW rfl) λw0 F0 hB=>?_;dsimp only [St.init,number,Nat.reduceAdd];exact D8| c::r,ht =>
  have hrl:r.length<=1000000:=by simp at ht;omega
  have hb0:((c::r) == ([]:List UInt8))=false:=rfl;have hI:=OV [67,68,69,70,71,65,66] (c.toNat:Int);have hIe:Lib.indexByte [67,68,69,70,71,65,66] ((c.toNat:Int).toNat.toUInt8)=if jM c < 7 then (jM c:Int) else -1:=by rw [gy,show c.toNat.toUInt8=c from UInt8.ofNat_toNat];exact afo c
  rw [hIe] at hI;have ez:(((c::r).getD (Int.toNat 0) 0).toNat:Int)=(c.toNat:Int):=rfl;have hlen:(c::r).length=r.length+1:=rfl;have hc1:cut (c::r) 1 ((r.length:Int)+1)=r:=by
   unfold cut;rw [show ((r.length:Int)+1).toNat=r.length+1 by omega];simp
  by_cases hl:jM c < 7;rotate_left
  .have e:fE (c::r)=((0,0,0),4):=by unfold fE;dsimp only;rw [if_pos (by omega)]
   rw [e];rw [if_neg hl] at hI;refine jB.intro jR Tryz.func219 rfl Tryz.ntmps219 (bG rfl) (dW rfl) λw0 F0 hB=>?_;dsimp only [St.init,number,Nat.reduceAdd];refine ny ?_;rw [hb0];refine Js ?_;rw [ez];refine ny ?_;refine WL.vl rfl (aS Tryz.func235 hI) ?_;exact D8
  rw [if_pos hl] at hI;obtain ⟨hno,hsome⟩:=Qk (c:=c) (r:=r) hl;have hl0:0<=(jM c:Int):=Ji _;obtain ⟨L,hL⟩:∃ z,(jM c:Int)=z:=⟨_,rfl⟩;rw [hL] at hI hl0 hsome;have aeZ:=TJ r [35];have aoM:=TJ r [98];have hlr:((c::r).length:Int)=(r.length:Int)+1:=by rw [hlen];omega
  have hcb:0<=(1:Int)/\(1:Int)<=(((c::r).length:Nat):Int)/\(((c::r).length:Nat):Int)<=(((c::r).length:Nat):Int):=by omega
  have hc1:cut (c::r) 1 (((c::r).length:Nat):Int)=r:=by rw [hlr];exact hc1
  obtain ⟨al,q,hq⟩:∃ al q,lD r=(al,q):=⟨_,_,rfl⟩;have hql:q.length<=1000000:=by exact amm
  rw [hq] at hno hsome;dsimp only at hno hsome;refine jB.intro jR Tryz.func219 rfl Tryz.ntmps219 (bG rfl) (dW rfl) λw0 F0 hB=>?_;dsimp only [St.init,number,Nat.reduceAdd];refine ny ?_;rw [hb0];refine Js ?_;rw [ez];refine ny ?_;refine WL.vl rfl (aS Tryz.func235 hI) ?_;refine ny ?_;refine WL.cut rfl rfl hcb ?_;rw [hc1];refine ny ?_;refine WL.aiy ⟨[(2,.pt 0 0 0),(4,.pt 1 0 0),(5,.sc (.string (bs q)))],[(1,.box 182 [.sc (.int .i64 L),.sc (.int .i64 al),.sc (.int .i64 0)]),(0,.box 182 [.sc (.int .i64 0),.sc (.int .i64 0),.sc (.int .i64 0)])],2⟩ ?_ ?_
  .rcases EJ r with ⟨q',rfl,e⟩|⟨q',rfl,e⟩|⟨e1,e2,e⟩
   .rw [hq] at e;obtain ⟨rfl,rfl⟩:=Prod.mk.inj e;have hp:bY [35] (35::q)=true:=by unfold bY;simp [List.isPrefixOf]
    rw [hp] at aeZ;have hl2:((35::q).length:Int)=(q.length:Int)+1:=by simp
    have hcb2:0<=(1:Int)/\(1:Int)<=(((35::q).length:Nat):Int)/\(((35::q).length:Nat):Int)<=(((35::q).length:Nat):Int):=by omega
    have hc2:cut (35::q) 1 (((35::q).length:Nat):Int)=q:=by exact UN
    refine WL.vl rfl (aS Tryz.func256 aeZ) ?_;exact amK
   .rw [hq] at e;obtain ⟨rfl,rfl⟩:=Prod.mk.inj e;have hp:bY [98] (98::q)=true:=by unfold bY;simp [List.isPrefixOf]
    have hp2:bY [35] (98::q)=false:=by unfold bY;simp [List.isPrefixOf]
    rw [hp] at aoM;rw [hp2] at aeZ;have hl2:((98::q).length:Int)=(q.length:Int)+1:=by simp
    have hcb2:0<=(1:Int)/\(1:Int)<=(((98::q).length:Nat):Int)/\(((98::q).length:Nat):Int)<=(((98::q).length:Nat):Int):=by omega
    have hc2:cut (98::q) 1 (((98::q).length:Nat):Int)=q:=by exact UN
    refine WL.vl rfl (aS Tryz.func256 aeZ) ?_;refine ny ?_;refine WL.vl rfl (aS Tryz.func256 aoM) ?_;exact amK
   .rw [hq] at e;obtain ⟨rfl,rfl⟩:=Prod.mk.inj e;rw [e1] at aeZ;rw [e2] at aoM;refine WL.vl rfl (aS Tryz.func256 aeZ) ?_;refine ny ?_;refine WL.vl rfl (aS Tryz.func256 aoM) ?_;refine ny ?_;exact qL
  rcases EM q with ⟨rfl,ho⟩|⟨hne,b,rfl,hb1,hb2,ho⟩|⟨hne,ho,hl1⟩
  .have hS:=G7 L al (-1);have hb1:(([45,49]:List UInt8) == [45,49])=true:=rfl;have hR:=hsome _ ho;refine ny ?_;rw [hb1];refine ny ?_;refine WL.vl rfl (WV.dZ hB rfl (aj Tryz.func173 rfl rfl) rfl rfl hS) ?_;cases hk:jQ L al (-1) with
   | true =>exact ant| false =>exact anr
  .have hS:=G7 L al ((b.toNat:Int) - 48);have hbf:([b] == ([45,49]:List UInt8))=false:=by simp
   have hR:=hsome _ ho;have hbl:(([b]:List UInt8).length:Int)=1:=rfl;have hbz:((([b]:List UInt8).getD (Int.toNat 0) 0).toNat:Int)=(b.toNat:Int):=rfl;obtain ⟨bn,hbn⟩:∃ z,b.toNat=z:=⟨_,rfl⟩;rw [hbn] at hb1 hb2 hS hR hbz;refine ny ?_;rw [hbf];refine Js ?_;rw [hbz];refine Js ?_;rw [hbz];refine Js ?_;rw [hbz];refine ny ?_;refine WL.sb8 rfl rfl au ?_;refine WL.cvt rfl rfl rfl (I64.wrap yg) ?_;refine ny ?_;refine WL.vl rfl (WV.dZ hB rfl (aj Tryz.func173 rfl rfl) rfl rfl hS) ?_;cases hk:jQ L al ((bn:Int) - 48) with
   | true =>exact ant| false =>exact anr
  .have hbf:(q == ([45,49]:List UInt8))=false:=by simpa using hne
   rw [hno ho];rcases hl1 with hl1|⟨b,rfl,hb⟩
   .refine ny ?_;rw [hbf];exact D8
   .have hbl:(([b]:List UInt8).length:Int)=1:=rfl;have hbz:((([b]:List UInt8).getD (Int.toNat 0) 0).toNat:Int)=(b.toNat:Int):=rfl;obtain ⟨bn,hbn⟩:∃ z,b.toNat=z:=⟨_,rfl⟩;rw [hbn] at hb hbz;rcases hb with hb|hb
    .refine ny ?_;rw [hbf];refine Js ?_;rw [hbz];exact D8
    .refine ny ?_;rw [hbf];refine Js ?_;rw [hbz];refine Js ?_;rw [hbz];exact D8
theorem afT (l:List (List UInt8)) (hl:l.length<=1000000):jr jJ 0 Tryz.prog 162 [.sl 0] [(0,.row 9 1 (l.map aX))] 1 (.tu []) [(0,.row 9 1 (l.reverse.map aX))] 1:=by
 refine jr.intro mG Tryz.func162 rfl Tryz.ntmps162 (bG rfl) rfl λw0 F0 fp pg hB=>?_;refine iU ?_;have hml:(l.map aX).length=l.length:=bK _;refine rQ ?_;refine W.loop (λk:Nat=>2*k<=l.length) (λk=>⟨[(0,.sl 0),(2,.sc (.int .i64 (k:Int))),(3,.sc (.int .i64 ((l.length:Int) - 1 - (k:Int))))],[(0,.row 9 1 ((kM l k).map aX))],1⟩) (λk=>l.length - 2*k) 0 (by omega) (by rw [show (l.length:Int) - 1 - ((0:Nat):Int)=(l.length:Int) - 1 by omega];exact (ku (λq=>q) (by repeat (first|exact trivial|refine ⟨⟨?_,?_,?_⟩,?_⟩|rfl|exact congrArg (λq=>some (AO.row _ _ q)) (by rw [aiR]))) rfl)) λk hk=>?_;by_cases hlt:2*k+1 < l.length;rotate_left
 .rw [Z8 (l:=l) (k:=k) (by omega)];refine rQ ?_;exact iD (σ':=⟨[],[(0,.row 9 1 (l.reverse.map aX))],1⟩) (zqt id) (yC rfl rfl rfl rfl rfl)
 have z0:((k:Int)).toNat=k:=gy k;have z1:((l.length:Int) - 1 - (k:Int)).toNat=l.length - 1 - k:=by omega
 obtain ⟨x,hx⟩:∃ z,l[k]' au=z:=⟨_,rfl⟩;obtain ⟨y,hy⟩:∃ z,l[l.length - 1 - k]' au=z:=⟨_,rfl⟩;have r0:((kM l k).map aX)[((k:Int)).toNat]?=some (aX x):=by rw [z0,dw,afr hlt,hx];rfl
 have r1:((kM l k).map aX)[((l.length:Int) - 1 - (k:Int)).toNat]?=some (aX y):=by rw [z1,dw,afq hlt,hy];rfl
 have r2:(((kM l k).map aX).set ((k:Int)).toNat (aX y))[((l.length:Int) - 1 - (k:Int)).toNat]?=some (aX y):=by rw [pV (by omega)];exact r1
 have r3:(((kM l k).map aX).set ((k:Int)).toNat (aX y)).set ((l.length:Int) - 1 - (k:Int)).toNat (aX x)=(kM l (k+1)).map aX:=by rw [z0,z1,← aiS hlt,FI,FI,hx,hy]
 obtain ⟨D,hD⟩:∃ z,(kM l k).map aX=z:=⟨_,rfl⟩;have hDl:D.length=l.length:=by rw [← hD,bK,lq]
 rw [hD] at r0 r1 r2 r3 ⊢;refine rQ ?_;refine W.xw 14 aK aK aK ?_;refine WA.dt [false,false,false,false,false,false,false,false,false,false,false,false,false,true] [] [0] 13 aK aK aK trivial ⟨rfl,trivial⟩ ?_;refine aV.st rfl aK rfl ?_;refine aV.st rfl aK rfl ?_;refine lQ ?_;refine akR ?_;refine aV.ldr rfl aK rfl r1 rfl rfl ?_;refine akR ?_;refine aV.ldr rfl aK rfl r0 rfl rfl ?_;refine aV.ixs rfl aK rfl ⟨by omega,by omega⟩ ?_;refine aV.xq rfl rfl rfl rfl rfl rfl rfl rfl rfl rfl rfl rfl (TM r0 Rq rfl) rfl trivial (λh=>by cases h) ?_;refine aV.nil ?_;refine ⟨rfl,?_⟩;refine (?_:WL _ _ _ _ _ _);refine rQ ?_;refine WL.xq rfl rfl rfl rfl r2 Rq ?_;refine rQ ?_;refine ⟨k+1,by omega,by omega,?_⟩;rw [show (l.length:Int) - 1 - (k:Int) - 1=(l.length:Int) - 1 - ((k+1:Nat):Int) by omega];exact (ku (λq=>q) (by repeat (first|exact trivial|refine ⟨⟨?_,?_,?_⟩,?_⟩|rfl|exact congrArg (λq=>some (AO.row _ _ q)) r3)) rfl)
theorem BJ.chg {p:bV} {E:List (Nat×Stp)} {b b':Int->Nat} {s:NS} (h:BJ p E b s) (hb:∀ y∈E,Ac p.evs y.1 y.2.1 (b' y.2.1)=Ac p.evs y.1 y.2.1 (b y.2.1)):BJ p E b' s:=by
 have hr:∀ c y,y∈E->(rings p b' c y↔rings p b c y):=λc y hy=>by
  unfold rings;constructor;.rintro ⟨a1,a2,a3⟩;subst a1;exact ⟨rfl,a2,by rw [← hb y hy];exact a3⟩
  .rintro ⟨a1,a2,a3⟩;subst a1;exact ⟨rfl,a2,by rw [hb y hy];exact a3⟩
 refine ⟨?_,h.len,h.r0,λc h1 h2=>?_⟩
 .rw [h.out];refine Jg λy hy=>?_;unfold JE;rw [hb y hy]
 .rcases h.ring c h1 h2 with⟨q1,q2⟩|⟨k,q1,⟨y,q2,q3⟩,q4⟩;.exact .inl ⟨q1,λy hy hh=>q2 y hy ((hr c y hy).1 hh)⟩
  .exact .inr ⟨k,q1,⟨y,q2,(hr c y (cZ q2)).2 q3⟩,λk' y' a b=>q4 k' y' a ((hr c y' (cZ a)).1 b)⟩
theorem BJ.all {p:bV} {E:List (Nat×Stp)} {s:NS} {m:Nat} (h:BJ p E (λ_=>m) s) (hcut:∀ c,BL p.evs c m=true) (hE:∀ y∈E,y.1<m) :∀ k:Nat,k<=15->BJ p E (λc=>if 1<=c/\c<k then m+1 else m) (nI (aY p.evs m) k s):=by
 intro k;induction k with
 | zero =>
  intro _;refine h.chg λy hy=>?_;rw [if_neg (by omega)]| succ k ih =>
  intro hk;have h1:=ih au;unfold nI;by_cases h0:k=0
  .subst h0;have e:pU 0 (aY p.evs m) (nI (aY p.evs m) 0 s)=nI (aY p.evs m) 0 s:=by
    unfold pU;rw [if_neg (by rw [h1.r0];decide)]
   rw [e];refine h1.chg λy hy=>?_;rw [if_neg (by omega),if_neg (by omega)]
  .refine h1.stop ⟨by omega,by omega⟩ (by rw [if_neg (by omega)]) (by rw [if_pos (by omega)]) (λx hx=>?_) (hcut k) (λy hy _=>hE y hy);by_cases e:1<=x/\x<k;.rw [if_pos e,if_pos (by omega)]
   .rw [if_neg e,if_neg (by omega)]
theorem ai2 {evs:List Ev} {i m:Nat} {c:Int} (hi:i<m) (hc:BL evs c m=true):Ac evs i c (m+1)≠none:=by
 rw [GY,if_pos ⟨hi,hc⟩];cases Ac evs i c m<;>simp
theorem aew {evs:List Ev} {m:Nat} (hm:m<evs.length)(h:lC evs[m]=true)(c:Int):BL evs c m=true:=by unfold BL;rw [aO hm];simp [h]
theorem ahr {evs:List Ev} {m:Nat} (hm:m<evs.length) {x:Stp} (h:x∈evs[m].stops):BL evs x.1 m=true:=by
 unfold BL hasB;rw [aO hm];simp only [CQ,List.any_eq_true];exact .inr ⟨x,h,by simp⟩
theorem aoi(p:bV):∀ m y,y∈Jy p m->y.1<m:=by
 intro m;induction m with
 | zero=>intro y hy;cases hy| succ m ih =>
  intro y hy;unfold Jy at hy;split at hy
  .rcases List.mem_append.1 hy with hy|hy;.have:=ih y hy;omega
   .obtain⟨x,_,rfl⟩:=List.mem_map.1 hy;exact vw m
  .have:=ih y hy;omega
theorem qU {c:Int} {l:List Stp}:hasB c l=true↔∃ x∈l,x.1=c:=by unfold hasB;simp
theorem BJ.adds {p:bV} {E:List (Nat×Stp)} {s:NS} {m:Nat} (hm:m<p.evs.length) (hok:av1 p m p.evs[m]) (h:BJ p E (λ_=>m) s) (hE:∀ y∈E,y.1<m) :∀ q,q<=p.evs[m].stops.length->BJ p (E++((p.evs[m].stops.take q).map λx=>(m,x))) (λc=>if hasB c (p.evs[m].stops.take q)=true then m+1 else m) (uq p m p.evs[m].stops s q):=by
 intro q;induction q with
 | zero =>
  intro _;rw [List.take_zero,List.map_nil,xX];refine h.chg λy hy=>?_;have:hasB y.2.1 []=false:=rfl;simp only [this,Nz,if_false]| succ q ih =>
  intro hq;have hq':q<p.evs[m].stops.length:=by omega
  have h1:=ih au;obtain ⟨l,hl⟩:∃ l,p.evs[m].stops=l:=⟨_,rfl⟩;have hasc:=hok.asc;have hst:=hok.stops;have hcut:∀ x∈l,BL p.evs x.1 m=true:=λx hx=>ahr hm (by rw [hl];exact hx);rw [hl] at hq' h1 hasc hst ⊢;have hx:=hst _ (gB hq');have htk:l.take (q+1)=l.take q++[l[q]]:=kF hq';have hne:∀ x∈l.take q,x.1<l[q].1:=λx hx=>by
   obtain ⟨i,hi,rfl⟩:=oz hx;have hi':i<q:=by simp at hi;omega
   rw [List.getElem_take];exact List.pairwise_iff_getElem.1 hasc i q (by omega) hq' hi'
  have e0:uq p m l s (q+1)=addN p m l[q] (uq p m l s q):=by
   show (match l[q]? with|some x=>addN p m x (uq p m l s q)|none=>uq p m l s q)=_;rw [aO hq']
  rw [e0,htk,iC,← vg];obtain ⟨x,hxe⟩:∃ x,l[q]=x:=⟨_,rfl⟩;have hxl:x∈l:=by rw [← hxe];exact gB hq'
  rw [hxe] at hx hne ⊢;obtain ⟨c,hc⟩:∃ c:Nat,x.1=c:=⟨x.1.toNat,by have:=hx.aI;omega⟩;have aw2:x.1.toNat=c:=by omega
  have atI:1<=c/\c<=14:=⟨by have:=hx.aI;omega,by have:=hx.c14;omega⟩;have h2:=h1.stop (b':=λc'=>if hasB c' (l.take q++[x])=true then m+1 else m) (m:=m) atI (if_neg λhh=>by obtain ⟨y,hy,hyc⟩:=qU.1 hh;have:=hne y hy;omega) (if_pos (qU.2 ⟨x,by simp,hc⟩)) (λc' hc'=>?_) (by rw [← hc];exact hcut x hxl) (λy hy hyc=>?_)
  .have h3:=h2.add (m:=m) (x:=x) ⟨by omega,by omega⟩ (if_pos (qU.2 ⟨x,by simp,rfl⟩)) (λy hy hr=>?_)
   .rw [aw2] at h3;unfold addN;rw [aw2];exact h3
   .have hyc:y.2.1=x.1:=hr.1;have hym:y.1<m:=by exact ala
    have:=hr.2.2;simp only [show hasB x.1 (l.take q++[x])=true from qU.2 ⟨x,by simp,rfl⟩,if_true] at this;exact ai2 hym (hcut x hxl) this
  .by_cases e:hasB c' (l.take q)=true
   .obtain ⟨y,a,b⟩:=qU.1 e;rw [if_pos e,if_pos (qU.2 ⟨y,Ny _ a,b⟩)]
   .rw [if_neg e,if_neg];intro hh;obtain ⟨y,hy,hyc⟩:=qU.1 hh;rcases List.mem_append.1 hy with hy|hy;.exact e (qU.2 ⟨y,hy,hyc⟩)
    .rw [CO] at hy;subst hy;omega
  .exact ala
theorem afz {evs:List Ev} {i m:Nat} {c:Int} (hc:BL evs c m=false):Ac evs i c (m+1)=Ac evs i c m:=by rw [GY,if_neg (by rw [hc];simp)];simp
theorem apm {p:bV} (h0:bM p=0):∀ m,m<=p.evs.length->BJ p (Jy p m) (λ_=>m) (zY p m):=by
 intro m;induction m with
 | zero =>
  intro _;refine ⟨rfl,by simp [zY],by simp [zY],λc h1 h2=>.inl ⟨?_,λy hy=>by cases hy⟩⟩;simp only [zY,dL];rw [abl,if_pos (by omega)];rfl| succ m ih =>
  intro hm;have hm':m < p.evs.length:=by omega
  have hok:=Bj h0 hm';have hE:=aoi p m;have e1:zY p (m+1)=uq p m p.evs[m].stops (vY p m p.evs[m] (zY p m)) p.evs[m].stops.length:=by exact abH
  have e2:Jy p (m+1)=Jy p m++p.evs[m].stops.map λx=>(m,x):=by exact abH
  rw [e1,e2];have h1:=ih au;by_cases hr:lC p.evs[m]=true
  .have hnil:p.evs[m].stops=[]:=by
    unfold lC at hr;simp at hr;exact hr.1
   have e3:vY p m p.evs[m] (zY p m)=nI (aY p.evs m) 15 (zY p m):=if_pos hr;rw [e3,hnil];simp only [List.map_nil,xX,AA,uq];have hall:=h1.all (λc=>aew hm' hr c) hE 15 (Nat.le_refl _);refine hall.chg λy hy=>?_;have hym:=hE y hy;by_cases hc:1<=y.2.1/\y.2.1 < (15:Nat);.rw [if_pos hc]
   .-- a course that no stop has
    exfalso;have:∀ m,m<=p.evs.length->∀ y∈Jy p m,1<=y.2.1/\y.2.1<=14:=by
     intro m;induction m with
     | zero=>intro _ y hy;cases hy| succ m ih =>
      intro hm y hy;unfold Jy at hy;rw [aO (show m < p.evs.length by omega)] at hy;rcases List.mem_append.1 hy with hy|hy;.exact ih au y hy
      .obtain ⟨x,hx,rfl⟩:=List.mem_map.1 hy;have:=(Bj h0 (show m < p.evs.length by omega)).stops x hx;exact ⟨this.aI.1,this.c14⟩
    have:=this m au y hy;exact hc au
  .have e3:vY p m p.evs[m] (zY p m)=zY p m:=if_neg hr;rw [e3];have h2:=h1.adds hm' hok hE p.evs[m].stops.length (Nat.le_refl _);rw [ou (Nat.le_refl _)] at h2;refine h2.chg λy hy=>?_;by_cases hc:hasB y.2.1 p.evs[m].stops=true;.rw [if_pos hc]
   .rw [if_neg hc];refine afz ?_;cases hq:BL p.evs y.2.1 m with
    | false=>rfl| true =>
     exfalso;unfold BL at hq;rw [aO hm'] at hq;simp only [CQ] at hq;exact hq.elim hr hc
def Ll (p:bV) (i:Nat) (x:Stp):Nt:=JE p (λ_=>p.evs.length) (i,x)
def dY (p:bV):Nat->List Nt
 | 0=>[]| k+1=>match p.evs[k]? with
  | some e=>dY p k++e.stops.map (Ll p k)| none=>dY p k
theorem ZR (p:bV):∀ m,dY p m=(Jy p m).map (JE p λ_=>p.evs.length):=by
 intro m;induction m with
 | zero=>rfl| succ m ih =>
  show (match p.evs[m]? with|some e=>dY p m++e.stops.map (Ll p m)|none=>dY p m)=((match p.evs[m]? with|some e=>Jy p m++e.stops.map (λx=>(m,x))|none=>Jy p m):List (Nat×Stp)).map _;cases p.evs[m]? with
  | none=>exact ih| some e =>simp only [iC,ih,Jf];rfl
theorem Qr {p:bV} (h0:bM p=0):(zY p p.evs.length).out=dY p p.evs.length:=by rw [(apm h0 _ (Nat.le_refl _)).out,ZR]
def xA (x:Nt):List AV:=[.sc (.int .i64 x.1),.sc (.int .i64 x.2.1),.sc (.int .i64 x.2.2.1),.sc (.int .i64 x.2.2.2.1),.sc (.int .i64 x.2.2.2.2)]
def pz (r:List Int):List AV:=(List.range 15).map λc=>.sc (.int .i64 (r.getD c 0))
theorem ahv {r:List Int} {c:Nat} (h:c<15):(pz r)[c]?=some (.sc (.int .i64 (r.getD c 0))):=by
 unfold pz;rw [dw,Uk h];rfl
theorem PD(r:List Int):(pz r).length=15:=by unfold pz;simp
theorem PE {r:List Int} {c:Nat} {v:Int} (hc:c<r.length):(pz r).set c (.sc (.int .i64 v))=pz (r.set c v):=by
 unfold pz;apply oV (by simp);intro i h1 h2;have hi:i<15:=by simpa using h2
 rw [Yw];simp only [Yx,abq,dL,Uw];by_cases e:c=i;.subst e;simp [hc]
 .simp [e]
theorem aof {l:List Nt} {k:Nat} {n:Nt} (t:Int)(h:l[k]?=some n):(l.map xA).set k (jL 4 [.sc (.int .i64 t)] (xA n))=(Fq l k t).map xA:=by
 unfold Fq;rw [h];simp only [FI];rfl
structure F7(s:NS):Prop where
 len:s.ring.length=15rng:∀ c,0<=s.ring.getD c 0/\s.ring.getD c 0<=s.out.length
 big:s.out.length<=10000
theorem Hu(l:List Nt)(k:Nat)(t:Int):(Fq l k t).length=l.length:=by unfold Fq;split<;>simp
theorem Nj {s:NS} (h:F7 s)(c:Nat)(t:Int):F7 (pU c t s)/\(pU c t s).out.length=s.out.length:=by
 unfold pU;split
 .refine⟨⟨by simpa using h.len,λq=>?_,by rw [Hu];exact h.big⟩,Hu _ _ _⟩;have:=h.rng q;simp only [Hu,dL]at this ⊢;by_cases e:c=q
  .subst e;by_cases hq:c<s.ring.length;.rw [sK hq];simp
   .rw [abr Rx];simp
  .rw [pV e];exact this
 .exact⟨h,rfl⟩
theorem aqw {P:Program} {C:Cx} {σ:St} {fn:Func} {aW:List AV} {res:AV} {M':List (Nat×AO)} {bP:Nat} (h:Af P σ fn.results.toList=some aW)(hp:aW.all (λav=>!ownB av)=true)(e:resT aW=res)(hM:σ.M=M')(hk:σ.nk=bP):nR P fn C res M' bP .normal σ :=⟨.inl rfl,(BN h hp e hM hk).2⟩
theorem Qq (c:Nat) (t:Int) (s:NS) (hc:c < 15) (h:F7 s) :jr jJ 0 Tryz.prog 265 [.sc (.int .i64 c),.sc (.int .i64 t),.pt 0 0 0,.pt 1 0 0] [(0,.box 355 (pz s.ring)),(1,.box 267 [.sl 2]),(2,.row 273 5 (s.out.map xA))] 3 (.tu []) [(0,.box 355 (pz (pU c t s).ring)),(1,.box 267 [.sl 2]),(2,.row 273 5 ((pU c t s).out.map xA))] 3:=by
 have hl:=PD s.ring;have hrg:=h.rng c;have hlen:=h.len;have hbig:=h.big;have hat:=ahv (r:=s.ring) hc;have hs0:pU c t s=if 0 < s.ring.getD c 0 then ⟨Fq s.out (s.ring.getD c 0 - 1).toNat t,s.ring.set c 0⟩ else s:=rfl;obtain ⟨r,hr⟩:∃ r,s.ring.getD c 0=r:=⟨_,rfl⟩;rw [hr] at hat hrg hs0;refine jr.intro mG Tryz.func265 rfl Tryz.ntmps265 (bG rfl) rfl λw0 F0 fp pg hB=>?_;refine iU ?_;refine adP ?_;refine WL.idp rfl rfl ⟨by omega,by omega⟩ (show 0+((c:Nat):Int).toNat*1=c by simp) ?_;refine WL.ldx rfl rfl hat rfl ?_;refine adP ?_;(refine W.cond rfl (λhif=>?_) (λhif=>?_)<;>(try simp only [dH,dO,eu,eF,dP,eG] at hif))
 .rw [if_pos hif] at hs0;rw [hs0];have hk:(r - 1).toNat < s.out.length:=by omega
  have hn:=aO hk;have hrr:(s.out.map xA)[(r - 1).toNat]?=some (xA s.out[(r - 1).toNat]):=by rw [dw,hn];rfl
  refine ari ?_;refine WL.xq rfl rfl rfl rfl hrr (by show 4+1<=5;omega) ?_;refine ari ?_;refine WL.idp rfl rfl ⟨by omega,by omega⟩ (show 0+((c:Nat):Int).toNat*1=c by simp) ?_;refine WL.stx rfl rfl rfl rfl (by rw [hl];exact hc) ?_;rw [PE (by omega)];dsimp only;refine WL.tr (σ':=⟨[],[(0,.box 355 (pz (s.ring.set c 0))),(1,.box 267 [.sl 2]),(2,.row 273 5 ((Fq s.out (r - 1).toNat t).map xA))],3⟩) (ku (λq=>q) (by repeat (first|exact trivial|refine ⟨⟨?_,?_,?_⟩,?_⟩|rfl|exact congrArg (λq=>some (AO.row _ _ q)) (aof t hn))) rfl) ?_;refine adP ?_;exact aqw rfl rfl rfl rfl rfl
 .rw [if_neg (by omega)] at hs0;rw [hs0];refine adP ?_;exact aqw rfl rfl rfl rfl rfl
def upP(n q:Int):Int:=if n<0\/n<q then q else n
def WS (p:bV)(l:List Stp)(n:Int):Int:=l.foldl (λn x=>upP n (DJ p.cs p.st x.1 x.2.1)) n
def JB (p:bV):List Int:=p.evs.map λe=>WS p e.stops (-1)
def Dn (out:List Int)(n:Nt):List Int:=out.set n.1.toNat (upP (out.getD n.1.toNat 0) n.2.2.1)
theorem WU(l:List Nt):∀ out,(l.foldl Dn out).length=out.length:=by induction l with
 | nil=>intro out;rfl| cons n r ih=>intro out;rw [AU,ih];simp [Dn]
theorem ZO (p:bV) (k:Nat):∀ (l:List Stp) (out:List Int) (v:Int),out[k]?=some v->(l.map (Ll p k)).foldl Dn out=out.set k (WS p l v):=by
 intro l;induction l with
 | nil =>
  intro out v h;apply List.ext_getElem?;intro i;rw [Uw];by_cases e:k=i
  .subst e;have hlt:=(List.getElem?_eq_some_iff.1 h).1;rw [aO hlt]at h;simp [WS,hlt,Option.some.inj h]
  .simp [e]| cons x r ih =>
  intro out v h;have hlt:=(List.getElem?_eq_some_iff.1 h).1;rw [AB,AU];have e1:Dn out (Ll p k x)=out.set k (upP v (DJ p.cs p.st x.1 x.2.1)):=by
   unfold Dn Ll JE;simp [h]
  rw [e1,ih _ (upP v (DJ p.cs p.st x.1 x.2.1)) (by simp [hlt])];rw [List.set_set];rfl
theorem afb (p:bV):∀ m,m<=p.evs.length->(dY p m).foldl Dn (List.replicate p.evs.length (-1))=((p.evs.take m).map λe=>WS p e.stops (-1))++List.replicate (p.evs.length-m) (-1):=by
 intro m;induction m with
 | zero=>intro _;simp [dY]| succ m ih =>
  intro hm;have hm':m<p.evs.length:=by omega
  have e1:dY p (m+1)=dY p m++p.evs[m].stops.map (Ll p m):=by exact abH
  rw [e1,QV,ih (by omega),ZO p m p.evs[m].stops _ (-1) ?_]
  .rw [kF hm',iC,Ul _ _ (by simp;omega)];have:m-((p.evs.take m).map λe=>WS p e.stops (-1)).length=0:=by simp;omega
   rw [this,show p.evs.length-m=(p.evs.length-(m+1))+1 by omega,Um];simp
  .rw [wC (by simp;omega)];have:m-((p.evs.take m).map λe=>WS p e.stops (-1)).length=0:=by simp;omega
   rw [this,abl,if_pos (by omega)]
theorem apb (p:bV):(dY p p.evs.length).foldl Dn (List.replicate p.evs.length (-1))=JB p:=by rw [afb p _ (Nat.le_refl _)];simp [JB]
def Jv:List Int->List Int
 | x::y::r=>(y-x)::Jv (y::r)| _=>[]
theorem Ik:∀ l,(Jv l).length=l.length-1
 | []=>rfl| [x]=>rfl| x::y::r=>by
  have:=Ik (y::r);simp only [Jv,pW]at this ⊢;omega
theorem acA:∀ (l:List Int)(i:Nat)(h:i+1<l.length),(Jv l)[i]?=some (l[i+1]-l[i])
 | [],i,h=>by simp at h| [x],i,h=>by simp at h| x::y::r,0,h=>rfl| x::y::r,i+1,h=>by
  have:=acA (y::r) i yj;simpa [Jv] using this
theorem aey {l:List Int} {i:Nat} (h:i+1<l.length):(Jv l).take (i+1)=(Jv l).take i++[l[i+1]-l[i]]:=by
 have h1:=acA l i h;have hlt:=(List.getElem?_eq_some_iff.1 h1).1;rw [kF hlt];rw [aO hlt]at h1;rw [Option.some.inj h1]
def QJ (p:bV):List Int:=(JB p).filter λx=>!decide (x<0)
def az7 (p:bV)(n:Int):List Int:=(Jv (QJ p)).take n.toNat
end
end Go.Proofs.YthohlofpphjofaaGreatDoor
