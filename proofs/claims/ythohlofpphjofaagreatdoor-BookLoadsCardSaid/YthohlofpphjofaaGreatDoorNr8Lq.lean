/- The reader of the reference: a column as an event of the piece. -/
import Derived.Test.YthohlofpphjofaaGreatDoorNrQLq
set_option maxHeartbeats 8000000
set_option maxRecDepth 100000
set_option linter.unusedVariables false
set_option linter.unusedSimpArgs false
namespace Go.Proofs.YthohlofpphjofaaGreatDoor
theorem OA {p:Prop}(h:p:=by
 refine x9 ?_;exact qL):p:=h
theorem xk {p:Prop}(h:p:=by
 refine nC ?_;exact qL):p:=h
theorem asg {p:Prop}(h:p:=by
 unfold iW Cj uU rJ rX;dsimp only;refine ad3 ?_;exact W.ret (iD (σ':=⟨[(6,.pt 1 0 0),(7,.sc (.bool false))],[(0,.row 69 5 []),(1,.box 90 [.sc (.bool bB),.sc (.int .i64 0),.sc (.bool false),.sc (.bool false),.sc (.bool false),.sl 0])],2⟩) (ku (λq=>bif Nat.beq q 0 then 3 else q) mJ rfl) (sG rfl rfl rfl ⟨rfl,trivial⟩ rfl))):p:=h
theorem arU {p q:Prop}(k:q)(h:iF q->p:=by
 intro hq;refine arQ ?_;refine iY ?_;refine arF ?_;refine DK.idx rfl rfl au hca ?_;refine arF ?_;refine x9 ?_;exact hq.k):p:=h ⟨k⟩
theorem arQ {p q:Prop}(k:q)(h:iF q->p:=by
 intro hq;refine x9 ?_;refine WL.lda rfl rfl hrow rfl ?_;refine x9 ?_;exact hq.k):p:=h ⟨k⟩
theorem ad3 {p q:Prop}(k:q)(h:iF q->p:=by
 intro hq;refine nC ?_;refine W.tr (Tr.oJ 69 5 (k:=1) (j:=5) rfl rfl rfl rfl) ?_;exact hq.k):p:=h ⟨k⟩
theorem arF {p q:Prop}(k:q)(h:iF q->p:=by
 intro hq;repeat (first|refine DK.bt rfl rfl au ?_|refine DK.bf rfl rfl au ?_|refine DK.st rfl ?_|refine DK.ar rfl rfl yg ?_|refine DK.nil ?_)
 exact hq.k):p:=h ⟨k⟩
section
open Go.RowKit
def Cj (s:Int)(bar:Bool):List (List UInt8)->NC
 | sg::_::_=>match jP (D6 s sg) 0 8 with
  | some x=>⟨bar,x.1,x.2,false,[]⟩| none=>⟨bar,0,0,false,[]⟩
 | _=>⟨bar,0,0,false,[]⟩
def XL (s:Int)(t:List UInt8):NC :=match aZ 32 t with
 | w::r=>if w=[124]then Cj s true r else Cj s false (w::r)| []=>⟨false,0,0,false,[]⟩
def rX (x:NC)(q:Nat):AV:=.ag [.sc (.bool x.bar),.sc (.int .i64 (x.v:Int)),.sc (.bool (DY x.i)),.sc (.bool (BI x.i)),.sc (.bool x.tie),.sl q]
def rJ (x:NC):List (List AV):=(x.l.map mg).map bI
def uU(o:Option NC)(y:NC):NC:=o.getD y
theorem apD (s:Int) (hs:1<=s/\s<=4) (cs:List Crs) (st:List Int) (hcs:cs.length<=64) (t:List UInt8) (ht:t.length<=300000) :jr jJ 0 Tryz.prog 101 [.sc (.int .u8 s),.ag (jc cs st),.sc (.string (bs t))] [] 0 (.tu [rX (uU (dQ s (aA s cs) t) (XL s t)) 0,.sc (.bool (dQ s (aA s cs) t).isSome)]) [(0,.row 69 5 (rJ (uU (dQ s (aA s cs) t) (XL s t))))] 2:=by
 have hW:=Qz t au;have hwb:=jk 32 t;have hwl:(aZ 32 t).length<=300001:=by exact aef
 unfold dQ XL;obtain ⟨ws,hws⟩:∃ z,aZ 32 t=z:=⟨_,rfl⟩;rw [hws] at hW hwb hwl ⊢;have hne:ws≠[]:=by rw [← hws];unfold aZ;simp
 obtain ⟨w,r,rfl⟩:∃ w r,ws=w::r:=by exact amb
 clear hne hws;dsimp only;unfold jc;have hrl:r.length<=300000:=by simp at hwl;omega
 have hml:((w::r).map aX).length=r.length+1:=by simp
 refine jr.intro mG Tryz.func101 rfl Tryz.ntmps101 (bG rfl) rfl λw0 F0 fp pg hB=>?_;refine iU ?_;refine nC ?_;refine WL.vl rfl (aS Tryz.func97 hW) ?_;refine nC ?_;refine WL.idx rfl rfl au (show ((w::r).map aX)[Int.toNat 0]?=some (aX w) from rfl) ?_;refine nC ?_;obtain ⟨bB,W1,hbW,hform,hyt⟩:∃ bB W1,(w=[124]/\bB=true/\W1=r\/w≠[124]/\bB=false/\W1=w::r)/\(if w=[124] then iW s (aA s cs) true r else iW s (aA s cs) false (w::r))=iW s (aA s cs) bB W1/\(if w=[124] then Cj s true r else Cj s false (w::r))=Cj s bB W1:=by
  by_cases e:w=[124];.exact ⟨true,r,.inl ⟨e,rfl,rfl⟩,if_pos e,if_pos e⟩
  .exact ⟨false,w::r,.inr ⟨e,rfl,rfl⟩,if_neg e,if_neg e⟩
 rw [hform,hyt];have Zq:∀ x∈W1,x.length<=300000:=λx hx=>by exact alh
 have Zr:W1.length<=300001:=by exact al6
 refine W.meet ⟨[(0,.sc (.int .u8 s)),(4,.pt 0 0 0),(6,.pt 1 0 0),(8,.ls 1 (W1.map aX)),(9,.pt 2 0 0)],[(0,.box 27 [.ls 3 (cs.map bg),.ls 1 (st.map eInt)]),(1,.box 90 [.sc (.bool false),.sc (.int .i64 0),.sc (.bool false),.sc (.bool false),.sc (.bool false),.sc (.slice none 0 0)]),(2,.box 90 [.sc (.bool bB),.sc (.int .i64 0),.sc (.bool false),.sc (.bool false),.sc (.bool false),.sc (.slice none 0 0)])],3⟩ ?_ ?_
 .rcases hbW with ⟨e,rfl,rfl⟩|⟨e,rfl,rfl⟩
  .have hb:(w == ([124]:List UInt8))=true:=by rw [e];rfl
   have hp:prt ((w::W1).map aX) 1 (((w::W1).map aX).length:Int)=W1.map aX:=by exact UL
   rw [hb];refine nC ?_;refine WL.y8 rfl rfl ⟨by omega,by rw [hml];omega,by omega⟩ hp ?_;exact xk
  .have hb:(w == ([124]:List UInt8))=false:=by simpa using e
   rw [hb];exact xk
 clear hbW hwb hwl hml hform hyt hW;match W1,Zq,Zr with
 | [],_,_ =>exact asg| [x],_,_ =>
  have hml:(([x]:List (List UInt8)).map aX).length=1:=rfl;exact asg| sg::w1::r1,Zq,Zr =>
 have hml:((sg::w1::r1).map aX).length=r1.length+2:=by simp
 have azW:r1.length<=300000:=by simp at Zr;omega
 have hpt:=apV s hs sg;have Zv:((sg::w1::r1).map aX)[Int.toNat 0]?=some (aX sg):=rfl;cases hsc:jP (D6 s sg) 0 8 with
 | none =>
  have hnt:iW s (aA s cs) bB (sg::w1::r1)=none:=by show (jP (D6 s sg) 0 8).bind _=_;rw [hsc];rfl
  have aoI:Cj s bB (sg::w1::r1)=⟨bB,0,0,false,[]⟩:=by unfold Cj;dsimp only;rw [hsc]
  rw [hnt,aoI];rw [hsc] at hpt;unfold ptT at hpt;unfold uU rJ rX;try dsimp only
  refine nC ?_;refine WL.idx rfl rfl au Zv ?_;refine nC ?_;refine WL.vl rfl (aS Tryz.func168 hpt) ?_;refine ad3 ?_;exact W.ret (iD (σ':=⟨[(6,.pt 1 0 0),(7,.sc (.bool false))],[(0,.row 69 5 []),(1,.box 90 [.sc (.bool bB),.sc (.int .i64 0),.sc (.bool false),.sc (.bool false),.sc (.bool false),.sl 0])],2⟩) (ku (λq=>bif Nat.beq q 0 then 4 else q) mJ rfl) (sG rfl rfl rfl ⟨rfl,trivial⟩ rfl))| some vi =>
 obtain ⟨v,i⟩:=vi;have hnt:iW s (aA s cs) bB (sg::w1::r1)=jC s (aA s cs) bB v i (w1::r1):=by show (jP (D6 s sg) 0 8).bind _=_;rw [hsc];rfl
 have aoI:Cj s bB (sg::w1::r1)=⟨bB,v,i,false,[]⟩:=by unfold Cj;dsimp only;rw [hsc]
 rw [hnt,aoI];rw [hsc] at hpt;unfold ptT at hpt;dsimp only at hpt;have hp9:prt ((sg::w1::r1).map aX) 1 (((sg::w1::r1).map aX).length:Int)=(w1::r1).map aX:=by exact UL
 have hch:=ajt s hs cs st hcs (w1::r1) (by simp;omega) (λx hx=>by have:=Zq x (QX _ hx);omega);unfold jc at hch;obtain ⟨sD,hsD⟩:∃ z,DY i=z:=⟨_,rfl⟩;obtain ⟨sT,hsT⟩:∃ z,BI i=z:=⟨_,rfl⟩;rw [hsD,hsT] at hpt;refine nC ?_;refine WL.idx rfl rfl au Zv ?_;refine nC ?_;refine WL.vl rfl (aS Tryz.func168 hpt) ?_;refine nC ?_;refine WL.y8 rfl rfl ⟨by omega,by rw [hml];omega,by omega⟩ hp9 ?_;refine nC ?_;clear hpt Zv hp9 hsc hnt aoI;obtain ⟨b1,hb1⟩:∃ b,decide (w1::r1=[[126]]/\s≠4)=b:=⟨_,rfl⟩;obtain ⟨b2,hb2⟩:∃ b,decide (w1::r1=[[37]]/\s≠3)=b:=⟨_,rfl⟩;have aeW:((w1::r1).map aX)[Int.toNat 0]?=some (aX w1):=rfl;have hl1:((w1::r1).map aX).length=r1.length+1:=by simp
 have hB1:b1=(decide (r1=[]) && ((w1 == [126]) && decide (s≠4))):=by rw [← hb1,FT];simp [and_assoc,and_comm,and_left_comm]
 have hB2:b2=(decide (r1=[]) && ((w1 == [37]) && decide (s≠3))):=by rw [← hb2,FT];simp [and_assoc,and_comm,and_left_comm]
 have hbody:jC s (aA s cs) bB v i (w1::r1)=if b1=true then some ⟨bB,v,i,true,[]⟩ else if b2=true then some ⟨bB,v,i,false,[]⟩ else (pF s (aA s cs) (w1::r1)).map λl=>⟨bB,v,i,false,l⟩:=by
  unfold jC;rw [← hb1,← hb2];simp only [dH]
 rw [hbody];obtain ⟨CH,hCH⟩:∃ z,pF s (aA s cs) (w1::r1)=z:=⟨_,rfl⟩;rw [hCH] at hch ⊢;obtain ⟨R1,hR1⟩:∃ z,(w1::r1).map aX=z:=⟨_,rfl⟩;rw [hR1] at aeW hl1 hch ⊢;have hd1:r1≠[]->decide ((r1.length:Int)+1=1)=false:=λh=>by exact alC
 have hd2:r1=[]->decide ((r1.length:Int)+1=1)=true:=λh=>by rw [h];rfl
 clear hbody;refine WL.vT ⟨[(0,.sc (.int .u8 s)),(4,.pt 0 0 0),(6,.pt 1 0 0),(8,.ls 1 R1),(9,.pt 2 0 0),(55,.sc (.bool b1))],[(0,.box 27 [.ls 3 (cs.map bg),.ls 1 (st.map eInt)]),(1,.box 90 [.sc (.bool false),.sc (.int .i64 0),.sc (.bool false),.sc (.bool false),.sc (.bool false),.sc (.slice none 0 0)]),(2,.box 90 [.sc (.bool bB),.sc (.int .i64 (v:Int)),.sc (.bool sD),.sc (.bool sT),.sc (.bool false),.sc (.slice none 0 0)])],4⟩ ?_ ?_
 .rw [hl1,NW,NK,hB1];clear hB1 hB2 hb1 hb2 hch;by_cases hr:r1=[]
  .rw [hd2 hr,bQ hr];refine nC ?_;refine Oo ?_;refine nC ?_;by_cases e:(w1 == ([126]:List UInt8))=true
   .rw [e];by_cases s4:s=4
    .subst s4;exact xk
    .rw [bQ s4];exact xk
   .rw [Bool.eq_false_iff.2 e];exact xk
  .rw [hd1 hr,bW hr];exact xk
 cases b1 with
 | true =>
  rw [if_pos rfl];unfold uU rJ rX;dsimp only [Option.getD,Option.isSome];rw [hsD,hsT];refine ad3 ?_;exact W.ret (iD (σ':=⟨[(6,.pt 1 0 0),(7,.sc (.bool true))],[(0,.row 69 5 []),(1,.box 90 [.sc (.bool bB),.sc (.int .i64 (v:Int)),.sc (.bool sD),.sc (.bool sT),.sc (.bool true),.sl 0])],2⟩) (ku (λq=>bif Nat.beq q 0 then 4 else q) mJ rfl) (sG rfl rfl rfl ⟨rfl,trivial⟩ rfl))| false =>
 rw [if_neg (by decide)];refine nC ?_;refine WL.vT ⟨[(0,.sc (.int .u8 s)),(4,.pt 0 0 0),(6,.pt 1 0 0),(8,.ls 1 R1),(9,.pt 2 0 0),(70,.sc (.bool b2))],[(0,.box 27 [.ls 3 (cs.map bg),.ls 1 (st.map eInt)]),(1,.box 90 [.sc (.bool false),.sc (.int .i64 0),.sc (.bool false),.sc (.bool false),.sc (.bool false),.sc (.slice none 0 0)]),(2,.box 90 [.sc (.bool bB),.sc (.int .i64 (v:Int)),.sc (.bool sD),.sc (.bool sT),.sc (.bool false),.sc (.slice none 0 0)])],4⟩ ?_ ?_
 .rw [hl1,NW,NK,hB2];clear hB1 hB2 hb1 hb2 hch;by_cases hr:r1=[]
  .rw [hd2 hr,bQ hr];refine nC ?_;refine Oo ?_;refine nC ?_;by_cases e:(w1 == ([37]:List UInt8))=true
   .rw [e];by_cases s4:s=3
    .subst s4;exact xk
    .rw [bQ s4];exact xk
   .rw [Bool.eq_false_iff.2 e];exact xk
  .rw [hd1 hr,bW hr];exact xk
 cases b2 with
 | true =>
  rw [if_pos rfl];unfold uU rJ rX;dsimp only [Option.getD,Option.isSome];rw [hsD,hsT];refine ad3 ?_;exact W.ret (iD (σ':=⟨[(6,.pt 1 0 0),(7,.sc (.bool true))],[(0,.row 69 5 []),(1,.box 90 [.sc (.bool bB),.sc (.int .i64 (v:Int)),.sc (.bool sD),.sc (.bool sT),.sc (.bool false),.sl 0])],2⟩) (ku (λq=>bif Nat.beq q 0 then 4 else q) mJ rfl) (sG rfl rfl rfl ⟨rfl,trivial⟩ rfl))| false =>
 rw [if_neg (by decide)];cases CH with
 | none =>
  have hc:=hch;unfold uU rJ rX;dsimp only [Option.getD,Option.isSome,Option.map];rw [hsD,hsT];refine nC ?_;refine WL.qQ (dD _) [] rfl rfl (aj Tryz.func169 rfl rfl) hc rfl rfl rfl trivial rfl rfl rfl rfl ?_;refine nC ?_;exact W.ret (iD (σ':=⟨[(6,.pt 1 0 0),(7,.sc (.bool false))],[(0,.row 69 5 []),(1,.box 90 [.sc (.bool bB),.sc (.int .i64 (v:Int)),.sc (.bool sD),.sc (.bool sT),.sc (.bool false),.sl 0])],2⟩) (ku (λq=>bif Nat.beq q 0 then 4 else q) mJ rfl) (sG rfl rfl rfl ⟨rfl,trivial⟩ rfl))| some l =>
  have hc:=hch;dsimp only [Option.getD,Option.isSome] at hc;unfold uU rJ rX;dsimp only [Option.getD,Option.isSome,Option.map];rw [hsD,hsT];obtain ⟨RL,hRL⟩:∃ z,(l.map mg).map bI=z:=⟨_,rfl⟩;rw [hRL] at hc ⊢;refine nC ?_;refine WL.qQ (dD _) [] rfl rfl (aj Tryz.func169 rfl rfl) hc rfl rfl rfl trivial rfl rfl rfl rfl ?_;refine nC ?_;exact W.ret (iD (σ':=⟨[(6,.pt 1 0 0),(7,.sc (.bool true))],[(0,.row 69 5 RL),(1,.box 90 [.sc (.bool bB),.sc (.int .i64 (v:Int)),.sc (.bool sD),.sc (.bool sT),.sc (.bool false),.sl 0])],2⟩) (ku (λq=>bif Nat.beq q 0 then 4 else q) mJ rfl) (sG rfl rfl rfl ⟨rfl,trivial⟩ rfl))
theorem LP {s:Int} {n:Nat} {bar:Bool} {W:List (List UInt8)} {x:NC} (h:iW s n bar W=some x):(∀ y∈x.l,1<=y.1/\y.1<=14/\y.2.1<=18)/\x.l.length<=14:=by
 unfold iW at h;split at h
 .obtain⟨y,_,hy⟩:=Option.bind_eq_some_iff.1 h;exact⟨(yF hy).2.2.2.1,(yF hy).2.2.2.2⟩
 .cases h
theorem ZY {s:Int} {n:Nat} {t:List UInt8} {x:NC} (h:dQ s n t=some x):(∀ y∈x.l,1<=y.1/\y.1<=14/\y.2.1<=18)/\x.l.length<=14:=by
 unfold dQ at h;split at h
 .split at h;.exact LP h
  .exact LP h
 .cases h
theorem aju (s:Int) (hs:1<=s/\s<=4) (cs:List Crs) (st:List Int) (hcs:cs.length<=64) (k:Nat) (hk9:k<=1000000) (t:List UInt8) (ht:t.length<=300000) :jr jJ 0 Tryz.prog 46 [.sc (.int .u8 s),.ag (jc cs st),.sc (.int .i64 (k:Int)),.sc (.string (bs t))] [] 0 (.tu [rX (uU (dQ s (aA s cs) t) (XL s t)) 0,.sc (.int .i64 (eY s cs k t))]) [(0,.row 69 5 (rJ (uU (dQ s (aA s cs) t) (XL s t))))] 2:=by
 have hf:=apD s hs cs st hcs t ht;have hbd:∀ x,dQ s (aA s cs) t=some x->(∀ y∈x.l,1<=y.1/\y.1<=14/\y.2.1<=18)/\x.l.length<=14:=λx h=>ZY (s:=s) (n:=aA s cs) (t:=t) (x:=x) h;unfold eY;obtain ⟨O,hO⟩:∃ z,dQ s (aA s cs) t=z:=⟨_,rfl⟩;obtain ⟨Y,hY⟩:∃ z,XL s t=z:=⟨_,rfl⟩;rw [hO,hY] at hf;rw [hO] at hbd;rw [hO,hY];clear hO hY;have hcl:(cs.map bg).length=cs.length:=bK _;have Gt:∀ q:Nat,1<=q->q<=cs.length->(cs.map bg)[((q:Int) - 1).toNat]?=some [.sc (.int .i64 (cs.getD (q - 1) (0,0,false)).1),.sc (.int .i64 (cs.getD (q - 1) (0,0,false)).2.1),.sc (.bool (cs.getD (q - 1) (0,0,false)).2.2)]:=λq h1 h2=>by rw [show ((q:Int) - 1).toNat=q - 1 by omega,dw,dL,aO (by omega)];rfl
 unfold jc at hf ⊢;obtain ⟨CR,hCR⟩:∃ z,cs.map bg=z:=⟨_,rfl⟩;rw [hCR] at hf hcl Gt ⊢;cases O with
 | none =>
  unfold uU rX at hf ⊢;dsimp only [Option.getD,Option.isSome] at hf ⊢;obtain ⟨RW,hRW⟩:∃ z,rJ Y=z:=⟨_,rfl⟩;rw [hRW] at hf ⊢;obtain ⟨bar,v,i,tie,l⟩:=Y;dsimp only at hf ⊢;refine jr.intro mG Tryz.func46 rfl Tryz.ntmps46 (bG rfl) rfl λw0 F0 fp pg hB=>?_;refine iU ?_;refine x9 ?_;refine WL.qQ (dD _) [] rfl rfl (aj Tryz.func101 rfl rfl) hf rfl rfl rfl trivial rfl rfl rfl rfl ?_;refine x9 ?_;exact W.ret (iD (σ':=⟨[(8,.pt 1 0 0),(9,.sc (.int .i64 4))],[(0,.row 69 5 RW),(1,.box 90 [.sc (.bool bar),.sc (.int .i64 (v:Int)),.sc (.bool (DY i)),.sc (.bool (BI i)),.sc (.bool tie),.sl 0])],2⟩) (ku (λq=>bif Nat.beq q 0 then 2 else q) mJ rfl) (sG rfl rfl rfl ⟨rfl,trivial⟩ rfl))| some X =>
 obtain ⟨b1,b2⟩:=hbd X rfl;have hr0:∀ j (h:j < X.l.length),(rJ X)[j]?=some (bI (mg X.l[j])):=λj h=>by
  unfold rJ;rw [dw,dw,aO h];rfl
 have hrl:(rJ X).length=X.l.length:=by unfold rJ;rw [bK,bK]
 unfold uU rX at hf ⊢;dsimp only [Option.getD,Option.isSome] at hf ⊢;unfold oL;obtain ⟨RW,hRW⟩:∃ z,rJ X=z:=⟨_,rfl⟩;rw [hRW] at hf hr0 hrl ⊢;obtain ⟨bar,v,i,tie,l⟩:=X;dsimp only at hf hr0 hrl b1 b2 ⊢;obtain ⟨sD,hsD⟩:∃ z,DY i=z:=⟨_,rfl⟩;obtain ⟨sT,hsT⟩:∃ z,BI i=z:=⟨_,rfl⟩;rw [hsD,hsT] at hf ⊢;refine jr.intro mG Tryz.func46 rfl Tryz.ntmps46 (bG rfl) rfl λw0 F0 fp pg hB=>?_;refine iU ?_;refine x9 ?_;refine WL.qQ (dD _) [] rfl rfl (aj Tryz.func101 rfl rfl) hf rfl rfl rfl trivial rfl rfl rfl rfl ?_;refine x9 ?_;refine WL.vT ⟨[(2,.sc (.int .i64 (k:Int))),(5,.pt 0 0 0),(8,.pt 1 0 0),(10,.pt 4 0 0),(31,.sc (.bool (decide (k=0/\v=0))))],[(0,.box 27 [.ls 3 CR,.ls 1 (st.map eInt)]),(1,.box 90 [.sc (.bool false),.sc (.int .i64 0),.sc (.bool false),.sc (.bool false),.sc (.bool false),.sc (.slice none 0 0)]),(2,.row 69 5 RW),(4,.box 90 [.sc (.bool bar),.sc (.int .i64 (v:Int)),.sc (.bool sD),.sc (.bool sT),.sc (.bool tie),.sl 2])],5⟩ ?_ ?_
 .by_cases k0:k=0
  .by_cases v0:v=0
   .rw [bQ (show (k:Int)=0 by omega),bQ (show k=0/\v=0 from ⟨k0,v0⟩)];exact OA
   .rw [bQ (show (k:Int)=0 by omega),bW (show ¬ (k=0/\v=0) from λq=>v0 q.2)];exact OA
  .rw [bW (show ¬ (k:Int)=0 by omega),bW (show ¬ (k=0/\v=0) from λq=>k0 q.1)];exact OA
 by_cases c20:k=0/\v=0
 .rw [bQ c20,if_pos (show (k == 0)=true/\v=0 from ⟨by simpa using c20.1,c20.2⟩)];refine x9 ?_;exact W.ret (iD (σ':=⟨[(8,.pt 1 0 0),(9,.sc (.int .i64 20))],[(0,.row 69 5 RW),(1,.box 90 [.sc (.bool bar),.sc (.int .i64 (v:Int)),.sc (.bool sD),.sc (.bool sT),.sc (.bool tie),.sl 0])],2⟩) (ku (λq=>bif Nat.beq q 0 then 2 else q) mJ rfl) (sG rfl rfl rfl ⟨rfl,trivial⟩ rfl))
 rw [bW c20,if_neg (show ¬ ((k == 0)=true/\v=0) from λq=>c20 ⟨by simpa using q.1,q.2⟩)];refine x9 ?_;refine WL.vT ⟨[(2,.sc (.int .i64 (k:Int))),(5,.pt 0 0 0),(8,.pt 1 0 0),(10,.pt 4 0 0),(38,.sc (.bool ((k == 0) && tie)))],[(0,.box 27 [.ls 3 CR,.ls 1 (st.map eInt)]),(1,.box 90 [.sc (.bool false),.sc (.int .i64 0),.sc (.bool false),.sc (.bool false),.sc (.bool false),.sc (.slice none 0 0)]),(2,.row 69 5 RW),(4,.box 90 [.sc (.bool bar),.sc (.int .i64 (v:Int)),.sc (.bool sD),.sc (.bool sT),.sc (.bool tie),.sl 2])],5⟩ ?_ ?_
 .by_cases k0:k=0
  .rw [bQ (show (k:Int)=0 by omega),show (k == 0)=true by simpa using k0];exact OA
  .rw [bW (show ¬ (k:Int)=0 by omega),show (k == 0)=false by simpa using k0];exact OA
 cases hkt:((k == 0) && tie) with
 | true =>
  rw [if_pos rfl];refine x9 ?_;exact W.ret (iD (σ':=⟨[(8,.pt 1 0 0),(9,.sc (.int .i64 21))],[(0,.row 69 5 RW),(1,.box 90 [.sc (.bool bar),.sc (.int .i64 (v:Int)),.sc (.bool sD),.sc (.bool sT),.sc (.bool tie),.sl 0])],2⟩) (ku (λq=>bif Nat.beq q 0 then 2 else q) mJ rfl) (sG rfl rfl rfl ⟨rfl,trivial⟩ rfl))| false =>
 rw [if_neg (by decide)];refine x9 ?_;refine W.loop (λj:Nat=>j<=l.length/\∀ q (h:q < l.length),q < j->dX cs l[q]=0) (λj=>⟨[(5,.pt 0 0 0),(8,.pt 1 0 0),(10,.pt 4 0 0),(12,.sc (.int .i64 (j:Int)))],[(0,.box 27 [.ls 3 CR,.ls 1 (st.map eInt)]),(1,.box 90 [.sc (.bool false),.sc (.int .i64 0),.sc (.bool false),.sc (.bool false),.sc (.bool false),.sc (.slice none 0 0)]),(2,.row 69 5 RW),(4,.box 90 [.sc (.bool bar),.sc (.int .i64 (v:Int)),.sc (.bool sD),.sc (.bool sT),.sc (.bool tie),.sl 2])],5⟩) (λj=>l.length - j) 0 ⟨by omega,λq h h2=>absurd h2 au⟩ (zqt id) λj hj=>?_;obtain ⟨hj,hall⟩:=hj;by_cases hlt:j < l.length;rotate_left
 .obtain rfl:j=l.length:=by omega
  rw [zX λq hq=>hall q hq hq];refine x9 ?_;exact W.ret (iD (σ':=⟨[(8,.pt 1 0 0),(9,.sc (.int .i64 0))],[(0,.row 69 5 RW),(1,.box 90 [.sc (.bool bar),.sc (.int .i64 (v:Int)),.sc (.bool sD),.sc (.bool sT),.sc (.bool tie),.sl 0])],2⟩) (ku (λq=>bif Nat.beq q 0 then 2 else q) mJ rfl) (sG rfl rfl rfl ⟨rfl,trivial⟩ rfl))
 have hrow:=hr0 j hlt;have hat:=zW hlt hall;have hb:=b1 _ (gB hlt);obtain ⟨PN,hPN⟩:∃ P:Prop,P=∀ q (h:q < l.length),q < j+1->dX cs l[q]=0:=⟨_,rfl⟩;have hnx:dX cs l[j]=0->PN:=λh=>by
  rw [hPN];intro q hq hqj;by_cases e:q=j;.subst e;exact h
  .exact hall q hq au
 obtain ⟨⟨c,f,r,g,h⟩,hx⟩:∃ z,l[j]=z:=⟨_,rfl⟩;rw [hx] at hrow hat hb hnx;unfold mg bI at hrow;unfold dX at hat hnx;dsimp only at hrow hat hb hnx;have hca:=Gt c au;obtain ⟨p1,hp1⟩:∃ z,(cs.getD (c - 1) (0,0,false)).1=z:=⟨_,rfl⟩;obtain ⟨p2,hp2⟩:∃ z,(cs.getD (c - 1) (0,0,false)).2.1=z:=⟨_,rfl⟩;obtain ⟨p3,hp3⟩:∃ z,(cs.getD (c - 1) (0,0,false)).2.2=z:=⟨_,rfl⟩;rw [hp1,hp2,hp3] at hca;rw [hp2] at hat hnx;obtain ⟨m,hm⟩:∃ z,cs.length=z:=⟨_,rfl⟩;rw [hm] at hcl hca hat hnx hcs;clear Gt hall hr0 b1 hp1 hp2 hp3 hm hf;by_cases h12:m < c
 .rw [if_pos h12] at hat hnx;rw [hat (by decide)];refine arQ ?_;exact W.ret (iD (σ':=⟨[(8,.pt 1 0 0),(9,.sc (.int .i64 12))],[(0,.row 69 5 RW),(1,.box 90 [.sc (.bool bar),.sc (.int .i64 (v:Int)),.sc (.bool sD),.sc (.bool sT),.sc (.bool tie),.sl 0])],2⟩) (ku (λq=>bif Nat.beq q 0 then 2 else q) mJ rfl) (sG rfl rfl rfl ⟨rfl,trivial⟩ rfl))
 rw [if_neg h12] at hat hnx;have hca:=hca au;by_cases h13:p2 < (f:Int)
 .rw [if_pos h13] at hat hnx;rw [hat (by decide)];refine arU ?_;exact W.ret (iD (σ':=⟨[(8,.pt 1 0 0),(9,.sc (.int .i64 13))],[(0,.row 69 5 RW),(1,.box 90 [.sc (.bool bar),.sc (.int .i64 (v:Int)),.sc (.bool sD),.sc (.bool sT),.sc (.bool tie),.sl 0])],2⟩) (ku (λq=>bif Nat.beq q 0 then 2 else q) mJ rfl) (sG rfl rfl rfl ⟨rfl,trivial⟩ rfl))
 .rw [if_neg h13] at hat hnx;have hn2:=hnx rfl;refine arU ?_;exact ⟨j+1,⟨by omega,by rw [hPN] at hn2;exact hn2⟩,by omega,(zqt id)⟩
end
end Go.Proofs.YthohlofpphjofaaGreatDoor
