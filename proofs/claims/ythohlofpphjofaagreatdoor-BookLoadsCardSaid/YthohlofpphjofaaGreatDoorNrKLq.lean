/- The reader of the program: a column. (RWN.) -/
import Derived.Test.YthohlofpphjofaaGreatDoorNrGLq
import Derived.Test.YthohlofpphjofaaGreatDoorNrILq
set_option maxHeartbeats 16000000
set_option maxRecDepth 100000
set_option linter.unusedVariables false
set_option linter.unusedSimpArgs false
namespace Go.Proofs.YthohlofpphjofaaGreatDoor
open Go.RowKit
theorem ayc {p:Prop}(h:p:=by repeat (first|exact trivial|refine ⟨⟨?_,?_,?_⟩,?_⟩|rfl|exact congrArg (λq=>some (AO.row _ _ q)) rfl|exact congrArg (λq=>some (AO.jO _ _ q)) rfl|exact congrArg (λq=>some (AO.row _ _ q)) rfl|exact congrArg (λq=>some (AO.jO _ _ q)) rfl)):p:=h
section
variable {p:Prop}
theorem Ea(h:p:=by
 refine gY ?_;exact qL):p:=h
theorem OB(h:p:=by
 refine gY ?_;exact OD):p:=h
theorem amZ(h:p:=by cases fb with
 | true =>
  refine gY ?_;exact qL| false =>
  refine gY ?_;exact qL):p:=h
theorem amE(h:p:=by
 by_cases hr:r1=[]
 .rw [hd2 hr,bQ hr];refine gY ?_;refine Oo ?_;refine gY ?_;by_cases e:(w1 == ([37]:List UInt8))=true
  .rw [e];refine gY ?_;refine WL.vl rfl (WV.sys hs Zu rfl rfl (λvs w=>by kernel_rfl) (λvs w=>by kernel_rfl) (λvs w=>by kernel_rfl) (λvs w=>by kernel_rfl) rfl rfl (Gs s hs 8)) ?_;refine gY ?_;exact qL
  .rw [Bool.eq_false_iff.2 e];refine gY ?_;exact qL
 .rw [hd1 hr,bW hr];refine gY ?_;exact qL):p:=h
theorem amf(h:p:=by cases h;exact⟨rfl,rfl,rfl,λx hx=>(FK hx).elim,by simp⟩):p:=h
theorem amb(h:p:=by cases ws with
 | nil=>exact absurd rfl hne| cons w r=>exact ⟨w,r,rfl⟩):p:=h
theorem al6(h:p:=by
 rcases hbW with ⟨_,_,e⟩|⟨_,_,e⟩;.rw [e];omega
 .rw [e];simp;omega):p:=h
theorem alC(h:p:=by
 have:0 < r1.length:=by cases r1 with
  | nil=>exact absurd rfl h| cons=>simp
 exact bW au):p:=h
theorem alh(h:p:=by
 rcases hbW with ⟨_,_,e⟩|⟨_,_,e⟩;.have:=hwb x (by rw [e] at hx;simp [hx]);omega
 .have:=hwb x (by rw [e] at hx;exact hx);omega):p:=h
theorem UL(h:p:=by
 unfold prt;rw [gy,jw];rfl):p:=h
theorem alb(h:p:=by
 subst e;clear hB1 hB2 hb1 hb2 hch hX;refine gY ?_;refine (?_:Tr _ _ _);refine Tr.trans (Tr.afe (t:=8) 6 rfl) ?_;exact (zqt id)):p:=h
end
theorem Oo {p q:Prop}(k:q)(h:iF q->p:=by
 intro hq;refine WL.idx rfl rfl au aeW ?_;exact hq.k):p:=h ⟨k⟩
theorem arL {p q:Prop}(k:q)(h:iF q->p:=by
 intro hq;refine gY ?_;refine W.pK aK ?_;refine WA.dt [false,false,false,false,false,false,false,false,false,false,false,true,true,false] [0] [0] 12 aK aK aK ⟨rfl,trivial⟩ ⟨rfl,trivial⟩ ?_;exact hq.k):p:=h ⟨k⟩
theorem WL.vT {P:Program} {C:Cx} {σ:St} {ops:Array Oper} {l:List Oper} {Q1 Q2:Exit->St->Prop} {y:Code} (Pm:St)(h:WL P C ops l σ (gU (λs=>Tr C s Pm) Q1))(k:W P C y Pm Q2):WL P C ops l σ (gU (λs=>W P C y s Q2) Q1) :=WL.mono h (gU.mono (λs q=>W.tr q k) λ_ _ q=>q)
theorem aiN {s:Int} {n:Nat} {W:List (List UInt8)} {l:List N5} (h:nM s n W=some l):(∀ x∈l,1<=x.1/\x.1<=14/\x.2.1<=18)/\l.length<=14/\l≠[]/\eX l:=by
 unfold nM at h;split at h
 .rename_i k;cases h;have hb:∀ x∈gQ s n W W.length,1<=x.1/\x.1<=14/\x.2.1<=18:=λx hx=>by have:=apg hx;omega
  refine⟨hb,?_,k.2.2.2,k.2.2.1⟩;rcases Dt (a:=0) k.2.2.1 (λx hx=>by have:=hb x hx;omega) with q|q;.omega
  .exact absurd q k.2.2.2
 .cases h
theorem zW {cs:List Crs}:∀ {l:List N5} {k:Nat} (hk:k<l.length),(∀ j (h:j<l.length),j<k->dX cs l[j]=0)->dX cs l[k]≠0->mX cs l=dX cs l[k]
 | x::r,0,_,_,h=>by
  unfold mX;have h:dX cs x≠0:=h;rw [if_pos h];rfl| x::r,k+1,hk,h0,h=>by
  have:=h0 0 (by simp) (by omega);simp only [FQ] at this;unfold mX;rw [if_neg (by rw [this];decide),zW (k:=k) FX (λj hj hjk=>h0 (j+1) CX (by omega)) h];rfl
theorem zX {cs:List Crs}:∀ {l:List N5},(∀ j (h:j<l.length),dX cs l[j]=0)->mX cs l=0
 | [],_=>rfl| x::r,h=>by
  have:=h 0 (by simp);simp only [FQ]at this;unfold mX;rw [if_neg (by rw [this];decide)];exact zX λj hj=>h (j+1) CX
theorem Lr {s:Int} {n:Nat} {bar:Bool} {v i:Nat} {ws:List (List UInt8)} (h1:¬ (ws=[[126]]/\s≠4))(h2:¬ (ws=[[37]]/\s≠3)):jC s n bar v i ws=(pF s n ws).map λl=>⟨bar,v,i,false,l⟩:=by unfold jC;rw [if_neg h1,if_neg h2]
theorem yF {s:Int} {n:Nat} {bar:Bool} {v i:Nat} {ws:List (List UInt8)} {X:NC} (h:jC s n bar v i ws=some X):X.bar=bar/\X.v=v/\X.i=i/\(∀ x∈X.l,1<=x.1/\x.1<=14/\x.2.1<=18)/\X.l.length<=14:=by
 unfold jC at h;split at h;.exact amf
 .split at h;.exact amf
  .obtain⟨l,hl,e⟩:=Option.map_eq_some_iff.1 h;subst e;have hb:=aiN (show nM s n (fJ s ws)=some l from hl);exact⟨rfl,rfl,rfl,hb.1,hb.2.1⟩
def Tz (s:Int)(cs:List Crs)(st:List Int)(ln:Int)(T:List (List AV))(cl:Bool)(E:List NC):Option NC->UR
 | none=>.er (fA ln 4)| some x=>if oL cs (E.length == 0) x≠0 then .er (fA ln (oL cs (E.length == 0) x)) else .ok (.tu []) [(0,.box 78 [.sc (.int .u8 s),.sc (bT s),.ls 3 (cs.map bg),.ls 1 (st.map eInt),.sl 3,.sl 4,.sc (.int .i64 ln),.ls 1 T,.sc (.bool cl)]),(3,.jO 90 6 (((E++[x]).map iQ).map fH)),(4,.row 153 1 ((E++[x]).map (wJ s)))] 5
theorem ahn (s:Int) (hs:1<=s/\s<=4) (cs:List Crs) (st:List Int) (ln:Int) (T:List (List AV)) (cl:Bool) (E:List NC) (t:List UInt8) (ht:t.length<=300000) (hcs:cs.length<=64) (hcb:∀ c∈cs,0<=c.2.1/\c.2.1<=1000) (hE:E.length<=400000) :OE ng zo Tryz.prog 41 [.pt 0 0 0,.sc (.string (bs t))] [(0,iy (.int .u8 s) (bT s) (cs.map bg) (st.map eInt) ln T cl),(1,.jO 90 6 ((E.map iQ).map fH)),(2,.row 153 1 (E.map (wJ s)))] 3 (Tz s cs st ln T cl E (dQ s (aA s cs) t)):=by
 have hW:=Fv 32 t au;have hwb:=jk 32 t;have hwl:(aZ 32 t).length<=300001:=by exact aef
 have hEl:((E.map iQ).map fH).length=E.length:=by simp
 have hNl:(E.map (wJ s)).length=E.length:=bK _;have hEx:∀ x:NC,((E++[x]).map iQ).map fH=(E.map iQ).map fH++[fH (iQ x)]:=λx=>by simp
 have hNx:∀ x:NC,(E++[x]).map (wJ s)=E.map (wJ s)++[wJ s x]:=λx=>by simp
 unfold dQ;obtain ⟨ws,hws⟩:∃ z,aZ 32 t=z:=⟨_,rfl⟩;rw [hws] at hW hwb hwl ⊢;have hne:ws≠[]:=by rw [← hws];unfold aZ;simp
 obtain ⟨w,r,rfl⟩:∃ w r,ws=w::r:=by exact amb
 clear hne hws;refine OE.intro jR Tryz.func41 rfl Tryz.ntmps41 (bG rfl) rfl λw0 F0 fp pg hB=>?_;unfold iy;refine iU ?_;obtain ⟨EV,hEV⟩:∃ z,(E.map iQ).map fH=z:=⟨_,rfl⟩;obtain ⟨NT,hNT⟩:∃ z,E.map (wJ s)=z:=⟨_,rfl⟩;rw [hEV] at hEl hEx ⊢;rw [hNT] at hNl hNx ⊢;have hrl:r.length<=300000:=by simp at hwl;omega
 have hml:((w::r).map aX).length=r.length+1:=by simp
 refine gY ?_;refine WL.vl rfl (WV.dZ hB rfl (aj Tryz.func38 rfl rfl) rfl rfl hW) ?_;refine gY ?_;refine WL.idx rfl rfl au (show ((w::r).map aX)[Int.toNat 0]?=some (aX w) from rfl) ?_;refine gY ?_;obtain ⟨bB,W1,hbW,hform⟩:∃ bB W1,(w=[124]/\bB=true/\W1=r\/w≠[124]/\bB=false/\W1=w::r)/\(if w=[124] then iW s (aA s cs) true r else iW s (aA s cs) false (w::r))=iW s (aA s cs) bB W1:=by
  by_cases e:w=[124];.exact ⟨true,r,.inl ⟨e,rfl,rfl⟩,if_pos e⟩
  .exact ⟨false,w::r,.inr ⟨e,rfl,rfl⟩,if_neg e⟩
 rw [hform];have Zq:∀ x∈W1,x.length<=300000:=λx hx=>by exact alh
 have Zr:W1.length<=300001:=by exact al6
 refine W.meet ⟨[(0,.pt 0 0 0),(4,.ls 1 (W1.map aX)),(5,.pt 3 0 0)],[(0,.box 78 [.sc (.int .u8 s),.sc (bT s),.ls 3 (cs.map bg),.ls 1 (st.map eInt),.sl 1,.sl 2,.sc (.int .i64 ln),.ls 1 T,.sc (.bool cl)]),(1,.jO 90 6 EV),(2,.row 153 1 NT),(3,.box 90 [.sc (.bool bB),.sc (.int .i64 0),.sc (.bool false),.sc (.bool false),.sc (.bool false),.sc (.slice none 0 0)])],4⟩ ?_ ?_
 .rcases hbW with ⟨e,rfl,rfl⟩|⟨e,rfl,rfl⟩
  .have hb:(w == ([124]:List UInt8))=true:=by rw [e];rfl
   have hp:prt ((w::W1).map aX) 1 (((w::W1).map aX).length:Int)=W1.map aX:=by exact UL
   rw [hb];refine gY ?_;refine arJ ?_;refine mM ?_;refine aV.v0 rfl (xP rfl ⟨by omega,by rw [hml];omega,by omega⟩) ?_;rw [hp];refine mM ?_;refine aV.xq rfl rfl rfl rfl rfl rfl rfl rfl rfl rfl rfl rfl rfl rfl trivial (λh=>by cases h) ?_;refine aV.nil ?_;refine ⟨rfl,?_⟩;refine (?_:WL _ _ _ _ _ _);exact Ea
  .have hb:(w == ([124]:List UInt8))=false:=by simpa using e
   rw [hb];exact Ea
 clear hbW hwb hwl hml hform hW;match W1,Zq,Zr with
 | [],_,_ =>exact OB| [x],_,_ =>
  have hml:(([x]:List (List UInt8)).map aX).length=1:=rfl;exact OB| sg::w1::r1,Zq,Zr =>
 have hml:((sg::w1::r1).map aX).length=r1.length+2:=by simp
 have azW:r1.length<=300000:=by simp at Zr;omega
 have hpt:=auS s hs sg;have Zv:((sg::w1::r1).map aX)[Int.toNat 0]?=some (aX sg):=rfl;cases hsc:jP (D6 s sg) 0 8 with
 | none =>
  have hnt:iW s (aA s cs) bB (sg::w1::r1)=none:=by show (jP (D6 s sg) 0 8).bind _=_;rw [hsc];rfl
  rw [hnt];rw [hsc] at hpt;unfold ptT at hpt;refine arL ?_;refine Ot ?_;refine jl ?_;refine aV.v0 rfl (sV rfl au Zv) ?_;refine mM ?_;refine aV.v0 rfl (aS Tryz.func92 hpt) ?_;refine jl ?_;refine aV.al rfl rfl rfl rfl ⟨rfl,trivial⟩ (λ_=>⟨rfl,trivial⟩) ?_;refine aV.xq rfl rfl rfl rfl rfl rfl rfl rfl rfl rfl rfl rfl rfl rfl ⟨rfl,trivial⟩ (λh=>by cases h) ?_;refine A8 ?_;exact OB| some vi =>
 obtain ⟨v,i⟩:=vi;have hnt:iW s (aA s cs) bB (sg::w1::r1)=jC s (aA s cs) bB v i (w1::r1):=by show (jP (D6 s sg) 0 8).bind _=_;rw [hsc];rfl
 rw [hnt];rw [hsc] at hpt;unfold ptT at hpt;dsimp only at hpt;have hp9:prt ((sg::w1::r1).map aX) 1 (((sg::w1::r1).map aX).length:Int)=(w1::r1).map aX:=by exact UL
 obtain ⟨sD,hsD⟩:∃ z,DY i=z:=⟨_,rfl⟩;obtain ⟨sT,hsT⟩:∃ z,BI i=z:=⟨_,rfl⟩;rw [hsD,hsT] at hpt;refine arL ?_;refine Ot ?_;refine jl ?_;refine aV.v0 rfl (sV rfl au Zv) ?_;refine mM ?_;refine aV.v0 rfl (aS Tryz.func92 hpt) ?_;refine jl ?_;refine aV.al rfl rfl rfl rfl ⟨rfl,trivial⟩ (λ_=>⟨rfl,trivial⟩) ?_;refine aV.xq rfl rfl rfl rfl rfl rfl rfl rfl rfl rfl rfl rfl rfl rfl ⟨rfl,trivial⟩ (λh=>by cases h) ?_;refine A8 ?_;refine gY ?_;refine W.xw 5 aK aK aK ?_;refine WA.dt [false,false,false,false,true] [4] [4] 4 aK aK aK ⟨rfl,trivial⟩ ⟨rfl,trivial⟩ ?_;refine lQ ?_;refine aV.v0 rfl (xP rfl ⟨by omega,by rw [hml];omega,by omega⟩) ?_;rw [hp9];refine mM ?_;refine aV.xq rfl rfl rfl rfl rfl rfl rfl rfl rfl rfl rfl rfl rfl rfl ⟨rfl,trivial⟩ (λh=>by cases h) ?_;refine aV.nil ?_;refine ⟨rfl,?_⟩;refine (?_:WL _ _ _ _ _ _);clear hpt Zv hp9 hsc hnt;have hch:=an6 s hs cs st ln T cl (w1::r1) (by simp;omega) (λx hx=>by have:=Zq x (QX _ hx);omega) hcs;obtain ⟨b1,hb1⟩:∃ b,decide (w1::r1=[[126]]/\s≠4)=b:=⟨_,rfl⟩;obtain ⟨b2,hb2⟩:∃ b,decide (w1::r1=[[37]]/\s≠3)=b:=⟨_,rfl⟩;have aeW:((w1::r1).map aX)[Int.toNat 0]?=some (aX w1):=rfl;have hl1:((w1::r1).map aX).length=r1.length+1:=by simp
 have hd1:r1≠[]->decide ((r1.length:Int)+1=1)=false:=λh=>by exact alC
 have hd2:r1=[]->decide ((r1.length:Int)+1=1)=true:=λh=>by rw [h];rfl
 have hB1:b1=(decide (r1=[]) && (w1 == [126]) && wL s 7):=by
  rw [← hb1];have e7:wL s 7=decide (s≠4):=by rcases dN hs with rfl|rfl|rfl|rfl<;>rfl
  rw [e7,FT];simp [and_assoc,and_comm,and_left_comm]
 have hB2:b2=(decide (r1=[]) && (w1 == [37]) && wL s 8):=by
  rw [← hb2];have e8:wL s 8=decide (s≠3):=by rcases dN hs with rfl|rfl|rfl|rfl<;>rfl
  rw [e8,FT];simp [and_assoc,and_comm,and_left_comm]
 obtain ⟨R1,hR1⟩:∃ z,(w1::r1).map aX=z:=⟨_,rfl⟩;rw [hR1] at aeW hl1 hch ⊢;refine WL.vT ⟨[(0,.pt 0 0 0),(4,.ls 1 R1),(5,.pt 3 0 0)],[(0,.box 78 [.sc (.int .u8 s),.sc (bT s),.ls 3 (cs.map bg),.ls 1 (st.map eInt),.sl 1,.sl 2,.sc (.int .i64 ln),.ls 1 T,.sc (.bool cl)]),(1,.jO 90 6 EV),(2,.row 153 1 NT),(3,.box 90 [.sc (.bool bB),.sc (.int .i64 v),.sc (.bool sD),.sc (.bool sT),.sc (.bool false),.sc (.slice none 0 0)])],5⟩ ?_ ?_;.exact Ea
 refine gY ?_;refine WL.vT ⟨[(0,.pt 0 0 0),(4,.ls 1 R1),(5,.pt 3 0 0),(8,.sc (.slice none 0 0)),(48,.sc (.bool b1))],[(0,.box 78 [.sc (.int .u8 s),.sc (bT s),.ls 3 (cs.map bg),.ls 1 (st.map eInt),.sl 1,.sl 2,.sc (.int .i64 ln),.ls 1 T,.sc (.bool cl)]),(1,.jO 90 6 EV),(2,.row 153 1 NT),(3,.box 90 [.sc (.bool bB),.sc (.int .i64 v),.sc (.bool sD),.sc (.bool sT),.sc (.bool false),.sc (.slice none 0 0)])],5⟩ ?_ ?_
 .rw [hl1,NW,NK,hB1];clear hB1 hB2 hb1 hb2 hch;by_cases hr:r1=[]
  .rw [hd2 hr,bQ hr];refine gY ?_;refine Oo ?_;refine gY ?_;by_cases e:(w1 == ([126]:List UInt8))=true
   .rw [e];refine gY ?_;refine WL.vl rfl (WV.sys hs Zu rfl rfl (λvs w=>by kernel_rfl) (λvs w=>by kernel_rfl) (λvs w=>by kernel_rfl) (λvs w=>by kernel_rfl) rfl rfl (Gs s hs 7)) ?_;exact Ea
   .rw [Bool.eq_false_iff.2 e];exact Ea
  .rw [hd1 hr,bW hr];exact Ea
 cases hX:jC s (aA s cs) bB v i (w1::r1) with
 | none =>
  have n1:b1=false:=by
   rw [← hb1];refine bW λh=>?_;unfold jC at hX;rw [if_pos h] at hX;cases hX
  have n2:b2=false:=by
   rw [← hb2];refine bW λh=>?_;unfold jC at hX;rw [if_neg (zi (hb1.trans n1)),if_pos h] at hX;cases hX
  have hn:pF s (aA s cs) (w1::r1)=none:=by
   rw [Lr (zi (hb1.trans n1)) (zi (hb2.trans n2))] at hX;simpa using hX
  rw [hn] at hch;have hF:Ve ng zo Tryz.prog _ _ _ _ _:=(hch.er_ rfl).frame (X:=[(1,.jO 90 6 EV),(2,.row 153 1 NT)]);rw [n1];rw [n2] at hB2;refine gY ?_;refine WL.vT ⟨[(0,.pt 0 0 0),(4,.ls 1 R1),(5,.pt 3 0 0),(66,.sc (.bool false))],[(0,.box 78 [.sc (.int .u8 s),.sc (bT s),.ls 3 (cs.map bg),.ls 1 (st.map eInt),.sl 1,.sl 2,.sc (.int .i64 ln),.ls 1 T,.sc (.bool cl)]),(1,.jO 90 6 EV),(2,.row 153 1 NT),(3,.box 90 [.sc (.bool bB),.sc (.int .i64 v),.sc (.bool sD),.sc (.bool sT),.sc (.bool false),.sc (.slice none 0 0)])],5⟩ ?_ ?_
  .rw [hl1,NW,NK,hB2];clear hB1 hB2 hb1 hb2 hch hF;exact amE
  refine gY ?_;refine WL.ctp hB [0,1,2] rfl rfl (aj Tryz.func93 rfl rfl) hF rfl rfl rfl ⟨⟨rfl,rfl,rfl⟩,⟨rfl,rfl,rfl⟩,⟨rfl,rfl,rfl⟩,trivial⟩ ?_;rfl| some X =>
 have hXb:=yF hX;refine W.aiy ⟨[(0,.pt 0 0 0),(5,.pt 3 0 0),(8,.ls 6 (X.l.map (yt s)))],[(0,.box 78 [.sc (.int .u8 s),.sc (bT s),.ls 3 (cs.map bg),.ls 1 (st.map eInt),.sl 1,.sl 2,.sc (.int .i64 ln),.ls 1 T,.sc (.bool cl)]),(1,.jO 90 6 EV),(2,.row 153 1 NT),(3,.box 90 [.sc (.bool bB),.sc (.int .i64 v),.sc (.bool sD),.sc (.bool sT),.sc (.bool X.tie),.sc (.slice none 0 0)])],6⟩ ?_ ?_;.cases b1 with
  | true =>
   have h1:=rP hb1;have e:X=⟨bB,v,i,true,[]⟩:=by unfold jC at hX;rw [if_pos h1] at hX;exact (Option.some.inj hX).symm
   exact alb| false =>
   have n1:=zi hb1;refine gY ?_;refine WL.vT ⟨[(0,.pt 0 0 0),(4,.ls 1 R1),(5,.pt 3 0 0),(8,.sc (.slice none 0 0)),(66,.sc (.bool b2))],[(0,.box 78 [.sc (.int .u8 s),.sc (bT s),.ls 3 (cs.map bg),.ls 1 (st.map eInt),.sl 1,.sl 2,.sc (.int .i64 ln),.ls 1 T,.sc (.bool cl)]),(1,.jO 90 6 EV),(2,.row 153 1 NT),(3,.box 90 [.sc (.bool bB),.sc (.int .i64 v),.sc (.bool sD),.sc (.bool sT),.sc (.bool false),.sc (.slice none 0 0)])],5⟩ ?_ ?_
   .rw [hl1,NW,NK,hB2];clear hB1 hB2 hb1 hb2 hch;exact amE
   cases b2 with
   | true =>
    have h2:=rP hb2;have e:X=⟨bB,v,i,false,[]⟩:=by unfold jC at hX;rw [if_neg n1,if_pos h2] at hX;exact (Option.some.inj hX).symm
    exact alb| false =>
    have n2:=zi hb2;rw [Lr n1 n2] at hX;obtain ⟨l,hl,e⟩:=Option.map_eq_some_iff.1 hX;subst e;rw [hl] at hch;have hF:jr ng zo Tryz.prog _ _ _ _ _ _ _:=(hch.ok_ rfl).fr2 (a:=.jO 90 6 EV) (b:=.row 153 1 NT);clear hB1 hB2 hb1 hb2 hch hX;refine gY ?_;refine WL.qQ hB [0,1,2] rfl rfl (aj Tryz.func93 rfl rfl) hF rfl rfl rfl ⟨⟨rfl,rfl,rfl⟩,⟨rfl,rfl,rfl⟩,⟨rfl,rfl,rfl⟩,trivial⟩ rfl rfl rfl rfl ?_;exact Ea
 obtain ⟨xb1,xv1,xi1,Zt,hXn⟩:=hXb;have hev:fH (iQ X)=[.sc (.bool bB),.sc (.int .i64 v),.sc (.bool sD),.sc (.bool sT),.sc (.bool X.tie),.ow 69 5 ((X.l.map (gu iH)).map bI)]:=by
  show ([.sc (.bool X.bar),.sc (.int .i64 X.v),.sc (.bool (DY X.i)),.sc (.bool (BI X.i)),.sc (.bool X.tie),.ow 69 5 ((X.l.map (gu iH)).map bI)]:List AV)=_;rw [xb1,xv1,xi1,hsD,hsT]
 have hE1:=hEx X;have hN1:=hNx X;have hXv:X.v=v:=xv1;rw [hev] at hE1;clear hEx hNx hX hch hB1 hB2 hb1 hb2 xb1 xv1 xi1 hev aeW hl1 hd1 hd2;have hcode:Tz s cs st ln T cl E (some X)=if oL cs (E.length == 0) X≠0 then .er (fA ln (oL cs (E.length == 0) X)) else .ok (.tu []) [(0,.box 78 [.sc (.int .u8 s),.sc (bT s),.ls 3 (cs.map bg),.ls 1 (st.map eInt),.sl 3,.sl 4,.sc (.int .i64 ln),.ls 1 T,.sc (.bool cl)]),(3,.jO 90 6 (((E++[X]).map iQ).map fH)),(4,.row 153 1 ((E++[X]).map (wJ s)))] 5:=rfl;rw [hcode,hE1,hN1];clear hcode hE1 hN1;have hfb:(E.length == 0)=decide ((EV.length:Int)=0):=by rw [hEl,FT];simp
 rw [hfb];obtain ⟨fb,atM⟩:∃ z,decide ((EV.length:Int)=0)=z:=⟨_,rfl⟩;have atJ:fb=true->v=0->oL cs fb X=20:=λh1 h2=>by unfold oL;rw [if_pos ⟨h1,hXv.trans h2⟩]
 have hc21:¬ (fb=true/\v=0)->(fb && X.tie)=true->oL cs fb X=21:=λh1 h2=>by unfold oL;rw [if_neg (by rw [hXv];exact h1),if_pos h2]
 have hcn:¬ (fb=true/\v=0)->¬ (fb && X.tie)=true->oL cs fb X=mX cs X.l:=λh1 h2=>by unfold oL;rw [if_neg (by rw [hXv];exact h1),if_neg h2]
 obtain ⟨tie,htie⟩:∃ z,X.tie=z:=⟨_,rfl⟩;rw [htie] at hc21 hcn ⊢;obtain ⟨CK,hCK⟩:∃ z,oL cs (decide ((EV.length:Int)=0)) X=z:=⟨_,rfl⟩;rw [hCK];rw [atM] at hCK;rw [hCK] at atJ hc21 hcn;refine gY ?_;rw [atM];refine WL.vT ⟨[(0,.pt 0 0 0),(5,.pt 3 0 0),(8,.ls 6 (X.l.map (yt s))),(9,.sc (.bool fb)),(96,.sc (.bool (fb && decide ((v:Int)=0))))],[(0,.box 78 [.sc (.int .u8 s),.sc (bT s),.ls 3 (cs.map bg),.ls 1 (st.map eInt),.sl 1,.sl 2,.sc (.int .i64 ln),.ls 1 T,.sc (.bool cl)]),(1,.jO 90 6 EV),(2,.row 153 1 NT),(3,.box 90 [.sc (.bool bB),.sc (.int .i64 v),.sc (.bool sD),.sc (.bool sT),.sc (.bool tie),.sc (.slice none 0 0)])],6⟩ ?_ ?_;.exact amZ
 by_cases h20:fb=true/\v=0
 .have e:(fb && decide ((v:Int)=0))=true:=by rw [h20.1,h20.2];rfl
  rw [e];rw [atJ h20.1 h20.2,if_pos (by decide)];exact OB
 have e:(fb && decide ((v:Int)=0))=false:=by cases fb with
  | false=>rfl| true=>simpa using h20
 rw [e];refine gY ?_;refine WL.vT ⟨[(0,.pt 0 0 0),(5,.pt 3 0 0),(8,.ls 6 (X.l.map (yt s))),(9,.sc (.bool fb)),(103,.sc (.bool (fb && tie)))],[(0,.box 78 [.sc (.int .u8 s),.sc (bT s),.ls 3 (cs.map bg),.ls 1 (st.map eInt),.sl 1,.sl 2,.sc (.int .i64 ln),.ls 1 T,.sc (.bool cl)]),(1,.jO 90 6 EV),(2,.row 153 1 NT),(3,.box 90 [.sc (.bool bB),.sc (.int .i64 v),.sc (.bool sD),.sc (.bool sT),.sc (.bool tie),.sc (.slice none 0 0)])],6⟩ ?_ ?_;.exact amZ
 by_cases h21:(fb && tie)=true
 .rw [h21];rw [hc21 h20 h21,if_pos (by decide)];exact OB
 rw [Bool.eq_false_iff.2 h21];have hcn:=hcn h20 h21;clear atJ hc21 h20 h21 e hCK hfb atM;have aeS:(X.l.map (yt s)).length=X.l.length:=bK _;have Eo:∀ k (h:k < X.l.length),(X.l.map (yt s))[((k:Nat):Int).toNat]?=some (yt s X.l[k]):=λk h=>by exact RI
 obtain ⟨l,hl⟩:∃ z,X.l=z:=⟨_,rfl⟩;have hNe:wJ s X=[.ls 6 (X.l.map (yt s))]:=rfl;rw [hNe];rw [hl] at hcn aeS Zt hXn ⊢;have Eo:∀ k (h:k < l.length),(l.map (yt s))[((k:Nat):Int).toNat]?=some (yt s l[k]):=by subst hl;exact Eo
 obtain ⟨NL,atA⟩:∃ z,l.map (yt s)=z:=⟨_,rfl⟩;rw [atA] at aeS Eo ⊢;refine gY ?_;refine W.tr (Tr.oJ (k:=3) (j:=5) 69 5 rfl rfl rfl rfl) ?_;dsimp only [St.upd,St.new,St.put,Nat.reduceAdd];refine W.loop (λk:Nat=>k<=l.length/\∀ j (h:j < l.length),j < k->dX cs l[j]=0) (λk=>⟨[(0,.pt 0 0 0),(5,.pt 3 0 0),(8,.ls 6 NL),(106,.ls 6 NL),(107,.sc (.int .i64 (l.length:Int))),(108,.sc (.int .i64 (k:Int)))],[(0,.box 78 [.sc (.int .u8 s),.sc (bT s),.ls 3 (cs.map bg),.ls 1 (st.map eInt),.sl 1,.sl 2,.sc (.int .i64 ln),.ls 1 T,.sc (.bool cl)]),(1,.jO 90 6 EV),(2,.row 153 1 NT),(3,.box 90 [.sc (.bool bB),.sc (.int .i64 v),.sc (.bool sD),.sc (.bool sT),.sc (.bool tie),.sl 6]),(6,.row 69 5 (((l.take k).map (gu iH)).map bI))],7⟩) (λk=>l.length - k) 0 ⟨by omega,λj hj h=>absurd h (by omega)⟩ (by rw [← aeS];exact (zqt id)) λk hk=>?_;obtain ⟨hk,hall⟩:=hk;by_cases hlt:k < l.length
 .have Zp:=Eo k hlt;have hck:=an5 s (.int .u8 s) (bT s) cs (st.map eInt) ln T cl l[k] ⟨(Zt _ (gB hlt)).1,by have:=(Zt _ (gB hlt)).2.1;omega⟩ (by have:=(Zt _ (gB hlt)).2.2;omega) (by omega) hcb;have hbad:=λh=>zW hlt hall h;have hnx:dX cs l[k]=0->∀ j (hj:j < l.length),j < k+1->dX cs l[j]=0:=λh j hj hjk=>by exact Jt
  have hrow:((l.take (k+1)).map (gu iH)).map bI=((l.take k).map (gu iH)).map bI++[bI (gu iH l[k])]:=by exact YT
  obtain ⟨R,hR⟩:∃ z,((l.take k).map (gu iH)).map bI=z:=⟨_,rfl⟩;have hRl:R.length<=500000:=by rw [← hR,bK,bK,jT];omega
  rw [hR] at hrow ⊢;obtain ⟨⟨c,f,r,g,h⟩,hx⟩:∃ z,l[k]=z:=⟨_,rfl⟩;rw [hx] at Zp hck hbad hnx hrow;unfold iy yt at hck;unfold yt at Zp;have hrow:((l.take (k+1)).map (gu iH)).map bI=R++[[.sc (.int .i64 c),.sc (.int .i64 f),.sc (.int .i64 r),.sc (.int .i64 g),.sc (.int .i64 0)]]:=hrow;dsimp only at Zp hck;obtain ⟨H,hH⟩:∃ z,nH s h=z:=⟨_,rfl⟩;rw [hH] at Zp hck;obtain ⟨NO,hNO⟩:∃ z,dX cs (c,f,r,g,h)=z:=⟨_,rfl⟩;rw [hNO] at hck hbad hnx;clear hall;by_cases h0:NO=0;rotate_left
  .rw [if_neg h0] at hck;have hF:Ve jJ 0 Tryz.prog _ _ _ _ _:=(hck.er_ rfl).frame (X:=[(1,.jO 90 6 EV),(2,.row 153 1 NT)]);rw [hcn,hbad h0,if_pos h0];refine gY ?_;refine WL.idx rfl rfl au Zp ?_;refine gY ?_;refine WL.ctp (dD _) [0,1,2] rfl rfl (aj Tryz.func94 rfl rfl) hF rfl rfl rfl ⟨⟨rfl,rfl,rfl⟩,⟨rfl,rfl,rfl⟩,⟨rfl,rfl,rfl⟩,trivial⟩ ?_;rfl
  .rw [if_pos h0] at hck;have hF:jr jJ 0 Tryz.prog _ _ _ _ _ _ _:=(hck.ok_ rfl).fr2 (a:=.jO 90 6 EV) (b:=.row 153 1 NT);refine gY ?_;refine WL.idx rfl rfl au Zp ?_;refine gY ?_;refine WL.qQ (dD _) [0,1,2] rfl rfl (aj Tryz.func94 rfl rfl) hF rfl rfl rfl ⟨⟨rfl,rfl,rfl⟩,⟨rfl,rfl,rfl⟩,⟨rfl,rfl,rfl⟩,trivial⟩ rfl rfl rfl rfl ?_;refine gY ?_;refine ⟨k+1,⟨by omega,hnx h0⟩,by omega,?_⟩;rw [hrow];exact (ku (λq=>bif Nat.beq q 6 then 9 else q) mJ rfl)
 obtain rfl:k=l.length:=by omega
 have hno:=zX λj hj=>hall j hj hj;rw [jw,hcn,hno,if_neg (by decide)];obtain ⟨SS,hSS⟩:∃ z,(l.map (gu iH)).map bI=z:=⟨_,rfl⟩;rw [hSS];clear hcn hno hall hk hlt Zt hXn Eo;refine gY ?_;refine W.xw 9 aK aK aK ?_;refine WA.dt [false,false,false,false,false,false,false,true,true] [0,3] [0,3] 8 aK aK aK ⟨rfl,rfl,trivial⟩ ⟨rfl,rfl,trivial⟩ ?_;refine lQ ?_;refine C9 ?_;refine jl ?_;refine mM ?_;refine aV.bdC (q:=6) (j0:=5) (fQ:=[[.sc (.bool bB),.sc (.int .i64 v),.sc (.bool sD),.sc (.bool sT),.sc (.bool tie),.ow 69 5 SS]]) (M':=[(0,.box 78 [.sc (.int .u8 s),.sc (bT s),.ls 3 (cs.map bg),.ls 1 (st.map eInt),.sl 1,.sl 2,.sc (.int .i64 ln),.ls 1 T,.sc (.bool cl)]),(1,.jO 90 6 EV),(2,.row 153 1 NT),(3,.box 90 [.sc (.bool bB),.sc (.int .i64 v),.sc (.bool sD),.sc (.bool sT),.sc (.bool tie),.sl 6]),(7,.jO 90 6 [[.sc (.bool bB),.sc (.int .i64 v),.sc (.bool sD),.sc (.bool sT),.sc (.bool tie),.ow 69 5 SS]])]) rfl rfl rfl rfl rfl rfl rfl rfl rfl rfl rfl rfl rfl rfl rfl rfl rfl rfl rfl ⟨rfl,rfl,rfl,rfl,rfl,trivial⟩ ⟨rfl,rfl,trivial⟩ (λ_=>⟨rfl,rfl,trivial⟩) ?_;refine aV.apM (q1:=1) (q2:=7) (M':=[(0,.box 78 [.sc (.int .u8 s),.sc (bT s),.ls 3 (cs.map bg),.ls 1 (st.map eInt),.sl 1,.sl 2,.sc (.int .i64 ln),.ls 1 T,.sc (.bool cl)]),(2,.row 153 1 NT),(3,.box 90 [.sc (.bool bB),.sc (.int .i64 v),.sc (.bool sD),.sc (.bool sT),.sc (.bool tie),.sl 6]),(8,.jO 90 6 (EV++[[.sc (.bool bB),.sc (.int .i64 v),.sc (.bool sD),.sc (.bool sT),.sc (.bool tie),.ow 69 5 SS]]))]) rfl rfl rfl rfl rfl rfl rfl rfl rfl rfl rfl rfl rfl rfl rfl rfl rfl (by simp;omega) rfl rfl ⟨rfl,rfl,rfl,rfl,trivial⟩ ⟨rfl,rfl,trivial⟩ (λh=>by cases h) ?_;refine aV.nil ?_;refine ⟨rfl,?_⟩;refine (?_:WL _ _ _ _ _ _);refine gY ?_;exact iD (σ':=⟨[],[(0,.box 78 [.sc (.int .u8 s),.sc (bT s),.ls 3 (cs.map bg),.ls 1 (st.map eInt),.sl 3,.sl 4,.sc (.int .i64 ln),.ls 1 T,.sc (.bool cl)]),(3,.jO 90 6 (EV++[[.sc (.bool bB),.sc (.int .i64 v),.sc (.bool sD),.sc (.bool sT),.sc (.bool tie),.ow 69 5 SS]])),(4,.row 153 1 (NT++[[.ls 6 NL]]))],5⟩) (ku (λq=>bif Nat.beq q 3 then 8 else bif Nat.beq q 4 then 10 else q) ayc rfl) (yC rfl rfl rfl rfl rfl)
end Go.Proofs.YthohlofpphjofaaGreatDoor
