/- The time words and signs of the reference, over trees. (RWN.) -/
import Derived.Test.YthohlofpphjofaaGreatDoorPlELq
set_option maxHeartbeats 4000000
set_option maxRecDepth 100000
set_option linter.unusedVariables false
set_option linter.unusedSimpArgs false
namespace Go.Proofs.YthohlofpphjofaaGreatDoor
theorem arw {p:Prop}(h:p:=by repeat (first|exact trivial|refine ⟨⟨?_,?_,?_⟩,?_⟩|rfl|exact congrArg (λq=>some (AO.row _ _ q)) rfl|exact congrArg (λq=>some (AO.jO _ _ q)) rfl)):p:=h
theorem avv {p:Prop}(h:p:=by repeat (first|exact trivial|refine ⟨⟨?_,?_,?_⟩,?_⟩|rfl|exact congrArg (λq=>some (AO.row _ _ q)) hn|exact congrArg (λq=>some (AO.jO _ _ q)) hn)):p:=h
section
variable {p:Prop}
theorem acf(h:p:=by
 rw [if_pos (by omega)];exact aec):p:=h
theorem amF(h:p:=by
 rw [if_pos rfl,xX];refine dV Tryz.func249 Tryz.ntmps249 λw0 F0=>?_;dsimp only [St.init,number,Nat.reduceAdd];refine o7 ?_;refine WL.vl rfl (aS Tryz.func142 hY) ?_;refine o7 ?_;refine WL.vl rfl (aS Tryz.func145 hWa) ?_;refine o7 ?_;refine iY ?_;refine agQ ?_;refine DK.vl rfl (aS Tryz.func202 hR) ?_;refine agQ ?_;refine DK.vl rfl (aS Tryz.func203 hG) ?_;refine agQ ?_;refine o7 ?_;exact kT):p:=h
theorem abR(h:p:=by
 refine kP ?_;exact ⟨f+1,hq hm,by omega,(zqt id)⟩):p:=h
theorem abO(h:p:=by
 refine zk ?_;exact W.ret (fin1 rfl rfl (tX rfl) rfl)):p:=h
theorem alc(h:p:=by
 unfold zC;refine dV Tryz.func209 Tryz.ntmps209 λw0 F0=>?_;dsimp only [St.init,number,Nat.reduceAdd];refine abA ?_;exact W.ret kR):p:=h
theorem aec(h:p:=by
 refine akD ?_;refine WL.vl rfl (aS Tryz.func76 hk) ?_;refine akD ?_;exact W.ret kR):p:=h
theorem aeb(h:p:=by
 refine dV Tryz.func209 Tryz.ntmps209 λw0 F0=>?_;dsimp only [St.init,number,Nat.reduceAdd];refine abA ?_;refine WL.cut rfl rfl hc ?_;rw [hT];refine abA ?_;exact W.ret kR):p:=h
end
theorem akZ {p q:Prop}(k:q)(h:iF q->p:=by
 intro hq;refine qJ ?_;refine WL.lda rfl rfl hat rfl ?_;refine qJ ?_;exact hq.k):p:=h ⟨k⟩
theorem agQ {p q:Prop}(k:q)(h:iF q->p:=by
 intro hq;repeat (first|refine DK.vl rfl (WV.IC rfl rfl) ?_|refine DK.st rfl ?_|refine DK.cat rfl rfl wY ?_|refine DK.nil ?_)
 exact hq.k):p:=h ⟨k⟩
section
open Go.RowKit
theorem TP (s:Int):bC Tryz.prog 76 [.sc (.int .u8 s)] (.sc (.bool (decide (1<=s/\s<=4)))) :=bC.nX (xs:=[.int .u8 s]) rfl (λ_=>.sc _) λw=>(ae5 s w).mono λe w'⟨he,hw⟩=>⟨he,hw ▸ Below.refl _ _⟩
theorem aaK (s aI c:Int):bC Tryz.prog 274 [.sc (.int .u8 s),.sc (.int .i64 aI),.sc (.int .i64 c)] (.sc (.bool (fO s aI c))):=by
 unfold fO;refine dV Tryz.func274 Tryz.ntmps274 λw0 F0=>?_;dsimp only [St.init,number,Nat.reduceAdd];by_cases h:0 < aI
 .rw [if_pos h];exact abO
 .rw [if_neg h];by_cases h4:s=4
  .subst h4;exact abO
  .rw [show (s == 4)=false by simpa using h4];exact abO
theorem XG (s aI:Int):bC Tryz.prog 258 [.sc (.int .u8 s),.sc (.int .i64 aI)] (.sc (.int .i64 (aJ s aI))):=by
 have hk:=TP s;unfold aJ;refine dV Tryz.func258 Tryz.ntmps258 λw0 F0=>?_;dsimp only [St.init,number,Nat.reduceAdd];by_cases hs:1<=s/\s<=4
 .rw [bQ hs] at hk;rw [if_neg (λk=>k hs)];have hc:aI < 0\/6 < aI\/(0<=aI/\aI<=6/\s=4/\aI≠0)\/(s=4/\aI=0)\/(0<=aI/\aI<=6/\s≠4):=by omega
  rcases hc with h|h|⟨h0,h1,rfl,h⟩|⟨rfl,rfl⟩|⟨h0,h1,h⟩;.exact acf
  .exact acf
  .exact acf
  .rw [if_neg (by omega)];exact aec
  .rw [if_neg (by omega)];exact aec
 .rw [bW hs] at hk;rw [if_pos hs];exact aec
theorem ajC (s:Int)(hs:1<=s/\s<=4)(c f:Int)(hc:1<=c/\c<=14)(hf:0<=f/\f<=18):bC Tryz.prog 201 [.sc (.int .u8 s),.sc (.int .i64 c),.sc (.int .i64 f)] (.sc (.string (bs (rS s c f)))) :=bC.nX (v:=.string (bs (rS s c f))) rfl (λ_=>.sc _) λw=>Ja s c f w hs hc hf
theorem auL (s aI:Int) (l:List UInt8) (c f:Nat):(BF s aI l c f=true/\fO s aI c=true/\(l == [])=false/\(rS s c f == l)=true) \/(BF s aI l c f=false/\((l == [])=true\/((l == [])=false/\fO s aI c=false)\/((l == [])=false/\fO s aI c=true/\(rS s c f == l)=false))):=by
 unfold BF;by_cases hl:l=[]
 .subst hl;refine .inr ⟨?_,.inl rfl⟩;cases h:rS s c f<;>simp
 .have hl1:(l == [])=false:=by simpa using hl
  cases hst:fO s aI c with
  | false=>exact .inr ⟨by simp,.inr (.inl ⟨hl1,rfl⟩)⟩| true =>cases he:(rS s c f == l)with
   | false=>exact .inr ⟨by simp,.inr (.inr ⟨hl1,rfl,rfl⟩)⟩| true =>
    refine .inl ⟨?_,rfl,hl1,rfl⟩;have:rS s c f=l:=by simpa using he
    rw [this,show l.isEmpty=false by simpa using hl];rfl
theorem afP (s aI:Int) (l:List UInt8):bC Tryz.prog 259 [.sc (.int .u8 s),.sc (.int .i64 aI),.sc (.string (bs l))] (.tu [.ag [.sc (.int .i64 (placeOf s aI l).1),.sc (.int .i64 (placeOf s aI l).2.1)],.sc (.int .i64 (placeOf s aI l).2.2)]):=by
 have hsp:=XG s aI;by_cases h:aJ s aI=0
 .rw [h] at hsp;have hs:1<=s/\s<=4:=Classical.byContradiction λq=>by rw [show aJ s aI=30 from if_pos q] at h;cases h
  refine dV Tryz.func259 Tryz.ntmps259 λw0 F0=>?_;dsimp only [St.init,number,Nat.reduceAdd];refine kP ?_;refine WL.vl rfl (aS Tryz.func258 hsp) ?_;refine kP ?_;refine W.loop (λc:Nat=>1<=c/\c<=15/\oh (BF s aI l) 1 14=oh (BF s aI l) c (15 - c)) (λc=>⟨[(0,.sc (.int .u8 s)),(1,.sc (.int .i64 aI)),(2,.sc (.string (bs l))),(6,.pt 0 0 0),(9,.sc (.int .i64 c))],[(0,.box 64 [.sc (.int .i64 0),.sc (.int .i64 0)])],1⟩) (λc=>15 - c) 1 ⟨by omega,by omega,rfl⟩ (zqt id) λc ⟨h1,h2,h3⟩=>?_;by_cases hlt:c<=14;rotate_left
  .have e:placeOf s aI l=(0,0,4):=yM h (h3.trans (by rw [show 15 - c=0 by omega];rfl));rw [e];refine kP ?_;exact gZ
  refine kP ?_;refine W.loop (λf:Nat=>f<=19/\mZ (BF s aI l c) 0 19=mZ (BF s aI l c) f (19 - f)) (λf=>⟨[(0,.sc (.int .u8 s)),(1,.sc (.int .i64 aI)),(2,.sc (.string (bs l))),(6,.pt 0 0 0),(9,.sc (.int .i64 c)),(10,.sc (.int .i64 f))],[(0,.box 64 [.sc (.int .i64 0),.sc (.int .i64 0)])],1⟩) (λf=>19 - f) 0 ⟨by omega,rfl⟩ (zqt id) λf ⟨g1,g2⟩=>?_;by_cases hf:f<=18;rotate_left
  .have q:1<=c+1/\c+1<=15/\oh (BF s aI l) 1 14=oh (BF s aI l) (c+1) (15 - (c+1)):=⟨by omega,by omega,h3.trans (by rw [show 15 - c=15 - (c+1)+1 by omega];exact X0 _ _ _ (g2.trans (by rw [show 19 - f=0 by omega];rfl)))⟩;refine kP ?_;exact abZ
  have hsd:=aaK s aI c;have hsy:=ajC s hs c f au au;have hq:BF s aI l c f=false->f+1<=19/\mZ (BF s aI l c) 0 19=mZ (BF s aI l c) (f+1) (19 - (f+1)):=λhm=>⟨by omega,g2.trans arC⟩;have hy:BF s aI l c f=true->placeOf s aI l=((c:Int),(f:Int),0):=λhm=>tC h (h3.trans arz);rcases auL s aI l c f with ⟨hm,hst,hl,he⟩|⟨hm,hl|⟨hl,hst⟩|⟨hl,hst,he⟩⟩
  .rw [hy hm];rw [hst] at hsd;refine kP ?_;rw [hl];refine kP ?_;refine WL.vl rfl (aS Tryz.func274 hsd) ?_;refine kP ?_;refine WL.vl rfl (aS Tryz.func201 hsy) ?_;refine kP ?_;rw [he];refine kP ?_;exact gZ
  .refine kP ?_;rw [hl];exact abR
  .rw [hst] at hsd;refine kP ?_;rw [hl];refine kP ?_;refine WL.vl rfl (aS Tryz.func274 hsd) ?_;exact abR
  .rw [hst] at hsd;refine kP ?_;rw [hl];refine kP ?_;refine WL.vl rfl (aS Tryz.func274 hsd) ?_;refine kP ?_;refine WL.vl rfl (aS Tryz.func201 hsy) ?_;refine kP ?_;rw [he];exact abR
 .rw [IZ h];have hb:decide (aJ s aI=0)=false:=bW h;refine dV Tryz.func259 Tryz.ntmps259 λw0 F0=>?_;dsimp only [St.init,number,Nat.reduceAdd];refine H8 ?_;refine WL.vl rfl (aS Tryz.func258 hsp) ?_;exact anj
theorem aky(s c f r g h L:Int)(hs:1<=s/\s<=4)(hc:1<=c/\c<=14)(hf:0<=f/\f<=18)(hne:rS s c f≠[]):(((wants s c f r g h L).map eInt).length=0/\iJ s c f r g h L=true)\/(0<((wants s c f r g h L).map eInt).length/\iJ s c f r g h L=false):=by
 obtain⟨l1,_⟩:=qO s c f hs hc hf;have hp:Qu s c f=true:=by rw [l1];simpa using hne
 unfold wants iJ;rw [if_neg hne,hp];cases okR s r<;>cases zZ s g<;>cases xM s h L<;>simp
theorem apF (s c f:Int) (hs:1<=s/\s<=4) (hc:1<=c/\c<=14) (hf:0<=f/\f<=18) (hne:rS s c f≠[]):bC Tryz.prog 142 [.sc (.int .u8 s),.ag [.sc (.int .i64 c),.sc (.int .i64 f)]] (.tu [.sc (.string (bs (rS s c f))),.sc (.int .i64 0)]):=by
 have hk:=TP s;rw [bQ hs] at hk;have hy:=ajC s hs c f hc hf;have hb:(rS s c f == [])=false:=by simpa using hne
 refine dV Tryz.func142 Tryz.ntmps142 λw0 F0=>?_;dsimp only [St.init,number,Nat.reduceAdd];refine UE ?_;refine WL.vl rfl (aS Tryz.func76 hk) ?_;refine UE ?_;refine WL.vl rfl (aS Tryz.func201 hy) ?_;refine UE ?_;rw [hb];refine UE ?_;exact kT
theorem afM (s c f r g h:Int) (hs:1<=s/\s<=4) (hc:1<=c/\c<=14) (hf:0<=f/\f<=18) (hr:0<=r/\r<=3) (hg:0<=g/\g<=4) (hh:0<=h/\h<=15) (hne:rS s c f≠[]) :bC Tryz.prog 249 [.sc (.int .u8 s),.ag [.sc (.int .i64 c),.sc (.int .i64 f),.sc (.int .i64 r),.sc (.int .i64 g),.sc (.int .i64 h)],.sc (.int .i64 15)] (.tu [.sc (.string (bs (jU s c f r g h 15))),.sc (.int .i64 (lV s c f r g h 15))]):=by
 obtain ⟨l1,l2⟩:=qO s c f hs hc hf;have hp:Qu s c f=true:=by rw [l1];simpa using hne
 have hY:=apF s c f hs hc hf hne;have hWa:=akx s c f r g h 15 hs hc hf hr hg au;by_cases hz:0 < h/\f=0
 .have e:=BZ s c f r g h 15 hs hc hf au au;rw [e.1,e.2];refine dV Tryz.func249 Tryz.ntmps249 λw0 F0=>?_;dsimp only [St.init,number,Nat.reduceAdd];refine o7 ?_;refine WL.vl rfl (aS Tryz.func142 hY) ?_;refine o7 ?_;exact kT
 have hEr:lV s c f r g h 15=if iJ s c f r g h 15=false then 31 else 0:=by
  have e:=Ap s c f hs hc hf;unfold lV;rw [if_neg (by omega),if_neg (by omega),if_neg (by omega)]
 have hwo:=aky s c f r g h 15 hs hc hf hne;obtain ⟨WN,hWN⟩:∃ z,(wants s c f r g h 15).map eInt=z:=⟨_,rfl⟩;rw [hWN] at hWa hwo;have hz2:f≠0\/(f=0/\h=0):=by omega
 rcases hwo with ⟨k1,k2⟩|⟨k1,k2⟩
 .rw [k2,if_neg (by decide)] at hEr;have e4:jU s c f r g h 15=rS s c f++rR s r++rG s g++pH s h 15:=by unfold jU cellS;rw [if_pos hEr,l2 hp]
  have hR:bC Tryz.prog 202 [.sc (.int .u8 s),.sc (.int .i64 r)] (.sc (.string (bs (rR s r)))):=bC.nX (v:=.string (bs (rR s r))) rfl (λ_=>.sc _) λw=>(MR s r w hs hr).mono λe w2 ⟨he,hw⟩=>⟨he,hw ▸ Below.refl _ _⟩;have hG:bC Tryz.prog 203 [.sc (.int .u8 s),.sc (.int .i64 g)] (.sc (.string (bs (rG s g)))):=bC.nX (v:=.string (bs (rG s g))) rfl (λ_=>.sc _) λw=>(MH s g w hs hg).mono λe w2 ⟨he,hw⟩=>⟨he,hw ▸ Below.refl _ _⟩;have hH:bC Tryz.prog 204 [.sc (.int .u8 s),.sc (.int .i64 h),.sc (.int .i64 15)] (.sc (.string (bs (rH s h 15)))):=bC.nX (v:=.string (bs (rH s h 15))) rfl (λ_=>.sc _) λw=>(QA s h 15 w hs au).mono λe w2 ⟨he,hw⟩=>⟨he,hw ▸ Below.refl _ _⟩;have b1:=(aav s c f hs hc hf).1;rw [l2 hp] at b1;have b2:=aaJ s r;have b3:=aaG s g;have b4:=aat s h 15;rw [hEr,e4];unfold pH at b4 ⊢;clear hEr e4 hWN l1 l2 hp;obtain ⟨T1,h1⟩:∃ z,rS s c f=z:=⟨_,rfl⟩;obtain ⟨T2,h2⟩:∃ z,rR s r=z:=⟨_,rfl⟩;obtain ⟨T3,h3⟩:∃ z,rG s g=z:=⟨_,rfl⟩;rw [h1] at hY b1 hne;rw [h2] at hR b2;rw [h3] at hG b3;rw [h1,h2,h3];rcases hz2 with hz2|⟨rfl,rfl⟩
  .by_cases h0:h=0
   .subst h0;exact amF
   .rw [if_neg h0] at b4 ⊢;have h0:0 < h:=by omega
    refine dV Tryz.func249 Tryz.ntmps249 λw0 F0=>?_;dsimp only [St.init,number,Nat.reduceAdd];refine o7 ?_;refine WL.vl rfl (aS Tryz.func142 hY) ?_;refine o7 ?_;refine WL.vl rfl (aS Tryz.func145 hWa) ?_;refine o7 ?_;refine iY ?_;refine agQ ?_;refine DK.vl rfl (aS Tryz.func202 hR) ?_;refine agQ ?_;refine DK.vl rfl (aS Tryz.func203 hG) ?_;refine agQ ?_;refine o7 ?_;refine WL.vl rfl (aS Tryz.func204 hH) ?_;refine o7 ?_;exact kT
  .exact amF
 .rw [k2,if_pos rfl] at hEr;have e4:jU s c f r g h 15=[]:=by unfold jU;rw [hEr,if_neg (by decide)]
  rw [hEr,e4];clear hEr e4 hWN l1 l2 hp;rcases hz2 with hz2|⟨rfl,rfl⟩;all_goals
   refine dV Tryz.func249 Tryz.ntmps249 λw0 F0=>?_;dsimp only [St.init,number,Nat.reduceAdd];refine o7 ?_;refine WL.vl rfl (aS Tryz.func142 hY) ?_;refine o7 ?_;refine WL.vl rfl (aS Tryz.func145 hWa) ?_;refine o7 ?_;exact W.ret (fin2 rfl rfl rfl rfl rfl rfl rfl)
theorem ajD (s v:Int) (i:Nat) (hv:0<=v/\v<=7) (hi:i<=2) (hz:v=0->i=0):bC Tryz.prog 209 [.sc (.int .u8 s),.ag (zC v i)] (.sc (.string (bs (rW s v i)))):=by
 have hcb:0<=v - 1->0<=v - 1/\v - 1<=v/\v<=(7:Int):=λ_=>by omega
 have hcl:∀ a b:Int,(cut Ar a b).length<=7:=λa b=>by unfold cut Ar;simp;omega
 have h4:s=4\/s≠4:=by omega
 have h3:i=0\/i=1\/i=2:=by omega
 by_cases h0:v=0
 .subst h0;obtain rfl:=hz rfl;rcases h4 with rfl|h4
  .rw [show rW 4 0 0=[] from rfl];exact alc
  .have e:rW s 0 0=[45]:=by unfold rW Ec;rw [if_pos rfl,bQ h4];rfl
   rw [e];exact alc
 .have hc:=hcb au;have hl:=hcl (v - 1) v;have eW:rW s v i=if i=0 then cut Ar (v - 1) v else if i=1 then cut Ar (v - 1) v++[46] else if s=4 then [] else cut Ar (v - 1) v++[51]:=by
   unfold rW Ec tW;rw [if_neg h0,if_neg h0];rcases h3 with rfl|rfl|rfl<;>by_cases q:s=4<;>simp [q]
  rw [eW];unfold Ar at hl ⊢;obtain ⟨T,hT⟩:∃ z,cut [66,83,77,67,81,88,68] (v - 1) v=z:=⟨_,rfl⟩;rw [hT] at hl ⊢;clear eW hcl hcb;unfold zC;rcases h3 with rfl|rfl|rfl
  .rw [if_pos rfl,show DY 0=false from rfl,show BI 0=false from rfl];exact aeb
  .rw [if_neg (by decide),if_pos rfl,show DY 1=true from rfl,show BI 1=false from rfl];exact aeb
  .rw [if_neg (by decide),if_neg (by decide),show DY 2=false from rfl,show BI 2=true from rfl];rcases h4 with rfl|h4
   .rw [if_pos rfl];exact aeb
   .rw [if_neg h4];exact aeb
def Ub (k:Nat):List (List AV):=(dK.take k).map λp=>zC p.1 p.2
theorem aj0 {v:Nat} (h:2<=v/\v<=7):Ub (2+3*(v-2))++[[.sc (.int .i64 v),.sc (.bool true),.sc (.bool false)],[.sc (.int .i64 ((v:Int)-1)),.sc (.bool false),.sc (.bool true)],[.sc (.int .i64 v),.sc (.bool false),.sc (.bool false)]]=Ub (2+3*(v+1-2)):=by
 have h6:v=2\/v=3\/v=4\/v=5\/v=6\/v=7:=by omega
 rcases h6 with rfl|rfl|rfl|rfl|rfl|rfl<;>rfl
theorem ap3 {v:Nat} (h:2<=v/\v<=8):(Ub (2+3*(v-2))).length<=30:=by
 unfold Ub;rw [bK,jT];omega
theorem auX:jr jJ 0 Tryz.prog 227 [] [] 0 (.sl 0) [(0,.row 87 3 (Ub 21))] 1:=by
 refine jr.intro mG Tryz.func227 rfl Tryz.ntmps227 (bG rfl) rfl λw0 F0 fp pg hB=>?_;refine iU ?_;refine avq ?_;refine W.loop (λv:Nat=>2<=v/\v<=8) (λv=>⟨[(1,.sl 0),(2,.sc (.int .i64 v))],[(0,.row 87 3 (Ub (2+3*(v - 2))))],1⟩) (λv=>8 - v) 2 (by omega) (ku (λq=>q) arw rfl) λv hv=>?_;have hl:=ap3 hv;by_cases h7:v<=7
 .have hn:=aj0 ⟨hv.1,h7⟩;obtain ⟨R,hR⟩:∃ z,Ub (2+3*(v - 2))=z:=⟨_,rfl⟩;rw [hR] at hn hl ⊢;refine akE ?_;exact ⟨v+1,by omega,by omega,(ku (λq=>bif Nat.beq q 0 then 2 else q) avv rfl)⟩
 .obtain rfl:v=8:=by omega
  have hn:Ub (2+3*(8 - 2))++[[.sc (.int .i64 7),.sc (.bool false),.sc (.bool true)]]=Ub 21:=rfl;obtain ⟨R,hR⟩:∃ z,Ub (2+3*(8 - 2))=z:=⟨_,rfl⟩;rw [hR] at hn hl ⊢;refine akE ?_;refine W.tr (σ':=⟨[(0,.sl 0)],[(0,.row 87 3 (Ub 21))],1⟩) (ku (λq=>bif Nat.beq q 0 then 2 else q) avv rfl) ?_;exact lT
theorem XI (k:Nat)(p:Nat×Nat)(h:dK[k]?=some p):p.1<=7/\p.2<=2/\(p.1=0->p.2=0):=by
 have hm:=cZ h;have:(dK.all λp=>decide (p.1<=7/\p.2<=2/\(p.1=0->p.2=0)))=true:=by decide +kernel
 rw [oW]at this;exact rP (this p hm)
theorem apV (s:Int) (hs:1<=s/\s<=4) (l:List UInt8):bC Tryz.prog 168 [.sc (.int .u8 s),.sc (.string (bs l))] (ptT (jP (D6 s l) 0 8)):=by
 have hk:=TP s;rw [bQ hs] at hk;rw [afE];have hA:=auX;have hn:Ub 21++[[.sc (.int .i64 0),.sc (.bool false),.sc (.bool false)]]=Ub 22:=rfl;have hAl:(Ub 21).length=21:=rfl;obtain ⟨RA,hRA⟩:∃ z,Ub 21=z:=⟨_,rfl⟩;rw [hRA] at hA hn hAl;refine dV Tryz.func168 Tryz.ntmps168 λw0 F0=>?_;dsimp only [St.init,number,Nat.reduceAdd];refine qJ ?_;refine WL.vl rfl (aS Tryz.func76 hk) ?_;refine qJ ?_;refine WL.qQ (dD _) [] rfl rfl (aj Tryz.func227 rfl rfl) hA rfl rfl rfl trivial rfl rfl rfl rfl ?_;refine qJ ?_;refine W.loop (λk:Nat=>k<=22/\dK.find? (Fa s l)=(dK.drop k).find? (Fa s l)) (λk=>⟨[(0,.sc (.int .u8 s)),(1,.sc (.string (bs l))),(4,.pt 0 0 0),(6,.sl 1),(7,.sc (.int .i64 k))],[(0,.box 87 (zC 0 0)),(1,.row 87 3 (Ub 22))],2⟩) (λk=>22 - k) 0 ⟨by omega,rfl⟩ (ku (λq=>bif Nat.beq q 1 then 3 else q) avv rfl) λk ⟨h1,h2⟩=>?_;have hRl:(Ub 22).length=22:=rfl;have aeU:∀ v i,dK[k]?=some (v,i)->(Ub 22)[((k:Nat):Int).toNat]?=some (zC v i):=λv i h=>by
  rw [gy];show (dK.map λp=>zC p.1 p.2)[k]?=_;rw [dw,h];rfl
 obtain ⟨R,hR⟩:∃ z,Ub 22=z:=⟨_,rfl⟩;rw [hR] at hRl aeU ⊢;by_cases hlt:k < 22;rotate_left
 .have e:dK.find? (Fa s l)=none:=by rw [h2,show k=22 by omega];rfl
  rw [e];refine qJ ?_;exact gZ
 obtain ⟨⟨v,i⟩,hp⟩:∃ p,dK[k]?=some p:=⟨_,aO (show k < dK.length from hlt)⟩;obtain ⟨hv7,hi2,hvz⟩:=XI k (v,i) hp;have hat:=aeU v i hp;have hW:=ajD s v i au hi2 (λh=>hvz au);have hdrop:dK.drop k=(v,i)::dK.drop (k+1):=by
  rw [pX (show k < dK.length from hlt)];congr 1;rw [aO (show k < dK.length from hlt)] at hp;simpa using hp
 have hN:Fa s l (v,i)=false->k+1<=22/\dK.find? (Fa s l)=(dK.drop (k+1)).find? (Fa s l):=λhm=>⟨by omega,by rw [h2,hdrop,List.find?_cons,hm]⟩;have hY:Fa s l (v,i)=true->dK.find? (Fa s l)=some (v,i):=λhm=>by rw [h2,hdrop,List.find?_cons,hm]
 clear aeU h2 hdrop hp;by_cases hl:l=[]
 .have q:=hN (by unfold Fa;rw [hl];rfl);have hl1:(l == [])=true:=by simpa using hl
  refine qJ ?_;rw [hl1];refine qJ ?_;exact ⟨k+1,q,by omega,(zqt id)⟩
 have hl1:(l == [])=false:=by simpa using hl
 have hl2:l.isEmpty=false:=by simpa using hl
 cases hm:(rW s v i == l) with
 | true =>
  rw [hY (by unfold Fa;rw [hl2,hm];rfl)];refine qJ ?_;rw [hl1];refine akZ ?_;refine WL.vl rfl (aS Tryz.func209 hW) ?_;refine qJ ?_;rw [hm];refine akZ ?_;exact gZ| false =>
  have q:=hN (by unfold Fa;rw [hm,Bool.and_false]);refine qJ ?_;rw [hl1];refine akZ ?_;refine WL.vl rfl (aS Tryz.func209 hW) ?_;refine qJ ?_;rw [hm];refine qJ ?_;exact ⟨k+1,q,by omega,(zqt id)⟩
end
end Go.Proofs.YthohlofpphjofaaGreatDoor
