/- What is loaded, plain: the entries are in bounds. -/
import Derived.Test.YthohlofpphjofaaGreatDoorNr5Lq
import Derived.Test.YthohlofpphjofaaGreatDoorNrJLq
set_option maxHeartbeats 8000000
set_option maxRecDepth 100000
set_option linter.unusedVariables false
set_option linter.unusedSimpArgs false
namespace Go.Proofs.YthohlofpphjofaaGreatDoor
theorem YL {p:Prop}(h:p:=by rw [vk];omega):p:=h
theorem amR {p:Prop}(h:p:=by
 refine jr.intro mG Tryz.func67 rfl Tryz.ntmps67 (bG rfl) rfl λw0 F0 fp pg hB=>?_;unfold qW qw at hF ⊢;refine aqn ?_;refine DK.vl rfl (aS Tryz.func89 hC) ?_;refine NZ ?_;exact anp):p:=h
theorem anp {p:Prop}(h:p:=by
 refine AY ?_;refine WL.qQ (dD _) [0,1] rfl rfl (aj Tryz.func124 rfl rfl) hF rfl rfl rfl ⟨⟨rfl,rfl,rfl⟩,⟨rfl,rfl,rfl⟩,trivial⟩ rfl rfl rfl rfl ?_;refine AY ?_;exact W.ret (BN rfl rfl rfl rfl rfl)):p:=h
theorem aqn {p q:Prop}(k:q)(h:iF q->p:=by
 intro hq;dsimp only [number,Nat.reduceAdd];refine AY ?_;refine W.Vz aK aK ?_;refine NZ ?_;refine AY ?_;refine W.Vz aK aK ?_;refine NZ ?_;refine DK.idx rfl rfl au hat ?_;refine NZ ?_;exact hq.k):p:=h ⟨k⟩
section
open Go.RowKit
def Wv:List UInt8:=[116,105,116,108,101,32]
def Wu:List UInt8:=[101,110,100]
def jo (r:List (List UInt8)):Nat:=(r.takeWhile λx=>!(x == Wu)).length
def kU (L:List (List UInt8))(a:Nat):List UInt8:=aC 10 ((L.drop a).take (jo (L.drop a))) []
def vN (L:List (List UInt8))(a:Nat):List UInt8:=(L.getD a []).drop 6
def iw (L:List (List UInt8))(a:Nat)(b:List En):Int :=if ((L.getD a []).take 6 == Wv)=false then 4 else if b.length=64 then 2 else if jS (vN L a)=false\/wW b (vN L a)<b.length then 110 else 0
noncomputable def xB (L:List (List UInt8)):Nat->Nat->List En->List En×Int×Int
 | 0,_,b=>(b,0,0)| k+1,a,b =>if L.length<=a then (b,0,0)else if iw L a b≠0 then ([],(a:Int)+1,iw L a b)else if L.length<=a+1+jo (L.drop (a+1))then ([],(L.length:Int)+1,4)else if (aG (kU L (a+1))).2.2.2≠0 then ([],(a:Int)+1+(aG (kU L (a+1))).2.2.1,(aG (kU L (a+1))).2.2.2)else xB L k (a+1+jo (L.drop (a+1))+1) (b++[⟨vN L a,(aG (kU L (a+1))).1,(aG (kU L (a+1))).2.1⟩])
theorem acT (L:List (List UInt8)):∀ (k k' a:Nat)(b:List En),L.length<=a+k->L.length<=a+k'->xB L k a b=xB L k' a b:=by
 intro k;induction k with
 | zero =>
  intro k' a b h h';cases k'<;>simp_all[xB]| succ k ih =>
  intro k' a b h h';cases k'<;>grind[xB]
noncomputable def mQ (L:List (List UInt8))(a:Nat)(b:List En):List En×Int×Int:=xB L L.length a b
theorem ZJ {L:List (List UInt8)} {a:Nat} {b:List En} (h:L.length<=a):mQ L a b=(b,0,0):=by
 unfold mQ;rw [acT L L.length 1 a b (by omega) (by omega)];simp_all[xB]
theorem KW {L:List (List UInt8)} {a:Nat} {b:List En} (h:a<L.length)(h1:iw L a b≠0):mQ L a b=([],(a:Int)+1,iw L a b):=by
 unfold mQ;obtain⟨k,hk⟩:∃ k,L.length=k+1:=⟨L.length-1,by omega⟩;simp_all[xB,if_neg]
theorem acV {L:List (List UInt8)} {a:Nat} {b:List En} (h:a<L.length)(h1:iw L a b=0)(h2:L.length<=a+1+jo (L.drop (a+1))):mQ L a b=([],(L.length:Int)+1,4):=by
 unfold mQ;obtain⟨k,hk⟩:∃ k,L.length=k+1:=⟨L.length-1,by omega⟩;simp_all[xB]
theorem ain {L:List (List UInt8)} {a:Nat} {b:List En} (h:a<L.length)(h1:iw L a b=0)(h2:¬ L.length<=a+1+jo (L.drop (a+1)))(h3:(aG (kU L (a+1))).2.2.2≠0) :mQ L a b=([],(a:Int)+1+(aG (kU L (a+1))).2.2.1,(aG (kU L (a+1))).2.2.2):=by
 unfold mQ;obtain⟨k,hk⟩:∃ k,L.length=k+1:=⟨L.length-1,by omega⟩;simp_all[xB,if_neg]
theorem ld_next {L:List (List UInt8)} {a:Nat} {b:List En} (h:a<L.length) (h1:iw L a b=0) (h2:¬ L.length<=a+1+jo (L.drop (a+1))) (h3:(aG (kU L (a+1))).2.2.2=0) :mQ L a b=mQ L (a+1+jo (L.drop (a+1))+1) (b++[⟨vN L a,(aG (kU L (a+1))).1,(aG (kU L (a+1))).2.1⟩]):=by
 unfold mQ;obtain ⟨k,hk⟩:∃ k,L.length=k+1:=⟨L.length-1,by omega⟩;grind[acT,xB]
noncomputable def lY (t:List UInt8):List En×Int×Int :=if (aH 10 t).2≠[]then ([],((aH 10 t).1.length:Int)+1,4)else mQ (aH 10 t).1 0 []
theorem ao3 (r:List (List UInt8)):jo r<=r.length:=(Yu _).length_le
theorem Tc:∀ {r:List (List UInt8)} {k:Nat} (h:k<jo r) (hk:k<r.length),(r[k] == Wu)=false
 | [],k,h,hk=>by simp at hk| x::r,k,h,hk=>by
  unfold jo at h;rw [ND]at h;cases hx:(x == Wu)with
  | true=>simp_all| false =>
   rw [hx]at h;cases k with
   | zero=>exact hx| succ k=>exact Tc (r:=r) (by simpa [jo]using h) FX
theorem S9:∀ {r:List (List UInt8)} (h:jo r<r.length),(r[jo r] == Wu)=true
 | [],h=>by simp at h| x::r,h=>by cases hx:(x == Wu)with
  | true =>grind[jo,ND]| false =>
   have e:jo (x::r)=jo r+1:=by simp_all[jo]
   have h':jo r<r.length:=by simp_all
   have:=S9 h';simp_all
theorem acU {r:List (List UInt8)} {k:Nat} (hk:k<=r.length)(h1:∀ i (hi:i<k),(r[i]'(by omega) == Wu)=false)(h2:∀ h:k<r.length,(r[k] == Wu)=true):jo r=k:=by
 have hle:=ao3 r;rcases Q8 (jo r) k with h|h|h;all_goals grind[S9,Tc]
theorem Ey {l:List (List UInt8)} {k:Nat} (h:k<l.length):aC 10 (l.take (k+1)) []=aC 10 (l.take k) []++(l[k]++[10]):=by grind[kF,aC]
theorem vP:∀ (l:List (List UInt8))(k:Nat),(aC 10 (l.take k) []).length<=(aC 10 l []).length
 | [],k=>by simp| x::l,0=>by simp [aC]| x::l,k+1=>by
  have:=vP l k;simp_all[iL]
theorem zL:∀ (l:List (List UInt8))(k:Nat),(aC 10 (l.drop k) []).length<=(aC 10 l []).length
 | [],k=>by simp| x::l,0=>by simp| x::l,k+1=>by
  have:=zL l k;grind[iL]
theorem Dk (t:List UInt8):(aC 10 (aH 10 t).1 []).length<=t.length:=by grind[lF,aC]
theorem WC (t:List UInt8) (a:Nat):(kU (aH 10 t).1 a).length<=t.length :=gX (vP _ _) (gX (zL _ _) (Dk t))
theorem Qb {s:Int} {cs:List Crs}:∀ {L:List (List UInt8)} {k:Nat} {x:Nat×Int},nK s cs k L=some x->k<=x.1/\x.1<k+L.length
 | [],k,x,h=>by cases h| t::r,k,x,h=>by
  unfold nK at h;split at h;.grind
  .have:=Qb h;grind
theorem afl {s:Int} {cs:List Crs} {st:List Int} {tl:List UInt8} {L:List (List UInt8)} (hL:L.length<=400):0<=(mF s cs st tl L).2.2.1/\(mF s cs st tl L).2.2.1<=403:=by
 unfold mF;split
 .rename_i k e hb;have:=(Qb hb).2;show 0<=(k:Int)+3/\(k:Int)+3<=403;omega
 .split
  .show 0<=(L.length:Int)+3/\(L.length:Int)+3<=403;omega
  .split
   .rename_i i hh;have:=abw hh;rw [UA,bK]at this;show 0<=(i:Int)+3/\(i:Int)+3<=403;omega
   simp
theorem afp (tl:List UInt8):∀ F:List (List UInt8),0<=(jq tl F).2.2.1/\(jq tl F).2.2.1<=403
 | []=>⟨by show (0:Int)<=1;omega,by show (1:Int)<=403;omega⟩| l0::F=>by
  unfold jq;dsimp only;cases nN l0 with
  | none=>exact⟨by show (0:Int)<=1;omega,by show (1:Int)<=403;omega⟩| some s =>
   dsimp only;cases F with
   | nil=>exact⟨by show (0:Int)<=2;omega,by show (2:Int)<=403;omega⟩| cons l L =>
    unfold wP;dsimp only;by_cases h1:(aF l).2≠0;.rw [if_pos h1];exact⟨by show (0:Int)<=2;omega,by show (2:Int)<=403;omega⟩
    .rw [if_neg h1];by_cases h4:400<L.length+(if tl=[]then 0 else 1);.rw [if_pos h4];exact⟨by show (0:Int)<=403;omega,by show (403:Int)<=403;omega⟩
     .rw [if_neg h4];exact afl (by omega)
theorem LJ(t:List UInt8):0<=(aG t).2.2.1/\(aG t).2.2.1<=403:=afp _ _
def ldR (r:List En×Int×Int):AV:=.tu [eBk r.1,.sc (.int .i64 r.2.1),.sc (.int .i64 r.2.2)]
theorem WB {L:List (List UInt8)} {a:Nat} {b:List En} (h:iw L a b=0):b.length≠64:=λe=>by
 unfold iw at h;by_cases c:((L.getD a []).take 6 == Wv)=false;.rw [if_pos c]at h;cases h
 .rw [if_neg c,if_pos e]at h;cases h
theorem ao4 {L:List (List UInt8)} {a:Nat} {b:List En} (h:iw L a b=0):jS (vN L a)=true/\¬ wW b (vN L a)<b.length:=by
 unfold iw at h;by_cases c:((L.getD a []).take 6 == Wv)=false;.rw [if_pos c]at h;cases h
 rw [if_neg c]at h;by_cases d:b.length=64;.rw [if_pos d]at h;cases h
 rw [if_neg d]at h;by_cases e:jS (vN L a)=false\/wW b (vN L a)<b.length;.rw [if_pos e]at h;cases h
 .exact⟨by simpa using λq=>e (.inl q),λq=>e (.inr q)⟩
theorem agL {t:List UInt8} (h:jS t=true):t.length<=60:=by
 unfold jS at h;simp only [gG,dH]at h;exact h.1.1.1.2
def qW (LT:List (List AV))(a ln e:Int):AO:=.box 123 [.ls 1 LT,.sc (.int .i64 a),.sl 1,.sc (.int .i64 ln),.sc (.int .i64 e)]
def aug (LT:List (List AV))(a:Int):AO:=.box 123 [.ls 1 LT,.sc (.int .i64 a),.sl 2,.sc (.int .i64 0),.sc (.int .i64 0)]
def qw (R:List (List AV)):AO:=.row 129 5 R
def Gx (t:List UInt8):List AV:=[.sc (.string (bs t)),.sc (.int .u8 0),.sc (.slice none 0 0),.sc (.slice none 0 0),.sc (.slice none 0 0)]
def aui:AV:=.fn (67+1000000) [.pt 0 0 0]
def auh:AV:=.fn (125+1000000) [.pt 0 0 0]
theorem KU (LT R:List (List AV))(a l0 e0 ln e:Int):jr jJ 0 Tryz.prog 124 [.pt 0 0 0,.sc (.int .i64 ln),.sc (.int .i64 e)] [(0,qW LT a l0 e0),(1,qw R)] 2 (.sc .nilFunc) [(0,qW LT a ln e),(1,qw R)] 2:=by
 refine jr.intro mG Tryz.func124 rfl Tryz.ntmps124 (bG rfl) rfl λw0 F0 fp pg hB=>?_;unfold qW qw;refine iU ?_;refine akJ ?_;exact lT
theorem Wx (L:List (List UInt8)) (R:List (List AV)) (a:Nat) (h:a=L.length) (hl:L.length<=1000000):jr jJ 0 Tryz.prog 67 [.pt 0 0 0] [(0,qW (L.map aX) a 0 0),(1,qw R)] 2 (.sc .nilFunc) [(0,qW (L.map aX) a 0 0),(1,qw R)] 2:=by
 have hlen:(L.map aX).length=L.length:=bK _;obtain ⟨LT,KG⟩:∃ z,L.map aX=z:=⟨_,rfl⟩;rw [KG] at hlen ⊢;refine jr.intro mG Tryz.func67 rfl Tryz.ntmps67 (bG rfl) rfl λw0 F0 fp pg hB=>?_;unfold qW qw;refine iU ?_;refine YB ?_;refine iY ?_;repeat (first|refine DK.vl rfl (WV.IC rfl rfl) ?_|refine DK.bt rfl rfl au ?_|refine DK.st rfl ?_|refine DK.len rfl rfl rfl ?_|refine DK.nil ?_)
 refine YB ?_;exact lT
theorem ae8 (L:List (List UInt8)) (b:List En) (a:Nat) (h:a < L.length) (hl:L.length<=1000000) (hL:∀ w∈L,w.length<=1000000) (hb:b.length<=64) :(iw L a b≠0->jr jJ 0 Tryz.prog 67 [.pt 0 0 0] [(0,qW (L.map aX) a 0 0),(1,qw (b.map yZ))] 2 (.sc .nilFunc) [(0,qW (L.map aX) ((a:Int)+1) ((a:Int)+1) (iw L a b)),(1,qw (b.map yZ))] 2) /\(iw L a b=0->jr jJ 0 Tryz.prog 67 [.pt 0 0 0] [(0,qW (L.map aX) a 0 0),(1,qw (b.map yZ))] 2 auh [(0,aug (L.map aX) ((a:Int)+1)),(2,qw (b.map yZ++[Gx (vN L a)]))] 3):=by
 have hlen:(L.map aX).length=L.length:=bK _;have hat:(L.map aX)[((a:Int)+1 - 1).toNat]?=some (aX L[a]):=by rw [show ((a:Int)+1 - 1).toNat=a by omega,dw,aO h];rfl
 have hbl:(b.map yZ).length=b.length:=bK _;have hg:L.getD a []=L[a]:=by simp [h]
 have hxb:=hL _ (gB h);have hC:=Py L[a] Wv au;have hTi:=afD (L[a].drop 6) YL;have hHa:=agJ b (L[a].drop 6) au;have hF:=λe=>KU (L.map aX) (b.map yZ) ((a:Int)+1) 0 0 ((a:Int)+1) e;have hdr:vN L a=L[a].drop 6:=by unfold vN;rw [hg]
 have hte:iw L a b=if bY Wv L[a]=false then 4 else if b.length=64 then 2 else if jS (L[a].drop 6)=false\/wW b (L[a].drop 6) < b.length then 110 else 0:=by
  unfold iw;rw [hdr,hg,show bY Wv L[a]=(L[a].take 6 == Wv) by rw [qX,FT];simp [show Wv.length=6 from rfl]]
 obtain ⟨x,hx⟩:∃ z,L[a]=z:=⟨_,rfl⟩;rw [hx] at hat hxb hC hTi hHa hte hdr;obtain ⟨tt,htt⟩:∃ z,x.drop 6=z:=⟨_,rfl⟩;rw [show Wv.length=6 from rfl] at hC;rw [htt] at hC hTi hHa hte hdr;obtain ⟨TE,hTE⟩:∃ z,iw L a b=z:=⟨_,rfl⟩;rw [hTE] at hte ⊢;rw [hdr];obtain ⟨LT,KG⟩:∃ z,L.map aX=z:=⟨_,rfl⟩;obtain ⟨R,hR⟩:∃ z,b.map yZ=z:=⟨_,rfl⟩;rw [KG] at hlen hat hF ⊢;rw [hR] at hbl hF hHa ⊢;unfold Wv at hC;cases hp:bY Wv x with
 | false =>
  rw [hp,if_pos rfl] at hte;unfold Wv at hp;rw [hp,if_neg (by decide)] at hC;subst hte;refine ⟨λ_=>?_,λk=>by cases k⟩;have hF:=hF 4;exact amR| true =>
  rw [hp,if_neg (by decide)] at hte;unfold Wv at hp;rw [hp,if_pos rfl] at hC;by_cases h64:b.length=64
  .rw [if_pos h64] at hte;subst hte;refine ⟨λ_=>?_,λk=>by cases k⟩;have hF:=hF 2;exact amR
  rw [if_neg h64] at hte;cases hto:jS tt with
  | false =>
   rw [if_pos (.inl hto)] at hte;rw [hto] at hTi;subst hte;refine ⟨λ_=>?_,λk=>by cases k⟩;have hF:=hF 110;refine jr.intro mG Tryz.func67 rfl Tryz.ntmps67 (bG rfl) rfl λw0 F0 fp pg hB=>?_;unfold qW qw at hF ⊢;refine aqn ?_;refine DK.vl rfl (aS Tryz.func89 hC) ?_;refine NZ ?_;refine AY ?_;refine WL.vl rfl (aS Tryz.func71 hTi) ?_;exact anp| true =>
  rw [hto] at hTi;unfold agK at hHa;by_cases hn:wW b tt < b.length
  .rw [if_pos (.inr hn)] at hte;rw [if_pos hn] at hHa;subst hte;refine ⟨λ_=>?_,λk=>by cases k⟩;have hF:=hF 110;refine jr.intro mG Tryz.func67 rfl Tryz.ntmps67 (bG rfl) rfl λw0 F0 fp pg hB=>?_;unfold qW qw at hF ⊢;refine aqn ?_;refine DK.vl rfl (aS Tryz.func89 hC) ?_;refine NZ ?_;refine AY ?_;refine WL.vl rfl (aS Tryz.func71 hTi) ?_;refine AY ?_;refine WL.vl rfl (WV.Iy (dD _) rfl (aj Tryz.func72 rfl rfl) rfl (.cons (fG.row rfl) (.cons (fG.pu rfl) .nil)) Aw hHa.g) ?_;exact anp
  rw [if_neg (by rw [hto];simp;omega)] at hte;rw [if_neg hn] at hHa;subst hte;refine ⟨λk=>absurd rfl k,λ_=>?_⟩;clear hF;unfold auh;refine jr.intro mG Tryz.func67 rfl Tryz.ntmps67 (bG rfl) rfl λw0 F0 fp pg hB=>?_;unfold qW aug qw;refine aqn ?_;refine DK.vl rfl (aS Tryz.func89 hC) ?_;refine NZ ?_;refine AY ?_;refine WL.vl rfl (aS Tryz.func71 hTi) ?_;refine AY ?_;refine WL.vl rfl (WV.Iy (dD _) rfl (aj Tryz.func72 rfl rfl) rfl (.cons (fG.row rfl) (.cons (fG.pu rfl) .nil)) Aw hHa.g) ?_;refine AY ?_;unfold Gx;refine WL.vl rfl (WV.mkb rfl rfl) ?_;refine AY ?_;refine W.tr (σ':=⟨[(2,.fn (125+1000000) [.pt 0 0 0])],[(0,.box 123 [.ls 1 LT,.sc (.int .i64 ((a:Int)+1)),.sl 2,.sc (.int .i64 0),.sc (.int .i64 0)]),(2,.row 129 5 (R++[[.sc (.string (bs tt)),.sc (.int .u8 0),.sc (.slice none 0 0),.sc (.slice none 0 0),.sc (.slice none 0 0)]]))],3⟩) (ku (λq=>bif Nat.beq q 2 then 3 else q) mJ rfl) ?_;exact lT
theorem aak {t:List UInt8}:(aG t).2.2.2=0\/(aG t).1=0:=by
 have e:aG t=jq (aH 10 t).2 (aH 10 t).1:=rfl;rw [e];obtain⟨⟨F0,tl⟩,hF⟩:∃ z,aH 10 t=z:=⟨_,rfl⟩;rw [hF];dsimp only;cases F0 with
 | nil=>exact .inr rfl| cons l0 F1 =>
  unfold jq;dsimp only;cases nN l0 with
  | none=>exact .inr rfl| some s =>
   dsimp only;cases F1 with
   | nil=>exact .inr rfl| cons l1 F =>
    unfold wP;dsimp only;by_cases hi:(aF l1).2≠0;.rw [if_pos hi];exact .inr rfl
    rw [if_neg hi];by_cases hm:400<F.length+(if tl=[]then 0 else 1);.rw [if_pos hm];exact .inr rfl
    rw [if_neg hm];unfold mF;cases nK s (aF l1).1.1 0 F with
    | some x=>exact .inr rfl| none =>
     dsimp only;by_cases ht:tl≠[];.rw [if_pos ht];exact .inr rfl
     rw [if_neg ht];cases pG s (F.map (aT s (aF l1).1.1))with
     | some i=>exact .inr rfl| none=>exact .inl rfl
theorem aam (t:List UInt8):jh (aG t).2.1:=by
 rcases aak (t:=t)with h|h
 .obtain⟨s,l1,F,h2⟩:=aal h;rw [h2.eq];exact (aan h2).2.1
 .rw [LK h];exact⟨by simp [fC],by simp [fC],by simp [fC],λk hk=>by simp [fC]at hk⟩
def anW(b:List En):Prop:=b.length<=64/\∀ e∈b,jh e.p/\e.t.length<=60
theorem Wy (L:List (List UInt8)):∀ (k a:Nat) (b:List En),anW b->anW (xB L k a b).1
 | 0,a,b,h=>h| k+1,a,b,h=>by
  have hn:anW []:=⟨by simp,by simp⟩;unfold xB;by_cases h1:L.length<=a;.rw [if_pos h1];exact h
  rw [if_neg h1];by_cases h2:iw L a b≠0;.rw [if_pos h2];exact hn
  rw [if_neg h2];have h2:iw L a b=0:=Decidable.not_not.1 h2;by_cases h3:L.length<=a+1+jo (L.drop (a+1));.rw [if_pos h3];exact hn
  rw [if_neg h3];by_cases h4:(aG (kU L (a+1))).2.2.2≠0;.rw [if_pos h4];exact hn
  rw [if_neg h4];refine Wy L k _ _ ⟨?_,λe he=>?_⟩
  .have:=WB h2;have:=h.1;rw [dS,Je];omega
  .rcases List.mem_append.1 he with x|x;.exact h.2 e x
   .rw [List.mem_singleton.1 x];exact ⟨aam _,agL (ao4 h2).1⟩
theorem ZK (t:List UInt8):asX (lY t).1:=by
 have h:anW (lY t).1:=by
  unfold lY;split;.exact ⟨by simp,by simp⟩
  .exact Wy _ _ _ _ ⟨by simp,by simp⟩
 exact ⟨by have:=h.1;omega,λk hk=>(h.2 _ (gB hk)).1,λk hk=>by have:=(h.2 _ (gB hk)).2;omega⟩
end
end Go.Proofs.YthohlofpphjofaaGreatDoor
