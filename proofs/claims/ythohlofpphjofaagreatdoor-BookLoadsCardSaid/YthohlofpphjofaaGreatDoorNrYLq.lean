/- The reader of the reference: a cell is looked for. -/
import Derived.Test.YthohlofpphjofaaGreatDoorNrTLq
import Derived.Test.YthohlofpphjofaaGreatDoorRfFLq
set_option maxHeartbeats 8000000
set_option maxRecDepth 100000
set_option linter.unusedVariables false
set_option linter.unusedSimpArgs false
namespace Go.Proofs.YthohlofpphjofaaGreatDoor
open Go.RowKit
theorem alY {p:Prop}(h:p:=by
 refine wE ?_;refine ⟨i+1,⟨by omega,hn2⟩,by omega,?_⟩;exact (zqt id)):p:=h
theorem alP {p:Prop}(h:p:=by
 refine wE ?_;refine ⟨n+1,⟨by omega,by omega,VT⟩,by omega,?_⟩;exact (zqt id)):p:=h
def Y5(s aI L:Int)(l:List UInt8)(n:Nat):Prop:=∀ c f r g h:Nat,yL s aI L l c f r g h->n<=(rS s c f).length
def NoI(s c f:Int)(l:List UInt8)(L:Int)(i:Nat):Prop:=∀ r g h:Nat,r<=3->g<=4->r+4*g+20*h<i->stM s c f l L r g h=false
theorem Y5.start {s aI L:Int} {l:List UInt8} (hsp:aJ s aI=0):Y5 s aI L l 1:=λc f r g h a=>(E5 hsp a).1
theorem NoI.start {s c f:Int} {l:List UInt8} {L:Int}:NoI s c f l L 0:=λr g h _ _ k=>by omega
theorem NoI.step {s c f:Int} {l:List UInt8} {L:Int} {i:Nat} (h:NoI s c f l L i) (hn:stM s c f l L (i % 4) (i/4 % 5) (i/20)=false):NoI s c f l L (i+1):=λr g k hr hg hk=>by
 by_cases e:r+4*g+20*k<i;.exact h r g k hr hg e
 .have e1:i % 4=r:=by omega
  have e2:i/4 % 5=g:=by omega
  have e3:i/20=k:=by omega
  rw [e1,e2,e3]at hn;exact hn
theorem Y5.skip {s aI L:Int} {l:List UInt8} {n:Nat} (hsp:aJ s aI=0)(h:Y5 s aI L l n)(hp:placeOf s aI (cut l 0 n)=(0,0,4)):Y5 s aI L l (n+1) :=adl hsp h λc f r g k e=>by
  have:cut l 0 n=l.take n:=by simp [cut]
  rw [this]at hp;rw [hp]at e;simp at e
theorem Y5.step {s aI L:Int} {l:List UInt8} {n c f N:Nat} (hsp:aJ s aI=0)(h:Y5 s aI L l n)(hp:placeOf s aI (cut l 0 n)=((c:Int),(f:Int),0))(hi:NoI s c f l L N)(hN:(N:Int)=20*(L+1)):Y5 s aI L l (n+1) :=adl hsp h λc' f' r g k e a=>by
  have:cut l 0 n=l.take n:=by simp [cut]
  rw [this]at hp;rw [hp]at e;simp only [Prod.mk.injEq,Int.ofNat_inj,and_true]at e;obtain⟨rfl,rfl⟩:=e;have hm:=a.2.2.2;obtain⟨x,_,_⟩:=yR hm;rw [hi r g k x.1 x.2.1 (by omega)]at hm;cases hm
theorem Y5.done {s aI L:Int} {l:List UInt8} (hsp:aJ s aI=0)(h:Y5 s aI L l (l.length+1)):NoC s aI L l 15:=λc f r g k _ a=>by
 have:=h c f r g k a;have:=(E5 hsp a).2.1;omega
def MG:Option N5->AV
 | some x=>.tu [.ag [.sc (.int .i64 x.1),.sc (.int .i64 x.2.1),.sc (.int .i64 x.2.2.1),.sc (.int .i64 x.2.2.2.1),.sc (.int .i64 x.2.2.2.2)],.sc (.int .i64 0)]| none=>.tu [.ag [.sc (.int .i64 0),.sc (.int .i64 0),.sc (.int .i64 0),.sc (.int .i64 0),.sc (.int .i64 0)],.sc (.int .i64 4)]
theorem O6 (s aI:Int) (l:List UInt8) (hsp:aJ s aI=0) (hlen:l.length<=400000):bC Tryz.prog 229 [.sc (.int .u8 s),.sc (.int .i64 aI),.sc (.string (bs l)),.sc (.int .i64 15)] (MG (iP s aI l)):=by
 have hs:=rM hsp;have hS:=XG s aI;rw [hsp] at hS;have hcl:∀ {c f r g h:Nat},yL s aI 15 l c f r g h->iP s aI l=some (c,f,r,g,h):=λa=>Ls hsp a;have hcn:=Du (s:=s) (aI:=aI) (w:=l);obtain ⟨RR,hRR⟩:∃ z,iP s aI l=z:=⟨_,rfl⟩;rw [hRR] at hcn ⊢;have hcl:∀ {c f r g h:Nat},yL s aI 15 l c f r g h->RR=some (c,f,r,g,h):=λa=>hRR.symm.trans (hcl a);clear hRR;refine dV Tryz.func229 Tryz.ntmps229 λw0 F0=>?_;dsimp only [St.init,number,Nat.reduceAdd];refine wE ?_;refine WL.vl rfl (aS Tryz.func258 hS) ?_;refine wE ?_;refine W.loop (λn:Nat=>1<=n/\n<=l.length+1/\Y5 s aI 15 l n) (λn=>⟨[(0,.sc (.int .u8 s)),(1,.sc (.int .i64 aI)),(2,.sc (.string (bs l))),(3,.sc (.int .i64 15)),(8,.pt 0 0 0),(11,.sc (.int .i64 (n:Int)))],[(0,.box 69 [.sc (.int .i64 0),.sc (.int .i64 0),.sc (.int .i64 0),.sc (.int .i64 0),.sc (.int .i64 0)])],1⟩) (λn=>l.length+1 - n) 1 ⟨by omega,by omega,Y5.start hsp⟩ (zqt id) λn hn=>?_;obtain ⟨hn1,hn2,hno⟩:=hn;by_cases hle:n<=l.length;rotate_left
 .obtain rfl:n=l.length+1:=by omega
  have e:RR=none:=hcn.1 λc f r g h a=>Y5.done hsp hno c f r g h (by have:=a.1;omega) a;subst e;unfold MG;refine wE ?_;exact gZ
 have hP:=afP s aI (cut l 0 n);have hcb:0<=(0:Int)/\(0:Int)<=(n:Int)/\(n:Int)<=(l.length:Int):=by omega
 rcases wR (cut l 0 n) hsp with ⟨c,f,hp,hc,hf,hst,aoP⟩|hp;rotate_left
 .have VT:=Y5.skip hsp hno hp;rw [hp] at hP;dsimp only at hP;obtain ⟨CT,hCT⟩:∃ z,cut l 0 (n:Int)=z:=⟨_,rfl⟩;rw [hCT] at hP;clear hp hno hcl hcn;refine wE ?_;refine WL.cut rfl rfl hcb ?_;rw [hCT];refine wE ?_;refine WL.vl rfl (aS Tryz.func259 hP) ?_;exact alP
 have hstep:=λ{N:Nat} (hi:NoI s c f l 15 N) (hN:(N:Int)=20*(15+1))=>Y5.step hsp hno hp hi hN;have hne:rS s c f≠[]:=by
  have hl:(cut l 0 (n:Int)).length=n:=by simp [cut];omega
  intro h;rw [← aoP,h] at hl;simp at hl;omega
 rw [hp] at hP;dsimp only at hP;obtain ⟨CT,hCT⟩:∃ z,cut l 0 (n:Int)=z:=⟨_,rfl⟩;rw [hCT] at hP;clear hp aoP hno hcn;refine wE ?_;refine WL.cut rfl rfl hcb ?_;rw [hCT];refine wE ?_;refine WL.vl rfl (aS Tryz.func259 hP) ?_;refine wE ?_;refine W.loop (λi:Nat=>i<=320/\NoI s c f l 15 i) (λi=>⟨[(0,.sc (.int .u8 s)),(1,.sc (.int .i64 aI)),(2,.sc (.string (bs l))),(3,.sc (.int .i64 15)),(8,.pt 0 0 0),(11,.sc (.int .i64 (n:Int))),(12,.pt 1 0 0),(14,.sc (.int .i64 (i:Int)))],[(0,.box 69 [.sc (.int .i64 0),.sc (.int .i64 0),.sc (.int .i64 0),.sc (.int .i64 0),.sc (.int .i64 0)]),(1,.box 64 [.sc (.int .i64 (c:Int)),.sc (.int .i64 (f:Int))])],2⟩) (λi=>320 - i) 0 ⟨by omega,NoI.start⟩ (zqt id) λi hi=>?_;obtain ⟨hi,hno⟩:=hi;by_cases hlt:i < 320;rotate_left
 .obtain rfl:i=320:=by omega
  have VT:=hstep hno (by decide);clear hno hcl;exact alP
 have hC:=afM s c f ((i:Int) % 4) ((i:Int)/4 % 5) ((i:Int)/20) hs au au au au au hne;have hM:=aer (s:=s) (c:=c) (f:=f) (L:=15) (l:=l) (r:=i % 4) (g:=i/4 % 5) (h:=i/20) hs au au au au au au;have m1:((i % 4:Nat):Int)=(i:Int) % 4:=by omega
 have m2:((i/4 % 5:Nat):Int)=(i:Int)/4 % 5:=by omega
 have m3:((i/20:Nat):Int)=(i:Int)/20:=by omega
 rw [m1,m2,m3] at hM;obtain ⟨E,hE⟩:∃ E,lV s c f ((i:Int) % 4) ((i:Int)/4 % 5) ((i:Int)/20) 15=E:=⟨_,rfl⟩;obtain ⟨T,hT⟩:∃ T,jU s c f ((i:Int) % 4) ((i:Int)/4 % 5) ((i:Int)/20) 15=T:=⟨_,rfl⟩;rw [hE,hT] at hC hM;have hok:stM s c f l 15 (i % 4) (i/4 % 5) (i/20)=true->RR=some (c,f,i % 4,i/4 % 5,i/20):=λh=>hcl ⟨hc,hf,hst,h⟩;have hsn:=λh=>NoI.step hno h;obtain ⟨gd,hgd⟩:∃ z,stM s c f l 15 (i % 4) (i/4 % 5) (i/20)=z:=⟨_,rfl⟩;rw [hgd] at hM hok hsn;obtain ⟨a1,ha1⟩:∃ z,(i:Int) % 4=z:=⟨_,rfl⟩;obtain ⟨a2,ha2⟩:∃ z,(i:Int)/4 % 5=z:=⟨_,rfl⟩;obtain ⟨a3,ha3⟩:∃ z,(i:Int)/20=z:=⟨_,rfl⟩;rw [ha1] at hC m1;rw [ha2] at hC m2;rw [ha3] at hC m3;clear hcl hno hstep hE hT hgd;refine wE ?_;rw [ha1,ha2,ha3];refine WL.vl rfl (aS Tryz.func249 hC) ?_;by_cases e1:E=0;rotate_left
 .have hg:gd=false:=by rw [hM];simp [e1]
  have hn2:=hsn hg;clear hM hok hsn;exact alY
 cases e2:(T == l) with
 | false =>
  have hg:gd=false:=by rw [hM,e2];simp
  have hn2:=hsn hg;clear hM hok hsn;refine wE ?_;rw [e2];exact alY| true =>
  have hg:gd=true:=by rw [hM,e2,e1];rfl
  have hR:=hok hg;subst hR;unfold MG;dsimp only;rw [m1,m2,m3];clear hM hok hsn;refine wE ?_;rw [e2];refine wE ?_;exact gZ
end Go.Proofs.YthohlofpphjofaaGreatDoor
