/- Names of notes, the text of an instrument: the program. -/
import Derived.Test.YthehkchjdkdbiaaGreatDoorMk1Kq
import Derived.Test.YthehkchjdkdbiaaGreatDoorMk2Kq
import Derived.Test.YthehkchjdkdbiaaGreatDoorMk3Kq
import Derived.Test.YthehkchjdkdbiaaGreatDoorMk4Kq
import Derived.Test.YthehkchjdkdbiaaGreatDoorGdKq
import Derived.Test.YthehkchjdkdbiaaGreatDoorRInsKq
set_option maxHeartbeats 4000000
set_option maxRecDepth 100000
set_option linter.unusedVariables false
set_option linter.unusedSimpArgs false
namespace Go.Proofs.YthehkchjdkdbiaaGreatDoor
theorem qc {p:Prop}(h:p:=by repeat (first|exact trivial|refine ⟨⟨?_,?_,?_⟩,?_⟩|rfl|exact congrArg (fun q=>some (AO.row _ _ q)) (by first|rfl|(simp;done)|(simp [eInt];done)|(simp [iR];done)))):p:=h
section
variable {p:Prop}
theorem alK(h:p:=by
 refine wZ ?_
 refine ⟨j+1,⟨by omega,hnext hN⟩,by omega,?_⟩
 rw [← hal2]
 exact apb):p:=h
theorem alz(h:p:=by
 by_cases hr:0≤12*(o+1)+b+al∧12*(o+1)+b+al≤127
 ·have hok:jG l al o=true:=by rw [hin,hv];simpa using hr
  rw [hR hok,(qW hok).2]
  refine Xt ?_
  exact qM
 ·exact axd):p:=h
theorem alg(h:p:=by
 ·split at hx
  ·simp at hx;subst hx;decide
  ·cases hx):p:=h
theorem akI(h:p:=by
 unfold vK;rw [if_neg (fun k=>k hs),if_neg (by omega),if_neg (by omega),if_neg hne]):p:=h
theorem arf(h:p:=by
 have hno:=afp (l:=l) (al:=al) (o:=o) (by unfold wO;omega)
 rw [(vJ hno).1,(vJ hno).2]
 rcases hc with h|h|h|h|h|h
 all_goals
  refine Xt ?_
  exact W.ret (fin2 rfl rfl rfl rfl rfl rfl rfl)):p:=h
theorem axd(h:p:=by
 have hok:jG l al o=false:=by rw [hin,hv];simpa using hr
 rw [(vJ hok).1,(vJ hok).2]
 have hr2:(12*(o+1)+b+al < 0)∨(¬ 12*(o+1)+b+al < 0∧127 < 12*(o+1)+b+al):=by omega
 rcases hr2 with h|h
 all_goals
  refine Xt ?_
  exact W.ret (fin2 rfl rfl rfl rfl rfl rfl rfl)):p:=h
theorem uX(h:p:=by
 refine (?_:Tr _ _ _)
 exact (zqt id)):p:=h
theorem aqL(h:p:=by
 have r:=hR2 0 _ u rfl rfl
 obtain ⟨xs,rfl,q1,q2⟩:∃ xs:Array Value,u=.agg xs∧xs.size=2∧∀ (i:Nat) av u,(mX cs st)[i]?=some av→xs[i]?=some u→RP F av u:=by
  cases r with|ag l cs a b=>exact ⟨cs,rfl,a,b⟩
 have g:∀ i (h:i<2),xs[i]?=some (xs[i]'(by omega)):=fun i h=>uh (by omega)
 obtain ⟨A1,c1,A2,c2,e1,e2,hI⟩:=Fa hF (q2 0 _ _ rfl (g 0 au)) (q2 1 _ _ rfl (g 1 au))
 have ex:xs=#[.slice A1 cs.length c1,.slice A2 st.length c2]:=by
  apply Array.ext (by simp [q1])
  intro i hi hi2
  match i,(show i<2 by omega) with
  | 0,_=>exact e1
  | 1,_=>exact e2
 have ey:us=ys:=xW (G:=⟨F,fun _=>0,fun _=>0,fun _=>undef,fun _ _=>False⟩) hs2 (by simpa using hlen) fun i av u a b=>.pu _ _ (hR2 (i+1) av u (by simpa using a) Qw)
 subst ex ey
 exact (h w A1 A2 c1 c2 hI).mono fun e w' ⟨he,hb⟩=>⟨v,F,he,hb,fun _ _ h=>h,fun p u x=>by rw [hb.cell (aN (hF p u x))];exact hF p u x,fun _ _ h=>.inl h,hv F⟩):p:=h
theorem apb(h:p:=by
 exact (kL (fun q=>q) qc rfl)):p:=h
end
theorem ajN {p q:Prop}(k:q)(h:aP q→p:=by
 intro hq
 repeat (first|refine DK.st rfl ?_|refine DK.ar rfl rfl ao7 ?_|refine DK.cat rfl rfl zU ?_|refine DK.nil ?_)
 exact hq.k):p:=h ⟨k⟩
section
open Go.RowKit
attribute [local go_sem]wC bY gW gV dU
theorem ao7 {z:Int} (h:I64 z:=by unfold I64;omega):I64 z:=h
def zC(s c:Int):Int:=if s=4∨6<c then 0 else c
def vU (s c f:Nat):Bool:=(rS s c f).isEmpty|| (aK s (zC s c) == 0 && rE (Og s (zC s c) (rS s c f)) 1 14 == some (c,f))
theorem adk:((List.range' 1 14).all fun c=>(List.range 19).all fun f=>vU 1 c f)=true:=by decide +kernel
theorem adl:((List.range' 1 14).all fun c=>(List.range 19).all fun f=>vU 2 c f)=true:=by decide +kernel
theorem adn:((List.range' 1 14).all fun c=>(List.range 19).all fun f=>vU 3 c f)=true:=by decide +kernel
theorem ado:((List.range' 1 14).all fun c=>(List.range 19).all fun f=>vU 4 c f)=true:=by decide +kernel
theorem EJ (s c f:Int) (h:vK s c f=0):rS s c f≠[]∧placeOf s (zC s c) (rS s c f)=(c,f,0):=by
 have hs:1≤s∧s≤4:=by
  by_cases hs:1≤s∧s≤4
  ·exact hs
  ·unfold vK at h;rw [if_pos hs]at h;cases h
 have hb:¬ ((c<1∨14<c)∨(f<0∨18<f)):=by
  intro hb
  rw [aad s c f hs hb]at h
  split at h<;>cases h
 have hne:rS s c f≠[]:=by
  intro h0
  unfold vK at h
  rw [if_neg (fun k=>k hs),if_neg (by omega),if_neg (by omega),if_pos h0]at h
  cases h
 refine ⟨hne,?_⟩
 obtain ⟨c,rfl⟩:=gq (show 0≤c by omega)
 obtain ⟨f,rfl⟩:=gq (show 0≤f by omega)
 have hall:((List.range' 1 14).all fun c=>(List.range 19).all fun f=>vU s.toNat c f)=true:=by
  have h4:s=1∨s=2∨s=3∨s=4:=by omega
  rcases h4 with rfl|rfl|rfl|rfl
  ·exact adk
  ·exact adl
  ·exact adn
  ·exact ado
 obtain ⟨s,rfl⟩:=gq (show 0≤s by omega)
 rw [fO,jg]at hall
 have h2:=hall c (List.mem_range'_1.2 au)
 rw [jg]at h2
 have h3:=h2 f (List.mem_range.2 au)
 unfold vU at h3
 have hne':(rS (s:Nat) (c:Nat) (f:Nat)).isEmpty=false:=by simpa using hne
 rw [hne']at h3
 simp only [Tm,aW,qH]at h3
 exact xO h3.1 h3.2
end
section
theorem FV (p:UInt8→Bool):∀ (a a' b b':List UInt8),(∀ x∈a,p x=true)→(∀ x∈a',p x=true)→(∀ x,b.head?=some x→p x=false)→(∀ x,b'.head?=some x→p x=false)→a++b=a'++b'→a=a'∧b=b':=by
 intro a
 induction a with
 | nil =>
  intro a' b b' _ ha' hb _ he
  cases a' with
  | nil=>exact ⟨rfl,he⟩
  | cons y r =>
   have h1:b.head?=some y:=by rw [ug] at he;rw [he];rfl
   have h2:=hb y h1
   rw [ha' y (by simp)] at h2
   cases h2
 | cons x r ih =>
  intro a' b b' ha ha' hb hb' he
  cases a' with
  | nil =>
   have h1:b'.head?=some x:=by rw [ug] at he;rw [← he];rfl
   have h2:=hb' x h1
   rw [ha x (by simp)] at h2
   cases h2
  | cons y r' =>
   rw [zK,zK,List.cons.injEq] at he
   obtain ⟨h1,h2⟩:=he
   obtain ⟨h3,h4⟩:=ih r' b b' (fun z hz=>ha z (by simp [hz])) (fun z hz=>ha' z (by simp [hz])) hb hb' h2
   exact ⟨by rw [h1,h3],h4⟩
def isR(b:UInt8):Bool:=b == 46|| b == 58|| b == 39
def isG(s:Int)(b:UInt8):Bool:=b == 35|| (s == 1 && (b == 44|| b == 94|| b == 40))|| (s == 2 && b == 116)
def isH(s:Int)(b:UInt8):Bool:=if s=1 then b == 95 else b == 42
def isM(s:Int)(b:UInt8):Bool:=isR b|| isG s b|| isH s b
theorem afy:((List.range' 1 4).all fun s=>(List.range' 1 14).all fun c=>(List.range 19).all fun f=>(rS (s:Nat) (c:Nat) (f:Nat)).all fun b=>!isM (s:Nat) b)=true:=by decide +kernel
theorem LQ (s c f:Int)(hs:1≤s∧s≤4)(hc:1≤c∧c≤14)(hf:0≤f∧f≤18):∀ x∈rS s c f,(!isM s x)=true:=by
 obtain⟨s,rfl⟩:=gq (show 0≤s by omega)
 obtain⟨c,rfl⟩:=gq (show 0≤c by omega)
 obtain⟨f,rfl⟩:=gq hf.1
 have h:=afy
 rw [jg]at h
 have h1:=h s (List.mem_range'_1.2 au)
 rw [jg]at h1
 have h2:=h1 c (List.mem_range'_1.2 au)
 rw [jg]at h2
 have h3:=h2 f (List.mem_range.2 au)
 rw [jg]at h3
 exact h3
theorem ZI(s n:Int):∀ x∈rR s n,isR x=true:=by
 intro x hx
 unfold rR at hx
 split at hx
 ·simp at hx;subst hx;rfl
 ·split at hx
  ·simp at hx;subst hx;rfl
  ·split at hx
   ·simp at hx;subst hx;rfl
   ·simp at hx
theorem ZH(s n:Int)(hs:1≤s∧s≤4)(hn:0≤n∧n≤4):∀ x∈rG s n,isG s x=true∧isR x=false:=by
 have s4:s=1∨s=2∨s=3∨s=4:=by omega
 have n4:n=0∨n=1∨n=2∨n=3∨n=4:=by omega
 rcases s4 with rfl|rfl|rfl|rfl<;>rcases n4 with rfl|rfl|rfl|rfl|rfl<;>decide
theorem Si(s n L:Int)(hs:1≤s∧s≤4):∀ x,(pH s n L).head?=some x→isH s x=true∧isG s x=false∧isR x=false:=by
 intro x hx
 have s4:s=1∨s=2∨s=3∨s=4:=by omega
 unfold pH rH at hx
 split at hx
 ·cases hx
 ·rcases s4 with rfl|rfl|rfl|rfl
  ·simp at hx;subst hx;decide
  ·split at hx
   ·cases ‹(2:Int)=1›
   exact alg
  ·simp at hx
  ·split at hx
   ·cases ‹(4:Int)=1›
   exact alg
theorem F5 (s g h L:Int)(hs:1≤s∧s≤4)(hg:0≤g∧g≤4):∀ x,(rG s g++pH s h L).head?=some x→isM s x=true∧isR x=false:=by
 intro x hx
 cases hq:rG s g with
 | nil =>
  rw [hq,ug]at hx
  obtain⟨a,b,c⟩:=Si s h L hs x hx
  exact⟨by unfold isM;rw [a,Bool.or_true],c⟩
 | cons y r =>
  rw [hq]at hx
  have hy:y=x:=by simpa using hx
  obtain⟨a,b⟩:=ZH s g hs hg y (by rw [hq];simp)
  rw [hy]at a b
  exact⟨by unfold isM;rw [a,Bool.or_true,Bool.true_or],b⟩
theorem JM (s r g h L:Int)(hs:1≤s∧s≤4)(hg:0≤g∧g≤4):∀ x,(rR s r++(rG s g++pH s h L)).head?=some x→(!isM s x)=false:=by
 intro x hx
 cases hq:rR s r with
 | nil =>
  rw [hq,ug]at hx
  rw [(F5 s g h L hs hg x hx).1];rfl
 | cons y q =>
  rw [hq]at hx
  have hy:y=x:=by simpa using hx
  have a:=ZI s r y (by rw [hq];simp)
  rw [hy]at a
  unfold isM;rw [a,Bool.true_or,Bool.true_or];rfl
theorem Vs (s r g h r' g' h' L:Int) (hs:1≤s∧s≤4) (hg:0≤g∧g≤4) (hg':0≤g'∧g'≤4) (he:rR s r++(rG s g++pH s h L)=rR s r'++(rG s g'++pH s h' L)) :
  rR s r=rR s r'∧rG s g=rG s g'∧pH s h L=pH s h' L:=by
 obtain ⟨a,b⟩:=FV isR _ _ _ _ (ZI s r) (ZI s r') (fun x hx=>(F5 s g h L hs hg x hx).2) (fun x hx=>(F5 s g' h' L hs hg' x hx).2) he
 obtain ⟨c,d⟩:=FV (isG s) _ _ _ _ (fun x hx=>(ZH s g hs hg x hx).1) (fun x hx=>(ZH s g' hs hg' x hx).1) (fun x hx=>(Si s h L hs x hx).2.1) (fun x hx=>(Si s h' L hs x hx).2.1) b
 exact ⟨a,c,d⟩
theorem afc(s r r':Int)(hs:1≤s∧s≤4)(hr:0≤r∧r≤3)(hr':0≤r'∧r'≤3)(h1:okR s r=true)(h2:okR s r'=true)(he:rR s r=rR s r'):r=r':=by
 have s4:s=1∨s=2∨s=3∨s=4:=by omega
 have n4:r=0∨r=1∨r=2∨r=3:=by omega
 have m4:r'=0∨r'=1∨r'=2∨r'=3:=by omega
 revert h1 h2 he
 rcases s4 with rfl|rfl|rfl|rfl<;>rcases n4 with rfl|rfl|rfl|rfl<;>rcases m4 with rfl|rfl|rfl|rfl<;>decide
theorem adU(s r r':Int)(hs:1≤s∧s≤4)(hr:0≤r∧r≤4)(hr':0≤r'∧r'≤4)(h1:sZ s r=true)(h2:sZ s r'=true)(he:rG s r=rG s r'):r=r':=by
 have s4:s=1∨s=2∨s=3∨s=4:=by omega
 have n4:r=0∨r=1∨r=2∨r=3∨r=4:=by omega
 have m4:r'=0∨r'=1∨r'=2∨r'=3∨r'=4:=by omega
 revert h1 h2 he
 rcases s4 with rfl|rfl|rfl|rfl<;>rcases n4 with rfl|rfl|rfl|rfl|rfl<;>rcases m4 with rfl|rfl|rfl|rfl|rfl<;>decide
theorem agp:((List.range 16).all fun a=>(List.range 16).all fun b=>!(mW a == mW b)|| a == b)=true:=by decide +kernel
theorem ag5 (s h h' L:Int) (hs:1≤s∧s≤4) (hh:0≤h∧h≤15) (hh':0≤h'∧h'≤15) (h1:qN s h L=true) (h2:qN s h' L=true) (he:pH s h L=pH s h' L):h=h':=by
 have ne:∀ k:Int,k≠0→qN s k L=true→pH s k L≠[]∧pH s k L=rH s k L:=by
  intro k hk ho
  have e:pH s k L=rH s k L:=if_neg hk
  unfold qN at ho
  have hb:(k == 0)=false:=by simpa using hk
  rw [hb,Tm]at ho
  refine ⟨?_,e⟩
  rw [e]
  intro h0
  rw [h0]at ho
  cases ho
 by_cases z:h=0
 ·by_cases z':h'=0
  ·rw [z,z']
  ·have:pH s h L=[]:=if_pos z
   exact absurd (he.symm.trans this) (ne h' z' h2).1
 ·by_cases z':h'=0
  ·have:pH s h' L=[]:=if_pos z'
   exact absurd (he.trans this) (ne h z h1).1
  ·obtain ⟨a1,a2⟩:=ne h z h1
   obtain ⟨b1,b2⟩:=ne h' z' h2
   rw [a2,b2]at he
   rw [a2]at a1
   rw [b2]at b1
   unfold rH at he a1 b1
   by_cases s1:s=1
   ·rw [if_pos s1,if_pos s1,List.cons.injEq]at he
    have hd:=agp
    rw [jg]at hd
    have hd1:=hd h.toNat (List.mem_range.2 au)
    rw [jg]at hd1
    have hd2:=hd1 h'.toNat (List.mem_range.2 au)
    rw [he.2]at hd2
    simp at hd2
    omega
   ·rw [if_neg s1]at a1 b1
    by_cases q:(s=2∨s=4)∧h=L
    ·by_cases q':(s=2∨s=4)∧h'=L
     ·rw [q.2,q'.2]
     ·rw [if_neg q']at b1;exact absurd rfl b1
    ·rw [if_neg q]at a1;exact absurd rfl a1
theorem SN (s aT c:Int)(hs:aK s aT=0)(h:ig s aT c=true):aT=zC s c:=by
 have hk:¬ ¬ (1≤s∧s≤4):=by intro k;unfold aK at hs;rw [if_pos k]at hs;cases hs
 unfold aK at hs
 rw [if_neg hk]at hs
 have hb:¬ ((aT<0∨6<aT)∨(s=4∧aT≠0)):=by intro k;rw [if_pos k]at hs;cases hs
 unfold ig at h
 unfold zC
 by_cases h0:0<aT
 ·rw [if_pos h0]at h
  have:c=aT:=by simpa using h
  rw [if_neg (by omega)];exact this.symm
 ·rw [if_neg h0]at h
  have h':s=4∨6<c:=by simpa using h
  rw [if_pos h'];omega
theorem agc (s aT c f r g h c' f' r' g' h' L:Int) (hsp:aK s aT=0) (hc:1≤c∧c≤14) (hf:0≤f∧f≤18) (hr:0≤r∧r≤3) (hg:0≤g∧g≤4) (hh:0≤h∧h≤15)
  (hc':1≤c'∧c'≤14) (hf':0≤f'∧f'≤18) (hr':0≤r'∧r'≤3) (hg':0≤g'∧g'≤4) (hh':0≤h'∧h'≤15)
  (hst:ig s aT c=true) (hst':ig s aT c'=true) (ho:dK s c f r g h L=true) (ho':dK s c' f' r' g' h' L=true) (he:cellS s c f r g h L=cellS s c' f' r' g' h' L) :
  c=c'∧f=f'∧r=r'∧g=g'∧h=h':=by
 have hs:1≤s∧s≤4:=by
  by_cases k:1≤s∧s≤4
  ·exact k
  ·unfold aK at hsp;rw [if_pos k] at hsp;cases hsp
 simp only [dK,aW] at ho ho'
 obtain ⟨l1,l2⟩:=qm s c f hs hc hf
 obtain ⟨m1,m2⟩:=qm s c' f' hs hc' hf'
 unfold cellS at he
 rw [l2 ho.1.1.1,m2 ho'.1.1.1,jA,jA,jA,jA] at he
 obtain ⟨a,b⟩:=FV (fun x=>!isM s x) _ _ _ _ (LQ s c f hs hc hf) (LQ s c' f' hs hc' hf') (JM s r g h L hs hg) (JM s r' g' h' L hs hg') he
 obtain ⟨x,y,z⟩:=Vs s r g h r' g' h' L hs hg hg' b
 have e0:vK s c f=0:=by
  have hne:rS s c f≠[]:=by intro k;rw [k] at l1;rw [l1] at ho;simp at ho
  exact akI
 have e0':vK s c' f'=0:=by
  have hne:rS s c' f'≠[]:=by intro k;rw [k] at m1;rw [m1] at ho';simp at ho'
  exact akI
 have p1:=(EJ s c f e0).2
 have p2:=(EJ s c' f' e0').2
 rw [← SN s aT c hsp hst,a] at p1
 rw [← SN s aT c' hsp hst',p1] at p2
 simp only [Prod.mk.injEq,and_true] at p2
 exact ⟨p2.1,p2.2,afc s r r' hs hr hr' ho.1.1.2 ho'.1.1.2 x,adU s g g' hs hg hg' ho.1.2 ho'.1.2 y,ag5 s h h' L hs hh hh' ho.2 ho'.2 z⟩
end
section
open Go.RowKit
theorem Hf (l al o:Int):kJ LU Tryz.prog 173 [.ag [.sc (.int .i64 l),.sc (.int .i64 al),.sc (.int .i64 o)]] (.tu [.sc (.int .i64 (afq l al o)),.sc (.int .i64 (ai1 l al o))]):=by
 refine kJ.intro LP Tryz.func173 rfl Tryz.ntmps173 (bU rfl) (gG rfl) fun w0 F0 hB=>?_;dsimp only [St.init,number,Nat.reduceAdd]
 have hc:(l < 0∨(¬ l < 0∧7≤l)∨(¬ l < 0∧¬ 7≤l∧al < -1)∨(¬ l < 0∧¬ 7≤l∧¬ al < -1∧1 < al)∨(¬ l < 0∧¬ 7≤l∧¬ al < -1∧¬ 1 < al∧o < -1)∨(¬ l < 0∧¬ 7≤l∧¬ al < -1∧¬ 1 < al∧¬ o < -1∧9 < o))∨wO l al o:=by unfold wO;omega
 rcases hc with hc|hc
 ·exact arf
 ·obtain ⟨⟨h1,h2⟩,⟨h3,h4⟩,h5,h6⟩:=id hc
  have hbd:=QK ⟨h1,h2⟩
  have htab:=Qg ⟨h1,h2⟩
  have hin:=WW hc
  have hv:yO l al o=12*(o+1)+vg l+al:=rfl
  have hR:jG l al o=true→afq l al o=12*(o+1)+vg l+al:=fun h=>(qW h).1
  obtain ⟨b,hb⟩:∃ b,vg l=b:=⟨_,rfl⟩
  rw [hb] at hbd htab hv hR
  refine Xt ?_
  refine iF ?_
  repeat (first|refine DK.st rfl ?_|refine DK.ar rfl rfl ao7 ?_|refine DK.nil ?_)
  refine DK.glob hB rfl rfl ⟨h1,by omega⟩ htab rfl ?_
  repeat (first|refine DK.st rfl ?_|refine DK.ar rfl rfl ao7 ?_|refine DK.nil ?_)
  exact alz
theorem aij (p key:Int):kJ LU Tryz.prog 106 [.sc (.int .i64 p),.sc (.int .i64 key)] (.tu [eSp (yP p key),.sc (.int .i64 (spX p key))]):=by
 refine kJ.intro LP Tryz.func106 rfl Tryz.ntmps106 (bU rfl) (gG rfl) fun w0 F0 hB=>?_;dsimp only [St.init,number,Nat.reduceAdd]
 by_cases hp:0≤p∧p≤127
 rotate_left
 ·rw [(WZ hp).1,(WZ hp).2]
  have hp2:p < 0∨(¬ p < 0∧127 < p):=by omega
  rcases hp2 with h|h
  all_goals
   refine wZ ?_
   exact W.ret (Yt rfl rfl rfl rfl)
 by_cases hk:-4≤key∧key≤4
 rotate_left
 ·rw [(ai2 hp hk).1,(ai2 hp hk).2]
  have hk2:key < -4∨(¬ key < -4∧4 < key):=by omega
  rcases hk2 with h|h
  all_goals
   refine wZ ?_
   exact W.ret (Yt rfl rfl rfl rfl)
 refine wZ ?_
 refine W.loop (fun k:Nat=>k≤7∧∀ m,m < 3*k→spN p key m=false) (fun k=>⟨[(0,.sc (.int .i64 p)),(1,.sc (.int .i64 key)),(4,.pt 0 0 0),(27,.sc (.int .i64 k))],[(0,.box 182 [.sc (.int .i64 0),.sc (.int .i64 0),.sc (.int .i64 0)])],1⟩) (fun k=>7 - k) 0 ⟨by omega,by omega⟩ (zqt id) fun k hk0=>?_
 obtain ⟨hk7,hno⟩:=hk0
 by_cases hlt:k < 7
 rotate_left
 ·have hn:spP p key=none:=by unfold spP;rw [am0 fun m hm=>hno m (by omega)];rfl
  rw [(acE hp hk hn).1,(acE hp hk hn).2]
  refine wZ ?_
  exact kC
 refine wZ ?_
 refine W.loop (fun j:Nat=>j≤3∧∀ m,m < 3*k+j→spN p key m=false) (fun j=>⟨[(0,.sc (.int .i64 p)),(1,.sc (.int .i64 key)),(4,.pt 0 0 0),(6,.sc (.int .i64 k)),(7,.sc (.int .i64 ((j:Int) - 1))),(27,.sc (.int .i64 k))],[(0,.box 182 [.sc (.int .i64 0),.sc (.int .i64 0),.sc (.int .i64 0)])],1⟩) (fun j=>3 - j) 0 ⟨by omega,by simpa using hno⟩ (zqt id) fun j hj0=>?_
 obtain ⟨hj3,ag2⟩:=hj0
 by_cases hj:j < 3
 rotate_left
 ·refine wZ ?_
  refine ⟨k+1,⟨by omega,fun m hm=>ag2 m au⟩,by omega,?_⟩
  exact (zqt id)
 have hl:0≤(k:Int)∧(k:Int)≤6:=by omega
 have htf:=aah hl
 have htb:=Qg hl
 have hfb:=asg hl
 have hbb:=QK hl
 have e3:(3*k+j)/3=k:=by omega
 have e4:(3*k+j) % 3=j:=by omega
 have hN:spN p key (3*k+j)=(decide (key - 3≤ftV k+7*((j:Int) - 1)∧ftV k+7*((j:Int) - 1)≤key+8) && (jG k ((j:Int) - 1) ((p - ((j:Int) - 1) - vg k+12)/12 - 2) && decide (yO k ((j:Int) - 1) ((p - ((j:Int) - 1) - vg k+12)/12 - 2)=p))):=by
  unfold spN spC apX spO;rw [e3,e4]
 have hfound:spN p key (3*k+j)=true→spP p key=some ((k:Int),(j:Int) - 1,(p - ((j:Int) - 1) - vg k+12)/12 - 2):=fun h=>by
  unfold spP
  rw [amZ ag2 h (by omega)]
  unfold spO
  simp only [oM,e3,e4]
 have hnext:spN p key (3*k+j)=false→∀ m,m < 3*k+(j+1)→spN p key m=false:=fun h m hm=>by
  by_cases e:m=3*k+j
  ·rw [e];exact h
  ·exact ag2 m au
 have hS:=Hf k ((j:Int) - 1) ((p - ((j:Int) - 1) - vg k+12)/12 - 2)
 obtain ⟨fv,hfv⟩:∃ z,ftV k=z:=⟨_,rfl⟩
 obtain ⟨bv,hbv⟩:∃ z,vg k=z:=⟨_,rfl⟩
 rw [hfv] at htf hfb hN
 rw [hbv] at htb hbb hN hS hfound
 obtain ⟨al,hal⟩:∃ z,(j:Int) - 1=z:=⟨_,rfl⟩
 have hal2:al+1=((j+1:Nat):Int) - 1:=by omega
 rw [hal] at hN hS hfound ⊢
 by_cases hw:key - 3≤fv+7*al∧fv+7*al≤key+8
 rotate_left
 ·rw [cZ hw,Bool.false_and] at hN
  have hw2:fv+7*al < key - 3∨(¬ fv+7*al < key - 3∧key+8 < fv+7*al):=by omega
  rcases hw2 with h|h
  all_goals
   refine wZ ?_
   refine WL.glob hB rfl rfl ⟨by omega,by omega⟩ htf rfl ?_
   refine wZ ?_
   refine ⟨j+1,⟨by omega,hnext hN⟩,by omega,?_⟩
   rw [← hal2]
   exact (zqt id)
 rw [dG hw,L8] at hN
 refine wZ ?_
 refine WL.glob hB rfl rfl ⟨by omega,by omega⟩ htf rfl ?_
 refine wZ ?_
 refine WL.glob hB rfl rfl ⟨by omega,by omega⟩ htb rfl ?_
 refine wZ ?_
 refine WL.vl rfl (WV.eH hB rfl (ak Tryz.func173 rfl rfl) rfl rfl hS) ?_
 obtain ⟨oc,hoc⟩:∃ z,(p - al - bv+12)/12 - 2=z:=⟨_,rfl⟩
 rw [hoc] at hN hfound ⊢
 cases hok:jG k al oc with
 | false =>
  rw [hok,Bool.false_and] at hN
  rw [(vJ hok).1,(vJ hok).2]
  exact alK
 | true =>
  rw [hok,L8] at hN
  rw [(qW hok).1,(qW hok).2]
  by_cases hv:yO k al oc=p
  ·rw [dG hv] at hN
   have hr:=acF hp hk (hfound hN)
   rw [hr.1,hr.2]
   refine wZ ?_
   exact kC
  ·rw [cZ hv] at hN
   exact alK
theorem aU.ah3 {P:Program} {f:FuncId} {cs:List (Int×Int×Bool)} {st:List Int} {post:List AV} {ys:List Value} {res:AV} {v:Value} (hs2:EG post=some ys) (hv:∀ F,RP F res v)
  (h:∀ w A1 A2 c1 c2,jq w w.heap.size A1 A2 cs st→Calls P f (.agg #[.slice A1 cs.length c1,.slice A2 st.length c2]::ys).toArray w (eG v w)):aU P f (.ag (mX cs st)::post) res:=by
 intro w F vs hF hR
 match vs,hR.1,hR.2 with
 | u::us,hlen,hR2 =>
  exact aqL
theorem D5 (cs:List (Int×Int×Bool))(st:List Int):aU Tryz.prog 103 [.ag (mX cs st)] (.sc (.int .i64 (fU cs st))) :=
 aU.ah3 (post:=[]) rfl (fun _=>.sc _) fun w A1 A2 c1 c2 hI=>JI A1 A2 cs st cs.length st.length c1 c2 w hI rfl rfl
theorem Sl (cs:List (Int×Int×Bool))(st:List Int):aU Tryz.prog 56 [.ag (mX cs st)] (.sc (.int .i64 (fU cs st))) :=
 aU.ah3 (post:=[]) rfl (fun _=>.sc _) fun w A1 A2 c1 c2 hI=>ae5 A1 A2 cs st cs.length st.length c1 c2 w hI rfl rfl
theorem amS {l:Int}:(cut YT l (l+1)).length≤1:=by simp only [cut,fP,yB];omega
theorem aoM(al:Int):(sgn al).length≤1:=by unfold sgn;split<;>(try split)<;>simp
theorem aie (l al o:Int):kJ LU Tryz.prog 107 [.ag [.sc (.int .i64 l),.sc (.int .i64 al),.sc (.int .i64 o)]] (.tu [.sc (.string (bs (nmA l al o))),.sc (.int .i64 (ai1 l al o))]):=by
 refine kJ.intro LP Tryz.func107 rfl Tryz.ntmps107 (bU rfl) (gG rfl) fun w0 F0 hB=>?_;dsimp only [St.init,number,Nat.reduceAdd]
 refine Ey ?_
 refine WL.vl rfl (WV.eH hB rfl (ak Tryz.func173 rfl rfl) rfl rfl (Hf l al o)) ?_
 cases hok:jG l al o with
 | false =>
  have hn:nmA l al o=[]:=if_neg (by simp [hok])
  rw [(vJ hok).1,(vJ hok).2,hn]
  refine oQ ?_
  exact qM
 | true =>
  have hn:nmA l al o=cut YT l (l+1)++sgn al++Lib.itoa o:=if_pos hok
  obtain ⟨⟨⟨h1,h2⟩,⟨h3,h4⟩,h5,h6⟩,hv⟩:=LH hok
  rw [(qW hok).1,(qW hok).2,hn]
  have hl1:(cut [67,68,69,70,71,65,66] l (l+1)).length≤1:=amS (l:=l)
  have hl2:=aoM al
  have hl3:=vY (n:=o) au
  have hcb:0≤l∧l≤l+1∧l+1≤(YT.length:Int):=⟨h1,by omega,by simp [YT];omega⟩
  have hI:=YQ o ao7
  have NV:(cut [67,68,69,70,71,65,66] l (l+1)++sgn al).length≤2:=by rw [aY];omega
  obtain ⟨io,hio⟩:∃ z,Lib.itoa o=z:=⟨_,rfl⟩
  rw [hio] at hl3 hI ⊢
  have arS:(al=1∧sgn al=[35])∨(al≠1∧al=-1∧sgn al=[98])∨(al≠1∧al≠-1∧sgn al=[]):=by
   unfold sgn
   by_cases h1:al=1
   ·exact .inl ⟨h1,if_pos h1⟩
   ·by_cases h2:al=-1
    ·exact .inr (.inl ⟨h1,h2,by rw [if_neg h1,if_pos h2]⟩)
    ·exact .inr (.inr ⟨h1,h2,by rw [if_neg h1,if_neg h2]⟩)
  rcases arS with ⟨h1,hs⟩|⟨h1,h2,hs⟩|⟨h1,h2,hs⟩
  all_goals
   rw [hs] at NV hl2 ⊢
   refine oQ ?_
   refine iF ?_
   refine ajN ?_
   refine DK.vl rfl (zZ rfl hcb) ?_
   refine ajN ?_
   refine DK.vl rfl (WV.eH hB rfl (ak Tryz.func108 rfl rfl) rfl rfl hI) ?_
   refine ajN ?_
   refine oQ ?_
   exact W.ret (fin2 rfl rfl rfl rfl rfl rfl rfl)
end
end Go.Proofs.YthehkchjdkdbiaaGreatDoor
