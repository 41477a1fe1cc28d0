/- Numbers: the program. -/
import Derived.Test.YthohlofpphjofaaGreatDoorOncLq
import Derived.Test.YthohlofpphjofaaGreatDoorStfLq
set_option maxHeartbeats 4000000
set_option maxRecDepth 100000
set_option linter.unusedVariables false
set_option linter.unusedSimpArgs false
namespace Go.Proofs.YthohlofpphjofaaGreatDoor
section
variable {p:Prop}
theorem anu(h:p:=by
 rw [hbad (by omega)];refine kS ?_;simp only [ek,hcc];exact ab4):p:=h
theorem anf(h:p:=by
 refine ⟨k+1,by omega,by omega,?_⟩;rw [h1,h2];exact ano):p:=h
theorem am7(h:p:=by
 refine N9 ?_;refine WL.cut rfl rfl hc ?_;refine N9 ?_;exact ase):p:=h
theorem amW(h:p:=by
 rw [e];refine dV Tryz.func99 Tryz.ntmps99 λw0 F0=>?_;dsimp only [St.init,number,Nat.reduceAdd];refine kG ?_;exact gZ):p:=h
theorem amV(h:p:=by
 rw [e];refine dV Tryz.func160 Tryz.ntmps160 λw0 F0=>?_;dsimp only [St.init,number,Nat.reduceAdd];refine kG ?_;exact gZ):p:=h
theorem ab4(h:p:=by
 refine kS ?_;simp only [ek,hcc];refine kG ?_;exact gZ):p:=h
theorem amQ(h:p:=by
 obtain rfl:k=w.length:=by omega
 have hg:=I8 w 0 λb hb=>by exact avC
 have hv:lZ w w.length=w.foldl (λa b=>10*a+(b.toNat - 48)) 0:=by unfold lZ;rw [jw]
 rw [hg,← hv];refine kG ?_;exact gZ):p:=h
theorem avC(h:p:=by
 obtain ⟨j,hj,rfl⟩:=List.mem_iff_getElem.1 hb;exact hall j hj hj):p:=h
theorem Jt(h:p:=by
 by_cases e:j=k;.subst e;exact h
 .exact hall j hj au):p:=h
theorem ash(h:p:=by
 have h10:(10:Nat) ^ k<=10 ^ 2:=Nat.pow_le_pow_right au au;have:∀ k,k<=w.length->(∀ j (hj:j < w.length),j < k->48<=w[j].toNat/\w[j].toNat<=57)->lZ w k < 10 ^ k:=λk=>by induction k with
  | zero=>intro _ _;simp [lZ]| succ k ih =>
   intro hk' ha;have i1:=ih au λj hj hjk=>ha j hj au;have i2:=ha k au au;rw [yP (by omega),Nat.pow_succ];omega
 have:=this k hk hall;have e2:(10:Nat) ^ 2=100:=rfl;omega):p:=h
theorem ase(h:p:=by
 refine ⟨k+1,by omega,by omega,?_⟩;rw [h1,h2,hmap];exact (ku (λq=>bif Nat.beq q 0 then 2 else q) mJ rfl)):p:=h
end
section
open Go.RowKit
def vZ (c:UInt8)(e:Nat)(t:List UInt8)(k:Nat):Bool:=decide (k=e)|| (t.getD k 0 == c)
def pO(c:UInt8)(e:Nat)(t:List UInt8):Nat->Nat
 | 0=>0| k+1=>if vZ c e t k then k+1 else pO c e t k
def sJ (c:UInt8) (e:Nat) (t:List UInt8):Nat->List (List UInt8)
 | 0=>[]| k+1=>if vZ c e t k then sJ c e t k++[cut t ((pO c e t k:Nat):Int) ((k:Nat):Int)]else sJ c e t k
theorem MN(c:UInt8)(e:Nat)(t:List UInt8):∀ k,pO c e t k<=k
 | 0=>Nat.le_refl _| k+1=>by
  have:=MN c e t k;unfold pO;split<;>omega
theorem Hq(c:UInt8)(e:Nat)(t:List UInt8):∀ k,(sJ c e t k).length<=k
 | 0=>Nat.le_refl _| k+1=>by
  have:=Hq c e t k;unfold sJ;split;.simp;omega
  .omega
theorem xU {c:UInt8} {e:Nat} {t:List UInt8} {k:Nat} (h:vZ c e t k=true):pO c e t (k+1)=k+1/\sJ c e t (k+1)=sJ c e t k++[cut t ((pO c e t k:Nat):Int) ((k:Nat):Int)] :=⟨if_pos h,if_pos h⟩
theorem JV {c:UInt8} {e:Nat} {t:List UInt8} {k:Nat} (h:vZ c e t k=false):pO c e t (k+1)=pO c e t k/\sJ c e t (k+1)=sJ c e t k :=⟨if_neg CZ,if_neg CZ⟩
theorem apW (c:UInt8) (t:List UInt8) (k:Nat):aC c ((t.take k).foldl (iE c) ([],[])).1 ((t.take k).foldl (iE c) ([],[])).2=t.take k:=(yO c (t.take k) [] []).trans rfl
theorem DU (c:UInt8) (t:List UInt8) {k:Nat} (h:k<=t.length):((t.take k).foldl (iE c) ([],[])).2.length<=k/\cut t ((k-((t.take k).foldl (iE c) ([],[])).2.length:Nat):Int) ((k:Nat):Int)=((t.take k).foldl (iE c) ([],[])).2:=by
 have hj:=apW c t k;obtain ⟨ls,hls⟩:∃ z,((t.take k).foldl (iE c) ([],[])).1=z:=⟨_,rfl⟩;obtain ⟨cu,hcu⟩:∃ z,((t.take k).foldl (iE c) ([],[])).2=z:=⟨_,rfl⟩;rw [hls,hcu]at hj;rw [hcu];obtain ⟨X,hX⟩:∃ z,(ls.flatMap λl=>l++[c])=z:=⟨_,rfl⟩;have e:t.take k=X++cu:=by rw [← hj,← hX];rfl
 have hl:k=X.length+cu.length:=by
  have:=congrArg List.length e;rw [jT,dS]at this;omega
 refine ⟨by omega,?_⟩;unfold cut;rw [gy,gy,show k-cu.length=X.length by omega,show k-X.length=cu.length by omega];have e2:t=X++cu++t.drop k:=by rw [← e,NI]
 rw [e2,vg,Yv,List.take_left]
theorem MO {c:UInt8} {e:Nat} {t:List UInt8}:∀ k,k<=t.length->k<=e->sJ c e t k=((t.take k).foldl (iE c) ([],[])).1/\pO c e t k=k-((t.take k).foldl (iE c) ([],[])).2.length
 | 0,_,_=>by simp [sJ,pO]| k+1,h,he=>by
  obtain ⟨h1,h2⟩:=MO (c:=c) (e:=e) (t:=t) k au au;have hc:=DU c t (k:=k) au;have hk:k<t.length:=by omega
  rw [kF hk,QV];obtain ⟨s,hs⟩:∃ z,(t.take k).foldl (iE c) ([],[])=z:=⟨_,rfl⟩;rw [hs] at h1 h2 hc ⊢;have hg:t.getD k 0=t[k]:=by rw [dL,aO hk];rfl
  by_cases hb:t[k]=c
  .have hp:vZ c e t k=true:=by unfold vZ;rw [hg,hb];simp
   rw [(xU hp).1,(xU hp).2,h1,h2,hc.2];simp [iE,hb]
  .have hp:vZ c e t k=false:=by unfold vZ;rw [hg];simp [hb];omega
   rw [(JV hp).1,(JV hp).2,h1,h2];simp [iE,hb]
theorem XY {c:UInt8} {e:Nat} {t:List UInt8} {k:Nat} (hk:k<t.length)(hke:k≠e):vZ c e t k=decide (((t.getD k 0).toNat:Int)=(c.toNat:Int)):=by
 unfold vZ;rw [bW hke,Q5];by_cases h:t.getD k 0=c;.rw [h];simp
 .have:(t.getD k 0).toNat≠c.toNat:=λe=>h (UInt8.toNat_inj.1 e);rw [bW (by omega)];simpa using h
theorem TY (t:List UInt8):sJ 32 t.length t (t.length+1)=aZ 32 t:=by
 have hp:vZ 32 t.length t t.length=true:=by unfold vZ;simp
 obtain ⟨h1,h2⟩:=MO (c:=32) (e:=t.length) (t:=t) t.length (Nat.le_refl _) (Nat.le_refl _);have hc:=DU 32 t (k:=t.length) (Nat.le_refl _);rw [(xU hp).2,h2,hc.2,h1,jw];rfl
theorem TV (t:List UInt8):sJ 10 (t.length+1) t t.length=(aH 10 t).1/\pO 10 (t.length+1) t t.length=t.length-(aH 10 t).2.length/\(aH 10 t).2.length<=t.length/\cut t ((t.length-(aH 10 t).2.length:Nat):Int) (t.length:Int)=(aH 10 t).2:=by
 obtain ⟨h1,h2⟩:=MO (c:=10) (e:=t.length+1) (t:=t) t.length (Nat.le_refl _) au;have hc:=DU 10 t (k:=t.length) (Nat.le_refl _);rw [jw] at h1 h2 hc;exact ⟨h1,h2,hc.1,hc.2⟩
theorem Qz (t:List UInt8) (hl:t.length<=1000000):bC Tryz.prog 97 [.sc (.string (bs t))] (.ls 1 ((aZ 32 t).map aX)):=by
 rw [← TY];refine dV Tryz.func97 Tryz.ntmps97 λw0 F0=>?_;dsimp only [St.init,number,Nat.reduceAdd];refine N9 ?_;refine W.tr (Tr.nil (t:=3) 9 1 rfl rfl) ?_;refine W.loop (λk:Nat=>k<=t.length+1) (λk=>⟨[(0,.sc (.string (bs t))),(3,.sl 0),(4,.sc (.int .i64 (pO 32 t.length t k:Nat))),(5,.sc (.int .i64 k))],[(0,.row 9 1 ((sJ 32 t.length t k).map aX))],1⟩) (λk=>t.length+1 - k) 0 au (zqt id) λk hk=>?_;have hf:=MN 32 t.length t k;have hr:=Hq 32 t.length t k;by_cases hlt:k < t.length+1;rotate_left
 .obtain rfl:k=t.length+1:=by omega
  refine N9 ?_;refine W.tr (Tr.freeze 0 rfl) ?_;exact W.ret kR
 have ek:((k:Nat):Int).toNat=k:=gy k;have hmap:∀ x,((sJ 32 t.length t k++[x]).map aX)=(sJ 32 t.length t k).map aX++[aX x]:=λx=>by rw [iC];rfl
 by_cases he:k=t.length
 .have hp:vZ 32 t.length t k=true:=by unfold vZ;simp [he]
  obtain ⟨h1,h2⟩:=xU hp;clear hp;obtain ⟨fr,hfr⟩:∃ z,pO 32 t.length t k=z:=⟨_,rfl⟩;rw [hfr] at hf h2 ⊢;have hc:0<=((fr:Nat):Int)/\((fr:Nat):Int)<=(k:Int)/\(k:Int)<=(t.length:Int):=by omega
  exact am7
 have hlt2:k < t.length:=by omega
 have hpe:=XY (c:=32) hlt2 he;obtain ⟨RY,hby⟩:∃ z,((t.getD k 0).toNat:Int)=z:=⟨_,rfl⟩;rw [hby] at hpe;by_cases hb:RY=32
 .obtain ⟨h1,h2⟩:=xU (hpe.trans (bQ hb));obtain ⟨fr,hfr⟩:∃ z,pO 32 t.length t k=z:=⟨_,rfl⟩;rw [hfr] at hf h2 ⊢;have hc:0<=((fr:Nat):Int)/\((fr:Nat):Int)<=(k:Int)/\(k:Int)<=(t.length:Int):=by omega
  refine N9 ?_;refine FY ?_;simp only [ek,hby];exact am7
 .obtain ⟨h1,h2⟩:=JV (hpe.trans (bW hb));obtain ⟨fr,hfr⟩:∃ z,pO 32 t.length t k=z:=⟨_,rfl⟩;rw [hfr] at hf h1 ⊢;refine N9 ?_;refine FY ?_;simp only [ek,hby];refine N9 ?_;exact anf
theorem Qx (t:List UInt8) (hl:t.length<=1000000):bC Tryz.prog 16 [.sc (.string (bs t))] (.tu [.ls 1 ((if (aH 10 t).2=[] then (aH 10 t).1 else (aH 10 t).1++[(aH 10 t).2]).map aX),.sc (.bool (decide ((aH 10 t).2=[])))]):=by
 obtain ⟨q1,q2,q3,q4⟩:=TV t;obtain ⟨tl,htl⟩:∃ z,(aH 10 t).2=z:=⟨_,rfl⟩;obtain ⟨lz,hlz⟩:∃ z,(aH 10 t).1=z:=⟨_,rfl⟩;rw [htl] at q2 q3 q4 ⊢;rw [hlz] at q1 ⊢;refine dV Tryz.func16 Tryz.ntmps16 λw0 F0=>?_;dsimp only [St.init,number,Nat.reduceAdd];refine FU ?_;refine W.tr (Tr.nil (t:=2) 9 1 rfl rfl) ?_;refine W.loop (λk:Nat=>k<=t.length) (λk=>⟨[(0,.sc (.string (bs t))),(2,.sl 0),(4,.sc (.int .i64 (pO 10 (t.length+1) t k:Nat))),(5,.sc (.int .i64 k))],[(0,.row 9 1 ((sJ 10 (t.length+1) t k).map aX))],1⟩) (λk=>t.length - k) 0 au (zqt id) λk hk=>?_;have hf:=MN 10 (t.length+1) t k;have hr:=Hq 10 (t.length+1) t k;have hmap:∀ (a:List (List UInt8)) x,((a++[x]).map aX)=a.map aX++[aX x]:=λa x=>by rw [iC];rfl
 by_cases hlt:k < t.length;rotate_left
 .obtain rfl:k=t.length:=by omega
  rw [q1] at hr ⊢;rw [q2] at hf ⊢;by_cases h0:tl=[]
  .subst h0;rw [if_pos rfl,bQ rfl,AA,CP];refine FU ?_;refine W.tr (Tr.freeze 0 rfl) ?_;exact gZ
  .rw [if_neg h0,bW h0,hmap];have hp:0 < tl.length:=List.length_pos_iff.2 h0;obtain ⟨fr,hfr⟩:∃ z,t.length - tl.length=z:=⟨_,rfl⟩;rw [hfr] at q4 hf ⊢;have hc:0<=((fr:Nat):Int)/\((fr:Nat):Int)<=(t.length:Int)/\(t.length:Int)<=(t.length:Int):=by omega
   refine FU ?_;refine WL.cut rfl rfl hc ?_;rw [q4];refine FU ?_;refine W.tr (Tr.freeze 2 rfl) ?_;exact gZ
 have ek:((k:Nat):Int).toNat=k:=gy k;have hpe:=XY (c:=10) (e:=t.length+1) hlt au;obtain ⟨RY,hby⟩:∃ z,((t.getD k 0).toNat:Int)=z:=⟨_,rfl⟩;rw [hby] at hpe;by_cases hb:RY=10
 .obtain ⟨h1,h2⟩:=xU (hpe.trans (bQ hb));obtain ⟨fr,hfr⟩:∃ z,pO 10 (t.length+1) t k=z:=⟨_,rfl⟩;rw [hfr] at hf h2 ⊢;have hc:0<=((fr:Nat):Int)/\((fr:Nat):Int)<=(k:Int)/\(k:Int)<=(t.length:Int):=by omega
  refine FU ?_;refine FY ?_;simp only [ek,hby];refine FU ?_;refine WL.cut rfl rfl hc ?_;refine FU ?_;exact ase
 .obtain ⟨h1,h2⟩:=JV (hpe.trans (bW hb));obtain ⟨fr,hfr⟩:∃ z,pO 10 (t.length+1) t k=z:=⟨_,rfl⟩;rw [hfr] at hf h1 ⊢;refine FU ?_;refine FY ?_;simp only [ek,hby];refine FU ?_;exact anf
theorem I8:∀ (w:List UInt8)(n:Nat),(∀ b∈w,48<=b.toNat/\b.toNat<=57)->tK n w=some (w.foldl (λa b=>10*a+(b.toNat-48)) n)
 | [],n,_=>rfl| b::r,n,h=>by rw [tK,if_pos (h b (by simp)),I8 r _ λx hx=>h x (by simp [hx])];rfl
theorem Ag:∀ (w:List UInt8) (n:Nat) (k:Nat) (hk:k<w.length),¬ (48<=w[k].toNat/\w[k].toNat<=57)->tK n w=none
 | b::r,n,0,_,h=>by rw [tK,if_neg yj]| b::r,n,k+1,hk,h=>by
  rw [tK];split;.exact Ag r _ k FX yj
  .rfl
def lZ (w:List UInt8)(k:Nat):Nat:=(w.take k).foldl (λa b=>10*a+(b.toNat-48)) 0
theorem yP {w:List UInt8} {k:Nat} (hk:k<w.length):lZ w (k+1)=10*lZ w k+(w[k].toNat-48):=by
 unfold lZ;rw [kF hk,QV];rfl
theorem L9 (w:List UInt8) (hl:w.length<=1000000):bC Tryz.prog 99 [.sc (.string (bs w))] (.tu [.sc (.int .i64 (((bU w).getD 0:Nat):Int)),.sc (.bool (bU w).isSome)]):=by
 by_cases h1:w.length < 1
 .have e:bU w=none:=if_pos (.inl h1);exact amW
 by_cases h2:3 < w.length
 .have e:bU w=none:=if_pos (.inr (.inl h2));exact amW
 have ez:((0:Int)).toNat=0:=rfl;have hz:((w.getD 0 0).toNat:Int)=48↔w.getD 0 0=48:=⟨λh=>UInt8.toNat_inj.1 (by show _=48;omega),λh=>by rw [h];rfl⟩;obtain ⟨b0,hb0⟩:∃ z,((w.getD 0 0).toNat:Int)=z:=⟨_,rfl⟩;rw [hb0] at hz;by_cases h3:b0=48/\1 < w.length
 .have e:bU w=none:=if_pos (.inr (.inr ⟨hz.1 h3.1,h3.2⟩));rw [e];obtain ⟨h4,h5⟩:=h3;refine dV Tryz.func99 Tryz.ntmps99 λw0 F0=>?_;dsimp only [St.init,number,Nat.reduceAdd];refine kS ?_;simp only [ez,hb0];refine kG ?_;exact gZ
 have e:bU w=tK 0 w:=if_neg (by
  rintro (h|h|h);.exact h1 h
  .exact h2 h
  .exact h3 ⟨hz.2 h.1,h.2⟩);rw [e];have key:∀ {Q:Prop},(b0≠48->Q)->(b0=48->w.length<=1->Q)->Q:=λ{Q} f g=>by
  by_cases h:b0=48;.exact g h au
  .exact f h
 refine dV Tryz.func99 Tryz.ntmps99 λw0 F0=>?_;dsimp only [St.init,number,Nat.reduceAdd];refine kS ?_;simp only [ez,hb0];refine key (λh4=>?_) (λh4 h5=>?_);all_goals
  refine kG ?_;refine W.loop (λk:Nat=>k<=w.length/\∀ j (hj:j < w.length),j < k->48<=w[j].toNat/\w[j].toNat<=57) (λk=>⟨[(0,.sc (.string (bs w))),(4,.sc (.int .i64 (lZ w k:Nat))),(5,.sc (.int .i64 k))],[],0⟩) (λk=>w.length - k) 0 ⟨by omega,λj hj h=>absurd h au⟩ (zqt id) λk hk=>?_;obtain ⟨hk,hall⟩:=hk;by_cases hlt:k < w.length;rotate_left;.exact amQ
  have ek:((k:Nat):Int).toNat=k:=gy k;have hgd:w.getD k 0=w[k]:=by rw [dL,aO hlt];rfl
  have hbad:=Ag w 0 k hlt;have hvs:=yP hlt;have hvb:lZ w k < 100:=by exact ash
  have hnx:48<=w[k].toNat/\w[k].toNat<=57->∀ j (hj:j < w.length),j < k+1->48<=w[j].toNat/\w[j].toNat<=57:=λh j hj hjk=>by exact Jt
  obtain ⟨c,hc⟩:∃ z,w[k].toNat=z:=⟨_,rfl⟩;rw [hc] at hbad hvs hnx;have hcc:((w.getD k 0).toNat:Int)=(c:Int):=by rw [hgd,hc]
  obtain ⟨v,hv⟩:∃ z,lZ w k=z:=⟨_,rfl⟩;rw [hv] at hvs hvb ⊢;clear hall;by_cases c1:c < 48
  .rw [hbad (by omega)];exact ab4
  by_cases c2:57 < c;.exact anu
  have hn2:=hnx au;clear hbad hnx;refine kS ?_;simp only [ek,hcc];refine kS ?_;simp only [ek,hcc];refine kS ?_;simp only [ek,hcc];refine kG ?_;refine WL.sb8 rfl rfl au ?_;refine WL.cvt rfl rfl rfl (I64.wrap yg) ?_;refine kG ?_;refine ⟨k+1,⟨by omega,hn2⟩,by omega,?_⟩;rw [hvs,show ((10*v+(c - 48):Nat):Int)=10*(v:Int)+((c:Int) - 48) by omega];exact (ku (λq=>q) mJ rfl)
theorem LZ (w:List UInt8) (hl:w.length<=1000000):bC Tryz.prog 160 [.sc (.string (bs w))] (.tu [.sc (.int .i64 (((bU w).getD 0:Nat):Int)),.sc (.bool (bU w).isSome)]):=by
 by_cases h1:w.length < 1
 .have e:bU w=none:=if_pos (.inl h1);exact amV
 by_cases h2:3 < w.length
 .have e:bU w=none:=if_pos (.inr (.inl h2));exact amV
 have ez:((0:Int)).toNat=0:=rfl;have hz:((w.getD 0 0).toNat:Int)=48↔w.getD 0 0=48:=⟨λh=>UInt8.toNat_inj.1 (by show _=48;omega),λh=>by rw [h];rfl⟩;obtain ⟨b0,hb0⟩:∃ z,((w.getD 0 0).toNat:Int)=z:=⟨_,rfl⟩;rw [hb0] at hz;by_cases h3:b0=48/\1 < w.length
 .have e:bU w=none:=if_pos (.inr (.inr ⟨hz.1 h3.1,h3.2⟩));have hw:(w == [48])=false:=by cases h:w == [48] with
   | false=>rfl| true =>
    have:=eq_of_beq h;rw [this] at h3;exact absurd h3.2 (by decide)
  rw [e];obtain ⟨h4,h5⟩:=h3;refine dV Tryz.func160 Tryz.ntmps160 λw0 F0=>?_;dsimp only [St.init,number,Nat.reduceAdd];refine kS ?_;simp only [ez,hb0];refine kG ?_;rw [hw];refine kG ?_;exact gZ
 have e:bU w=tK 0 w:=if_neg (by
  rintro (h|h|h);.exact h1 h
  .exact h2 h
  .exact h3 ⟨hz.2 h.1,h.2⟩);rw [e];have key:∀ {Q:Prop},(b0≠48->Q)->(b0=48->(w == [48])=true->Q)->Q:=λ{Q} f g=>by
  by_cases h:b0=48
  .refine g h ?_;match w,h1,h2,h3,hz with
   | [x],_,_,_,hz =>
    have:x=48:=hz.1 h;subst this;rfl| x::y::r,_,_,h3,_=>exact absurd ⟨h,by simp⟩ h3| [],h1,_,_,_=>exact absurd (by simp) h1
  .exact f h
 refine dV Tryz.func160 Tryz.ntmps160 λw0 F0=>?_;dsimp only [St.init,number,Nat.reduceAdd];refine kS ?_;simp only [ez,hb0];refine key (λh4=>?_) (λh4 h5=>?_);all_goals
  refine kG ?_;try rw [h5]
  refine kG ?_;refine W.loop (λk:Nat=>k<=w.length/\∀ j (hj:j < w.length),j < k->48<=w[j].toNat/\w[j].toNat<=57) (λk=>⟨[(0,.sc (.string (bs w))),(4,.sc (.int .i64 (lZ w k:Nat))),(5,.sc (.int .i64 k))],[],0⟩) (λk=>w.length - k) 0 ⟨by omega,λj hj h=>absurd h au⟩ (zqt id) λk hk=>?_;obtain ⟨hk,hall⟩:=hk;by_cases hlt:k < w.length;rotate_left;.exact amQ
  have ek:((k:Nat):Int).toNat=k:=gy k;have hgd:w.getD k 0=w[k]:=by rw [dL,aO hlt];rfl
  have hbad:=Ag w 0 k hlt;have hvs:=yP hlt;have hvb:lZ w k < 100:=by exact ash
  have hnx:48<=w[k].toNat/\w[k].toNat<=57->∀ j (hj:j < w.length),j < k+1->48<=w[j].toNat/\w[j].toNat<=57:=λh j hj hjk=>by exact Jt
  obtain ⟨c,hc⟩:∃ z,w[k].toNat=z:=⟨_,rfl⟩;rw [hc] at hbad hvs hnx;have hcc:((w.getD k 0).toNat:Int)=(c:Int):=by rw [hgd,hc]
  obtain ⟨v,hv⟩:∃ z,lZ w k=z:=⟨_,rfl⟩;rw [hv] at hvs hvb ⊢;clear hall;by_cases c1:c < 48
  .rw [hbad (by omega)];exact ab4
  by_cases c2:57 < c;.exact anu
  have hn2:=hnx au;clear hbad hnx;refine kS ?_;simp only [ek,hcc];refine kS ?_;simp only [ek,hcc];refine kS ?_;simp only [ek,hcc];refine kG ?_;refine WL.sb8 rfl rfl au ?_;refine WL.cvt rfl rfl rfl (I64.wrap yg) ?_;refine kG ?_;refine ⟨k+1,⟨by omega,hn2⟩,by omega,?_⟩;rw [hvs,show ((10*v+(c - 48):Nat):Int)=10*(v:Int)+((c:Int) - 48) by omega];exact (ku (λq=>q) mJ rfl)
end
end Go.Proofs.YthohlofpphjofaaGreatDoor
