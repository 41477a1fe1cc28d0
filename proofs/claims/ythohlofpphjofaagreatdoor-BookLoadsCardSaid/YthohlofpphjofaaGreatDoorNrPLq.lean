/- The text of an instrument, read: the program: the whole text. -/
import Derived.Test.YthohlofpphjofaaGreatDoorMlPLq
set_option maxHeartbeats 4000000
set_option maxRecDepth 100000
set_option linter.unusedVariables false
set_option linter.unusedSimpArgs false
namespace Go.Proofs.YthohlofpphjofaaGreatDoor
theorem Ry {p:Prop}(h:p:=by rw [e];decide):p:=h
section
variable {p:Prop}
theorem U5(h:p:=by
 refine qh ?_;refine ayo ?_;exact gZ):p:=h
theorem amI(h:p:=by
 refine jB.intro jR Tryz.func159 rfl Tryz.ntmps159 (bG rfl) (dW rfl) λw0 F0 hB=>?_;dsimp only [St.init,number,Nat.reduceAdd];refine sQ ?_;refine WL.vl rfl (WV.dZ hB rfl (aj Tryz.func218 rfl rfl) rfl rfl hC) ?_;refine sQ ?_;refine WL.vl rfl (WV.dZ hB rfl (aj Tryz.func219 rfl rfl) rfl rfl hN) ?_;refine sQ ?_;exact gZ):p:=h
theorem ab1(h:p:=by
 refine jB.intro jR Tryz.func159 rfl Tryz.ntmps159 (bG rfl) (dW rfl) λw0 F0 hB=>?_;dsimp only [St.init,number,Nat.reduceAdd];refine sQ ?_;refine WL.vl rfl (WV.dZ hB rfl (aj Tryz.func218 rfl rfl) rfl rfl hC) ?_;refine sQ ?_;refine WL.vl rfl (WV.dZ hB rfl (aj Tryz.func219 rfl rfl) rfl rfl hN) ?_;refine sQ ?_;refine WL.vl rfl (aS Tryz.func220 hP) ?_;refine sQ ?_;refine WL.vl rfl (aS Tryz.func160 hD) ?_;refine sQ ?_;exact gZ):p:=h
theorem UO(h:p:=by have:=hwb w (by rw [hL];simp [hw]);omega):p:=h
theorem asJ(h:p:=by exact (ku (λq=>bif Nat.beq q 3 then 5 else q) mJ rfl)):p:=h
theorem asy(h:p:=by
 refine ⟨k+1,⟨by omega,hnx rfl⟩,by omega,?_⟩;rw [hrow];exact (ku (λq=>bif Nat.beq q 2 then 6 else q) mJ rfl)):p:=h
end
theorem arM {p q:Prop}(k:q)(h:iF q->p:=by
 intro hq;refine W.tr (Tr.oJ 117 3 (k:=1) (j:=0) rfl rfl rfl rfl) ?_;refine W.tr (Tr.oJ 3 1 (k:=1) (j:=1) rfl rfl rfl rfl) ?_;dsimp only [St.upd,St.new,St.put,Nat.reduceAdd];exact hq.k):p:=h ⟨k⟩
theorem ayo {p q:Prop}(k:q)(h:iF q->p:=by
 intro hq;refine W.tr (Tr.EH 0 0 3 rfl rfl rfl) ?_;refine W.tr (Tr.EH 0 1 1 rfl rfl rfl) ?_;exact hq.k):p:=h ⟨k⟩
section
open Go.RowKit
theorem II (t:List UInt8):(fE t).2=4\/(fE t).2=10\/((fE t).2=0/\jQ (fE t).1.1 (fE t).1.2.1 (fE t).1.2.2=true):=by
 unfold fE;split;.exact .inl rfl
 .split;.exact .inl rfl
  .split;.exact .inl rfl
   .split;.rename_i h;exact .inr (.inr ⟨rfl,h⟩)
    .exact .inr (.inl rfl)
theorem Qe {a b:List UInt8} (h:bZ 47 a):fK (a++47::b)=if (fE a).2=4 then ((0,0,false),4)else match bU (eP b).1 with
  | none=>((0,0,false),4)| some n=>if (fE a).2≠0 then ((0,0,false),(fE a).2)else ((BR (fE a).1.1 (fE a).1.2.1 (fE a).1.2.2,(n:Int),(eP b).2),0):=by
 unfold fK;rw [af2 h];rfl
theorem Qg {t:List UInt8} (h:bZ 47 t):fK t=((0,0,false),4):=by
 unfold fK;rw [af4 h]
theorem IJ(b:List UInt8):(eP b).1.length<=b.length:=by
 unfold eP;split;.simp
 .simp
theorem afA (t:List UInt8) (ht:t.length<=500000):jB ng Tryz.prog 159 [.sc (.string (bs t))] (.tu [.ag (bg (fK t).1),.sc (.int .i64 (fK t).2)]):=by
 rcases MJ t with ⟨a,b,rfl,hn⟩|hn;rotate_left
 .have hC:=ahs 47 t hn au;rw [Qg hn];refine jB.intro jR Tryz.func159 rfl Tryz.ntmps159 (bG rfl) (dW rfl) λw0 F0 hB=>?_;dsimp only [St.init,number,Nat.reduceAdd];refine sQ ?_;refine WL.vl rfl (WV.dZ hB rfl (aj Tryz.func218 rfl rfl) rfl rfl hC) ?_;refine sQ ?_;exact gZ
 have hl:a.length+b.length+1<=500000:=by simp at ht;omega
 have hC:=ahq 47 a b hn au;have hN:=apt a au;have hP:=aex b au;have hpl:=IJ b;have hD:=LZ (eP b).1 au;have hcase:=II a;have hS:=G7 (fE a).1.1 (fE a).1.2.1 (fE a).1.2.2;have hR:=Qe (b:=b) hn;obtain ⟨⟨⟨n1,n2,n3⟩,ne⟩,hnm⟩:∃ z,fE a=z:=⟨_,rfl⟩;obtain ⟨⟨pt,po⟩,hpp⟩:∃ z,eP b=z:=⟨_,rfl⟩;rw [hnm] at hN hcase hS hR;rw [hpp] at hP hD hR;unfold eNm at hN;dsimp only at hN hcase hS hR hP hD;rw [hR];clear hR hnm hpp hpl ht;cases hnum:bU pt with
 | none =>
  rw [hnum] at hD;rcases hcase with rfl|rfl|⟨rfl,hk⟩;.exact amI
  .exact ab1
  .exact ab1| some v =>
  rw [hnum] at hD;rcases hcase with rfl|rfl|⟨rfl,hk⟩;.exact amI
  .exact ab1
  .rw [(rZ hk).1,(rZ hk).2] at hS;refine jB.intro jR Tryz.func159 rfl Tryz.ntmps159 (bG rfl) (dW rfl) λw0 F0 hB=>?_;dsimp only [St.init,number,Nat.reduceAdd];refine sQ ?_;refine WL.vl rfl (WV.dZ hB rfl (aj Tryz.func218 rfl rfl) rfl rfl hC) ?_;refine sQ ?_;refine WL.vl rfl (WV.dZ hB rfl (aj Tryz.func219 rfl rfl) rfl rfl hN) ?_;refine sQ ?_;refine WL.vl rfl (aS Tryz.func220 hP) ?_;refine sQ ?_;refine WL.vl rfl (aS Tryz.func160 hD) ?_;refine sQ ?_;refine WL.vl rfl (WV.dZ hB rfl (aj Tryz.func173 rfl rfl) rfl rfl hS) ?_;refine sQ ?_;exact gZ
theorem zT:∀ {L a b:List (List UInt8)},oQ L=some (a,b)->L=a++[58]::b/\∀ w∈a,w≠[58]
 | [],_,_,h=>by cases h| w::r,a,b,h=>by
  unfold oQ at h;by_cases e:w=[58]
  .rw [if_pos e]at h;cases h;exact⟨by rw [e];rfl,λx hx=>by cases hx⟩
  .rw [if_neg e]at h;obtain⟨⟨a',b'⟩,h1,h2⟩:=Option.map_eq_some_iff.1 h;cases h2;obtain⟨h3,h4⟩:=zT h1;refine⟨by rw [h3];rfl,λx hx=>?_⟩;rcases List.mem_cons.1 hx with rfl|k;.exact e
   .exact h4 x k
theorem zS:∀ {L:List (List UInt8)},oQ L=none->∀ w∈L,w≠[58]
 | [],_,_,h=>by cases h| w::r,h,x,hx=>by
  unfold oQ at h;by_cases e:w=[58];.rw [if_pos e]at h;cases h
  .rw [if_neg e]at h;have h1:oQ r=none:=by cases hc:oQ r with
    | none=>rfl| some y=>rw [hc]at h;cases h
   rcases List.mem_cons.1 hx with rfl|k;.exact e
   .exact zS h1 x k
theorem GN:∀ {a:List (List UInt8)} {k:Nat} (hk:k<a.length),(∀ j (hj:j<a.length),j<k->(fK a[j]).2=0)->(fK a[k]).2≠0->qF a=(fK a[k]).2
 | w::r,0,_,_,h=>by unfold qF;rw [if_pos yj];rfl| w::r,k+1,hk,h0,h=>by
  have:=h0 0 (by simp) (by omega);simp only [FQ]at this;unfold qF;rw [if_neg (by rw [this];decide),GN (k:=k) FX (λj hj hjk=>h0 (j+1) CX (by omega)) yj];rfl
theorem GR:∀ {a:List (List UInt8)},(∀ j (hj:j<a.length),(fK a[j]).2=0)->qF a=0
 | [],_=>rfl| w::r,h=>by
  have:=h 0 (by simp);simp only [FQ]at this;unfold qF;rw [if_neg (by rw [this];decide)];exact GR λj hj=>h (j+1) CX
theorem GV:∀ {a:List (List UInt8)} {k:Nat} (hk:k<a.length),bU a[k]=none->wS a=4
 | w::r,0,_,h=>by
  unfold wS;have h:bU w=none:=h;rw [h];rfl| w::r,k+1,hk,h=>by
  unfold wS;rw [GV (k:=k) FX yj];split<;>rfl
theorem GX:∀ {a:List (List UInt8)},(∀ j (hj:j<a.length),(bU a[j]).isSome=true)->wS a=0
 | [],_=>rfl| w::r,h=>by
  have h1:=h 0 (by simp);simp only [FQ]at h1;unfold wS;rw [if_pos h1];exact GX λj hj=>h (j+1) CX
def nT (a:List (List UInt8)):List Crs:=a.map λw=>(fK w).1
def nV (b:List (List UInt8)):List Int:=b.map λw=>(((bU w).getD 0:Nat):Int)
section
variable {t:List UInt8} {a b:List (List UInt8)}
theorem Qh (h:oQ (aZ 32 t)=none):aF t=(([],[]),4):=by unfold aF oU;rw [h];rfl
theorem Xf (h:oQ (aZ 32 t)=some (a,b))(e:qF a≠0):aF t=(([],[]),qF a):=by
 have:oU t=(([],[]),qF a):=by unfold oU;rw [h];dsimp only;rw [if_pos e]
 unfold aF;rw [this];dsimp only;rw [if_pos e]
theorem Xg (h:oQ (aZ 32 t)=some (a,b))(e:qF a=0)(e2:wS b=4):aF t=(([],[]),4):=by
 have:oU t=(([],[]),4):=by unfold oU;rw [h];dsimp only;rw [if_neg Ry,e2];rfl
 unfold aF;rw [this];rfl
theorem Xh (h:oQ (aZ 32 t)=some (a,b)) (e:qF a=0) (e2:wS b=0):aF t=if jW (nT a) (nV b)≠0 then (([],[]),jW (nT a) (nV b))else ((nT a,nV b),0):=by
 have:oU t=((nT a,nV b),0):=by unfold oU;rw [h];dsimp only;rw [if_neg Ry,if_neg (by rw [e2];decide)];rfl
 unfold aF;rw [this];rfl
end
theorem ai7 (t:List UInt8) (ht:t.length<=400000):jB ng Tryz.prog 91 [.sc (.string (bs t))] (.tu [.ag (jc (aF t).1.1 (aF t).1.2),.sc (.int .i64 (aF t).2)]):=by
 have hW:=Fv 32 t au;have hwb:=jk 32 t;have hwl:(aZ 32 t).length<=500000:=by exact aef
 cases zI:oQ (aZ 32 t) with
 | none =>
  have hI:=KQ (aZ 32 t) [58] (zS zI) au;rw [Qh zI];refine jB.intro jR Tryz.func91 rfl Tryz.ntmps91 (bG rfl) (dW rfl) λw0 F0 hB=>?_;dsimp only [St.init,number,Nat.reduceAdd];refine qh ?_;refine WL.vl rfl (WV.dZ hB rfl (aj Tryz.func38 rfl rfl) rfl rfl hW) ?_;refine qh ?_;refine WL.vl rfl (aS Tryz.func158 hI) ?_;exact U5| some ab =>
 obtain ⟨a,b⟩:=ab;obtain ⟨hL,hno⟩:=zT zI;have hI:=KP a b [58] hno (by rw [hL] at hwl;simp at hwl;omega);have hal:a.length+b.length+1<=500000:=by rw [hL] at hwl;simp at hwl;omega
 have hba:∀ w∈a,w.length<=400000:=λw hw=>by exact UO
 have hbb:∀ w∈b,w.length<=400000:=λw hw=>by exact UO
 rw [hL] at hW;obtain ⟨L,VQ⟩:∃ z,(a++[58]::b).map aX=z:=⟨_,rfl⟩;have Y0:L.length=a.length+b.length+1:=by rw [← VQ];simp;omega
 have hp1:prt L 0 a.length=a.map aX:=by
  unfold prt;rw [← VQ];simp
 have hp2:prt L ((a.length:Int)+1) L.length=b.map aX:=by
  unfold prt;rw [← VQ,show ((a.length:Int)+1).toNat=a.length+1 by omega,gy,jw,iC,show a.length+1=(a.map aX).length+1 by rw [bK],List.drop_append];simp
 rw [VQ] at hW hI;have hml:(a.map aX).length=a.length:=bK _;have aBX:(b.map aX).length=b.length:=bK _;refine jB.intro jR Tryz.func91 rfl Tryz.ntmps91 (bG rfl) (dW rfl) λw0 F0 hB=>?_;dsimp only [St.init,number,Nat.reduceAdd];refine qh ?_;refine WL.vl rfl (WV.dZ hB rfl (aj Tryz.func38 rfl rfl) rfl rfl hW) ?_;refine qh ?_;refine WL.vl rfl (aS Tryz.func158 hI) ?_;refine qh ?_;refine WL.y8 rfl rfl ⟨by omega,by omega,by omega⟩ hp1 ?_;refine qh ?_;refine arM ?_;refine W.loop (λk:Nat=>k<=a.length/\∀ j (hj:j < a.length),j < k->(fK a[j]).2=0) (λk=>⟨[(2,.pt 0 0 0),(4,.ls 1 L),(5,.sc (.int .i64 (a.length:Int))),(6,.pt 1 0 0),(25,.ls 1 (a.map aX)),(26,.sc (.int .i64 (a.length:Int))),(27,.sc (.int .i64 (k:Int)))],[(0,.box 27 [.sc (.slice none 0 0),.sc (.slice none 0 0)]),(1,.box 27 [.sl 2,.sl 3]),(2,.row 117 3 ((nT (a.take k)).map bg)),(3,.row 3 1 [])],4⟩) (λk=>a.length - k) 0 ⟨by omega,λj hj h=>absurd h au⟩ (zqt id) λk hk=>?_;obtain ⟨hk,hall⟩:=hk;by_cases hlt:k < a.length
 .have F6:=afA a[k] (by have:=hba a[k] (gB hlt);omega);have hbad:=GN hlt hall;have hnx:(fK a[k]).2=0->∀ j (hj:j < a.length),j < k+1->(fK a[j]).2=0:=λh j hj hjk=>by exact Jt
  have hrow:(nT (a.take (k+1))).map bg=(nT (a.take k)).map bg++[bg (fK a[k]).1]:=by
   unfold nT;exact YT
  obtain ⟨R,hR⟩:∃ z,(nT (a.take k)).map bg=z:=⟨_,rfl⟩;have hRl:R.length<=500000:=by rw [← hR];unfold nT;rw [bK,bK,jT];omega
  obtain ⟨⟨⟨c1,c2,c3⟩,e⟩,hce⟩:∃ z,fK a[k]=z:=⟨_,rfl⟩;rw [hce] at F6 hbad hnx hrow;rw [hR] at hrow ⊢;unfold bg at F6;dsimp only at F6 hbad hnx;clear hall;by_cases he:e=0;rotate_left
  .rw [Xf zI (by rw [hbad he];exact he),hbad he];refine qh ?_;refine WL.vl rfl (WV.dZ hB rfl (aj Tryz.func159 rfl rfl) rfl rfl F6) ?_;exact U5
  .subst he;refine qh ?_;refine WL.vl rfl (WV.dZ hB rfl (aj Tryz.func159 rfl rfl) rfl rfl F6) ?_;refine qh ?_;exact asy
 obtain rfl:k=a.length:=by omega
 have herr:=GR λj hj=>hall j hj hj;rw [jw];clear hall hk hlt;refine qh ?_;refine WL.y8 rfl rfl ⟨by omega,by omega,by omega⟩ hp2 ?_;refine qh ?_;have hcl:(nT a).length=a.length:=bK _;obtain ⟨CS,hCS⟩:∃ z,nT a=z:=⟨_,rfl⟩;rw [hCS] at hcl ⊢;refine W.loop (λk:Nat=>k<=b.length/\∀ j (hj:j < b.length),j < k->(bU b[j]).isSome=true) (λk=>⟨[(2,.pt 0 0 0),(6,.pt 1 0 0),(50,.ls 1 (b.map aX)),(51,.sc (.int .i64 (b.length:Int))),(52,.sc (.int .i64 (k:Int)))],[(0,.box 27 [.sc (.slice none 0 0),.sc (.slice none 0 0)]),(1,.box 27 [.sl 2,.sl 3]),(2,.row 117 3 (CS.map bg)),(3,.row 3 1 ((nV (b.take k)).map eInt))],4⟩) (λk=>b.length - k) 0 ⟨by omega,λj hj h=>absurd h au⟩ (zqt id) λk hk=>?_;obtain ⟨hk,hall⟩:=hk;by_cases hlt:k < b.length
 .have F6:=LZ b[k] (by have:=hbb b[k] (gB hlt);omega);have hbad:=GV hlt;have hnx:(bU b[k]).isSome=true->∀ j (hj:j < b.length),j < k+1->(bU b[j]).isSome=true:=λh j hj hjk=>by exact Jt
  have hrow:(nV (b.take (k+1))).map eInt=(nV (b.take k)).map eInt++[eInt (((bU b[k]).getD 0:Nat):Int)]:=by
   unfold nV;exact YT
  obtain ⟨R,hR⟩:∃ z,(nV (b.take k)).map eInt=z:=⟨_,rfl⟩;have hRl:R.length<=500000:=by rw [← hR];unfold nV;rw [bK,bK,jT];omega
  rw [hR] at hrow ⊢;clear hall;cases he:bU b[k] with
  | none =>
   rw [Xg zI herr (hbad he)];rw [he] at F6;refine qh ?_;refine WL.vl rfl (aS Tryz.func160 F6) ?_;exact U5| some v =>
   rw [he] at F6 hrow hnx;have hrow:(nV (b.take (k+1))).map eInt=R++[eInt (v:Int)]:=hrow;have F6:bC Tryz.prog 160 [.sc (.string (bs b[k]))] (.tu [.sc (.int .i64 (v:Int)),.sc (.bool true)]):=F6;refine qh ?_;refine WL.vl rfl (aS Tryz.func160 F6) ?_;refine qh ?_;refine ⟨k+1,⟨by omega,hnx rfl⟩,by omega,?_⟩;rw [hrow];exact asJ
 obtain rfl:k=b.length:=by omega
 have hstp:=GX λj hj=>hall j hj hj;rw [jw];clear hall hk hlt;have SE:=Xh zI herr hstp;rw [hCS] at SE;obtain ⟨ST,hST⟩:∃ z,nV b=z:=⟨_,rfl⟩;rw [hST] at SE ⊢;have hC:=yJ CS ST;unfold jc at hC;rw [SE];refine W.tr (Tr.freeze 2 rfl) ?_;refine W.tr (Tr.freeze 3 rfl) ?_;by_cases he:jW CS ST=0
 .rw [he] at hC;rw [he,if_neg (by decide)];refine qh ?_;refine WL.vl rfl (aS Tryz.func103 hC) ?_;refine qh ?_;exact gZ
 .rw [if_pos he];obtain ⟨E,hE⟩:∃ z,jW CS ST=z:=⟨_,rfl⟩;rw [hE] at hC he ⊢;refine qh ?_;refine WL.vl rfl (aS Tryz.func103 hC) ?_;exact U5
end
end Go.Proofs.YthohlofpphjofaaGreatDoor
