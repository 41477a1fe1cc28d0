/- Check of a piece, how long a note may be held: program and reference, over trees. -/
import Derived.Test.YthohlofpphjofaaGreatDoorCkBLq
import Derived.Test.YthohlofpphjofaaGreatDoorFBlLq
set_option maxHeartbeats 8000000
set_option maxRecDepth 100000
set_option linter.unusedVariables false
set_option linter.unusedSimpArgs false
namespace Go.Proofs.YthohlofpphjofaaGreatDoor
open Go.RowKit
theorem asA {p:Prop}(h:p:=by
 rw [hE.stop (.inl h15)];repeat' (first|refine fU ?_|(first|refine WL.aP rfl rfl rfl rfl (λhif=>?_) (λhif=>?_)|refine W.cond rfl (λhif=>?_) (λhif=>?_))<;>(try simp only [fV] at hif)<;>(first|(exfalso;omega)|skip)|refine DK.cs rfl rfl (λ_=>?_) (λ_=>?_))
 exact W.ret kR):p:=h
theorem asx {p:Prop}(h:p:=by
 rw [hE.stop (.inr (.inl (by omega)))];repeat' (first|refine fU ?_|(first|refine WL.aP rfl rfl rfl rfl (λhif=>?_) (λhif=>?_)|refine W.cond rfl (λhif=>?_) (λhif=>?_))<;>(try simp only [fV] at hif)<;>(first|(exfalso;omega)|skip)|refine DK.cs rfl rfl (λ_=>?_) (λ_=>?_))
 exact W.ret kR):p:=h
theorem ajk (e:Ev):bC Tryz.prog 164 [.ag (iO e)] (.sc (.bool (lC e))):=by
 refine dV Tryz.func164 Tryz.ntmps164 λw0 F0=>?_;dsimp only [St.init,number,Nat.reduceAdd];repeat' (first|refine fU ?_|(first|refine WL.aP rfl rfl rfl rfl (λhif=>?_) (λhif=>?_)|refine W.cond rfl (λhif=>?_) (λhif=>?_))<;>(try simp only [fV] at hif)<;>(first|(exfalso;omega)|skip)|refine DK.cs rfl rfl (λ_=>?_) (λ_=>?_))
 all_goals exact W.ret (fin1 rfl rfl (tX (by unfold lC;grind)) rfl)
theorem apI (e:Ev):bC Tryz.prog 146 [.ag (iO e)] (.sc (.bool (lC e))):=by
 refine dV Tryz.func146 Tryz.ntmps146 λw0 F0=>?_;dsimp only [St.init,number,Nat.reduceAdd];repeat' (first|refine fU ?_|(first|refine WL.aP rfl rfl rfl rfl (λhif=>?_) (λhif=>?_)|refine W.cond rfl (λhif=>?_) (λhif=>?_))<;>(try simp only [fV] at hif)<;>(first|(exfalso;omega)|skip)|refine DK.cs rfl rfl (λ_=>?_) (λ_=>?_))
 all_goals exact W.ret (fin1 rfl rfl (tX (by unfold lC;grind)) rfl)
def SK (c:Int):List Stp->Nat->Int
 | [],_=>-1| x::r,k=>if x.1=c then k else SK c r (k+1)
theorem ah8 (c:Int):∀ (l:List Stp)(k:Nat),decide (0<=SK c l k)=hasB c l:=by
 intro l;induction l with
 | nil=>intro k;rfl| cons x r ih =>
  intro k;unfold SK hasB;by_cases h:x.1=c;.simp [h]
  .rw [if_neg h,ih (k+1)];have:(x.1 == c)=false:=by simpa using h
   simp [hasB,this]
theorem aoU {c:Int} {l:List Stp} {k:Nat} (h:k<l.length):SK c (l.drop k) k=if l[k].1=c then (k:Int) else SK c (l.drop (k+1)) (k+1):=by exact UQ
theorem afJ (s:Stp) (x:Int):bC Tryz.prog 223 [.ag (bI s),.pr [.sc (.int .i64 x)]] (.sc (.bool (s.1 == x))):=by
 refine dV Tryz.func223 Tryz.ntmps223 λw0 F0=>?_;dsimp only [St.init,number,Nat.reduceAdd];repeat' (first|refine fU ?_|(first|refine WL.aP rfl rfl rfl rfl (λhif=>?_) (λhif=>?_)|refine W.cond rfl (λhif=>?_) (λhif=>?_))<;>(try simp only [fV] at hif)<;>(first|(exfalso;omega)|skip)|refine DK.cs rfl rfl (λ_=>?_) (λ_=>?_))
 all_goals exact W.ret (fin1 rfl rfl (tX (by grind)) rfl)
theorem ah7 (l:List Stp) (x:Int) (hl:l.length<=100000):bC Tryz.prog 195 [.ls 5 (l.map bI),.fn 223 [.pr [.sc (.int .i64 x)]]] (.sc (.int .i64 (SK x l 0))):=by
 refine dV Tryz.func195 Tryz.ntmps195 λw0 F0=>?_;dsimp only [St.init,number,Nat.reduceAdd];repeat' (first|refine fU ?_|(first|refine WL.aP rfl rfl rfl rfl (λhif=>?_) (λhif=>?_)|refine W.cond rfl (λhif=>?_) (λhif=>?_))<;>(try simp only [fV] at hif)<;>(first|(exfalso;omega)|skip)|refine DK.cs rfl rfl (λ_=>?_) (λ_=>?_))
 refine W.loop (λk:Nat=>k<=l.length/\SK x l 0=SK x (l.drop k) k) (λk=>⟨[(0,.ls 5 (l.map bI)),(1,.fn 223 [.pr [.sc (.int .i64 x)]]),(7,.sc (.int .i64 l.length)),(8,.sc (.int .i64 k))],[],0⟩) (λk=>l.length - k) 0 ⟨by omega,rfl⟩ (zqt id) λk hE=>?_;obtain ⟨hk,hE⟩:=hE;by_cases hlt:k < l.length;rotate_left;.exact ad8
 rw [aoU hlt] at hE;have hp:=afJ l[k] x;by_cases h:l[k].1=x
 .rw [hE,if_pos h];clear hE;rw [show (l[k].1 == x)=true by simpa using h] at hp;repeat' (first|refine WL.vl rfl (WV.Ii (dD _) rfl (aj Tryz.func223 rfl rfl) rfl rfl rfl rfl rfl hp.g) ?_|refine DK.vl rfl (WV.Ii (dD _) rfl (aj Tryz.func223 rfl rfl) rfl rfl rfl rfl rfl hp.g) ?_|refine fU ?_|(first|refine WL.aP rfl rfl rfl rfl (λhif=>?_) (λhif=>?_)|refine W.cond rfl (λhif=>?_) (λhif=>?_))<;>(try simp only [fV] at hif)<;>(first|(exfalso;omega)|skip)|refine DK.cs rfl rfl (λ_=>?_) (λ_=>?_))
  exact W.ret kR
 .rw [if_neg h] at hE;rw [show (l[k].1 == x)=false by simpa using h] at hp;repeat' (first|refine WL.vl rfl (WV.Ii (dD _) rfl (aj Tryz.func223 rfl rfl) rfl rfl rfl rfl rfl hp.g) ?_|refine DK.vl rfl (WV.Ii (dD _) rfl (aj Tryz.func223 rfl rfl) rfl rfl rfl rfl rfl hp.g) ?_|refine fU ?_|(first|refine WL.aP rfl rfl rfl rfl (λhif=>?_) (λhif=>?_)|refine W.cond rfl (λhif=>?_) (λhif=>?_))<;>(try simp only [fV] at hif)<;>(first|(exfalso;omega)|skip)|refine DK.cs rfl rfl (λ_=>?_) (λ_=>?_))
  exact ⟨k+1,⟨by omega,hE⟩,by omega,(zqt id)⟩
theorem afK (e:Ev) (x:Int) (hl:e.stops.length<=100000):bC Tryz.prog 165 [.ag (iO e),.sc (.int .i64 x)] (.sc (.bool (hasB x e.stops))):=by
 have hC:bC Tryz.prog 222 [.ls 5 (e.stops.map bI),.fn 223 [.pr [.sc (.int .i64 x)]]] (.sc (.bool (hasB x e.stops))):=by
  have hI:=ah7 e.stops x hl;rw [← ah8 x e.stops 0];generalize SK x e.stops 0=z at *;refine dV Tryz.func222 Tryz.ntmps222 λw0 F0=>?_;dsimp only [St.init,number,Nat.reduceAdd];repeat' (first|refine WL.vl rfl (aS Tryz.func195 hI) ?_|refine DK.vl rfl (aS Tryz.func195 hI) ?_|refine fU ?_|(first|refine WL.aP rfl rfl rfl rfl (λhif=>?_) (λhif=>?_)|refine W.cond rfl (λhif=>?_) (λhif=>?_))<;>(try simp only [fV] at hif)<;>(first|(exfalso;omega)|skip)|refine DK.cs rfl rfl (λ_=>?_) (λ_=>?_))
  all_goals exact W.ret (fin1 rfl rfl (tX (by grind)) rfl)
 refine dV Tryz.func165 Tryz.ntmps165 λw0 F0=>?_;dsimp only [St.init,number,Nat.reduceAdd];repeat' (first|refine WL.vl rfl (WV.mkf rfl rfl) ?_|refine DK.vl rfl (WV.mkf rfl rfl) ?_|refine WL.vl rfl (WV.air (dD _) rfl (aj Tryz.func222 rfl rfl) rfl rfl rfl rfl rfl rfl Aw hC.g) ?_|refine DK.vl rfl (WV.air (dD _) rfl (aj Tryz.func222 rfl rfl) rfl rfl rfl rfl rfl rfl Aw hC.g) ?_|refine fU ?_|(first|refine WL.aP rfl rfl rfl rfl (λhif=>?_) (λhif=>?_)|refine W.cond rfl (λhif=>?_) (λhif=>?_))<;>(try simp only [fV] at hif)<;>(first|(exfalso;omega)|skip)|refine DK.cs rfl rfl (λ_=>?_) (λ_=>?_))
 exact W.ret kR
theorem apE (e:Ev) (x:Int) (hl:e.stops.length<=100000):bC Tryz.prog 170 [.ag (iO e),.sc (.int .i64 x)] (.sc (.bool (hasB x e.stops))):=by
 refine dV Tryz.func170 Tryz.ntmps170 λw0 F0=>?_;dsimp only [St.init,number,Nat.reduceAdd];repeat' (first|refine fU ?_|(first|refine WL.aP rfl rfl rfl rfl (λhif=>?_) (λhif=>?_)|refine W.cond rfl (λhif=>?_) (λhif=>?_))<;>(try simp only [fV] at hif)<;>(first|(exfalso;omega)|skip)|refine DK.cs rfl rfl (λ_=>?_) (λ_=>?_))
 refine W.loop (λk:Nat=>k<=e.stops.length/\hasB x e.stops=hasB x (e.stops.drop k)) (λk=>⟨[(1,.sc (.int .i64 x)),(2,.pt 0 0 0),(5,.sc (.int .i64 k))],[(0,.box 90 (iO e))],1⟩) (λk=>e.stops.length - k) 0 ⟨by omega,rfl⟩ (zqt id) λk hE=>?_;obtain ⟨hk,hE⟩:=hE;by_cases hlt:k < e.stops.length;rotate_left;.exact ad8
 have hE:=hE.trans (as7 hlt);by_cases h:e.stops[k].1=x
 .rw [hE,h,beq_self_eq_true,Bool.true_or];repeat' (first|refine fU ?_|(first|refine WL.aP rfl rfl rfl rfl (λhif=>?_) (λhif=>?_)|refine W.cond rfl (λhif=>?_) (λhif=>?_))<;>(try simp only [fV] at hif)<;>(first|(exfalso;omega)|skip)|refine DK.cs rfl rfl (λ_=>?_) (λ_=>?_))
  exact W.ret kR
 .rw [show (e.stops[k].1 == x)=false by simpa using h,Q5] at hE;repeat' (first|refine fU ?_|(first|refine WL.aP rfl rfl rfl rfl (λhif=>?_) (λhif=>?_)|refine W.cond rfl (λhif=>?_) (λhif=>?_))<;>(try simp only [fV] at hif)<;>(first|(exfalso;omega)|skip)|refine DK.cs rfl rfl (λ_=>?_) (λ_=>?_))
  exact ⟨k+1,⟨by omega,hE⟩,by omega,(zqt id)⟩
theorem ED {evs:List Ev} {i c:Int} (h:i<0\/(evs.length:Int)<=i):ak evs i c=0:=if_pos h
theorem Iz {evs:List Ev} {i:Nat} {c:Int} (h:i<evs.length):ak evs i c=tN c 15 (evs.drop (i+1)):=by unfold ak;rw [if_neg (by omega)];simp
def J7 (c:Int) (l:List Ev) (V k:Nat):Prop:=k<=15/\k<=l.length/\V=k+tN c (15-k) (l.drop k)
theorem J7.stop {c:Int} {l:List Ev} {V k:Nat} (h:J7 c l V k)(hs:k=15\/l.length<=k\/∃ hk:k<l.length,(lC l[k]|| hasB c l[k].stops)=true):V=k:=by
 obtain⟨h1,h2,h3⟩:=h;rcases hs with rfl|hs|⟨hk,hs⟩;.simpa [tN]using h3
 .rw [h3,AL hs,ajU];rfl
 .rw [h3,agf hk hs];rfl
theorem J7.step {c:Int} {l:List Ev} {V k:Nat} (h:J7 c l V k)(h15:k≠15)(hk:k<l.length)(hs:(lC l[k]|| hasB c l[k].stops)=false):J7 c l V (k+1):=by
 obtain⟨h1,h2,h3⟩:=h;refine⟨by omega,by omega,?_⟩;rw [h3,show 15-k=(15-(k+1))+1 by omega,agd hk hs];omega
theorem L6 (p:bV) (hO:jh p) (i x:Int):bC Tryz.prog 95 [iG p,.sc (.int .i64 i),.sc (.int .i64 x)] (.sc (.int .i64 (ak p.evs i x))):=by
 have hn3:=hO.n3;by_cases hi:i < 0\/(p.evs.length:Int)<=i
 .rw [ED hi];refine dV Tryz.func95 Tryz.ntmps95 λw0 F0=>?_;dsimp only [St.init,number,Nat.reduceAdd];repeat' (first|refine fU ?_|(first|refine WL.aP rfl rfl rfl rfl (λhif=>?_) (λhif=>?_)|refine W.cond rfl (λhif=>?_) (λhif=>?_))<;>(try simp only [fV] at hif)<;>(first|(exfalso;omega)|skip)|refine DK.cs rfl rfl (λ_=>?_) (λ_=>?_))
  all_goals exact W.ret kR
 obtain ⟨j,rfl⟩:∃ j:Nat,i=j:=⟨i.toNat,by omega⟩;rw [Iz (by omega)];generalize hV:tN x 15 (p.evs.drop (j+1))=V;have hl:(p.evs.drop (j+1)).length=p.evs.length - (j+1):=vk;have h4:∀ k (h:k < (p.evs.drop (j+1)).length),(p.evs.drop (j+1))[k].stops.length<=100000:=λk h=>by
  rw [List.getElem_drop];exact gX (hO.n4 _ _) au
 have hp:prt (p.evs.map iO) ((j:Int)+1) ((p.evs.map iO).length:Int)=(p.evs.drop (j+1)).map iO:=by
  unfold prt;rw [gy,jw,show ((j:Int)+1).toNat=j+1 by omega,Q7]
 refine dV Tryz.func95 Tryz.ntmps95 λw0 F0=>?_;dsimp only [St.init,number,Nat.reduceAdd];repeat' (first|refine fU ?_|(first|refine WL.aP rfl rfl rfl rfl (λhif=>?_) (λhif=>?_)|refine W.cond rfl (λhif=>?_) (λhif=>?_))<;>(try simp only [fV] at hif)<;>(first|(exfalso;omega)|skip)|refine DK.cs rfl rfl (λ_=>?_) (λ_=>?_))
 refine WL.y8 rfl rfl ⟨by omega,by rw [bK];omega,wz _⟩ hp ?_;clear hp;generalize p.evs.drop (j+1)=L at *;repeat' (first|refine fU ?_|(first|refine WL.aP rfl rfl rfl rfl (λhif=>?_) (λhif=>?_)|refine W.cond rfl (λhif=>?_) (λhif=>?_))<;>(try simp only [fV] at hif)<;>(first|(exfalso;omega)|skip)|refine DK.cs rfl rfl (λ_=>?_) (λ_=>?_))
 refine W.loop (λk:Nat=>J7 x L V k) (λk=>⟨[(2,.sc (.int .i64 x)),(7,.sc (.int .i64 k)),(23,.ls 6 (L.map iO)),(24,.sc (.int .i64 L.length)),(25,.sc (.int .i64 k))],[],0⟩) (λk=>L.length - k) 0 ⟨by omega,by omega,by rw [← hV];simp⟩ (zqt id) λk hE=>?_;obtain ⟨k1,k2,_⟩:=id hE;by_cases hlt:k < L.length;rotate_left;.exact asx
 have hR:=ajk L[k];have hP:=afK L[k] x (h4 k hlt);by_cases h15:k=15;.exact asA
 cases hr:lC L[k] with
 | true =>
  rw [hE.stop (.inr (.inr ⟨hlt,by rw [hr];rfl⟩))];rw [hr] at hR;repeat' (first|refine WL.vl rfl (aS Tryz.func164 hR) ?_|refine DK.vl rfl (aS Tryz.func164 hR) ?_|refine fU ?_|(first|refine WL.aP rfl rfl rfl rfl (λhif=>?_) (λhif=>?_)|refine W.cond rfl (λhif=>?_) (λhif=>?_))<;>(try simp only [fV] at hif)<;>(first|(exfalso;omega)|skip)|refine DK.cs rfl rfl (λ_=>?_) (λ_=>?_))
  exact W.ret kR| false =>
  rw [hr] at hR;cases hq:hasB x L[k].stops with
  | true =>
   rw [hE.stop (.inr (.inr ⟨hlt,by rw [hr,hq];rfl⟩))];rw [hq] at hP;repeat' (first|refine WL.vl rfl (aS Tryz.func164 hR) ?_|refine DK.vl rfl (aS Tryz.func164 hR) ?_|refine WL.vl rfl (aS Tryz.func165 hP) ?_|refine DK.vl rfl (aS Tryz.func165 hP) ?_|refine fU ?_|(first|refine WL.aP rfl rfl rfl rfl (λhif=>?_) (λhif=>?_)|refine W.cond rfl (λhif=>?_) (λhif=>?_))<;>(try simp only [fV] at hif)<;>(first|(exfalso;omega)|skip)|refine DK.cs rfl rfl (λ_=>?_) (λ_=>?_))
   exact W.ret kR| false =>
   rw [hq] at hP;have hN:=hE.step h15 hlt (by rw [hr,hq];rfl);repeat' (first|refine WL.vl rfl (aS Tryz.func164 hR) ?_|refine DK.vl rfl (aS Tryz.func164 hR) ?_|refine WL.vl rfl (aS Tryz.func165 hP) ?_|refine DK.vl rfl (aS Tryz.func165 hP) ?_|refine fU ?_|(first|refine WL.aP rfl rfl rfl rfl (λhif=>?_) (λhif=>?_)|refine W.cond rfl (λhif=>?_) (λhif=>?_))<;>(try simp only [fV] at hif)<;>(first|(exfalso;omega)|skip)|refine DK.cs rfl rfl (λ_=>?_) (λ_=>?_))
   exact ⟨k+1,hN,by omega,(zqt id)⟩
theorem ajz (p:bV) (hO:jh p) (i x:Int):bC Tryz.prog 102 [iG p,.sc (.int .i64 i),.sc (.int .i64 x)] (.sc (.int .i64 (ak p.evs i x))):=by
 have hn3:=hO.n3;by_cases hi:i < 0\/(p.evs.length:Int)<=i
 .rw [ED hi];refine dV Tryz.func102 Tryz.ntmps102 λw0 F0=>?_;dsimp only [St.init,number,Nat.reduceAdd];repeat' (first|refine fU ?_|(first|refine WL.aP rfl rfl rfl rfl (λhif=>?_) (λhif=>?_)|refine W.cond rfl (λhif=>?_) (λhif=>?_))<;>(try simp only [fV] at hif)<;>(first|(exfalso;omega)|skip)|refine DK.cs rfl rfl (λ_=>?_) (λ_=>?_))
  all_goals exact W.ret kR
 obtain ⟨j,rfl⟩:∃ j:Nat,i=j:=⟨i.toNat,by omega⟩;rw [Iz (by omega)];generalize hV:tN x 15 (p.evs.drop (j+1))=V;have hl:(p.evs.drop (j+1)).length=p.evs.length - (j+1):=vk;refine dV Tryz.func102 Tryz.ntmps102 λw0 F0=>?_;dsimp only [St.init,number,Nat.reduceAdd];repeat' (first|refine fU ?_|(first|refine WL.aP rfl rfl rfl rfl (λhif=>?_) (λhif=>?_)|refine W.cond rfl (λhif=>?_) (λhif=>?_))<;>(try simp only [fV] at hif)<;>(first|(exfalso;omega)|skip)|refine DK.cs rfl rfl (λ_=>?_) (λ_=>?_))
 refine W.loop (λk:Nat=>J7 x (p.evs.drop (j+1)) V k) (λk=>⟨[(1,.sc (.int .i64 j)),(2,.sc (.int .i64 x)),(3,.pt 0 0 0),(7,.sc (.int .i64 k))],[(0,.box 30 (iG p).cells)],1⟩) (λk=>15 - k) 0 ⟨by omega,by omega,by rw [← hV];simp⟩ (zqt id) λk hE=>?_;obtain ⟨k1,k2,_⟩:=id hE;by_cases h15:k=15;.exact asA
 by_cases hlt:k < (p.evs.drop (j+1)).length;rotate_left;.exact asx
 have hat:(p.evs.drop (j+1))[k]=p.evs[((j:Int)+k+1).toNat]' au:=by
  rw [List.getElem_drop];congr 1;omega
 have hR:=apI (p.evs[((j:Int)+k+1).toNat]' au);have hP:=apE (p.evs[((j:Int)+k+1).toNat]' au) x (gX (hO.n4 _ _) au);rw [← hat] at hR hP;cases hr:lC (p.evs.drop (j+1))[k] with
 | true =>
  rw [hE.stop (.inr (.inr ⟨hlt,by rw [hr];rfl⟩))];rw [hr,hat] at hR;repeat' (first|refine WL.vl rfl (aS Tryz.func146 hR) ?_|refine DK.vl rfl (aS Tryz.func146 hR) ?_|refine fU ?_|(first|refine WL.aP rfl rfl rfl rfl (λhif=>?_) (λhif=>?_)|refine W.cond rfl (λhif=>?_) (λhif=>?_))<;>(try simp only [fV] at hif)<;>(first|(exfalso;omega)|skip)|refine DK.cs rfl rfl (λ_=>?_) (λ_=>?_))
  exact W.ret kR| false =>
  rw [hr,hat] at hR;cases hq:hasB x (p.evs.drop (j+1))[k].stops with
  | true =>
   rw [hE.stop (.inr (.inr ⟨hlt,by rw [hr,hq];rfl⟩))];rw [hq,hat] at hP;repeat' (first|refine WL.vl rfl (aS Tryz.func146 hR) ?_|refine DK.vl rfl (aS Tryz.func146 hR) ?_|refine WL.vl rfl (aS Tryz.func170 hP) ?_|refine DK.vl rfl (aS Tryz.func170 hP) ?_|refine fU ?_|(first|refine WL.aP rfl rfl rfl rfl (λhif=>?_) (λhif=>?_)|refine W.cond rfl (λhif=>?_) (λhif=>?_))<;>(try simp only [fV] at hif)<;>(first|(exfalso;omega)|skip)|refine DK.cs rfl rfl (λ_=>?_) (λ_=>?_))
   exact W.ret kR| false =>
   rw [hq,hat] at hP;have hN:=hE.step h15 hlt (by rw [hr,hq];rfl);repeat' (first|refine WL.vl rfl (aS Tryz.func146 hR) ?_|refine DK.vl rfl (aS Tryz.func146 hR) ?_|refine WL.vl rfl (aS Tryz.func170 hP) ?_|refine DK.vl rfl (aS Tryz.func170 hP) ?_|refine fU ?_|(first|refine WL.aP rfl rfl rfl rfl (λhif=>?_) (λhif=>?_)|refine W.cond rfl (λhif=>?_) (λhif=>?_))<;>(try simp only [fV] at hif)<;>(first|(exfalso;omega)|skip)|refine DK.cs rfl rfl (λ_=>?_) (λ_=>?_))
   exact ⟨k+1,hN,by omega,(zqt id)⟩
end Go.Proofs.YthohlofpphjofaaGreatDoor
