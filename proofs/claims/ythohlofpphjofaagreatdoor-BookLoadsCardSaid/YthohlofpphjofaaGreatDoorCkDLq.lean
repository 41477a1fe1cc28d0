/- Check of a sign, a stop, an event and a piece: program and reference, over trees. -/
import Derived.Test.YthohlofpphjofaaGreatDoorCkCLq
import Derived.Test.YthohlofpphjofaaGreatDoorSrALq
set_option maxHeartbeats 8000000
set_option maxRecDepth 100000
set_option linter.unusedVariables false
set_option linter.unusedSimpArgs false
namespace Go.Proofs.YthohlofpphjofaaGreatDoor
open Go.RowKit
theorem adX {p:Prop}(h:p:=by rw [bW (hne hk0)]):p:=h
theorem asb {p:Prop}(h:p:=by
 refine dV Tryz.func51 Tryz.ntmps51 λw0 F0=>?_;dsimp only [St.init,number,Nat.reduceAdd];repeat' (first|refine WL.vl rfl (aS Tryz.func103 hI) ?_|refine DK.vl rfl (aS Tryz.func103 hI) ?_|refine fU ?_|(first|refine WL.aP (c:=decide _) rfl rfl rfl rfl (λhif=>?_) (λhif=>?_)|refine W.cond (t:=decide _) rfl (λhif=>?_) (λhif=>?_)|refine WL.aP (c:=!decide _) rfl rfl rfl rfl (λhif=>?_) (λhif=>?_)|refine W.cond (t:=!decide _) rfl (λhif=>?_) (λhif=>?_))<;>(try simp only [fV] at hif)<;>(first|(exfalso;omega)|skip)|refine DK.cs rfl rfl (λ_=>?_) (λ_=>?_))
 exact W.ret kR):p:=h
theorem bC.apG {P:Program} {f:FuncId} {a:AV} {v x:Value} {F:View} {w:World} (h:bC P f [a] (.sc v)) (hF:∀ p u,F p=some u->w.cell? p=some u) (r:RP F a x) (w':World) (hb:Below w.heap.size w w'):Calls P f #[x] w' (iZ v w') :=(h w' F [x] (λp u e=>by rw [hb.cell (aQ (hF p u e))];exact hF p u e) ⟨rfl,λi av u a b=>by match i with
  | 0=>cases a;cases b;exact r| i+1=>simp at a⟩).mono λe w2 ⟨y,F',he,hb2,_,_,_,hr⟩=>⟨by rw [he,hr.fM],hb2⟩
theorem mP (x:Int) (a b:Bool) (y:Int) (c d:Bool) (w:World):(Op.equalIn 10000 87 (.agg #[.int .i64 x,.bool a,.bool b]) (.agg #[.int .i64 y,.bool c,.bool d])).run Tryz.prog w=.ok (decide (x=y/\a=c/\b=d)) w:=by
 rw [run_equalIn_agg w 9999 _ _ _ aK aK];refine Eq.trans (congrArg (λfs=>Sem.run _ (Op.eqFields 9999 _ _ fs) w) (rfl:(Tryz.prog.fieldsOf 87).toList=[_,_,_])) ?_;by_cases h1:x=y
 .subst h1;cases a<;>cases b<;>cases c<;>cases d<;>simp [go_sem]
 .simp [go_sem,h1]
theorem agm {v:Int} {d t:Bool} (h:qG v d t=true)(h0:v=0):d=false/\t=false:=by
 subst h0;cases d<;>cases t<;>simp [qG]at h ⊢
theorem ap2 {v:Int} {d t:Bool} (h:¬ (v=0/\d=false/\t=false)):qG v d t=decide (0<JZ v d t):=by
 by_cases hv:1<=v/\v<=7
 .cases hdt:(d && t)
  .have:=adK v d t hv hdt;have e1:decide (0<JZ v d t)=true:=bQ this;rw [e1];unfold qG;simp [hv,hdt]
  .have hb:JZ v d t=0:=by unfold JZ;rw [if_pos (by simp [hdt])]
   rw [hb];unfold qG;cases d<;>cases t<;>simp_all
 .have hb:JZ v d t=0:=by unfold JZ;rw [if_pos (by omega)]
  rw [hb];unfold qG;have h1:(decide (1<=v) && decide (v<=7))=false:=by rw [Bool.and_eq_false_iff,dO,dO];omega
  rw [h1];cases hv0:(v == 0);.rfl
  .have:v=0:=by simpa using hv0
   cases d<;>cases t<;>simp_all
theorem afC (v:Int)(d t:Bool):bC Tryz.prog 172 [.ag [.sc (.int .i64 v),.sc (.bool d),.sc (.bool t)]] (.sc (.int .i64 (JZ v d t))) :=bC.kD rfl (λ_=>.sc _) λw=>QM v d t w
theorem akv (v:Int) (d t:Bool):bC Tryz.prog 104 [.ag [.sc (.int .i64 v),.sc (.bool d),.sc (.bool t)]] (.sc (.bool (qG v d t))):=by
 by_cases h:v=0/\d=false/\t=false
 .obtain ⟨rfl,rfl,rfl⟩:=h;refine dV Tryz.func104 Tryz.ntmps104 λw0 F0=>?_;dsimp only [St.init,number,Nat.reduceAdd];repeat' (first|refine WL.vl rfl (WV.aeq (b:=true) rfl rfl rfl rfl rfl aK (λw=>(mP _ _ _ _ _ _ w).trans (by rw [bQ ⟨rfl,rfl,rfl⟩]))) ?_|refine DK.vl rfl (WV.aeq (b:=true) rfl rfl rfl rfl rfl aK (λw=>(mP _ _ _ _ _ _ w).trans (by rw [bQ ⟨rfl,rfl,rfl⟩]))) ?_|refine fU ?_|(first|refine WL.aP rfl rfl rfl rfl (λhif=>?_) (λhif=>?_)|refine W.cond rfl (λhif=>?_) (λhif=>?_))<;>(try simp only [fV] at hif)<;>(first|(exfalso;omega)|skip)|refine DK.cs rfl rfl (λ_=>?_) (λ_=>?_))
  exact W.ret kR
 .have hT:=afC v d t;rw [ap2 h];generalize JZ v d t=T at *;refine dV Tryz.func104 Tryz.ntmps104 λw0 F0=>?_;dsimp only [St.init,number,Nat.reduceAdd];repeat' (first|refine WL.vl rfl (aS Tryz.func172 hT) ?_|refine DK.vl rfl (aS Tryz.func172 hT) ?_|refine WL.vl rfl (WV.aeq (b:=false) rfl rfl rfl rfl rfl aK (λw=>(mP _ _ _ _ _ _ w).trans (by rw [bW h]))) ?_|refine DK.vl rfl (WV.aeq (b:=false) rfl rfl rfl rfl rfl aK (λw=>(mP _ _ _ _ _ _ w).trans (by rw [bW h]))) ?_|refine fU ?_|(first|refine WL.aP rfl rfl rfl rfl (λhif=>?_) (λhif=>?_)|refine W.cond rfl (λhif=>?_) (λhif=>?_))<;>(try simp only [fV] at hif)<;>(first|(exfalso;omega)|skip)|refine DK.cs rfl rfl (λ_=>?_) (λ_=>?_))
  all_goals exact W.ret (fin1 rfl rfl (tX (by grind)) rfl)
theorem ahI {p:bV} {c:Int} (h:1<=c/\c<=(p.cs.length:Int)):jV p.cs c=(p.cs[(c-1).toNat]'(by omega)).2.1:=by
 rw [← KD (by omega:(c-1).toNat<p.cs.length)];congr 1;omega
theorem aqe (p:bV) (hO:jh p) (i:Int) (s:Stp) (last:Int):bC Tryz.prog 105 [iG p,.sc (.int .i64 i),.ag (bI s),.sc (.int .i64 last)] (.sc (.int .i64 (lI p i s last))):=by
 have hL:=L6 p hO i s.1;have hn1:=hO.n1;by_cases h1:s.1 < 1\/(p.cs.length:Int) < s.1
 .rw [agy h1];refine dV Tryz.func105 Tryz.ntmps105 λw0 F0=>?_;dsimp only [St.init,number,Nat.reduceAdd];repeat' (first|refine fU ?_|(first|refine WL.aP rfl rfl rfl rfl (λhif=>?_) (λhif=>?_)|refine W.cond rfl (λhif=>?_) (λhif=>?_))<;>(try simp only [fV] at hif)<;>(first|(exfalso;omega)|skip)|refine DK.cs rfl rfl (λ_=>?_) (λ_=>?_))
  all_goals exact W.ret kR
 have hF:=ahI (p:=p) (c:=s.1) au;have hE:∀ E,lI p i s last=E->E=if s.2.1 < 0\/jV p.cs s.1 < s.2.1 then 13 else if s.1<=last then 22 else if (s.2.2.1 < 0\/3 < s.2.2.1)\/(s.2.2.2.1 < 0\/4 < s.2.2.2.1) then 23 else if (s.2.2.2.2 < 0\/(ak p.evs i s.1:Int) < s.2.2.2.2)\/(0 < s.2.2.2.2/\s.2.1=0) then 24 else 0:=λE h=>by
  rw [← h];unfold lI;rw [if_neg h1]
 generalize (ak p.evs i s.1:Int)=z at hL hE;rw [hF] at hE;generalize lI p i s last=E at hE ⊢;have hE:=Lib.hid (hE E rfl);refine dV Tryz.func105 Tryz.ntmps105 λw0 F0=>?_;dsimp only [St.init,number,Nat.reduceAdd];repeat' (first|refine WL.vl rfl (aS Tryz.func95 hL) ?_|refine DK.vl rfl (aS Tryz.func95 hL) ?_|refine DK.bt rfl rfl (by omega) ?_|refine DK.bf rfl rfl (by omega) ?_|refine DK.cs rfl rfl (λ_=>?_) (λ_=>?_)|refine fU ?_|(first|refine WL.aP rfl rfl rfl rfl (λhif=>?_) (λhif=>?_)|refine W.cond rfl (λhif=>?_) (λhif=>?_))<;>(try simp only [fV] at hif)<;>(first|(exfalso;omega)|skip)|refine DK.cs rfl rfl (λ_=>?_) (λ_=>?_))
 all_goals exact W.ret (fin1 rfl rfl (Ak (by have:=hE.out;grind)) rfl)
theorem um (p:bV) (hO:jh p):bC Tryz.prog 51 [iG p] (.sc (.int .i64 (bM p))):=by
 have hn3:=hO.n3;have hI:=yJ p.cs p.st;by_cases h0:jW p.cs p.st=0;rotate_left
 .rw [ajb h0];generalize jW p.cs p.st=E at *;exact asb
 rw [h0] at hI;by_cases h4:400 < p.evs.length
 .rw [afH (by omega) h4];exact asb
 rw [aja (by omega) h4];refine dV Tryz.func51 Tryz.ntmps51 λw0 F0=>?_;dsimp only [St.init,number,Nat.reduceAdd];repeat' (first|refine WL.vl rfl (aS Tryz.func103 hI) ?_|refine DK.vl rfl (aS Tryz.func103 hI) ?_|refine fU ?_|(first|refine WL.aP (c:=decide _) rfl rfl rfl rfl (λhif=>?_) (λhif=>?_)|refine W.cond (t:=decide _) rfl (λhif=>?_) (λhif=>?_)|refine WL.aP (c:=!decide _) rfl rfl rfl rfl (λhif=>?_) (λhif=>?_)|refine W.cond (t:=!decide _) rfl (λhif=>?_) (λhif=>?_))<;>(try simp only [fV] at hif)<;>(first|(exfalso;omega)|skip)|refine DK.cs rfl rfl (λ_=>?_) (λ_=>?_))
 refine W.loop (λk:Nat=>k<=p.evs.length/\Kv p 0 p.evs=Kv p k (p.evs.drop k)) (λk=>⟨[(1,.pt 0 0 0),(21,.ls 6 (p.evs.map iO)),(22,.sc (.int .i64 p.evs.length)),(23,.sc (.int .i64 k))],[(0,.box 30 (iG p).cells)],1⟩) (λk=>p.evs.length - k) 0 ⟨by omega,rfl⟩ (zqt id) λk hE=>?_;obtain ⟨hk,hE⟩:=hE;by_cases hlt:k < p.evs.length;rotate_left
 .rw [hE,AL (by omega)];repeat' (first|refine fU ?_|(first|refine WL.aP (c:=decide _) rfl rfl rfl rfl (λhif=>?_) (λhif=>?_)|refine W.cond (t:=decide _) rfl (λhif=>?_) (λhif=>?_)|refine WL.aP (c:=!decide _) rfl rfl rfl rfl (λhif=>?_) (λhif=>?_)|refine W.cond (t:=!decide _) rfl (λhif=>?_) (λhif=>?_))<;>(try simp only [fV] at hif)<;>(first|(exfalso;omega)|skip)|refine DK.cs rfl rfl (λ_=>?_) (λ_=>?_))
  exact W.ret kR
 rw [aon hlt] at hE;have hV:=akv p.evs[k].val p.evs[k].dot p.evs[k].three;by_cases g1:qG p.evs[k].val p.evs[k].dot p.evs[k].three=false\/((k:Int)=0/\p.evs[k].val=0)
 .rw [hE,show Vg p k p.evs[k]=20 from if_pos g1,if_pos (by decide)];clear hE;cases hs:qG p.evs[k].val p.evs[k].dot p.evs[k].three with
  | false =>
   rw [hs] at hV;repeat' (first|refine WL.vl rfl (aS Tryz.func104 hV) ?_|refine DK.vl rfl (aS Tryz.func104 hV) ?_|refine fU ?_|(first|refine WL.aP (c:=decide _) rfl rfl rfl rfl (λhif=>?_) (λhif=>?_)|refine W.cond (t:=decide _) rfl (λhif=>?_) (λhif=>?_)|refine WL.aP (c:=!decide _) rfl rfl rfl rfl (λhif=>?_) (λhif=>?_)|refine W.cond (t:=!decide _) rfl (λhif=>?_) (λhif=>?_))<;>(try simp only [fV] at hif)<;>(first|(exfalso;omega)|skip)|refine DK.cs rfl rfl (λ_=>?_) (λ_=>?_))
   exact W.ret kR| true =>
   rw [hs] at hV g1;obtain ⟨k0,hv0⟩:=g1.resolve_left (by decide);have hz:=agm hs hv0;repeat' (first|refine WL.vl rfl (aS Tryz.func104 hV) ?_|refine DK.vl rfl (aS Tryz.func104 hV) ?_|refine WL.vl rfl (WV.aeq (b:=true) rfl rfl rfl rfl rfl aK (λw=>(mP _ _ _ _ _ _ w).trans (by rw [bQ ⟨hv0,hz⟩]))) ?_|refine DK.vl rfl (WV.aeq (b:=true) rfl rfl rfl rfl rfl aK (λw=>(mP _ _ _ _ _ _ w).trans (by rw [bQ ⟨hv0,hz⟩]))) ?_|refine fU ?_|(first|refine WL.aP (c:=decide _) rfl rfl rfl rfl (λhif=>?_) (λhif=>?_)|refine W.cond (t:=decide _) rfl (λhif=>?_) (λhif=>?_)|refine WL.aP (c:=!decide _) rfl rfl rfl rfl (λhif=>?_) (λhif=>?_)|refine W.cond (t:=!decide _) rfl (λhif=>?_) (λhif=>?_))<;>(try simp only [fV] at hif)<;>(first|(exfalso;omega)|skip)|refine DK.cs rfl rfl (λ_=>?_) (λ_=>?_))
   exact W.ret kR
 have hs:qG p.evs[k].val p.evs[k].dot p.evs[k].three=true:=by cases h:qG p.evs[k].val p.evs[k].dot p.evs[k].three with
  | true=>rfl| false=>exact absurd (.inl h) g1
 rw [hs] at hV;have hne:(k:Int)=0->¬ (p.evs[k].val=0/\p.evs[k].dot=false/\p.evs[k].three=false):=λh x=>g1 (.inr ⟨h,x.1⟩);by_cases g2:p.evs[k].tie=true/\(0 < p.evs[k].stops.length\/(k:Int)=0)
 .rw [hE,show Vg p k p.evs[k]=21 by unfold Vg;rw [if_neg g1,if_pos g2],if_pos (by decide)];clear hE;obtain ⟨ht,g2⟩:=g2;by_cases hk0:(k:Int)=0;all_goals
   repeat' (first|refine WL.vl rfl (aS Tryz.func104 hV) ?_|refine DK.vl rfl (aS Tryz.func104 hV) ?_|refine WL.vl rfl (WV.aeq (b:=false) rfl rfl rfl rfl rfl aK (λw=>(mP _ _ _ _ _ _ w).trans adX)) ?_|refine DK.vl rfl (WV.aeq (b:=false) rfl rfl rfl rfl rfl aK (λw=>(mP _ _ _ _ _ _ w).trans adX)) ?_|refine fU ?_|(first|refine WL.aP (c:=decide _) rfl rfl rfl rfl (λhif=>?_) (λhif=>?_)|refine W.cond (t:=decide _) rfl (λhif=>?_) (λhif=>?_)|refine WL.aP (c:=!decide _) rfl rfl rfl rfl (λhif=>?_) (λhif=>?_)|refine W.cond (t:=!decide _) rfl (λhif=>?_) (λhif=>?_))<;>(try simp only [fV] at hif)<;>(first|(exfalso;omega)|skip)|refine DK.cs rfl rfl (λ_=>?_) (λ_=>?_))
   rw [ht];repeat' (first|refine fU ?_|(first|refine WL.aP (c:=decide _) rfl rfl rfl rfl (λhif=>?_) (λhif=>?_)|refine W.cond (t:=decide _) rfl (λhif=>?_) (λhif=>?_)|refine WL.aP (c:=!decide _) rfl rfl rfl rfl (λhif=>?_) (λhif=>?_)|refine W.cond (t:=!decide _) rfl (λhif=>?_) (λhif=>?_))<;>(try simp only [fV] at hif)<;>(first|(exfalso;omega)|skip)|refine DK.cs rfl rfl (λ_=>?_) (λ_=>?_))
   exact W.ret kR
 rw [show Vg p k p.evs[k]=kN p k 0 p.evs[k].stops by unfold Vg;rw [if_neg g1,if_neg g2]] at hE;have h20:=hO.n4 k hlt;have g3:(p.evs[k].tie=false/\(k:Int)=0)\/(p.evs[k].tie=false/\¬ (k:Int)=0)\/(p.evs[k].tie=true/\¬ (k:Int)=0/\p.evs[k].stops.length=0):=by
  cases ht:p.evs[k].tie
  .by_cases hk0:(k:Int)=0;.exact .inl ⟨rfl,hk0⟩
   .exact .inr (.inl ⟨rfl,hk0⟩)
  .simp only [ht,true_and] at g2;exact .inr (.inr ⟨rfl,by omega,by omega⟩)
 have hS:=λ(s:Stp) (x:Int)=>aqe p hO k s x;have hE0:=λ(h:kN p k 0 p.evs[k].stops=0)=>hE.trans (if_neg (λx=>x h));have hE1:=λ(h:kN p k 0 p.evs[k].stops≠0)=>hE.trans (if_pos h);clear hE g1 g2;rcases g3 with ⟨ht,hk0⟩|⟨ht,hk0⟩|⟨ht,hk0,hl0⟩;all_goals
  repeat' (first|refine WL.vl rfl (aS Tryz.func104 hV) ?_|refine DK.vl rfl (aS Tryz.func104 hV) ?_|refine WL.vl rfl (WV.aeq (b:=false) rfl rfl rfl rfl rfl aK (λw=>(mP _ _ _ _ _ _ w).trans adX)) ?_|refine DK.vl rfl (WV.aeq (b:=false) rfl rfl rfl rfl rfl aK (λw=>(mP _ _ _ _ _ _ w).trans adX)) ?_|refine fU ?_|(first|refine WL.aP (c:=decide _) rfl rfl rfl rfl (λhif=>?_) (λhif=>?_)|refine W.cond (t:=decide _) rfl (λhif=>?_) (λhif=>?_)|refine WL.aP (c:=!decide _) rfl rfl rfl rfl (λhif=>?_) (λhif=>?_)|refine W.cond (t:=!decide _) rfl (λhif=>?_) (λhif=>?_))<;>(try simp only [fV] at hif)<;>(first|(exfalso;omega)|skip)|refine DK.cs rfl rfl (λ_=>?_) (λ_=>?_))
  rw [ht];repeat' (first|refine fU ?_|(first|refine WL.aP (c:=decide _) rfl rfl rfl rfl (λhif=>?_) (λhif=>?_)|refine W.cond (t:=decide _) rfl (λhif=>?_) (λhif=>?_)|refine WL.aP (c:=!decide _) rfl rfl rfl rfl (λhif=>?_) (λhif=>?_)|refine W.cond (t:=!decide _) rfl (λhif=>?_) (λhif=>?_))<;>(try simp only [fV] at hif)<;>(first|(exfalso;omega)|skip)|refine DK.cs rfl rfl (λ_=>?_) (λ_=>?_))
  refine W.loop (λz:Nat×Int=>z.1<=p.evs[k].stops.length/\kN p k 0 p.evs[k].stops=kN p k z.2 (p.evs[k].stops.drop z.1)) (λz=>⟨[(1,.pt 0 0 0),(4,.sc (.int .i64 k)),(6,.sc (.int .i64 z.2)),(21,.ls 6 (p.evs.map iO)),(22,.sc (.int .i64 p.evs.length)),(23,.sc (.int .i64 k)),(55,.ls 5 (p.evs[k].stops.map bI)),(56,.sc (.int .i64 p.evs[k].stops.length)),(57,.sc (.int .i64 z.1))],[(0,.box 30 (iG p).cells)],1⟩) (λz=>p.evs[k].stops.length - z.1) (0,0) ⟨by omega,rfl⟩ (zqt id) λz hF=>?_;obtain ⟨hj,hF⟩:=hF;by_cases hlj:z.1 < p.evs[k].stops.length;rotate_left
  .have hN:=hE0 (by rw [hF,AL (by omega)];rfl);repeat' (first|refine fU ?_|(first|refine WL.aP (c:=decide _) rfl rfl rfl rfl (λhif=>?_) (λhif=>?_)|refine W.cond (t:=decide _) rfl (λhif=>?_) (λhif=>?_)|refine WL.aP (c:=!decide _) rfl rfl rfl rfl (λhif=>?_) (λhif=>?_)|refine W.cond (t:=!decide _) rfl (λhif=>?_) (λhif=>?_))<;>(try simp only [fV] at hif)<;>(first|(exfalso;omega)|skip)|refine DK.cs rfl rfl (λ_=>?_) (λ_=>?_))
   exact ⟨k+1,⟨by omega,hN⟩,by omega,(zqt id)⟩
  rw [agz hlj] at hF;have hS:=hS p.evs[k].stops[z.1] z.2;generalize lI p k p.evs[k].stops[z.1] z.2=G at *;by_cases hG:G=0
  .rw [hG] at hS;rw [if_neg (λx=>x hG)] at hF;repeat' (first|refine WL.vl rfl (aS Tryz.func105 hS) ?_|refine DK.vl rfl (aS Tryz.func105 hS) ?_|refine fU ?_|(first|refine WL.aP (c:=decide _) rfl rfl rfl rfl (λhif=>?_) (λhif=>?_)|refine W.cond (t:=decide _) rfl (λhif=>?_) (λhif=>?_)|refine WL.aP (c:=!decide _) rfl rfl rfl rfl (λhif=>?_) (λhif=>?_)|refine W.cond (t:=!decide _) rfl (λhif=>?_) (λhif=>?_))<;>(try simp only [fV] at hif)<;>(first|(exfalso;omega)|skip)|refine DK.cs rfl rfl (λ_=>?_) (λ_=>?_))
   all_goals exact ⟨(z.1+1,p.evs[k].stops[z.1].1),⟨by show z.1+1<=_;omega,hF⟩,by show p.evs[k].stops.length - (z.1+1) < _;omega,(zqt id)⟩
  .rw [if_pos hG] at hF;rw [hE1 (by rw [hF];exact hG),hF];clear hF;repeat' (first|refine WL.vl rfl (aS Tryz.func105 hS) ?_|refine DK.vl rfl (aS Tryz.func105 hS) ?_|refine fU ?_|(first|refine WL.aP (c:=decide _) rfl rfl rfl rfl (λhif=>?_) (λhif=>?_)|refine W.cond (t:=decide _) rfl (λhif=>?_) (λhif=>?_)|refine WL.aP (c:=!decide _) rfl rfl rfl rfl (λhif=>?_) (λhif=>?_)|refine W.cond (t:=!decide _) rfl (λhif=>?_) (λhif=>?_))<;>(try simp only [fV] at hif)<;>(first|(exfalso;omega)|skip)|refine DK.cs rfl rfl (λ_=>?_) (λ_=>?_))
   all_goals exact W.ret kR
end Go.Proofs.YthohlofpphjofaaGreatDoor
