/- The text of an instrument, read by the reference. -/
import Derived.Test.YthohlofpphjofaaGreatDoorNrPLq
set_option maxHeartbeats 4000000
set_option maxRecDepth 100000
set_option linter.unusedVariables false
set_option linter.unusedSimpArgs false
namespace Go.Proofs.YthohlofpphjofaaGreatDoor
section
variable {p:Prop}
theorem anv(h:p:=by
 rw [hk,if_neg (by decide)] at hR;rw [hR];exact Bc):p:=h
theorem anq(h:p:=by
 refine dV Tryz.func166 Tryz.ntmps166 λw0 F0=>?_;dsimp only [St.init,number,Nat.reduceAdd];exact Bc):p:=h
theorem acd(h:p:=by
 refine kH ?_;refine ayo ?_;exact gZ):p:=h
theorem D9(h:p:=by
 refine lJ ?_;exact gZ):p:=h
theorem amX(h:p:=by
 rw [ez2];refine ni ?_;refine WL.cut rfl rfl (hcd _ e0) ?_;rw [hc2];refine ni ?_;exact qL):p:=h
theorem Bc(h:p:=by
 refine ni ?_;exact gZ):p:=h
theorem aly(h:p:=by
 rw [hw] at hat hb;refine YS ?_;rw [hb];refine kH ?_;exact ⟨k+1,by omega,by omega,(zqt id)⟩):p:=h
theorem asN(h:p:=by
 obtain ⟨X,hX⟩:∃ z,((pt.getD (Int.toNat (k:Int)) 0).toNat:Int)=z:=⟨_,rfl⟩;rw [hX] at hne;refine lJ ?_;refine FY ?_;rw [hX];refine lJ ?_;exact ⟨k+1,by omega,by omega,(zqt id)⟩):p:=h
end
theorem Ba {p q:Prop}(k:q)(h:iF q->p:=by
 intro hq;refine ni ?_;refine FY ?_;exact hq.k):p:=h ⟨k⟩
theorem YS {p q:Prop}(k:q)(h:iF q->p:=by
 intro hq;refine kH ?_;refine Om ?_;refine kH ?_;exact hq.k):p:=h ⟨k⟩
theorem akY {p q:Prop}(k:q)(h:iF q->p:=by
 intro hq;refine lJ ?_;refine WL.cut rfl rfl ⟨by omega,by omega,by omega⟩ ?_;exact hq.k):p:=h ⟨k⟩
section
open Go.RowKit
theorem WL.aqR {P:Program} {C:Cx} {σ:St} {ops:Array Oper} {l:List Oper} {Q Q1 Q2:Exit->St->Prop} {x y:Code} (Pm:St)(h:WL P C ops l σ (gU (λs=>W P C x s (gU (λs=>Tr C s Pm) Q)) Q1))(k:W P C y Pm Q2):WL P C ops l σ (gU (λs=>W P C x s (gU (λs=>W P C y s Q2) Q)) Q1) :=WL.mono h (gU.mono (λs q=>W.mono q (gU.mono (λs q=>W.tr q k) λ_ _ q=>q)) λ_ _ q=>q)
def rfA:List UInt8:=[67,68,69,70,71,65,66]
theorem ajK {k:Nat} (hk:k<7):jM (rfA.getD k 0)=k:=by match k,hk with
 | 0,_=>rfl| 1,_=>rfl| 2,_=>rfl| 3,_=>rfl| 4,_=>rfl| 5,_=>rfl| 6,_=>rfl
theorem afX:((List.range 256).all λk=>decide (jM (UInt8.ofNat k)<7->rfA.getD (jM (UInt8.ofNat k)) 0=UInt8.ofNat k))=true:=by decide +kernel
theorem afY {b:UInt8} (h:jM b<7):rfA.getD (jM b) 0=b:=by
 have h2:=rP (List.all_eq_true.1 afX b.toNat (List.mem_range.2 b.toNat_lt));rw [UInt8.ofNat_toNat] at h2;exact h2 h
theorem aaH (c:UInt8):bC Tryz.prog 224 [.sc (.int .u8 (c.toNat:Int))] (.sc (.int .i64 (if jM c < 7 then (jM c:Int) else -1))):=by
 refine dV Tryz.func224 Tryz.ntmps224 λw0 F0=>?_;dsimp only [St.init,number,Nat.reduceAdd];refine Ob ?_;refine W.loop (λk:Nat=>k<=7/\∀ j,j < k->rfA.getD j 0≠c) (λk=>⟨[(0,.sc (.int .u8 (c.toNat:Int))),(3,.sc (.int .i64 (k:Int)))],[],0⟩) (λk=>7 - k) 0 ⟨by omega,λj h=>absurd h au⟩ (zqt id) λk hk=>?_;obtain ⟨hk,hall⟩:=hk;by_cases hlt:k < 7
 .have ez:((([67,68,69,70,71,65,66]:List UInt8).getD (Int.toNat (k:Int)) 0).toNat:Int)=((rfA.getD k 0).toNat:Int):=by rw [gy];rfl
  have hat:=ajK hlt;by_cases e:rfA.getD k 0=c
  .rw [e] at ez hat;rw [hat,if_pos hlt];refine Ob ?_;refine WL.six rfl rfl ⟨by omega,by simp;omega⟩ ?_;rw [ez];refine Ob ?_;exact W.ret kR
  .have ne:((rfA.getD k 0).toNat:Int)≠(c.toNat:Int):=λh=>e (UInt8.toNat_inj.1 au);refine Ob ?_;refine WL.six rfl rfl ⟨by omega,by simp;omega⟩ ?_;rw [ez];refine Ob ?_;refine ⟨k+1,⟨by omega,λj hj=>?_⟩,by omega,?_⟩
   .by_cases e2:j=k;.subst e2;exact e
    .exact hall j au
   .exact (zqt id)
 .have hno:¬ jM c < 7:=λh=>hall _ au (afY h);rw [if_neg hno];refine Ob ?_;exact W.ret kR
theorem afZ {c:UInt8}:fE [c]=((0,0,0),4):=by
 unfold fE;dsimp only;split;.rfl
 .have:rY (lD []).2=none:=by unfold lD rY;simp
  rw [this]
theorem ajA (t:List UInt8) (ht:t.length<=1000000):bC Tryz.prog 166 [.sc (.string (bs t))] (.tu [eNm (fE t).1,.sc (.int .i64 (fE t).2)]):=by match t,ht with
 | [],_ =>exact anq| [c],_ =>
  rw [afZ];have hl:([c]:List UInt8).length=1:=rfl;exact anq| c::d::r',ht =>
  obtain ⟨r,hr⟩:∃ z,d::r'=z:=⟨_,rfl⟩;have hr1:1<=r.length:=by rw [← hr];simp
  have hlen:(c::d::r').length=r.length+1:=by rw [← hr];rfl
  have ez:(((c::d::r').getD (Int.toNat 0) 0).toNat:Int)=(c.toNat:Int):=rfl;rw [hr] at ht hlen ez ⊢;have hrl:r.length<=1000000:=by simp at ht;omega
  have hI:=aaH c;have hlr:((c::r).length:Int)=(r.length:Int)+1:=by rw [hlen];omega
  have hcb:0<=(1:Int)/\(1:Int)<=(((c::r).length:Nat):Int)/\(((c::r).length:Nat):Int)<=(((c::r).length:Nat):Int):=by omega
  have hc1:cut (c::r) 1 (((c::r).length:Nat):Int)=r:=by exact UN
  by_cases hl:jM c < 7;rotate_left
  .have e:fE (c::r)=((0,0,0),4):=by unfold fE;dsimp only;rw [if_pos (by omega)]
   rw [e];rw [if_neg hl] at hI;refine dV Tryz.func166 Tryz.ntmps166 λw0 F0=>?_;dsimp only [St.init,number,Nat.reduceAdd];refine Ba ?_;rw [ez];refine ni ?_;refine WL.vl rfl (aS Tryz.func224 hI) ?_;exact Bc
  rw [if_pos hl] at hI;obtain ⟨hno,hsome⟩:=Qk (c:=c) (r:=r) hl;have hl0:0<=(jM c:Int):=Ji _;obtain ⟨L,hL⟩:∃ z,(jM c:Int)=z:=⟨_,rfl⟩;rw [hL] at hI hl0 hsome;obtain ⟨al,q,hq⟩:∃ al q,lD r=(al,q):=⟨_,_,rfl⟩;have hql:q.length<=1000000:=by exact amm
  have hac:=EJ r;rw [hq] at hno hsome hac;dsimp only at hno hsome hac;have ez2:((r.getD (Int.toNat 0) 0).toNat:Int)=(d.toNat:Int):=by rw [← hr];rfl
  have hcd:∀ q',r=d::q'->0<=(1:Int)/\(1:Int)<=((r.length:Nat):Int)/\((r.length:Nat):Int)<=((r.length:Nat):Int):=λq' h=>by omega
  have hc2:cut r 1 ((r.length:Nat):Int)=r':=by
   rw [← hr];exact UN
  refine dV Tryz.func166 Tryz.ntmps166 λw0 F0=>?_;dsimp only [St.init,number,Nat.reduceAdd];refine Ba ?_;rw [ez];refine ni ?_;refine WL.vl rfl (aS Tryz.func224 hI) ?_;refine Ba ?_;rw [ez];refine ni ?_;refine WL.vl rfl (aS Tryz.func224 hI) ?_;refine ni ?_;refine WL.cut rfl rfl hcb ?_;rw [hc1];refine ni ?_;refine WL.aqR ⟨[(2,.pt 0 0 0),(4,.pt 1 0 0),(5,.sc (.string (bs q)))],[(1,.box 253 [.sc (.int .i64 L),.sc (.int .i64 al),.sc (.int .i64 0)]),(0,.box 253 [.sc (.int .i64 0),.sc (.int .i64 0),.sc (.int .i64 0)])],2⟩ ?_ ?_
  .rcases hac with ⟨q',e0,e⟩|⟨q',e0,e⟩|⟨e1,e2,e⟩
   .obtain ⟨rfl,rfl⟩:=Prod.mk.inj e;rw [e0] at hr;obtain ⟨rfl,rfl⟩:=List.cons.inj hr;refine FY ?_;exact amX
   .obtain ⟨rfl,rfl⟩:=Prod.mk.inj e;rw [e0] at hr;obtain ⟨rfl,rfl⟩:=List.cons.inj hr;refine FY ?_;rw [ez2];refine Ba ?_;exact amX
   .obtain ⟨rfl,rfl⟩:=Prod.mk.inj e;have d1:(d.toNat:Int)≠35:=λh=>by
     have:d=35:=UInt8.toNat_inj.1 (by show _=35;omega);rw [← hr,this] at e1;unfold bY at e1;simp [List.isPrefixOf] at e1
    have d2:(d.toNat:Int)≠98:=λh=>by
     have:d=98:=UInt8.toNat_inj.1 (by show _=98;omega);rw [← hr,this] at e2;unfold bY at e2;simp [List.isPrefixOf] at e2
    refine FY ?_;rw [ez2];refine Ba ?_;rw [ez2];refine ni ?_;exact qL
  clear hcd hc2 ez2 hac;rcases EM q with ⟨rfl,ho⟩|⟨hne,b,rfl,hb1,hb2,ho⟩|⟨hne,ho,hl1⟩
  .have hS:=He L al (-1);have hb1:(([45,49]:List UInt8) == [45,49])=true:=rfl;have hR:=hsome _ ho;refine ni ?_;rw [hb1];refine ni ?_;refine WL.vl rfl (aS Tryz.func225 hS) ?_;cases hk:jQ L al (-1) with
   | true =>
    rw [hk,if_pos rfl] at hR;rw [hR];exact Bc| false =>exact anv
  .have hS:=He L al ((b.toNat:Int) - 48);have hbf:([b] == ([45,49]:List UInt8))=false:=by simp
   have hR:=hsome _ ho;have hbl:(([b]:List UInt8).length:Int)=1:=rfl;have hbz:((([b]:List UInt8).getD (Int.toNat 0) 0).toNat:Int)=(b.toNat:Int):=rfl;obtain ⟨bn,hbn⟩:∃ z,b.toNat=z:=⟨_,rfl⟩;rw [hbn] at hb1 hb2 hS hR hbz;refine ni ?_;rw [hbf];refine Ba ?_;rw [hbz];refine Ba ?_;rw [hbz];refine Ba ?_;rw [hbz];refine ni ?_;refine WL.sb8 rfl rfl au ?_;refine WL.cvt rfl rfl rfl (I64.wrap yg) ?_;refine ni ?_;refine WL.vl rfl (aS Tryz.func225 hS) ?_;cases hk:jQ L al ((bn:Int) - 48) with
   | true =>
    rw [hk,if_pos rfl] at hR;rw [hR];exact Bc| false =>exact anv
  .have hbf:(q == ([45,49]:List UInt8))=false:=by simpa using hne
   rw [hno ho];rcases hl1 with hl1|⟨b,rfl,hb⟩
   .refine ni ?_;rw [hbf];exact Bc
   .have hbl:(([b]:List UInt8).length:Int)=1:=rfl;have hbz:((([b]:List UInt8).getD (Int.toNat 0) 0).toNat:Int)=(b.toNat:Int):=rfl;obtain ⟨bn,hbn⟩:∃ z,b.toNat=z:=⟨_,rfl⟩;rw [hbn] at hb hbz;rcases hb with hb|hb
    .refine ni ?_;rw [hbf];refine Ba ?_;rw [hbz];exact Bc
    .refine ni ?_;rw [hbf];refine Ba ?_;rw [hbz];refine Ba ?_;rw [hbz];exact Bc
theorem apJ {t:List UInt8} (h:0<t.length):t.getLast?=some (t.getD ((t.length:Int)-1).toNat 0):=by rw [show ((t.length:Int)-1).toNat=t.length-1 by omega,List.getLast?_eq_getElem?,dL,aO (by omega)];rfl
theorem aqZ {t:List UInt8} (h:bZ 47 t) {k:Nat} (hk:k<t.length):((t.getD (Int.toNat (k:Int)) 0).toNat:Int)≠47:=by
 rw [gy,dL,aO hk];intro e;exact h _ (gB hk) (UInt8.toNat_inj.1 (by show _=47;exact Int.ofNat.inj e))
theorem au9 {a b:List UInt8} (h:bZ 47 a) {k:Nat} (hk:k<a.length):(((a++47::b).getD (Int.toNat (k:Int)) 0).toNat:Int)≠47:=by
 have:=aqZ h hk;rw [gy,dL,aO hk] at this;rw [gy,dL,xY hk,aO hk];exact this
theorem au8 {a b:List UInt8}:(((a++47::b).getD (Int.toNat (a.length:Int)) 0).toNat:Int)=47:=by rw [gy,dL,wC (Nat.le_refl _)];simp
theorem aaE (t:List UInt8) (ht:t.length<=500000):bC Tryz.prog 98 [.sc (.string (bs t))] (.tu [.ag (bg (fK t).1),.sc (.int .i64 (fK t).2)]):=by
 have hlast:=apJ (t:=t);have hpl:=IJ t;obtain ⟨LB,hLB⟩:∃ z,((t.getD ((t.length:Int) - 1).toNat 0).toNat:Int)=z:=⟨_,rfl⟩;obtain ⟨pt,po,hpp⟩:∃ pt po,eP t=(pt,po):=⟨_,_,rfl⟩;have hcase:(0 < t.length/\LB=43/\pt=cut t 0 ((t.length:Int) - 1)/\po=true)\/(pt=t/\po=false/\(0 < t.length->LB≠43)):=by
  unfold eP at hpp;by_cases hg:t.getLast?=some 43
  .rw [if_pos hg] at hpp;obtain ⟨rfl,rfl⟩:=Prod.mk.inj hpp;have h0:0 < t.length:=by cases t with
    | nil=>cases hg| cons=>simp
   rw [hlast h0] at hg;refine .inl ⟨h0,by rw [← hLB,Option.some.inj hg];rfl,?_,rfl⟩;unfold cut;rw [show ((t.length:Int) - 1).toNat=t.length - 1 by omega,List.dropLast_eq_take];simp
  .rw [if_neg hg] at hpp;obtain ⟨rfl,rfl⟩:=Prod.mk.inj hpp;refine .inr ⟨rfl,rfl,λh0 e=>hg ?_⟩;rw [hlast h0];have:t.getD ((t.length:Int) - 1).toNat 0=43:=UInt8.toNat_inj.1 (by show _=43;omega);rw [this]
 have at1:(∃ a b b',t=a++47::b/\bZ 47 a/\pt=a++47::b'/\eP b=(b',po))\/(bZ 47 t/\bZ 47 pt):=by
  rcases MJ t with ⟨a,b,e,hn⟩|hn
  .have:=aaQ a b;rw [← e,hpp] at this;obtain ⟨e1,e2⟩:=Prod.mk.inj this;exact .inl ⟨a,b,(eP b).1,e,hn,e1,by rw [e2]⟩
  .have:=aaR hn;rw [hpp] at this;exact .inr ⟨hn,this⟩
 rw [hpp] at hpl;dsimp only at hpl;have hres:(bZ 47 t->fK t=((0,0,false),4)):=Qg;obtain ⟨RR,hRR⟩:∃ z,fK t=z:=⟨_,rfl⟩;have hat:=λa b (e:t=a++47::b) (h:bZ 47 a)=>(congrArg fK e).symm.trans (hRR);rw [hRR] at hres ⊢;refine dV Tryz.func98 Tryz.ntmps98 λw0 F0=>?_;dsimp only [St.init,number,Nat.reduceAdd];refine lJ ?_;refine WL.aqR ⟨[(0,.sc (.string (bs pt))),(2,.pt 0 0 0),(4,.pt 1 0 0)],[(0,.box 117 [.sc (.int .i64 0),.sc (.int .i64 0),.sc (.bool false)]),(1,.box 117 [.sc (.int .i64 0),.sc (.int .i64 0),.sc (.bool po)])],2⟩ ?_ ?_
 .rcases hcase with ⟨h0,h1,h2,rfl⟩|⟨rfl,rfl,h1⟩
  .rw [bQ (show (0:Int) < (t.length:Int) by omega)];refine lJ ?_;refine FY ?_;rw [hLB,h1];refine akY ?_;rw [← h2];refine lJ ?_;exact qL
  .by_cases h0:0 < pt.length
   .have:=h1 h0;rw [bQ (show (0:Int) < (pt.length:Int) by omega)];refine lJ ?_;refine FY ?_;rw [hLB];refine lJ ?_;exact qL
   .rw [bW (show ¬ (0:Int) < (pt.length:Int) by omega)];refine lJ ?_;exact qL
 clear hcase hlast;have aB2:pt.length<=500000:=by omega
 rcases at1 with ⟨a,b,b',he,hna,hpe,hpb⟩|⟨hnt,hnp⟩;rotate_left
 .rw [hres hnt];refine lJ ?_;refine W.loop (λk:Nat=>k<=pt.length) (λk=>⟨[(0,.sc (.string (bs pt))),(2,.pt 0 0 0),(4,.pt 1 0 0),(5,.sc (.int .i64 (k:Int)))],[(0,.box 117 [.sc (.int .i64 0),.sc (.int .i64 0),.sc (.bool false)]),(1,.box 117 [.sc (.int .i64 0),.sc (.int .i64 0),.sc (.bool po)])],2⟩) (λk=>pt.length - k) 0 au (zqt id) λk hk=>?_;by_cases hlt:k < pt.length
  .have hne:=aqZ hnp hlt;exact asN
  .obtain rfl:k=pt.length:=by omega
   exact D9
 have hRe:=(hat a b he hna).symm.trans (Qe (b:=b) hna);rw [hpb] at hRe;dsimp only at hRe;have hpl2:(pt.length:Int)=(a.length:Int)+(b'.length:Int)+1:=by rw [hpe];simp;omega
 have hca:cut pt 0 (a.length:Int)=a:=by rw [hpe];unfold cut;rw [gy];simp
 have hcb:cut pt ((a.length:Int)+1) (pt.length:Int)=b':=by
  rw [hpl2,hpe];unfold cut;rw [show ((a.length:Int)+(b'.length:Int)+1).toNat=(a++47::b').length by simp;omega,show ((a.length:Int)+1).toNat=(a++[47]).length by simp,show a++47::b'=(a++[47])++b' by simp,Yv,ou (by simp;omega)]
 have hN:=ajA a au;have hD:=L9 b' au;have hcase:=II a;have hS:=TQ (fE a).1.1 (fE a).1.2.1 (fE a).1.2.2;have hne:=λk (h:k < a.length)=>au9 (b:=b') hna h;have heq:=au8 (a:=a) (b:=b');rw [← hpe] at hne heq;obtain ⟨⟨⟨n1,n2,n3⟩,ne⟩,hnm⟩:∃ z,fE a=z:=⟨_,rfl⟩;rw [hnm] at hN hcase hS hRe;unfold eNm at hN;dsimp only at hN hcase hS hRe;clear hres hat hRR hpp hnm he hpb;refine lJ ?_;refine W.loop (λk:Nat=>k<=a.length) (λk=>⟨[(0,.sc (.string (bs pt))),(2,.pt 0 0 0),(4,.pt 1 0 0),(5,.sc (.int .i64 (k:Int)))],[(0,.box 117 [.sc (.int .i64 0),.sc (.int .i64 0),.sc (.bool false)]),(1,.box 117 [.sc (.int .i64 0),.sc (.int .i64 0),.sc (.bool po)])],2⟩) (λk=>a.length - k) 0 au (zqt id) λk hk=>?_;by_cases hlt:k < a.length
 .have hne:=hne k hlt;exact asN
 obtain rfl:k=a.length:=by omega
 refine lJ ?_;refine FY ?_;rw [heq];refine akY ?_;rw [hca];refine lJ ?_;refine WL.vl rfl (aS Tryz.func166 hN) ?_;refine akY ?_;rw [hcb];refine lJ ?_;refine WL.vl rfl (aS Tryz.func99 hD) ?_;cases hnum:bU b' with
 | none =>
  rw [hnum] at hRe;rcases hcase with rfl|rfl|⟨rfl,hk⟩
  .rw [hRe,if_pos rfl];exact D9
  .rw [hRe,if_neg (by decide)];exact D9
  .rw [hRe,if_neg (by decide)];exact D9| some v =>
  rw [hnum] at hRe;rcases hcase with rfl|rfl|⟨rfl,hk⟩
  .rw [hRe,if_pos rfl];exact D9
  .rw [hRe,if_neg (by decide)];dsimp only;rw [if_pos (by decide)];exact D9
  .rw [(rZ hk).1,(rZ hk).2] at hS;rw [hRe,if_neg (by decide)];dsimp only;rw [if_neg (by decide)];refine lJ ?_;refine WL.vl rfl (aS Tryz.func167 hS) ?_;exact D9
def afU(cs:List Crs)(st:List Int):(List Crs×List Int)×Int:=if jW cs st≠0 then(([],[]),jW cs st)else((cs,st),0)
theorem XF (cs:List Crs) (st:List Int):bC Tryz.prog 100 [.ag (jc cs st)] (.tu [.ag (jc (afU cs st).1.1 (afU cs st).1.2),.sc (.int .i64 (afU cs st).2)]):=by
 have hC:=TN cs st;unfold afU;by_cases he:jW cs st=0
 .rw [he] at hC;rw [if_neg (by rw [he];decide)];unfold jc at hC ⊢;refine dV Tryz.func100 Tryz.ntmps100 λw0 F0=>?_;dsimp only [St.init,number,Nat.reduceAdd];refine adS ?_;refine WL.vl rfl (aS Tryz.func56 hC) ?_;refine adS ?_;exact gZ
 .rw [if_pos he];obtain ⟨E,hE⟩:∃ z,jW cs st=z:=⟨_,rfl⟩;rw [hE] at hC he ⊢;unfold jc at hC ⊢;refine dV Tryz.func100 Tryz.ntmps100 λw0 F0=>?_;dsimp only [St.init,number,Nat.reduceAdd];refine adS ?_;refine WL.vl rfl (aS Tryz.func56 hC) ?_;refine adS ?_;refine W.tr (Tr.EH 1 0 3 rfl rfl rfl) ?_;refine W.tr (Tr.EH 1 1 1 rfl rfl rfl) ?_;exact gZ
theorem afO (t:List UInt8) (ht:t.length<=400000):bC Tryz.prog 45 [.sc (.string (bs t))] (.tu [.ag (jc (aF t).1.1 (aF t).1.2),.sc (.int .i64 (aF t).2)]):=by
 have hW:=Qz t au;have hwb:=jk 32 t;have hwl:(aZ 32 t).length<=500000:=by exact aef
 cases zI:oQ (aZ 32 t) with
 | none =>
  have hno:=zS zI;rw [Qh zI];obtain ⟨WW,hWW⟩:∃ z,aZ 32 t=z:=⟨_,rfl⟩;rw [hWW] at hW hwl hno;have hml:(WW.map aX).length=WW.length:=bK _;have JA:∀ k (h:k < WW.length),(WW.map aX)[((k:Nat):Int).toNat]?=some (aX WW[k]):=λk h=>by exact RI
  obtain ⟨LW,hLW⟩:∃ z,WW.map aX=z:=⟨_,rfl⟩;rw [hLW] at hW hml JA;refine dV Tryz.func45 Tryz.ntmps45 λw0 F0=>?_;dsimp only [St.init,number,Nat.reduceAdd];refine kH ?_;refine WL.vl rfl (aS Tryz.func97 hW) ?_;refine kH ?_;refine W.loop (λk:Nat=>k<=WW.length) (λk=>⟨[(0,.sc (.string (bs t))),(2,.pt 0 0 0),(4,.ls 1 LW),(5,.sc (.int .i64 (k:Int)))],[(0,.box 27 [.sc (.slice none 0 0),.sc (.slice none 0 0)])],1⟩) (λk=>WW.length - k) 0 au (zqt id) λk hk=>?_;by_cases hlt:k < WW.length
  .have hat:=JA k hlt;have hb:(WW[k] == ([58]:List UInt8))=false:=by
    have:=hno _ (gB hlt);exact lS
   obtain ⟨w,hw⟩:∃ z,WW[k]=z:=⟨_,rfl⟩;exact aly
  .obtain rfl:k=WW.length:=by omega
   exact acd| some ab =>
 obtain ⟨a,b⟩:=ab;obtain ⟨hL,hno⟩:=zT zI;have hal:a.length+b.length+1<=500000:=by rw [hL] at hwl;simp at hwl;omega
 have hba:∀ w∈a,w.length<=400000:=λw hw=>by exact UO
 have hbb:∀ w∈b,w.length<=400000:=λw hw=>by exact UO
 rw [hL] at hW;obtain ⟨L,VQ⟩:∃ z,(a++[58]::b).map aX=z:=⟨_,rfl⟩;have Y0:L.length=a.length+b.length+1:=by rw [← VQ];simp;omega
 have ahQ:∀ k (h:k < a.length),L[((k:Nat):Int).toNat]?=some (aX a[k]):=λk h=>by rw [← VQ,gy,dw,xY h,aO h];rfl
 have azA:L[((a.length:Nat):Int).toNat]?=some (aX [58]):=by rw [← VQ,gy,dw,wC (Nat.le_refl _)];simp
 have aoE:∀ k (h:k < b.length),L[((a.length:Int)+1+(k:Int)).toNat]?=some (aX b[k]):=λk h=>by rw [← VQ,show ((a.length:Int)+1+(k:Int)).toNat=a.length+(k+1) by omega,dw,wC (by omega),show a.length+(k+1) - a.length=k+1 by omega,List.getElem?_cons_succ,aO h];rfl
 rw [VQ] at hW;refine dV Tryz.func45 Tryz.ntmps45 λw0 F0=>?_;dsimp only [St.init,number,Nat.reduceAdd];refine kH ?_;refine WL.vl rfl (aS Tryz.func97 hW) ?_;refine kH ?_;refine W.loop (λk:Nat=>k<=a.length) (λk=>⟨[(2,.pt 0 0 0),(4,.ls 1 L),(5,.sc (.int .i64 (k:Int)))],[(0,.box 27 [.sc (.slice none 0 0),.sc (.slice none 0 0)])],1⟩) (λk=>a.length - k) 0 au (zqt id) λk hk=>?_;by_cases hlt:k < a.length
 .have hat:=ahQ k hlt;have hb:(a[k] == ([58]:List UInt8))=false:=by
   have:=hno _ (gB hlt);exact lS
  obtain ⟨w,hw⟩:∃ z,a[k]=z:=⟨_,rfl⟩;exact aly
 obtain rfl:k=a.length:=by omega
 have aBP:(([58]:List UInt8) == ([58]:List UInt8))=true:=rfl;refine kH ?_;refine WL.idx rfl rfl au azA ?_;refine kH ?_;refine arM ?_;refine W.loop (λk:Nat=>k<=a.length/\∀ j (hj:j < a.length),j < k->(fK a[j]).2=0) (λk=>⟨[(2,.pt 0 0 0),(4,.ls 1 L),(5,.sc (.int .i64 (a.length:Int))),(6,.pt 1 0 0),(7,.sc (.int .i64 (k:Int)))],[(0,.box 27 [.sc (.slice none 0 0),.sc (.slice none 0 0)]),(1,.box 27 [.sl 2,.sl 3]),(2,.row 117 3 ((nT (a.take k)).map bg)),(3,.row 3 1 [])],4⟩) (λk=>a.length - k) 0 ⟨by omega,λj hj h=>absurd h au⟩ (zqt id) λk hk=>?_;obtain ⟨hk,hall⟩:=hk;by_cases hlt:k < a.length
 .have F6:=aaE a[k] (by have:=hba a[k] (gB hlt);omega);have hbad:=GN hlt hall;have hat:=ahQ k hlt;have hnx:(fK a[k]).2=0->∀ j (hj:j < a.length),j < k+1->(fK a[j]).2=0:=λh j hj hjk=>by exact Jt
  have hrow:(nT (a.take (k+1))).map bg=(nT (a.take k)).map bg++[bg (fK a[k]).1]:=by
   unfold nT;exact YT
  obtain ⟨R,hR⟩:∃ z,(nT (a.take k)).map bg=z:=⟨_,rfl⟩;have hRl:R.length<=500000:=by rw [← hR];unfold nT;rw [bK,bK,jT];omega
  obtain ⟨⟨⟨c1,c2,c3⟩,e⟩,hce⟩:∃ z,fK a[k]=z:=⟨_,rfl⟩;rw [hce] at F6 hbad hnx hrow;rw [hR] at hrow ⊢;unfold bg at F6;dsimp only at F6 hbad hnx;obtain ⟨w,hw⟩:∃ z,a[k]=z:=⟨_,rfl⟩;rw [hw] at hat F6;clear hall;by_cases he:e=0;rotate_left
  .rw [Xf zI (by rw [hbad he];exact he),hbad he];refine YS ?_;refine WL.vl rfl (aS Tryz.func98 F6) ?_;exact acd
  .subst he;refine YS ?_;refine WL.vl rfl (aS Tryz.func98 F6) ?_;refine kH ?_;exact asy
 obtain rfl:k=a.length:=by omega
 have herr:=GR λj hj=>hall j hj hj;rw [jw];clear hall hk hlt;refine kH ?_;have hcl:(nT a).length=a.length:=bK _;obtain ⟨CS,hCS⟩:∃ z,nT a=z:=⟨_,rfl⟩;rw [hCS] at hcl ⊢;refine W.loop (λk:Nat=>k<=b.length/\∀ j (hj:j < b.length),j < k->(bU b[j]).isSome=true) (λk=>⟨[(2,.pt 0 0 0),(4,.ls 1 L),(6,.pt 1 0 0),(10,.sc (.int .i64 ((a.length:Int)+1+(k:Int))))],[(0,.box 27 [.sc (.slice none 0 0),.sc (.slice none 0 0)]),(1,.box 27 [.sl 2,.sl 3]),(2,.row 117 3 (CS.map bg)),(3,.row 3 1 ((nV (b.take k)).map eInt))],4⟩) (λk=>b.length - k) 0 ⟨by omega,λj hj h=>absurd h au⟩ (zqt id) λk hk=>?_;obtain ⟨hk,hall⟩:=hk;by_cases hlt:k < b.length
 .have F6:=L9 b[k] (by have:=hbb b[k] (gB hlt);omega);have hbad:=GV hlt;have hat:=aoE k hlt;have hnx:(bU b[k]).isSome=true->∀ j (hj:j < b.length),j < k+1->(bU b[j]).isSome=true:=λh j hj hjk=>by exact Jt
  have hrow:(nV (b.take (k+1))).map eInt=(nV (b.take k)).map eInt++[eInt (((bU b[k]).getD 0:Nat):Int)]:=by
   unfold nV;exact YT
  obtain ⟨R,hR⟩:∃ z,(nV (b.take k)).map eInt=z:=⟨_,rfl⟩;have hRl:R.length<=500000:=by rw [← hR];unfold nV;rw [bK,bK,jT];omega
  rw [hR] at hrow ⊢;clear hall;cases he:bU b[k] with
  | none =>
   rw [Xg zI herr (hbad he)];rw [he] at F6;obtain ⟨w,hw⟩:∃ z,b[k]=z:=⟨_,rfl⟩;rw [hw] at hat F6;refine YS ?_;refine WL.vl rfl (aS Tryz.func99 F6) ?_;exact acd| some v =>
   rw [he] at F6 hrow hnx;have hrow:(nV (b.take (k+1))).map eInt=R++[eInt (v:Int)]:=hrow;have F6:bC Tryz.prog 99 [.sc (.string (bs b[k]))] (.tu [.sc (.int .i64 (v:Int)),.sc (.bool true)]):=F6;obtain ⟨w,hw⟩:∃ z,b[k]=z:=⟨_,rfl⟩;rw [hw] at hat F6;refine YS ?_;refine WL.vl rfl (aS Tryz.func99 F6) ?_;refine kH ?_;refine ⟨k+1,⟨by omega,hnx rfl⟩,by omega,?_⟩;rw [hrow,show (a.length:Int)+1+((k+1:Nat):Int)=(a.length:Int)+1+(k:Int)+1 by omega];exact asJ
 obtain rfl:k=b.length:=by omega
 have hstp:=GX λj hj=>hall j hj hj;rw [jw];clear hall hk hlt;have SE:=Xh zI herr hstp;rw [hCS] at SE;obtain ⟨ST,hST⟩:∃ z,nV b=z:=⟨_,rfl⟩;rw [hST] at SE ⊢;have hC:=XF CS ST;have SE:aF t=afU CS ST:=SE;rw [SE];obtain ⟨⟨⟨cs,st⟩,E⟩,hK⟩:∃ z,afU CS ST=z:=⟨_,rfl⟩;rw [hK] at hC ⊢;unfold jc at hC ⊢;dsimp only at hC ⊢;refine W.tr (Tr.freeze 2 rfl) ?_;refine W.tr (Tr.freeze 3 rfl) ?_;refine kH ?_;refine WL.vl rfl (aS Tryz.func100 hC) ?_;refine kH ?_;exact gZ
end
end Go.Proofs.YthohlofpphjofaaGreatDoor
