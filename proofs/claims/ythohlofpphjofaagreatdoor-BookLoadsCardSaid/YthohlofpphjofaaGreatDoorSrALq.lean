/- Notes of the staff: the reference's Base, Right, Sounding. -/
import Derived.Test.YthohlofpphjofaaGreatDoorFBlLq
import Derived.Test.YthohlofpphjofaaGreatDoorRi0Lq
set_option maxHeartbeats 4000000
set_option maxRecDepth 100000
set_option linter.unusedVariables false
set_option linter.unusedSimpArgs false
namespace Go.Proofs.YthohlofpphjofaaGreatDoor
section
variable {p:Prop}
theorem ab7(h:p:=by
 clear h;go_enter Tryz.func172,Tryz.ntmps172;exact YW):p:=h
theorem amd(h:p:=by simp only [dU,Array.getElem?_replicate];split<;>rfl):p:=h
theorem alf(h:p:=by
 rw [hb];refine dV Tryz.func226 Tryz.ntmps226 λw0 F0=>?_;dsimp only [St.init,number,Nat.reduceAdd];refine Ob ?_;exact W.ret kR):p:=h
theorem YW(h:p:=by
 go_wp2;go_ret;exact iZ.mk' rfl CU):p:=h
theorem asM(h:p:=by
 have mono:∀ q,L.getD q false=true->(L.setIfInBounds k true).getD q false=true:=λq hq=>by
  by_cases e:k=q;.subst e;simp [dU,show k<L.size by rw [h.s1];exact hlt]
  simp_all
 grind):p:=h
theorem asL(h:p:=by
 have ho:ops[k]?=some ops[k]:=vC hk;obtain⟨X,hX,_⟩:=hl.op k _ ho;have hg:=(hl.tm k _ ho).2.1;unfold wpOp at h ⊢;rw [hX] at h;rw [ho];simp only [Region.wanted,hg,if_true] at h ⊢;exact h):p:=h
theorem asC(h:p:=by
 refine mem_ready.2 ⟨?_,_,ho,λe' he' hb'=>?_⟩;.rw [JM (by rw [h.s1];exact hr),← h.at_ _ hr,hl.inr q hlt,← JM (by rw [h.s2];exact hlt)];exact h1
 .obtain ⟨e,he,hb,heq⟩:=hX2 e' he' hb';rw [← h.at_ _ ((hl.tm _ _ ho).2.2 e' he'),← heq];exact h2 e he hb):p:=h
theorem asB(h:p:=by
 refine ⟨by simp [h.s1],by simp [h.s2],λp hp=>?_⟩;by_cases e:k=p
 .subst e;have h1:k<L.size:=by rw [h.s1];exact hk
  have h2:π k<LA.size:=by rw [h.s2];exact hl.lt k hk
  simp_all
 .have e2:π k≠π p:=λx=>e (by rw [← hl.inv k hk,x,hl.inv p hp]);have:=h.at_ p hp;simp_all):p:=h
theorem asj(h:p:=by
 have hlt:=uQ hk;obtain ⟨h1,o,ho,h2⟩:=mem_ready.1 hk;obtain ⟨X,hX,hX1,_⟩:=hl.op k o ho;refine mem_ready.2 ⟨?_,_,hX,λe he hb=>?_⟩;.rw [JM (by rw [h.s2];exact hl.lt k hlt),h.at_ k hlt,← JM (by rw [h.s1];exact hlt)];exact h1
 .rcases hX1 e he hb with⟨e',he',hb',heq⟩|⟨rfl,heq⟩;.rw [heq,h.at_ _ ((hl.tm k o ho).2.2 e' he')];exact h2 e' he' hb'
  .rw [heq,h.at_ _ hl.hi];exact hij rfl):p:=h
end
theorem RD {p q:Prop}(k:q)(h:dA q->p:=by
 intro hq;repeat (first|refine DK.st rfl ?_|refine DK.ar rfl rfl aAz ?_|refine DK.nil ?_)
 exact hq.k):p:=h ⟨k⟩
theorem akQ {p q:Prop}(k:q)(h:dA q->p:=by
 intro hq;refine W.Vz aK aK ?_;exact hq.k):p:=h ⟨k⟩
section
open Go.RowKit
attribute [local go_sem]zQ dI jf je gq
attribute [local simp]tV jZ iK lG
theorem aAz {z:Int} (h:I64 z:=by unfold I64;omega):I64 z:=h
theorem agI (v:Int)(d t:Bool)(w:World)(h:v < 1\/7 < v\/(d && t)=true):Calls Tryz.prog 172 #[.agg #[.int .i64 v,.bool d,.bool t]] w (iZ (.int .i64 0) w):=by
 by_cases h1:v < 1;.exact ab7
 .by_cases h2:7 < v;.exact ab7
  .have h3:d=true/\t=true:=by
    rcases h with h|h|h;.exact absurd h h1
    .exact absurd h h2
    .simpa using h
   obtain⟨rfl,rfl⟩:=h3;exact ab7
theorem abf (v:Int)(d t:Bool)(w:World)(hv:1<=v/\v<=7)(h:(d && t)=false):Calls Tryz.prog 172 #[.agg #[.int .i64 v,.bool d,.bool t]] w (iZ (.int .i64 (JZ v d t)) w):=by
  have h7:v=1\/v=2\/v=3\/v=4\/v=5\/v=6\/v=7:=by omega
  clear hv;cases d<;>cases t;all_goals first
    | (exfalso;revert h;decide)
    | (clear h;rcases h7 with rfl|rfl|rfl|rfl|rfl|rfl|rfl;all_goals
         go_enter Tryz.func172,Tryz.ntmps172;go_wp2;go_ret;exact iZ.mk' rfl CU)
theorem QM (v:Int) (d t:Bool) (w:World):Calls Tryz.prog 172 #[.agg #[.int .i64 v,.bool d,.bool t]] w (iZ (.int .i64 (JZ v d t)) w):=by
 by_cases h:v<1\/7<v\/(d && t)=true
 .have e:JZ v d t=0:=if_pos h;rw [e];exact agI v d t w h
 .exact abf v d t w au (by cases hd:(d && t) with|false=>rfl|true=>exact absurd (.inr (.inr hd)) h)
end
section
open Go.RowKit
def agG:Op->Bool
 | .move _=>true| .assign _=>true| .alloc _=>true| .box _ _=>true| .load _ _=>true| .store _ _ _=>true| .fieldAddr _ _ _=>true| .field _ _ _=>true| .indexAddr _ _ _=>true| .index _ _ _=>true| _=>false
section
variable {P:Program} {o:Oper} {a:Act} {w:World} {K K1 K2:Act→World→Prop} {Q:Exit→Act→World→Prop}
theorem aq1 (s:Sem Value)(n:Next)(w':World)(h:(do pure (Next.value (← s)):Sem Next).run P w=.ok n w'):∃ x,n=.value x:=by
 rw [Sem.run_bind]at h;cases hs:s.run P w<;>grind[Result.andThen,Sem.run_pure]
theorem aq0(s:Sem Unit)(n:Next)(w':World)(h:(do s;pure Next.skip:Sem Next).run P w=.ok n w'):n=.skip:=by
 rw [Sem.run_bind]at h;cases hs:s.run P w<;>simp_all
theorem aqf {ev:Operand->Value} (ht:agG o.op=true) (n:Next) (w':World) (h:(execOp ev o).run P w=.ok n w'):(∃ x,n=.value x)\/n=.skip:=by
 unfold execOp at h;cases ho:o.op<;>simp only [ho,agG]at ht h<;>first
  | (cases ht;done)|exact .inl (aq1 _ _ _ h)|exact .inr (aq0 _ _ _ h)| (cases h;exact .inl ⟨_,rfl⟩)
theorem avn (ht:agG o.op=true)(h1:o.wp P a w K1 Q)(h2:o.wp P a w K2 Q):o.wp P a w (λa w=>K1 a w/\K2 a w) Q:=by
 unfold Oper.wp at *;cases hr:(execOp a.eval o).run P w with
 | ok n w' =>
  rw [hr] at h1 h2;rcases aqf ht n w' hr with⟨x,rfl⟩|rfl;.exact⟨h1,h2⟩
  .exact⟨h1,h2⟩| halt x w'=>rw [hr] at h1 h2;cases x<;>simp only [Oper.upon] at h1 h2 ⊢<;>exact h1
end
structure Laid (ops A:Array Oper)(π ρ:Nat->Nat)(i j:Nat):Prop where
 sz:A.size=ops.size
 lt:∀ p,p<ops.size->π p<ops.size
 inv:∀ p,p<ops.size->ρ (π p)=p
 ltr:∀ q,q<ops.size->ρ q<ops.size
 inr:∀ q,q<ops.size->π (ρ q)=q
 hi:i<ops.size
 hj:j<ops.size
 op:∀ (p:Nat)(o:Oper),ops[p]?=some o->∃ X:Array Edge,A[π p]?=some { o with after:=X }/\(∀ e∈X,Region.binds .any e=true->(∃ e'∈o.after,Region.binds .any e'=true/\e.on=π e'.on)\/(p=j/\e.on=π i)) /\(∀ e'∈o.after,Region.binds .any e'=true->∃ e∈X,Region.binds .any e=true/\e.on=π e'.on)tm:∀ (p:Nat)(o:Oper),ops[p]?=some o->agG o.op=true/\o.guard=none/\∀ e∈o.after,e.on<ops.size
structure Agr (n:Nat)(π:Nat->Nat)(L LA:Array Bool):Prop where
 s1:L.size=n
 s2:LA.size=n
 at_:∀ p,p<n->LA.getD (π p) false=L.getD p false
section
variable {P:Program} {ops A B:Array Oper} {π ρ π' ρ':Nat→Nat} {i j k:Nat} {L LA LB:Array Bool} {a:Act} {w:World} {K K1 K2:Act→World→Prop} {Q:Exit→Act→World→Prop}
theorem JM {L:Array Bool} {p:Nat} (h:p<L.size):L.getD p true=L.getD p false:=by simp_all
theorem Agr.put (hl:Laid ops A π ρ i j) (h:Agr ops.size π L LA) (hk:k<ops.size):Agr ops.size π (L.setIfInBounds k true) (LA.setIfInBounds (π k) true):=by exact asB
theorem uQ(h:k∈Region.ready .any ops L):k<ops.size:=by grind[mem_ready]
theorem rD (hl:Laid ops A π ρ i j) (h:Agr ops.size π L LA) (hij:k=j->L.getD i false=true) (hk:k∈Region.ready .any ops L):π k∈Region.ready .any A LA:=by exact asj
theorem ajE (hl:Laid ops A π ρ i j) (h:Agr ops.size π L LA) {q:Nat} (hq:q∈Region.ready .any A LA):ρ q∈Region.ready .any ops L:=by
 have hlt:=uQ hq;rw [hl.sz] at hlt;obtain ⟨h1,o',ho',h2⟩:=mem_ready.1 hq;have hr:=hl.ltr q hlt;have ho:ops[ρ q]?=some ops[ρ q]:=vC hr;obtain ⟨X,hX,_,hX2⟩:=hl.op (ρ q) _ ho;rw [hl.inr q hlt,ho'] at hX;cases hX;exact asC
theorem ready_nil(hl:Laid ops A π ρ i j)(h:Agr ops.size π L LA)(hr:Region.ready .any ops L=[]):Region.ready .any A LA=[] :=List.eq_nil_iff_forall_not_mem.2 λq hq=>by grind[ajE]
theorem FH (hl:Laid ops A π ρ i j)(hk:k<ops.size)(h:wpOp P A Q (π k) K a w):wpOp P ops Q k K a w:=by exact asL
theorem akz (hk:k<ops.size)(ht:agG ops[k].op=true)(hg:ops[k].guard=none)(h1:wpOp P ops Q k K1 a w)(h2:wpOp P ops Q k K2 a w):wpOp P ops Q k (λa w=>K1 a w/\K2 a w) a w:=by grind[wpOp,Region.wanted,avn]
theorem QU (hl:Laid ops A π ρ i j):∀ (fuel:Nat) (L LA:Array Bool) (a:Act) (w:World),Agr ops.size π L LA->(L.getD i false=true\/L.getD j false=true)->wpAny P .any A Q fuel LA a w->wpAny P .any ops Q fuel L a w:=by
 have cond:∀ {L:Array Bool} {k:Nat},L.size=ops.size->(L.getD i false=true\/L.getD j false=true)->k∈Region.ready .any ops L->k=j->L.getD i false=true:=by grind[mem_ready]
 intro fuel;induction fuel with
 | zero =>
  intro L LA a w h hor hw;refine ⟨List.eq_nil_iff_forall_not_mem.2 λk hk=>?_,hw.2⟩;have:=rD hl h (cond h.s1 hor hk) hk;rw [hw.1] at this;cases this| succ fuel ih =>
  intro L LA a w h hor hw;refine ⟨λhr=>hw.1 (ready_nil hl h hr),λk hk=>?_⟩;have hlt:=uQ hk;refine wpOp_mono (λa' w' hw'=>ih _ _ a' w' (h.put hl hlt) ?_ hw') (FH hl hlt (hw.2 _ (rD hl h (cond h.s1 hor hk) hk)));exact asM
theorem abj (hA:Laid ops A π ρ i j) (hB:Laid ops B π' ρ' j i) (hne:i≠j):∀ (fuel:Nat) (L LA LB:Array Bool) (a:Act) (w:World),Agr ops.size π L LA->Agr ops.size π' L LB->L.getD i false=false->L.getD j false=false ->wpAny P .any A Q fuel LA a w->wpAny P .any B Q fuel LB a w->wpAny P .any ops Q fuel L a w:=by
 intro fuel;induction fuel with
 | zero =>
  intro L LA LB a w ha hb hi hj wa wb;refine ⟨List.eq_nil_iff_forall_not_mem.2 λk hk=>?_,wa.2⟩;by_cases e:k=j
  .have:=rD hB hb (λe2=>absurd (e2.symm.trans e) hne) hk;rw [wb.1] at this;cases this
  .have:=rD hA ha (λe2=>absurd e2 e) hk;rw [wa.1] at this;cases this| succ fuel ih =>
  intro L LA LB a w ha hb hi hj wa wb;refine ⟨λhr=>wa.1 (ready_nil hA ha hr),λk hk=>?_⟩;have hlt:=uQ hk;have hs:(L.setIfInBounds k true).getD k false=true:=by simp [dU,show k<L.size by rw [ha.s1];exact hlt]
  have hso:∀ q,k≠q->(L.setIfInBounds k true).getD q false=L.getD q false:=λq e=>by simp_all
  by_cases e1:k=i
  .subst e1;exact wpOp_mono (λa' w' hw'=>QU hA fuel _ _ a' w' (ha.put hA hlt) (.inl hs) hw') (FH hA hlt (wa.2 _ (rD hA ha (λe=>absurd e hne) hk)))
  .by_cases e2:k=j
   .subst e2;exact wpOp_mono (λa' w' hw'=>QU hB fuel _ _ a' w' (hb.put hB hlt) (.inl hs) hw') (FH hB hlt (wb.2 _ (rD hB hb (λe=>absurd e e1) hk)))
   .have t:=hA.tm k _ (vC hlt);refine wpOp_mono (λa' w' hw'=>ih _ _ _ a' w' (ha.put hA hlt) (hb.put hB hlt) ((hso i e1).trans hi) ((hso j e2).trans hj) hw'.1 hw'.2) (akz hlt t.1 t.2.1 (FH hA hlt (wa.2 _ (rD hA ha (λe=>absurd e e2) hk))) (FH hB hlt (wb.2 _ (rD hB hb (λe=>absurd e e1) hk))))
theorem WA.either {C:Cx} {σ:St} {Q:Exit->St->Prop} (hA:Laid ops A π ρ i j) (hB:Laid ops B π' ρ' j i) (hne:i≠j) (h1:WA P C A σ Q) (h2:WA P C B σ Q):WA P C ops σ Q:=by
 intro G a w ok;have r:∀ (n p:Nat),(Array.replicate n false).getD p false=false:=λn p=>by exact amd
 have ag:∀ (π:Nat->Nat),Agr ops.size π (Array.replicate ops.size false) (Array.replicate ops.size false):=λπ=>⟨by simp,by simp,λp _=>by rw [r,r]⟩;have x:=h1 G a w ok;have y:=h2 G a w ok;rw [hA.sz] at x;rw [hB.sz] at y;exact abj hA hB hne _ _ _ _ a _ (ag π) (ag π') (r _ _) (r _ _) x y
end
abbrev Sf:=Int×Int×Int×Int
abbrev Ln:=Int×Int
def lookA (k:Ln):List (Ln×Int)->Int
 | []=>0| x::r=>if k=x.1 then x.2 else lookA k r
def Nr (k:Ln)(v:Int):List (Ln×Int)->List (Ln×Int)
 | []=>[(k,v)]| x::r=>if k=x.1 then (k,v)::r else x::Nr k v r
theorem P7 (k q:Ln)(v:Int):∀ l,lookA q (Nr k v l)=if q=k then v else lookA q l
 | []=>by simp [Nr,lookA]| x::r=>by
  unfold Nr;by_cases h:k=x.1
  .rw [if_pos h];unfold lookA;by_cases hq:q=k;.simp [hq]
   .rw [if_neg hq,if_neg hq,if_neg (λe=>hq (e.trans h.symm))]
  .rw [if_neg h];unfold lookA;by_cases hq:q=x.1;.rw [if_pos hq,if_pos hq,if_neg (λe=>h (e.symm.trans hq))]
   .rw [if_neg hq,if_neg hq,P7 k q v r]
def JD (l:List (Ln×Int)):List (Ln×Value):=l.map λx=>(x.1,.int .i64 x.2)
def zD(k:Ln):Value:=.agg #[.int .i64 k.1,.int .i64 k.2]
theorem P6 (k:Ln):∀ (l:List (Ln×Int)) (i:Nat),((zN k i (JD l)).map (·.2)).getD (.int .i64 0)=.int .i64 (lookA k l)
 | [],i=>rfl| x::r,i=>by
  show ((if k=x.1 then some (i,Value.int .i64 x.2)else zN k (i+1) (JD r)).map (·.2)).getD _=_;unfold lookA;by_cases h:k=x.1;·rw [if_pos h,if_pos h];rfl
  ·rw [if_neg h,if_neg h];exact P6 k r (i+1)
theorem ZM (k:Ln)(l:List (Ln×Int)):ait (.int .i64 0) k (JD l)=.int .i64 (lookA k l):=P6 k l 0
theorem QS (k:Ln) (v:Int):∀ l:List (Ln×Int),Ns k (.int .i64 v) (JD l)=JD (Nr k v l)
 | []=>rfl| x::r=>by
  show (if k=x.1 then (k,Value.int .i64 v)::JD r else (x.1,Value.int .i64 x.2)::Ns k (.int .i64 v) (JD r))=JD (if k=x.1 then (k,v)::r else x::Nr k v r);by_cases h:k=x.1;.rw [if_pos h,if_pos h];rfl
  .rw [if_neg h,if_neg h,QS k v r];rfl
def aAt(key:Int)(b:UInt8):Int :=if 0<=Lib.indexByte [3,0,4,1] b/\Lib.indexByte [3,0,4,1] b<key then 1 else if 0<=Lib.indexByte [6,2,5,1] b/\Lib.indexByte [6,2,5,1] b<0-key then -1 else 0
def byteOf(l:Int):UInt8:=(l % 256).toNat.toUInt8
def ahG (key:Int)(alt:List (Ln×Int))(k:Ln):Int:=if 0<lookA k alt then lookA k alt-2 else aAt key (byteOf k.1)
def RQ(al:Int):Int:=if al=1 then 1 else if al=-1 then 2 else 3
def sF (alt:List (Ln×Int)):Prop:=∀ k,0<=lookA k alt/\lookA k alt<=3
theorem sF.nil:sF []:=λk=>⟨wz 0,by show(0:Int)<=3;decide⟩
theorem sF.upd {alt:List (Ln×Int)} (h:sF alt)(k:Ln) {v:Int} (hv:0<=v/\v<=3):sF (Nr k v alt):=λq=>by
 rw [P7];split;.exact hv
 .exact h q
theorem an1:((List.range 7).all λk=>decide (sU k=if (k:Int)<3 then 2*(k:Int)else 2*(k:Int)-1))=true:=by decide
theorem XE (l:Int) (h:0<=l/\l<=6):bC Tryz.prog 226 [.sc (.int .i64 l)] (.sc (.int .i64 (sU l))):=by
 have hb:sU l=if l < 3 then 2*l else 2*l - 1:=by
  obtain ⟨k,rfl⟩:=kQ h.1;have:=List.all_eq_true.1 an1 k (List.mem_range.2 au);exact lS
 by_cases h3:l < 3
 .rw [if_pos h3] at hb;exact alf
 .rw [if_neg h3] at hb;exact alf
theorem He (l al o:Int):bC Tryz.prog 225 [.ag [.sc (.int .i64 l),.sc (.int .i64 al),.sc (.int .i64 o)]] (.sc (.bool (jQ l al o))):=by
 refine dV Tryz.func225 Tryz.ntmps225 λw0 F0=>?_;dsimp only [St.init,number,Nat.reduceAdd];have hc:(l < 0\/(¬ l < 0/\6 < l)\/(¬ l < 0/\¬ 6 < l/\al < -1)\/(¬ l < 0/\¬ 6 < l/\¬ al < -1/\1 < al)\/(¬ l < 0/\¬ 6 < l/\¬ al < -1/\¬ 1 < al/\o < -1)\/(¬ l < 0/\¬ 6 < l/\¬ al < -1/\¬ 1 < al/\¬ o < -1/\9 < o))\/wo l al o:=by unfold wo;omega
 rcases hc with hc|hc
 .have hno:=QH (l:=l) (al:=al) (o:=o) (by unfold wo;omega);rw [hno];rcases hc with h|h|h|h|h|h;all_goals
   refine zk ?_;exact W.ret kR
 .obtain ⟨⟨h1,h2⟩,⟨h3,h4⟩,h5,h6⟩:=id hc;have hbd:=Ee ⟨h1,h2⟩;have hB:=XE l ⟨h1,h2⟩;have hin:=X5 hc;unfold BR at hin;obtain ⟨b,hb⟩:∃ b,sU l=b:=⟨_,rfl⟩;rw [hb] at hbd hB hin;rw [hin];by_cases hr:0<=12*(o+1)+b+al/\12*(o+1)+b+al<=127
  .rw [bQ hr];refine zk ?_;refine akQ ?_;refine RD ?_;refine DK.vl rfl (aS Tryz.func226 hB) ?_;refine RD ?_;refine zk ?_;exact W.ret kR
  .rw [bW hr];have hr2:(12*(o+1)+b+al < 0)\/(¬ 12*(o+1)+b+al < 0/\127 < 12*(o+1)+b+al):=by omega
   rcases hr2 with h|h;all_goals
    refine zk ?_;refine akQ ?_;refine RD ?_;refine DK.vl rfl (aS Tryz.func226 hB) ?_;refine RD ?_;refine zk ?_;exact W.ret kR
theorem TQ (l al o:Int):bC Tryz.prog 167 [.ag [.sc (.int .i64 l),.sc (.int .i64 al),.sc (.int .i64 o)]] (.tu [.sc (.int .i64 (aa3 l al o)),.sc (.int .i64 (aj1 l al o))]):=by
 refine dV Tryz.func167 Tryz.ntmps167 λw0 F0=>?_;dsimp only [St.init,number,Nat.reduceAdd];refine aq9 ?_;refine WL.vl rfl (WV.call rfl (aj Tryz.func225 rfl rfl) rfl rfl (He l al o)) ?_;cases hok:jQ l al o with
 | false =>
  rw [(wV hok).1,(wV hok).2];refine abB ?_;exact kT| true =>
  obtain ⟨⟨⟨h1,h2⟩,⟨h3,h4⟩,h5,h6⟩,hv⟩:=Nc hok;have hbd:=Ee ⟨h1,h2⟩;have hB:=XE l ⟨h1,h2⟩;have hR:aa3 l al o=12*(o+1)+sU l+al:=(rZ hok).1;obtain ⟨b,hb⟩:∃ b,sU l=b:=⟨_,rfl⟩;rw [hb] at hbd hB hR;rw [hR,(rZ hok).2];refine abB ?_;refine akQ ?_;refine RD ?_;refine DK.vl rfl (aS Tryz.func226 hB) ?_;refine RD ?_;refine abB ?_;exact kT
end
end Go.Proofs.YthohlofpphjofaaGreatDoor
