/- Marks, holds and what a system lacks of a stop: the reference. -/
import Derived.Test.YthohlofpphjofaaGreatDoorFALq
import Derived.Test.YthohlofpphjofaaGreatDoorEPLq
set_option maxHeartbeats 1600000
set_option maxRecDepth 100000
set_option linter.unusedVariables false
set_option linter.unusedSimpArgs false
namespace Go.Proofs.YthohlofpphjofaaGreatDoor
theorem anx {p:Prop}(h:p:=by
 have hbL:(n == L)=false:=by simpa using hL
 exact ab3):p:=h
theorem ab3 {p:Prop}(h:p:=by
 rw [e2];clear e2 hL;go_enter Tryz.func204,Tryz.ntmps204;exact aed):p:=h
section
open Go.RowKit
def adI (ops:Array Oper)(k0:Nat):Bool:=Nat.ble k0 ops.size &&((List.range ops.size).all λj=>Nat.blt j k0|| (List.range j).all λi=>needs ops i ops.size j) &&((List.range k0).all λj=>match ops[j]? with
  | some o=>match o.guard with
   | some (g,_)=>Nat.blt g k0| none=>true
  | none=>true)
section
variable {P:Program} {ops:Array Oper} {Q Q1:Exit→Act→World→Prop}
theorem Oper.aqk {o:Oper} {a:Act} {w:World} {K K':Act->World->Prop} (hK:∀ a w,K a w->K' a w)(hQ:∀ e a w,e≠.normal->Q1 e a w->Q e a w)(h:o.wp P a w K Q1):o.wp P a w K' Q:=by
 unfold Oper.wp at *;generalize (execOp a.eval o).run P w=r at *;have lets:LetsOut Q1->LetsOut Q:=λ⟨a,w,q⟩=>⟨a,w,hQ _ _ _ (by simp) q⟩;unfold Oper.upon at *;grind[Calls.mono,Rows.mono]
theorem Yr {l s:List Oper} {t:Array Value} {g:Nat} (h:g<l.length):yielded (l++s).toArray t g=yielded l.toArray t g:=by simp_all[yielded,xY]
theorem abk (FA:∀ j oj,ops[j]?=some oj->∀ e∈oj.after,Region.binds .any e=true->e.on<j) {k0:Nat} (hT:∀ j,k0<=j->j<ops.size->∀ i,i<j->needs ops i ops.size j=true) :∀ (f m fuel:Nat) (listed:Array Bool) (a:Act) (w:World),m+f=ops.size->k0<=m->listed.size=ops.size->(∀ i,i<ops.size->listed.getD i false=decide (i<m))->f<=fuel->wpList P ops Q (ops.toList.drop m) a w->wpAny P .any ops Q fuel listed a w:=by
 intro f;induction f with
 | zero =>
  intro m fuel listed a w hm hk hsz hl hf h;have hr:Region.ready .any ops listed=[]:=by
   apply List.eq_nil_iff_forall_not_mem.2;grind[mem_ready]
  have hd:ops.toList.drop m=[]:=AL (by simp;omega);rw [hd] at h;cases fuel with
  | zero=>exact ⟨hr,h⟩| succ fuel=>exact ⟨λ_=>h,λi hi=>by simp_all⟩
 | succ f ih =>
  intro m fuel listed a w hm hk hsz hl hf h;obtain ⟨fuel,rfl⟩:∃ q,fuel=q+1:=⟨fuel-1,by omega⟩;have hlt:m<ops.size:=by omega
  have hom:ops[m]?=some ops[m]:=vC hlt;have hrm:m∈Region.ready .any ops listed:=mem_ready.2 ⟨by simp_all,_,hom,λe he hb=>by grind⟩;have hd:ops.toList.drop m=ops[m]::ops.toList.drop (m+1):=by rw [pX (by simpa using hlt)];simp
  rw [hd] at h;refine ⟨λhr=>(by rw [hr] at hrm;cases hrm),λi hi=>?_⟩;have him:m=i:=by
   obtain ⟨h1,oi,h2,h3⟩:=mem_ready.1 hi;have hi2:=(Array.getElem?_eq_some_iff.1 h2).1;have e1:listed.getD i true=listed.getD i false:=by simp [dU,hsz,hi2]
   rw [e1,hl i hi2] at h1;have hge:m<=i:=by simpa using h1
   by_cases e:m=i;.exact e
   .have:=vU (listed:=listed) (λj oj ho hj e he hb=>by
      have h5:=FA j oj ho e he hb;have hjs:=(Array.getElem?_eq_some_iff.1 ho).1;rw [hl j hjs] at hj;rw [hl _ (by omega)];have h6:=rP hj;exact bQ au) h2 h3 _ (hT i au hi2 m au);rw [hl m hlt] at this;simp at this
  subst him;have step:∀ a w,wpList P ops Q (ops.toList.drop (m+1)) a w->wpAny P .any ops Q fuel (listed.setIfInBounds m true) a w:=λa w hw =>ih (m+1) fuel _ a w (by omega) (by omega) Ru (λq hq=>by
    by_cases e:m=q
    .subst e;simp [dU,hsz,hlt]
    .have h7:(listed.setIfInBounds m true).getD q false=listed.getD q false:=by simp [dU,sO e]
     rw [h7,hl q hq];have:(q<m)↔(q<m+1):=by omega
     simp [this]) (by omega) hw;grind[wpOp,wpList,Oper.wp_mono]
theorem agO {l s:List Oper} (FA:∀ j oj,(l++s).toArray[j]?=some oj->∀ e∈oj.after,Region.binds .any e=true->e.on<j) (hT:∀ j,l.length<=j->j<(l++s).toArray.size->∀ i,i<j->needs (l++s).toArray i (l++s).toArray.size j=true)(hg:∀ (j:Nat) o g b,l[j]?=some o->o.guard=some (g,b)->g<l.length) (hN:∀ a w,Q1 .normal a w->wpList P (l++s).toArray Q s a w) (hQ:∀ e a w,e≠.normal->Q1 e a w->Q e a w) :∀ (fuel:Nat) (la lb:Array Bool) (a:Act) (w:World),la.size=l.length->lb.size=(l++s).length->(∀ i,i<l.length->lb.getD i false=la.getD i false)->(∀ i,l.length<=i->i<(l++s).length->lb.getD i false=false) ->(∀ j oj,l[j]?=some oj->la.getD j false=true->∀ e∈oj.after,Region.binds .any e=true->la.getD e.on false=true) ->wpAny P .any l.toArray Q1 fuel la a w->wpAny P .any (l++s).toArray Q (fuel+s.length) lb a w:=by
 have opl:∀ {j:Nat},j<l.length->(l++s).toArray[j]?=l[j]?:=λh=>by grind
 have FAl:∀ j oj,l[j]?=some oj->∀ e∈oj.after,Region.binds .any e=true->e.on<j:=λj oj ho=>FA j oj ((opl (List.getElem?_eq_some_iff.1 ho).1).trans ho);have fin:∀ (fuel:Nat) (la lb:Array Bool) (a:Act) (w:World),la.size=l.length->lb.size=(l++s).length->(∀ i,i<l.length->lb.getD i false=la.getD i false)->(∀ i,l.length<=i->i<(l++s).length->lb.getD i false=false) ->Region.ready .any l.toArray la=[]->Q1 .normal a w->wpAny P .any (l++s).toArray Q (fuel+s.length) lb a w:=by
  intro fuel la lb a w h1 h2 h3 h4 hr hq;have hall:∀ n i,i<n->i<l.length->la.getD i false=true:=by
   intro n;induction n with
   | zero=>intro i h;omega| succ n ih =>
    intro i hi hlt;by_cases e:i<n;.exact ih i e hlt
    .cases zJ:la.getD i false with
     | true=>rfl| false =>
      have hoi:l.toArray[i]?=some l[i]:=by simp [hlt]
      have:i∈Region.ready .any l.toArray la:=mem_ready.2 ⟨by
       have:la.getD i true=la.getD i false:=by simp [dU,h1,hlt]
       rw [this];exact zJ,l[i],hoi,λe he hb=>by
        have:=FAl i l[i] (by simp [hlt]) e he hb;exact ih e.on au au⟩;rw [hr] at this;cases this
  refine abk FA hT s.length l.length _ lb a w (by simp) (Nat.le_refl _) (by simpa using h2) (λi hi=>?_) (by omega) ?_;all_goals grind
 intro fuel;induction fuel with
 | zero =>
  intro la lb a w h1 h2 h3 h4 _ h;exact fin 0 la lb a w h1 h2 h3 h4 h.1 h.2| succ fuel ih =>
  intro la lb a w h1 h2 h3 h4 hcl h;obtain ⟨hn,hs⟩:=h;by_cases hr:Region.ready .any l.toArray la=[];.exact fin (fuel+1) la lb a w h1 h2 h3 h4 hr (hn hr)
  .obtain ⟨j0,hj0⟩:=List.exists_mem_of_ne_nil _ hr;obtain ⟨u1,o0,u2,u3⟩:=mem_ready.1 hj0;have aoH:j0<l.length:=by have:=(Array.getElem?_eq_some_iff.1 u2).1;simpa using this
   have azI:j0<(l++s).length:=by simp;omega
   have u1':la.getD j0 false=false:=by
    have:la.getD j0 true=la.getD j0 false:=by simp [dU,h1,aoH]
    rw [← this];exact u1
   have azE:∀ j oj,(l++s).toArray[j]?=some oj->lb.getD j false=true->∀ e∈oj.after,Region.binds .any e=true->lb.getD e.on false=true:=by
    intro j oj ho hj e he hb;have hjn:j<(l++s).length:=by have:=(Array.getElem?_eq_some_iff.1 ho).1;simpa using this
    by_cases e2:j<l.length
    .have ho':l[j]?=some oj:=(opl e2).symm.trans ho;have:=FAl j oj ho' e he hb;rw [h3 _ (by omega)];rw [h3 _ e2] at hj;exact hcl j oj ho' hj e he hb
    .rw [h4 j (by omega) hjn] at hj;cases hj
   rw [show fuel+1+s.length=(fuel+s.length)+1 by omega];have hmem:∀ i,i∈Region.ready .any (l++s).toArray lb->i<l.length/\i∈Region.ready .any l.toArray la:=by
    intro i hi;obtain ⟨v1,oi,v2,v3⟩:=mem_ready.1 hi;have hin:i<(l++s).toArray.size:=(Array.getElem?_eq_some_iff.1 v2).1;have hil:i<l.length:=by
     by_cases e:i<l.length;.exact e
     .have:=vU (listed:=lb) azE v2 v3 _ (hT i au hin j0 au);rw [h3 _ aoH,u1'] at this;cases this
    have v2':l.toArray[i]?=some oi:=by rw [opl hil] at v2;simpa using v2
    refine ⟨hil,mem_ready.2 ⟨?_,oi,v2',λe he hb=>?_⟩⟩
    .have q1:lb.getD i true=lb.getD i false:=by simp [dU,show i<lb.size by rw [h2];simpa using hin]
     have q2:la.getD i true=la.getD i false:=by simp [dU,h1,hil]
     rw [q2,← h3 i hil,← q1];exact v1
    .have:=FA i oi v2 e he hb;rw [← h3 _ (by omega)];exact v3 e he hb
   refine ⟨λhr2=>?_,λi hi=>?_⟩
   .have:j0∈Region.ready .any (l++s).toArray lb:=mem_ready.2 ⟨by
     have:lb.getD j0 true=lb.getD j0 false:=by simp [dU,show j0<lb.size by rw [h2];exact azI]
     rw [this,h3 _ aoH];exact u1',o0,by rw [opl aoH];simpa using u2,λe he hb=>by
      have:=FAl j0 o0 (by simpa using u2) e he hb;rw [h3 _ (by omega)];exact u3 e he hb⟩;rw [hr2] at this;cases this
   .obtain ⟨hil,hia⟩:=hmem i hi;obtain ⟨v1,oi,v2,v3⟩:=mem_ready.1 hia;have zJ:l[i]?=some oi:=by simpa using v2
    have h:=hs i hia;have hob:(l++s).toArray[i]?=some oi:=(opl hil).trans zJ;have hset:∀ q,i≠q->∀ (x:Array Bool),(x.setIfInBounds i true).getD q false=x.getD q false:=λq e x=>by simp [dU,sO e]
    have step:∀ a w,wpAny P .any l.toArray Q1 fuel (la.setIfInBounds i true) a w->wpAny P .any (l++s).toArray Q (fuel+s.length) (lb.setIfInBounds i true) a w:=λa w k =>ih _ _ a w yh (by simpa using h2) (λq hq=>by
      by_cases e:i=q;.subst e;simp [dU,h1,h2,hil];omega
      .rw [hset q e,hset q e];exact h3 q hq) (λq hq hq2=>by rw [hset q (by omega)];exact h4 q hq hq2) (λq oq hoq hq e he hb=>by
       have mono:∀ x,la.getD x false=true->(la.setIfInBounds i true).getD x false=true:=λx hx=>by
        by_cases e:i=x;.subst e;simp [dU,h1,hil]
        .rw [hset x e];exact hx
       by_cases e2:i=q
       .subst e2;rw [zJ] at hoq;cases hoq;exact mono _ (v3 e he hb)
       .rw [hset q e2] at hq;exact mono _ (hcl q oq hoq hq e he hb)) k;unfold wpOp at h ⊢;simp only [v2] at h;simp only [hob];have hwant:Region.wanted oi (yielded (l++s).toArray a.tmps)=Region.wanted oi (yielded l.toArray a.tmps):=by cases hgd:oi.guard with
     | none=>simp [Region.wanted,hgd]| some gb =>
      obtain ⟨g,b⟩:=gb;simp [Region.wanted,hgd,Yr (hg i oi g b zJ hgd)]
    rw [hwant];by_cases hw:Region.wanted oi (yielded l.toArray a.tmps)=true
    .rw [if_pos hw] at h ⊢;rcases h with h|⟨h,hl⟩;.exact .inl (Oper.aqk step hQ h)
     .exact .inr ⟨h,let ⟨a,w,q⟩:=hl;⟨a,w,hQ _ _ _ (by simp) q⟩⟩
    .rw [if_neg hw] at h ⊢;exact step _ _ h
end
section
variable {P:Program} {C:Cx} {σ:St} {Q:Exit→St→Prop}
theorem W.xw {id:Nat} {L:List Oper} (k0:Nat) (hm:P.follows .mixedOrders=true) (hB:Region.lexB .any L.toArray=true) (hT:adI L.toArray k0=true)(h:WA P C (L.take k0).toArray σ (λe s=>e=.normal/\WL P C L.toArray (L.drop k0) s Q)):W P C (.region id L.toArray true) σ Q:=by
 refine W.pK hm λG a w ok=>?_;obtain ⟨l,hl⟩:∃ l,L.take k0=l:=⟨_,rfl⟩;obtain ⟨s,hs⟩:∃ s,L.drop k0=s:=⟨_,rfl⟩;have hL:L=l++s:=by grind[NI]
 rw [hl,hs] at h;simp only [Region.lexB,gG] at hB;obtain ⟨FA,_⟩:=uh (ops:=L.toArray) L.toArray.size 0 (Array.replicate L.toArray.size false) (by simp) (by simp) (λi hi=>by simp_all) hB.2;simp only [adI,gG] at hT;obtain ⟨⟨T0,T1⟩,T2⟩:=hT;have hk:l.length<=k0:=by grind
 by_cases hkL:k0<=L.length
 .have hlk:l.length=k0:=by rw [← hl];simp;omega
  subst hL;have:=agO (P:=P) (Q:=Post C Q) (Q1:=Post C (λe s'=>e=.normal/\WL P C (l++s).toArray s s' Q)) (l:=l) (s:=s) (λj oj ho=>FA j oj (iT _) ho) (λj hj hjn i hij=>by
    have q:=List.all_eq_true.1 T1 j (List.mem_range.2 hjn);have e:Nat.blt j k0=false:=by cases hb:Nat.blt j k0 with
     | false=>rfl| true=>have:=dn hb;omega
    rw [e,Q5] at q;exact List.all_eq_true.1 q i (List.mem_range.2 hij)) (λj o g b ho hgd=>by
    have hj:j<l.length:=(List.getElem?_eq_some_iff.1 ho).1;have q:=List.all_eq_true.1 T2 j (List.mem_range.2 au);rw [show (l++s).toArray[j]?=some o by simp [xY hj,ho]] at q;simp only [hgd] at q;have:=dn q;omega) (λa w ⟨s',G',⟨_,q⟩,o⟩=>q G' a w o) (λe a w he ⟨s',G',⟨q,_⟩,o⟩=>absurd q he) l.length (Array.replicate l.length false) (Array.replicate (l++s).length false) a _ (by simp) (by simp) (λi hi=>by rw [rF,rF]) (λi _ _=>rF _ _) (λj oj _ hj=>by rw [rF] at hj;cases hj) (by simpa using h G a w ok);exact lS
 simp_all
end
theorem W.dkT {P:Program} {C:Cx} {σ:St} {Q:Exit->St->Prop} {id:Nat} {L:List Oper} (k0:Nat)(hm:P.follows .mixedOrders=true)(hB:Region.lexB .any L.toArray=true)(hT:adI L.toArray k0=true)(hB2:Region.lexB .any (L.take k0).toArray=true)(h:DK P C (L.take k0).toArray (L.take k0) σ (λe s=>e=.normal/\WL P C L.toArray (L.drop k0) s Q)):W P C (.region id L.toArray true) σ Q :=W.xw k0 hm hB hT (let⟨_,a,b⟩:=h;WA.draw hB2 a b)
end
section
def Ar:List UInt8:=[66,83,77,67,81,88,68]
def tW (v:Int)(i:Nat):List UInt8:=if v=0 then [45] else if i=0 then cut Ar (v-1) v else if i=1 then cut Ar (v-1) v++[46] else cut Ar (v-1) v++[51]
def Ec (s v:Int)(i:Nat):Bool:=if v=0 then decide (s≠4)else (decide (i≠2)|| decide (s≠4))
def rW(s v:Int)(i:Nat):List UInt8:=if Ec s v i=true then tW v i else []
def DY(i:Nat):Bool:=i == 1
def BI(i:Nat):Bool:=i == 2
def qG (v:Int)(d t:Bool):Bool:=(v == 0 && !d && !t)|| (decide (1<=v) && decide (v<=7) && !(d && t))
def Y3(d t:Bool):Nat:=if d then 1 else if t then 2 else 0
def JZ(v:Int)(d t:Bool):Int :=if v<1\/7<v\/(d && t)=true then 0 else if d then 384/2 ^ (v-1).toNat/2*3 else if t then 384/2 ^ (v-1).toNat/3*2 else 384/2 ^ (v-1).toNat
theorem ax1:((List.range' 1 7).all λv=>[(false,false),(true,false),(false,true)].all λp=>decide (0<JZ (v:Nat) p.1 p.2))=true:=by decide +kernel
theorem adK (v:Int)(d t:Bool)(hv:1<=v/\v<=7)(h:(d && t)=false):0<JZ v d t:=by
 obtain⟨v,rfl⟩:=kQ (show 0<=v by omega);have h1:=ax1;rw [oW]at h1;have h2:=h1 v (List.mem_range'_1.2 au);rw [oW]at h2;cases d<;>cases t;all_goals simp_all
theorem axZ (v:Int)(i:Nat)(hv:0<=v/\v<=7):tW v i≠[]:=by
 unfold tW;by_cases h0:v=0;.simp_all
 .rw [if_neg h0];have hc:cut Ar (v-1) v≠[]:=by
   have h7:v=1\/v=2\/v=3\/v=4\/v=5\/v=6\/v=7:=by omega
   rcases h7 with rfl|rfl|rfl|rfl|rfl|rfl|rfl<;>decide
  split;.exact hc
  .split<;>simp
end
section
open Go.RowKit
attribute [local go_sem]zQ dI jf je gq
attribute [local simp]tV jZ iK lG
theorem MR (s n:Int)(w:World)(hs:1<=s/\s<=4)(h:0<=n/\n<=3) :Calls Tryz.prog 202 #[.int .u8 s,.int .i64 n] w λe w'=>e=.returned (.string (bs (rR s n)))/\w'=w:=by
 have h4:n=0\/n=1\/n=2\/n=3:=by omega
 have s4:s=1\/s=2\/s=3\/s=4:=by omega
 clear h hs;rcases h4 with rfl|rfl|rfl|rfl<;>rcases s4 with rfl|rfl|rfl|rfl;all_goals
  go_enter Tryz.func202,Tryz.ntmps202;go_wp2;go_ret;exact⟨rfl,rfl⟩
theorem MH (s n:Int)(w:World)(hs:1<=s/\s<=4)(h:0<=n/\n<=4) :Calls Tryz.prog 203 #[.int .u8 s,.int .i64 n] w λe w'=>e=.returned (.string (bs (rG s n)))/\w'=w:=by
 have h4:n=0\/n=1\/n=2\/n=3\/n=4:=by omega
 have s4:s=1\/s=2\/s=3\/s=4:=by omega
 clear h hs;rcases h4 with rfl|rfl|rfl|rfl|rfl<;>rcases s4 with rfl|rfl|rfl|rfl;all_goals
  go_enter Tryz.func203,Tryz.ntmps203;go_wp2;go_ret;exact⟨rfl,rfl⟩
theorem atg:((List.range 10).all λn=>cut [48,49,50,51,52,53,54,55,56,57] ((n:Nat):Int) (((n:Nat):Int)+1) == [UInt8.ofNat (48+n)])=true:=by decide +kernel
theorem Ze (n:Int)(h:0<=n/\n<=9):cut [48,49,50,51,52,53,54,55,56,57] n (n+1)=[UInt8.ofNat (48+n.toNat)]:=by
 obtain⟨k,rfl⟩:=kQ h.1;have h1:=atg;rw [oW] at h1;have:=h1 k (List.mem_range.2 au);exact lS
theorem Ij (n:Int) (w:World) (h:0<=n/\n<=9) :Calls Tryz.prog 208 #[.int .i64 n] w λe w'=>e=.returned (.string (bs (jy n.toNat)))/\w'=w:=by
 obtain ⟨h0,h1⟩:=h;have e:jy n.toNat=cut [48,49,50,51,52,53,54,55,56,57] n (n+1):=by rw [Ze n ⟨h0,h1⟩];unfold jy;rw [if_pos (by omega)]
 rw [e];have hm:n % 10=n:=by omega
 have g1:n<=n+1:=by omega
 have g2:n+1<=10:=by omega
 have g3:n<10:=by omega
 clear e;go_enter Tryz.func208,Tryz.ntmps208;go_wp2;go_ret;exact ⟨rfl,rfl⟩
theorem Vy (n:Int) (w:World) (h:10<=n/\n<=99) :Calls Tryz.prog 208 #[.int .i64 n] w λe w'=>e=.returned (.string (bs (jy n.toNat)))/\w'=w:=by
 obtain ⟨h0,h1⟩:=h;have e:jy n.toNat=jy (n/10).toNat++cut [48,49,50,51,52,53,54,55,56,57] (n % 10) (n % 10+1):=by
  rw [Ze (n % 10) (by omega)];unfold jy;rw [if_neg (by omega),if_pos (by omega)];rw [show (n/10).toNat=n.toNat/10 from by omega,show (n % 10).toNat=n.toNat % 10 from by omega];rfl
 rw [e];have g0:0<=n % 10:=by omega
 have g0':0<=n:=by omega
 have g1:n % 10<=n % 10+1:=by omega
 have g2:n % 10+1<=10:=by omega
 have g2':n % 10<=9:=by omega
 have g3:¬ n < 10:=by omega
 have g4:¬ n < 0:=by omega
 have hd:0<=n/10/\n/10<=9:=by omega
 have hl:(jy (n/10).toNat).length+(cut [48,49,50,51,52,53,54,55,56,57] (n % 10) (n % 10+1)).length<=9223372036854775807:=by
  have:=zA (n/10).toNat;rw [Ze (n % 10) (by omega)];simp;omega
 clear e;go_enter Tryz.func208,Tryz.ntmps208;go_wp2_with (go_at_call 208;refine (Ij _ _ hd).mono ?_;rintro e w' ⟨rfl,hw⟩;rw [hw];clear hw);go_ret;exact ⟨rfl,rfl⟩
theorem Vx (n:Int) (w:World) (h:0<=n/\n<=99) :Calls Tryz.prog 208 #[.int .i64 n] w λe w'=>e=.returned (.string (bs (jy n.toNat)))/\w'=w:=by
 by_cases h9:n<=9;.exact Ij n w ⟨h.1,h9⟩
 .exact Vy n w ⟨by omega,h.2⟩
theorem QA (s n L:Int) (w:World) (hs:1<=s/\s<=4) (h:0<=n/\n<=99) :Calls Tryz.prog 204 #[.int .u8 s,.int .i64 n,.int .i64 L] w λe w'=>e=.returned (.string (bs (rH s n L)))/\w'=w:=by
 have s4:s=1\/s=2\/s=3\/s=4:=by omega
 clear hs;rcases s4 with rfl|rfl|rfl|rfl
 .have e2:rH 1 n L=95::jy n.toNat:=if_pos rfl;have hl':1+(jy n.toNat).length<=9223372036854775807:=by have:=zA n.toNat;omega
  rw [e2];clear e2;go_enter Tryz.func204,Tryz.ntmps204;go_wp2_with (go_at_call 208;refine (Vx _ _ h).mono ?_;rintro e w' ⟨rfl,hw⟩;rw [hw];clear hw);go_ret;exact ⟨rfl,rfl⟩
 .by_cases hL:n=L
  .have e2:rH 2 n L=[42]:=by unfold rH;rw [if_neg (by decide),if_pos ⟨by decide,hL⟩]
   have hbL:(n == L)=true:=by simpa using hL
   exact ab3
  .have e2:rH 2 n L=[]:=by unfold rH;rw [if_neg (by decide),if_neg (λh=>hL h.2)]
   exact anx
 .have e2:rH 3 n L=[]:=rfl;rw [e2];clear e2;go_enter Tryz.func204,Tryz.ntmps204;exact aed
 .by_cases hL:n=L
  .have e2:rH 4 n L=[42]:=by unfold rH;rw [if_neg (by decide),if_pos ⟨by decide,hL⟩]
   have hbL:(n == L)=true:=by simpa using hL
   exact ab3
  .have e2:rH 4 n L=[]:=by unfold rH;rw [if_neg (by decide),if_neg (λh=>hL h.2)]
   exact anx
end
end Go.Proofs.YthohlofpphjofaaGreatDoor
