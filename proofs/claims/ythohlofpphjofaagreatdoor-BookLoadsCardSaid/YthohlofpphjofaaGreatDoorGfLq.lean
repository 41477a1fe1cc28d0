/- A walk that knows values as trees: a drawn region in which a call and an operation that makes memory do not wait for each other; a value that only what was written so far knows. -/
import Derived.Test.YthohlofpphjofaaGreatDoorOncLq
set_option maxHeartbeats 8000000
set_option maxRecDepth 100000
set_option linter.unusedVariables false
set_option linter.unusedSimpArgs false
namespace Go.Proofs.YthohlofpphjofaaGreatDoor
theorem ale {p:Prop}(h:p:=by
 simp only [dL];rw [pV (by omega)];have:=h.r0;rwa [dL] at this):p:=h
theorem asF {p:Prop}(h:p:=by
 rcases h.ring c' h1 h2 with⟨q1,q2⟩|⟨k,q1,⟨y,q2,q3⟩,q4⟩;.exact .inl ⟨q1,λy hy hr=>q2 y hy ((ZB c' y e).1 hr)⟩
 .exact .inr ⟨k,q1,⟨y,q2,(ZB c' y e).2 q3⟩,λk' y' a b=>q4 k' y' a ((ZB c' y' e).1 b)⟩):p:=h
theorem asl {p:Prop}(h:p:=by
 rcases h.ring c h1 h2 with⟨q1,q2⟩|⟨k,q1,⟨y,q2,q3⟩,q4⟩
 .refine .inl ⟨q1,λy hy hr=>?_⟩;rcases List.mem_append.1 hy with hy|hy;.exact q2 y hy hr
  .rw [CO] at hy;subst hy;exact hn hr
 .refine .inr ⟨k,q1,⟨y,first k y q2,q3⟩,λk' y' a b=>?_⟩;rcases last k' y' a with a|⟨a,rfl⟩;.exact q4 k' y' a b
  .exact absurd b hn):p:=h
section
open Go.RowKit
def itQ (s:List UInt8) (pos:Nat):Opq :=⟨λw b v φ=>v=.pointer (some ⟨b,0,none⟩)/\φ b/\w.heap[b]?=some (.stringIter (bs s) pos),λw w' b v φ h ⟨h1,h2,h3⟩=>⟨h1,h2,(h b h2).trans h3⟩⟩
section
variable {P:Program} {C:Cx} {σ σ':St} {G G':Gh} {a:Act} {w w':World} {o:Oper} {d:Tmp} {ops:Array Oper} {rest:List Oper} {Q:Exit→St→Prop}
theorem WO.rgs {T:TypeId} {s:List UInt8} {x:Operand} {q:Nat} (hd:ji C.N o=some d) (ho:o.op=.range T x) (hT:P.underlying T=some .string) (hx:σ.ev x=some (.sc (.string (bs s)))) (hq:σ.nk=q):WO P C o σ ((σ.new (.opq (itQ s 0))).put d (.sl q)):=by
 intro G a w ok N Q' hN;obtain ⟨_,hds,hdb⟩:=gK hd;have ok':=ok.newObj (S:=λ_=>False) (w':=w.iter (bs s) 0) (b:=w.heap.size) (n:=0) (h:=.pointer (some ⟨w.heap.size,0,none⟩)) (φ:=λx=>x=w.heap.size) (ob:=.opq (itQ s 0)) (Kept.below ((Below.refl _ _).alloc (Nat.le_refl _) _)) (λ_ h=>h.elim) (λ_ _ _ _ _ h=>h) (λ_ _ _ h=>h) (by
   show (itQ s 0).Q _ _ _ _;rw [su,fB,qH];exact ⟨rfl,rfl,World.iter_heap w _ _⟩) trivial (λx hx=>by
   subst hx;exact ⟨.inl ok.bel.size,by simp [World.iter],λk o h1 h2=>by have:=(ok.my k o _ h1 h2).2;omega,λp u h1 h2=>by have:=aQ (ok.fw p u h1);omega⟩);subst hq;refine Jr ?_;simp only [ho,ok.evs hx,run_range_string w T _ hT,Sem.run_bind,Sem.run_pure,Result.andThen_ok];show N (a.put o.dst _) _;exact anE
theorem WL.rgs {T:TypeId} {s:List UInt8} {x:Operand} {t:List (Nat×AV)} {M:List (Nat×AO)} {nk:Nat} (hd:ji C.N o=some d) (ho:o.op=.range T x) (hT:P.underlying T=some .string) (hx:(⟨t,M,nk⟩:St).ev x=some (.sc (.string (_root_.Go.Proofs.YthohlofpphjofaaGreatDoor.bs s))))(k:WL P C ops rest ⟨(d,.sl nk)::t,(nk,.opq (itQ s 0))::M,nk+1⟩ Q):WL P C ops (o::rest) ⟨t,M,nk⟩ Q :=WL.op (gK hd).1 (WO.rgs hd ho hT hx rfl) k
theorem aie {s:List UInt8} {pos:Nat} (ok:Ok C σ G a w) {q:Nat} {x:Operand} (hx:σ.ev x=some (.sl q)) (hq:look q σ.M=some (.opq (itQ s pos))) :a.eval x=.pointer (some ⟨G.b q,0,none⟩)/\G.fp q (G.b q)/\w.heap[G.b q]?=some (.stringIter (bs s) pos):=by
 obtain ⟨h1,h2,h3⟩:(itQ s pos).Q w (G.b q) (G.h q) (G.fp q):=(ok.ob q _ hq).2.2;exact ⟨(ok.l9 hx).2.lH.1.trans h1,h2,h3⟩
theorem WO.nxs {s:List UInt8} {pos q:Nat} {x:Operand} (hd:ji C.N o=some d) (ho:o.op=.next x true) (hx:σ.ev x=some (.sl q)) (hq:look q σ.M=some (.opq (itQ s pos))) (hp:pos<s.length) :WO P C o σ ((σ.upd q (.opq (itQ s (pos+(Utf8.decode (bs s) pos).2)))).put d (.tu [.sc (.bool true),.sc (.int .i64 (pos:Int)),.sc (.int .i32 (Utf8.decode (bs s) pos).1)])):=by
 intro G a w ok N Q' hN;obtain ⟨_,hds,hdb⟩:=gK hd;obtain ⟨e1,e2,e3⟩:=aie ok hx hq;have ok':Ok C (σ.upd q (.opq (itQ s (pos+(Utf8.decode (bs s) pos).2)))) G a (w.iterAt (G.b q) (bs s) (pos+(Utf8.decode (bs s) pos).2)) :=ok.Uj hq e2 ⟨rfl,rfl,rfl,by simp [World.iterAt],λx _ hx=>sO (λe=>hx e.symm)⟩ ⟨(ok.ob q _ hq).2.2.1,e2,Lib.iterAt_heap w _ _ _ _ e3⟩ trivial;refine Jr ?_;simp only [ho,e1,Lib.run_next_any_at w _ _ _ _ e3 (by rw [dI];exact hp),Sem.run_bind,Sem.run_pure,Result.andThen_ok];show N (a.put o.dst _) _;rw [hds];exact hN _ _ _ (ok'.set (d:=some d) (.pu _ _ (.tu _ _ rfl λi av u p r=>by match i with
  | 0=>cases p;cases r;exact .sc _| 1=>cases p;cases r;exact .sc _| 2=>cases p;cases r;exact .sc _| i+3=>simp at p)) (RP.bd (F:=G.F) (v:=.tuple #[.bool true,.int .i64 pos,.int .i32 (Utf8.decode (bs s) pos).1]) (.tu _ _ rfl λi av u p r=>by match i with
  | 0=>cases p;cases r;exact .sc _| 1=>cases p;cases r;exact .sc _| 2=>cases p;cases r;exact .sc _| i+3=>simp at p) _) λx hx=>by cases hx;exact dn hdb)
theorem WL.nxs {s:List UInt8} {pos q:Nat} {x:Operand} {t:List (Nat×AV)} {M M':List (Nat×AO)} {nk:Nat} (hd:ji C.N o=some d) (ho:o.op=.next x true) (hx:(⟨t,M,nk⟩:St).ev x=some (.sl q)) (hq:look q M=some (.opq (itQ s pos))) (hM:zu q M=some M') (hp:pos<s.length)(k:WL P C ops rest ⟨(d,.tu [.sc (.bool true),.sc (.int .i64 (pos:Int)),.sc (.int .i32 (Utf8.decode (_root_.Go.Proofs.YthohlofpphjofaaGreatDoor.bs s) pos).1)])::t,(q,.opq (itQ s (pos+(Utf8.decode (_root_.Go.Proofs.YthohlofpphjofaaGreatDoor.bs s) pos).2)))::M',nk⟩ Q):WL P C ops (o::rest) ⟨t,M,nk⟩ Q:=by
 rw [jE hM] at k;exact WL.op (gK hd).1 (yT (WO.nxs (σ:=⟨t,M,nk⟩) hd ho hx hq hp)) k
theorem WV.nxe {s:List UInt8} {pos q:Nat} {x:Operand} (ho:o.op=.next x true) (hx:σ.ev x=some (.sl q)) (hq:look q σ.M=some (.opq (itQ s pos))) (hp:s.length<=pos):WV P C o σ (.tu [.sc (.bool false)]):=by
 have hr:∀ F:View,RP F (.tu [.sc (.bool false)]) (.tuple #[.bool false]):=λF=>.tu _ _ rfl λi av u p r=>by match i with
  | 0=>cases p;cases r;exact .sc _| i+1=>simp at p
 refine WV.val (λG a w ok=>(hr G.F).bd _) λG a w ok=>⟨.tuple #[.bool false],?_,.pu _ _ (hr _)⟩;obtain ⟨e1,e2,e3⟩:=aie ok hx hq;unfold execOp;simp only [ho,e1,Lib.run_next_end_at w _ _ _ _ e3 Rt,Sem.run_bind,Sem.run_pure,Result.andThen_ok]
end
end
section
open Go.RowKit Go.Shelf
attribute [local go_sem]Oper.semAt_some
attribute [-go_sem]Builtin.append_
theorem avj:((List.range' 1 7).all λv=>[(false,false),(true,false),(false,true)].all λp=>decide (JZ (v:Nat) p.1 p.2<=1000))=true:=by decide +kernel
theorem avk (v:Int) (d t:Bool):0<=JZ v d t/\JZ v d t<=1000:=by
 by_cases hb:v<1\/7<v\/(d && t)=true
 .have:JZ v d t=0:=if_pos hb;omega
 .have hv:1<=v/\v<=7:=by omega
  have hdt:(d && t)=false:=by cases h:(d && t) with|false=>rfl|true=>exact absurd (.inr (.inr h)) hb
  have h0:=adK v d t hv hdt;obtain ⟨n,rfl⟩:∃ n:Nat,v=n:=⟨v.toNat,by omega⟩;have h1:=List.all_eq_true.1 avj n (by rw [List.mem_range'_1];omega);have h2:=List.all_eq_true.1 h1 (d,t) (by cases d<;>cases t<;>simp_all);have h3:=rP h2;exact ⟨by omega,h3⟩
theorem KC:∀ (t:Int)(l:List Ev),0<=t/\t<=1000->0<=Io t l/\Io t l<=1000
 | t,[],h=>h| t,e::r,h=>by
  unfold Io;exact KC _ r (by split<;>first|exact avk _ _ _|exact h)
def aY (evs:List Ev):Nat->Int
 | 0=>0| k+1=>aY evs k+Io 0 (evs.take (k+1))
theorem EX (evs:List Ev):∀ k,0<=aY evs k/\aY evs k<=1000*k
 | 0=>⟨wz 0,wz 0⟩| k+1=>by have h:=EX evs k;have h2:=KC 0 (evs.take (k+1)) (by decide);unfold aY;omega
def jG (evs:List Ev)(k:Nat):List Int:=(List.range (k+1)).map (aY evs)
theorem afy (evs:List Ev)(k:Nat):jG evs (k+1)=jG evs k++[aY evs (k+1)]:=by simp [jG,Nw]
theorem rC(evs:List Ev)(k:Nat):(jG evs k).length=k+1:=by simp [jG]
theorem Tryz.SN:(Tryz.prog.info? 3).map (λi=>(i.zero,i.size,i.bytes))=some (some (.int .i64 0),1,8):=by kernel_rfl
theorem aau (M:PM) (p:bV) (w:World) (hP:ag9 w w.heap.size M p) (hO:jh p) (hC:∀ w':World,Below w.heap.size w w'->Calls Tryz.prog 51 #[jD M p] w' (iZ (.int .i64 (bM p)) w')) (h0:bM p=0):Calls Tryz.prog 79 #[jD M p] w λe w' =>∃ v,e=.returned (.tuple #[v,.int .i64 0])/\w'.ownsRow w.heap.size 3 1 v (p.evs.length+1) ((jG p.evs p.evs.length).map λx=>.int .i64 x)/\Below w.heap.size w w':=by
 rw [h0] at hC;have hn3:=hO.n3;have hT:=λw'=>QO M p w';obtain ⟨A1,A2,A3,c1,c2,c3⟩:=M;obtain ⟨n1,hn1⟩:∃ n,p.cs.length=n:=⟨_,rfl⟩;obtain ⟨n2,hn2⟩:∃ n,p.st.length=n:=⟨_,rfl⟩;obtain ⟨n3,hnn⟩:∃ n,p.evs.length=n:=⟨_,rfl⟩;unfold jD at *;simp only at *;rw [hn1,hn2,hnn] at hC hT;rw [hnn] at hn3;rw [hn1,hn2,hnn];have HC:=Lib.hid hC;have HT:=Lib.hid hT;have HP:=Lib.hid hP;have HN:=Lib.hid hnn;obtain ⟨i0,hi,hz0,hz1,hz2⟩:=info_parts Tryz.SN;clear hC hT hP hnn hn1 hn2 hO h0;refine (callsIn_wide (n:=4)).1 ?_;refine callsIn_of_wp_marks Tryz.func79 rfl trivial ?_ rfl;simp only [Tryz.ntmps79,QY,pW,AA,Nat.reduceAdd,Nat.reduceSub,abm,abn,List.push_toArray,abo,Un,QW];gi_wp2_with (first
  | (refine ⟨trivial,?_⟩;gi_at_call 51;refine (callsIn_wide.2 (HC.out _ CU)).mono ?_;rintro e' w1 ⟨rfl,hb1⟩;have k1:=(yV.new _ _ _).after hb1;have x0:w1.cell? ⟨w.heap.size,0,none⟩=some (.slice A1 n1 c1):=k1.cell 0;have x1:w1.cell? ⟨w.heap.size,1,none⟩=some (.slice A2 n2 c2):=k1.cell 1;have x2:w1.cell? ⟨w.heap.size,2,none⟩=some (.slice A3 n3 c3):=k1.cell 2;have l1:w.heap.size < w1.heap.size:=k1.lt;have K1:=Lib.hid k1;clear k1)| (refine ⟨trivial,?_⟩;gi_at_call 153;refine (callsIn_wide.2 (HT.out _)).mono ?_;rintro e' w2 ⟨rfl,rfl⟩));have hB0:Below w.heap.size w w1:=((Below.refl _ w).alloc (Nat.le_refl _) _).trans (hb1.mono (by simp));have hB3:Below w.heap.size w (((w1.alloc (Obj.cells #[Value.int IntKind.i64 0] 3)).alloc (Obj.cells #[Value.slice (some { block:=w1.heap.size,off:=0 }) 1 1] 25)).alloc (Obj.cells #[Value.slice A1 n1 c1,Value.slice A2 n2 c2,Value.slice A3 n3 c3] 30)):=((hB0.alloc (by omega) _).alloc (by simp;omega) _).alloc (by simp;omega) _;have kb:yV (((w1.alloc (Obj.cells #[Value.int IntKind.i64 0] 3)).alloc (Obj.cells #[Value.slice (some { block:=w1.heap.size,off:=0 }) 1 1] 25)).alloc (Obj.cells #[Value.slice A1 n1 c1,Value.slice A2 n2 c2,Value.slice A3 n3 c3] 30)) (w1.heap.size+1+1) 30 #[Value.slice A1 n1 c1,Value.slice A2 n2 c2,Value.slice A3 n3 c3]:=by
  have:=yV.new ((w1.alloc (Obj.cells #[Value.int IntKind.i64 0] 3)).alloc (Obj.cells #[Value.slice (some { block:=w1.heap.size,off:=0 }) 1 1] 25)) 30 #[Value.slice A1 n1 c1,Value.slice A2 n2 c2,Value.slice A3 n3 c3];rwa [World.size_alloc,World.size_alloc] at this
 refine Yq (n:=4) (gf:=212) (lb:=#[Value.pointer (some ⟨w1.heap.size+1+1,0,none⟩)]) rfl (enters_of Tryz.func212 aK rfl) (encs:=λk=>#[.int .i64 (k:Int),.int .i64 (Io 0 (p.evs.take (k+1)))]) (len:=n3) (n₀:=w.heap.size) (by simp;omega) (λl J W hW hJ hY h0=>QN 3 (by omega) l (w1.heap.size+1+1) w.heap.size n3 c3 A3 p.evs HN.out hn3 _ J hJ hY W (by have:=hW.size;simp at this;omega) ((hW.cell (p:=⟨w1.heap.size+1+1,2,none⟩) (by simp)).trans (kb.cell 2)) (HP.out.2.1.below (hB3.trans (hW.mono hB3.size))) h0) (λ_=>rfl) (λk W=>(∃ v,Boxed W (w1.heap.size+1) 25 v/\W.ownsRow w.heap.size 3 1 v (k+1) ((jG p.evs k).map λx=>.int .i64 x)/\True)/\Below w.heap.size w W) (OwnFrom.and (Own.from (holdsRow_own w.heap.size (w1.heap.size+1) 25 3 1 (λk=>k+1) (λk=>(jG p.evs k).map λx=>Value.int .i64 x) (λ_ _=>True)) _) (ownFrom_below (Nat.le_refl _) (by simp;omega))) ⟨⟨.slice (some ⟨w1.heap.size,0,none⟩) 1 1,?_,?_,trivial⟩,hB3⟩
  (λk=>{ tmps:=#[Value.agg #[Value.slice A1 n1 c1,Value.slice A2 n2 c2,Value.slice A3 n3 c3],Value.pointer (some { block:=w.heap.size,off:=0 }),Value.slice none 0 0,Value.int IntKind.i64 0,Value.int IntKind.i64 0,Value.pointer (some { block:=w1.heap.size+1,off:=0 }),.int .i64 (k:Int),.int .i64 (Io 0 (p.evs.take (k+1))),Value.agg #[Value.slice A1 n1 c1,Value.slice A2 n2 c2,Value.slice A3 n3 c3],Value.int IntKind.i64 0,Value.int IntKind.i64 0,Value.bool false,undef,Value.slice (some { block:=w1.heap.size,off:=0 }) 1 1,Value.agg #[Value.slice A1 n1 c1,Value.slice A2 n2 c2,Value.slice A3 n3 c3],Value.func (Fn.func 212) #[] #[Value.pointer (some { block:=w1.heap.size+1+1,off:=0 })],.int .i64 (k:Int),.int .i64 (Io 0 (p.evs.take (k+1))),undef,undef,undef,undef,undef,undef,undef,undef,undef,undef],defers:=[] }) ?assign ?body ?done
 .have:=Boxed.new (w1.alloc (Obj.cells #[Value.int IntKind.i64 0] 3)) 25 (.slice (some ⟨w1.heap.size,0,none⟩) 1 1);rw [World.size_alloc] at this;exact this.alloc _
 .refine ((World.ownsRow.alloc ?_ _).alloc _);exact ⟨by simp [jG],.inr ⟨w1.heap.size,1,#[.int .i64 0],rfl,by omega,World.alloc_heap_new _ _,Nat.le_refl _,by decide,rfl,by simp [jG,aY]⟩⟩
 case assign =>
  intro l k W K hK;gi_wp2;exact hK
 case body =>
  rintro l k W ⟨⟨v,hv,hrow,_⟩,hB⟩ hlt;obtain ⟨g,cap,rfl⟩:=ownsRow_succ hrow;have hc:=hv.cell;obtain ⟨T,hT⟩:∃ T,Io 0 (p.evs.take (k+1))=T:=⟨_,rfl⟩;have hx:W.cell? ⟨g,k,none⟩=some (.int .i64 (aY p.evs k)):=by
   rw [hrow.cellAt k (by omega)];simp [jG]
  have hbd:=EX p.evs k;have hTb:=KC 0 (p.evs.take (k+1)) ⟨by decide,by decide⟩;rw [hT] at hTb;rw [hT];gi_wp2;have hwr:IntKind.i64.wrap (aY p.evs k+T)=aY p.evs k+T:=Go.IntWalk.i64_in _ ⟨by omega,by omega⟩;have hk1:((k:Int) < (k:Int)+1):=by omega
  have hfo:Tryz.prog.follows .mixedOrders=true:=by kernel_rfl
  obtain ⟨v',w4,hrun,r1,r2,r3⟩:=run_append_own (P:=Tryz.prog) ((W.alloc (Obj.cells #[.int .i64 (aY p.evs k+T)] 3)).drew) w.heap.size 25 25 3 i0 (.int .i64 0) 1 8 Tryz.underlying25 hi hz0 hz1 hz2 rfl (by decide) _ (k+1) _ (show (W.alloc _).ownsRow _ _ _ _ _ _ from hrow.alloc _) ⟨W.heap.size,0,none⟩ 1 1 [.int .i64 (aY p.evs k+T)] rfl (cell_one_new W _ _) (by simp [Value.oneCell']) Oh (by omega) (by have:=hB.size;simp;omega);obtain ⟨g',cap',rfl⟩:=ownsRow_succ r1;obtain ⟨hv1,hv2,hr2,hk2,hb2⟩:=hv.appended (tmp:=Obj.cells #[.int .i64 (aY p.evs k+T)] 3) (by decide) hrow hB.size au r1 ⟨r2.os,r2.tape,r2.output,r2.size,r2.block⟩;have hc1:=hv1.cell;have hlW:=hv.lt;have hf1:=hv1.frozen;gi_region_with_o (fail);all_goals exact ⟨hk2,hb2,⟨_,hv2,by rw [afy];simpa [aY,hT] using hr2,trivial⟩,hB.trans hb2⟩
 case done =>
  rintro D W hD ⟨⟨v,hv,hrow,_⟩,hB⟩ hK;have hc:=hv.cell;gi_wp2;refine ⟨by simp,.inl ⟨_,_,rfl,run_takeDeferred hK,?_⟩⟩;refine ⟨_,results_tmp2 rfl _ _ _,v,rfl,?_,hB.trans (belowK_b (w:=w) (Nat.le_refl _) W D _ _ (by simp at hD;omega) hK rfl rfl)⟩;exact ownsRow_putObj hrow _ hK rfl
end
section
open Go.RowKit
abbrev Nt:=Int×Int×Int×Int×Int
def pR(evs:List Ev)(j:Nat):Nat:=j+((evs.drop j).takeWhile λe=>e.tie).length
theorem agx {evs:List Ev} {j:Nat} (h:j<evs.length)(ht:evs[j].tie=true):pR evs j=pR evs (j+1):=by
 unfold pR;rw [pX h,List.takeWhile_cons_of_pos (by simpa using ht)];simp;omega
theorem ake {evs:List Ev} {j:Nat} (h:j<evs.length)(ht:evs[j].tie=false):pR evs j=j:=by
 unfold pR;rw [pX h,List.takeWhile_cons_of_neg (by simp [ht])];simp
theorem agw {evs:List Ev} {j:Nat} (h:evs.length<=j):pR evs j=j:=by
 unfold pR;rw [AL h];simp
theorem akd {evs:List Ev} {j:Nat} (h:j<=evs.length):j<=pR evs j/\pR evs j<=evs.length:=by
 unfold pR;have h1:=(Yu (p:=λe:Ev=>e.tie) (l:=evs.drop j)).length_le;simp at h1;omega
def DJ (cs:List (Int×Int×Bool))(st:List Int)(c f:Int):Int:=(cs.getD (c-1).toNat (0,0,false)).1+if 0<f then st.getD (f-1).toNat 0 else 0
structure NS where
 out:List Nt
 ring:List Int
def Fq (l:List Nt)(k:Nat)(t:Int):List Nt :=match l[k]? with
 | some n=>l.set k (n.1,n.2.1,n.2.2.1,n.2.2.2.1,t)| none=>l
def pU (c:Nat)(t:Int)(s:NS):NS:=if 0<s.ring.getD c 0 then⟨Fq s.out (s.ring.getD c 0-1).toNat t,s.ring.set c 0⟩else s
def nI (t:Int):Nat->NS->NS
 | 0,s=>s| k+1,s=>pU k t (nI t k s)
def xJ (p:bV)(i:Nat)(x:Stp):Nt:=((i:Int),x.1,DJ p.cs p.st x.1 x.2.1,aY p.evs i,if 0<x.2.1 then aY p.evs (pR p.evs (i+x.2.2.2.2.toNat+1))else aY p.evs p.evs.length)
def addN (p:bV)(i:Nat)(x:Stp)(s:NS):NS :=⟨(pU x.1.toNat (aY p.evs i) s).out++[xJ p i x],if 0<x.2.1 then (pU x.1.toNat (aY p.evs i) s).ring else (pU x.1.toNat (aY p.evs i) s).ring.set x.1.toNat ((pU x.1.toNat (aY p.evs i) s).out.length+1)⟩
def uq (p:bV)(k:Nat)(stops:List Stp)(s:NS):Nat->NS
 | 0=>s| q+1=>match stops[q]? with
  | some x=>addN p k x (uq p k stops s q)| none=>uq p k stops s q
def vY (p:bV)(k:Nat)(e:Ev)(s:NS):NS:=if lC e then nI (aY p.evs k) 15 s else s
def zY (p:bV):Nat->NS
 | 0=>⟨[],List.replicate 15 0⟩| k+1=>match p.evs[k]? with
  | some e=>uq p k e.stops (vY p k e (zY p k)) e.stops.length| none=>zY p k
def XC(p:bV)(i:Nat)(x:Stp):Nt:=((i:Int),x.1,x.2.1,(xJ p i x).2.2.2.1,(xJ p i x).2.2.2.2)
def DN (p:bV):Nat->List Nt
 | 0=>[]| k+1=>match p.evs[k]? with
  | some e=>DN p k++e.stops.map (XC p k)| none=>DN p k
def BL(evs:List Ev)(c:Int)(j:Nat):Bool:=match evs[j]? with
 | some e=>lC e|| hasB c e.stops| none=>false
def Ac (evs:List Ev)(i:Nat)(c:Int)(b:Nat):Option Nat:=(List.range b).find? λj=>decide (i<j) && BL evs c j
theorem GY (evs:List Ev)(i:Nat)(c:Int)(b:Nat):Ac evs i c (b+1)=(Ac evs i c b).or (if i<b/\BL evs c b=true then some b else none):=by
 unfold Ac;rw [Nw,List.find?_append];congr 1;by_cases h:i<b/\BL evs c b=true;.rw [if_pos h];simp [h]
 .rw [if_neg h];simp only [List.find?_cons,List.find?_nil];have:(decide (i<b) && BL evs c b)=false:=by cases hq:(decide (i<b) && BL evs c b)with
   | false=>rfl| true=>simp at hq;exact absurd hq h
  rw [this]
def JE (p:bV)(b:Int->Nat)(y:Nat×Stp):Nt:=((y.1:Int),y.2.1,DJ p.cs p.st y.2.1 y.2.2.1,aY p.evs y.1,if 0<y.2.2.1 then aY p.evs (pR p.evs (y.1+y.2.2.2.2.2.toNat+1))else aY p.evs ((Ac p.evs y.1 y.2.1 (b y.2.1)).getD p.evs.length))
def Jy (p:bV):Nat->List (Nat×Stp)
 | 0=>[]| k+1=>match p.evs[k]? with
  | some e=>Jy p k++e.stops.map λx=>(k,x)| none=>Jy p k
def rings (p:bV)(b:Int->Nat)(c:Int)(y:Nat×Stp):Prop:=y.2.1=c/\¬ 0<y.2.2.1/\Ac p.evs y.1 c (b c)=none
structure BJ (p:bV)(E:List (Nat×Stp))(b:Int->Nat)(s:NS):Prop where
 out:s.out=E.map (JE p b)len:s.ring.length=15r0:s.ring.getD 0 0=0ring:∀ c:Nat,1<=c->c<=14->(s.ring.getD c 0=0/\∀ y∈E,¬ rings p b c y)\/(∃ k:Nat,s.ring.getD c 0=k+1/\(∃ y,E[k]?=some y/\rings p b c y)/\∀ k' y,E[k']?=some y->rings p b c y->k'=k)
theorem aop {α:Type} {l m:List α} {k:Nat} {x:α} (hl:l.length=m.length) (h:∀ (i:Nat) u v,l[i]?=some u->m[i]?=some v->(if i=k then v=x else v=u)):l.set k x=m:=by
 apply oV (by simpa using hl);intro i h1 h2;have h1':i<l.length:=by simpa using h1
 have:=h i l[i] m[i] (aO h1') (aO h2);rw [Yw];by_cases e:k=i;.rw [if_pos e];rw [if_pos e.symm] at this;exact this.symm
 .rw [if_neg e];rw [if_neg (λx=>e x.symm)] at this;exact this.symm
theorem BJ.stop {p:bV} {E:List (Nat×Stp)} {b b':Int->Nat} {s:NS} (h:BJ p E b s) {m c:Nat} (hc:1<=c/\c<=14) (hb:b c=m) (hb':b' c=m+1) (ho:∀ x,x≠(c:Int)->b' x=b x) (hcut:BL p.evs c m=true)(hE:∀ y∈E,y.2.1=(c:Int)->y.1<m):BJ p E b' (pU c (aY p.evs m) s):=by
 have hop:∀ y∈E,y.2.1=(c:Int)->Ac p.evs y.1 c (b' c)=(Ac p.evs y.1 c (b c)).or (some m):=λy hy hyc=>by rw [hb,hb',GY,if_pos ⟨hE y hy hyc,hcut⟩]
 have hval:∀ y∈E,¬ rings p b c y->JE p b' y=JE p b y:=λy hy hr=>by
  unfold JE;by_cases hyc:y.2.1=(c:Int)
  .by_cases hf:0<y.2.2.1;.simp [hf]
   .rw [if_neg hf,if_neg hf,hyc,hop y hy hyc];cases ho2:Ac p.evs y.1 c (b c) with
    | none=>exact absurd ⟨hyc,hf,ho2⟩ hr| some j=>rfl
  .rw [ho _ hyc]
 have hnr:∀ y∈E,¬ rings p b' c y:=λy hy hr=>by
  have:=hr.2.2;rw [hop y hy hr.1] at this;cases hq:Ac p.evs y.1 c (b c)<;>simp [hq] at this
 have ZB:∀ (c':Nat) y,c'≠c->(rings p b' c' y↔rings p b c' y):=λc' y hne=>by
  unfold rings;rw [ho _ (λe=>hne (by omega))]
 unfold pU;rcases h.ring c hc.1 hc.2 with⟨h0,hall⟩|⟨k,hk,⟨y,hy,hr⟩,az3⟩
 .rw [if_neg (by rw [h0];decide)];refine ⟨?_,h.len,h.r0,λc' h1 h2=>?_⟩
  .rw [h.out];exact Jg λy hy=>(hval y hy (hall y hy)).symm
  .by_cases e:c'=c;.subst e;exact .inl ⟨h0,hnr⟩
   .exact asF
 .rw [hk,if_pos (by omega)];have hkE:k<E.length:=(List.getElem?_eq_some_iff.1 hy).1;have hyE:y∈E:=cZ hy;refine ⟨?_,by simpa using h.len,?_,λc' h1 h2=>?_⟩
  .show Fq s.out ((k:Int)+1-1).toNat _=_;rw [show ((k:Int)+1-1).toNat=k by omega];unfold Fq;have hok:s.out[k]?=some (JE p b y):=by rw [h.out,dw,hy];rfl
   rw [hok];refine aop (by rw [h.out];simp) λi u v hu hv=>?_;rw [h.out,dw] at hu;rw [dw] at hv;cases hi:E[i]? with
   | none=>simp [hi] at hv| some z =>
    simp [hi] at hu hv;subst hu hv;by_cases e:i=k
    .subst e;rw [hy] at hi;cases hi;rw [if_pos rfl];unfold JE;have hf:=hr.2.1;simp only [if_neg hf];rw [hr.1,hop y hyE hr.1,hr.2.2];rfl
    .rw [if_neg e];exact hval z (cZ hi) λhz=>e (az3 i z hi hz)
  .exact ale
  .by_cases e:c'=c
   .subst e;refine .inl ⟨?_,hnr⟩;simp only [dL];rw [sK (by rw [h.len];omega)];rfl
   .have hg:(s.ring.set c 0).getD c' 0=s.ring.getD c' 0:=by
     simp only [dL];rw [pV (λx=>e x.symm)]
    rw [hg];exact asF
theorem LX(evs:List Ev)(i:Nat)(c:Int)(b:Nat)(h:b<=i+1):Ac evs i c b=none:=by
 unfold Ac;rw [NJ];intro j hj;rw [UA]at hj;simp;omega
theorem BJ.add {p:bV} {E:List (Nat×Stp)} {b:Int->Nat} {s:NS} (h:BJ p E b s) {m:Nat} {x:Stp} (hc:1<=x.1/\x.1<=14) (hb:b x.1=m+1) (hno:∀ y∈E,¬ rings p b x.1 y) :BJ p (E++[(m,x)]) b ⟨s.out++[xJ p m x],if 0<x.2.1 then s.ring else s.ring.set x.1.toNat (s.out.length+1)⟩:=by
 have hlenO:s.out.length=E.length:=by rw [h.out];simp
 have hv:xJ p m x=JE p b (m,x):=by
  unfold xJ JE;by_cases hf:0<x.2.1;.simp [hf]
  .simp only [if_neg hf];rw [hb,LX _ _ _ _ (Nat.le_refl _)];rfl
 have hnew:∀ c:Nat,rings p b c (m,x)↔(x.1=c/\¬ 0<x.2.1):=λc=>by
  unfold rings;constructor;.exact λh=>⟨h.1,h.2.1⟩
  .rintro ⟨h1,h2⟩;refine ⟨h1,h2,?_⟩;rw [← h1,hb];exact LX _ _ _ _ (Nat.le_refl _)
 have last:∀ (k:Nat) y,(E++[(m,x)])[k]?=some y->(E[k]?=some y)\/(k=E.length/\y=(m,x)):=λk y hy=>by
  by_cases e:k<E.length;.rw [xY e] at hy;exact .inl hy
  .rw [wC (by omega)] at hy;have:k-E.length=0:=by have:=(List.getElem?_eq_some_iff.1 hy).1;simp at this;omega
   rw [this] at hy;cases hy;exact .inr ⟨by omega,rfl⟩
 have first:∀ (k:Nat) y,E[k]?=some y->(E++[(m,x)])[k]?=some y:=λk y hy=>by rw [xY (List.getElem?_eq_some_iff.1 hy).1];exact hy
 by_cases hf:0<x.2.1
 .rw [if_pos hf];refine ⟨by rw [h.out,hv];simp,h.len,h.r0,λc h1 h2=>?_⟩;have hn:¬ rings p b c (m,x):=λhr=>((hnew c).1 hr).2 hf;exact asl
 .rw [if_neg hf];refine ⟨by rw [h.out,hv];simp,by simpa using h.len,?_,λc h1 h2=>?_⟩;.exact ale
  .by_cases e:x.1=c
   .refine .inr ⟨E.length,?_,⟨(m,x),by simp,(hnew c).2 ⟨e,hf⟩⟩,λk' y' a b=>?_⟩
    .simp only [dL];rw [show x.1.toNat=c by omega,sK (by rw [h.len];omega),hlenO];rfl
    .rcases last k' y' a with a|⟨a,_⟩;.exact absurd (e ▸ b) (hno y' (cZ a))
     .exact a
   .have hg:(s.ring.set x.1.toNat (s.out.length+1)).getD c 0=s.ring.getD c 0:=by
     simp only [dL];rw [pV (by omega)]
    rw [hg];have hn:¬ rings p b c (m,x):=λhr=>e ((hnew c).1 hr).1;exact asl
theorem aaL {w:World} {base e n cap B:Nat} {g:Nat} {l:List Int} (h:w.ownsRow base e 1 (.slice (some ⟨g,0,none⟩) n cap) n (l.map λx=>.int .i64 x)) (hn:l.length=n) (hg:g<B):Rd w B 1 (some ⟨g,0,none⟩) (l.map nG):=by
 intro _;refine ⟨⟨g,0,none⟩,rfl,hg,λk r hr j y hy=>?_⟩;rw [dw] at hr;cases hk:l[k]? with
 | none=>simp [hk] at hr| some x =>
  simp only [hk,oG,Option.some.injEq] at hr;subst hr;have hkl:=(List.getElem?_eq_some_iff.1 hk).1;match j with
  | 0 =>
   cases hy;have:=h.cellAt k au;rw [dw,hk] at this;have e:(⟨g,0,none⟩:Addr).add (k*1+0)=⟨g,k,none⟩:=by
    by_cases hz:k=0;.subst hz;rfl
    .simp [Addr.add,hz]
   rw [e];exact lS| j+1=>simp [nG] at hy
theorem DI (p:bV) (hO:jh p):bC Tryz.prog 79 [iG p] (.tu [.ls 1 (if bM p=0 then (jG p.evs p.evs.length).map eInt else []),.sc (.int .i64 (bM p))]):=by
 intro w F vs hF hR;match vs,hR.1 with
 | [v],_ =>
  obtain ⟨M,rfl,hM⟩:=Xz hF (hR.2 0 _ v rfl rfl);by_cases h0:bM p=0
  .rw [if_pos h0,h0];refine (aau M p w hM hO ((um p hO).apG hF (hR.2 0 _ _ rfl rfl)) h0).mono λe w' ⟨v,he,hrow,hb⟩=>?_;obtain ⟨g,cap,rfl⟩:∃ g cap,v=.slice (some ⟨g,0,none⟩) (p.evs.length+1) cap:=by
    rcases hrow.2 with⟨_,h⟩|⟨g,cap,cur,e,_⟩;.omega
    .exact ⟨g,cap,e⟩
   have hlt:=hrow.lt g rfl;have hcap:p.evs.length+1<=cap:=by
    rcases hrow.2 with⟨h,_⟩|⟨g',cap',cur,e,_,_,h,_⟩;.cases h
    .cases e;exact h
   have hlen:(jG p.evs p.evs.length).length=p.evs.length+1:=rC _ _;refine ⟨_,newF F w w',he,hb,Bq hF,Bo hF hb,xI,.tu _ _ rfl λi av u a b=>?_⟩;match i with
   | 0 =>
    cases a;cases b;have:=Fp (F:=F) (w:=w) (aaL (B:=w'.heap.size) hrow hlen hlt.2) (λad e=>by cases e;exact hlt.1) (c:=cap) au (e:=eInt) (λ_=>rfl) acC;rw [hlen] at this;exact this| 1=>cases a;cases b;exact .sc _| i+2=>simp at a
  .rw [if_neg h0];refine (Xx M p w hM hO ((um p hO).apG hF (hR.2 0 _ _ rfl rfl)) h0).mono λe w' ⟨he,hb⟩=>?_;refine ⟨_,newF F w w',he,hb,Bq hF,Bo hF hb,xI,.tu _ _ rfl λi av u a b=>?_⟩;match i with
   | 0=>cases a;cases b;exact .ls 1 [] none 0 ⟨0,0,none⟩ (λ_ _=>undef) (by simp) (by simp) (by simp) (by simp) (by simp)| 1=>cases a;cases b;exact .sc _| i+2=>simp at a
theorem ape {P:Program} {w:World} {ev:Operand->Value} {o:Oper} {x:Operand} (ho:o.op=.nilCheck x)(n:Next)(w':World)(h:(execOp ev o).run P w=.ok n w'):∃ v,n=.value v:=by
 unfold execOp at h;simp only [ho] at h;generalize ev x=v at h;split at h;.cases h
 .cases h
 .cases h
 .split at h;.cases h
  .rw [Sem.run_bind] at h;generalize Sem.run P program w=r1 at h;cases r1 with
   | ok a w1 =>
    simp only [Result.andThen] at h;rw [Sem.run_bind] at h;generalize Sem.run P (nilAhead _ _ _ _) w1=r2 at h;cases r2 with
    | ok b w2 =>
     simp only [Result.andThen] at h;split at h
     .rw [Sem.run_bind] at h;generalize Sem.run P (unsupported _) w2=r3 at h;cases r3 with
      | ok c w3=>simp only [Result.andThen] at h;cases h;exact⟨_,rfl⟩| halt c w3=>simp only [Result.andThen] at h;cases h
     .cases h;exact⟨_,rfl⟩| halt b w2=>simp only [Result.andThen] at h;cases h
   | halt a w1=>simp only [Result.andThen] at h;cases h
  .cases h;exact⟨_,rfl⟩
 .cases h;exact⟨_,rfl⟩
def ax0:Op->Bool
 | .move _=>true| .build _ _=>true| .buildSlice _ _ _=>true| .call c=>match c.callee with
  | .builtin .append=>true| _=>false
 | .assign _=>true| .alloc _=>true| .box _ _=>true| .load _ _=>true| .store _ _ _=>true| .fieldAddr _ _ _=>true| .field _ _ _=>true| .indexAddr _ _ _=>true| .index _ _ _=>true| .nilCheck _=>true| _=>false
structure aAH (ops A:Array Oper)(π ρ:Nat->Nat)(i j:Nat):Prop where
 sz:A.size=ops.size
 lt:∀ p,p<ops.size->π p<ops.size
 inv:∀ p,p<ops.size->ρ (π p)=p
 ltr:∀ q,q<ops.size->ρ q<ops.size
 inr:∀ q,q<ops.size->π (ρ q)=q
 hi:i<ops.size
 hj:j<ops.size
 op:∀ (p:Nat)(o:Oper),ops[p]?=some o->∃ X:Array Edge,A[π p]?=some { o with after:=X }/\(∀ e∈X,Region.binds .any e=true->(∃ e'∈o.after,Region.binds .any e'=true/\e.on=π e'.on)\/(p=j/\e.on=π i)) /\(∀ e'∈o.after,Region.binds .any e'=true->∃ e∈X,Region.binds .any e=true/\e.on=π e'.on)tm:∀ (p:Nat)(o:Oper),ops[p]?=some o->ax0 o.op=true/\o.guard=none/\∀ e∈o.after,e.on<ops.size
structure aBj (n:Nat)(π:Nat->Nat)(L LA:Array Bool):Prop where
 s1:L.size=n
 s2:LA.size=n
 at_:∀ p,p<n->LA.getD (π p) false=L.getD p false
def QL:Op->Bool
 | .move _=>true| .build _ _=>true| .buildSlice _ _ _=>true| .call c=>match c.callee with
  | .builtin .append=>true| _=>false
 | .assign _=>true| .alloc _=>true| .box _ _=>true| .load _ _=>true| .store _ _ _=>true| .fieldAddr _ _ _=>true| .field _ _ _=>true| .indexAddr _ _ _=>true| .index _ _ _=>true| .nilCheck _=>true| .binOp _ _ _ _ _=>true| .extract _ _=>true| _=>false
section
variable {P:Program} {o:Oper} {a:Act} {w:World} {K K1 K2:Act→World→Prop} {Q:Exit→Act→World→Prop}
theorem agH {ev:Operand->Value} {c:Call} {T:TypeId} (hc:c.callee=.builtin .append)(n:Next)(w':World)(h:(do let d ← resolve ev c T;invoke d.target d.args:Sem Next).run P w=.ok n w'):∃ x,n=.value x:=by
 unfold resolve at h;simp only [hc,Sem.run_bind,Sem.run_pure,Result.andThen_ok,invoke,builtin]at h;cases hs:(Builtin.append_ c.argTypes T (c.args.map ev)).run P w<;>grind[Result.andThen]
theorem akq {ev:Operand->Value} (ht:QL o.op=true) (n:Next) (w':World) (h:(execOp ev o).run P w=.ok n w'):(∃ x,n=.value x)\/n=.skip:=by
 by_cases hn:∃ x,o.op=.nilCheck x;.grind[ape]
 unfold execOp at h;cases ho:o.op<;>simp only [ho,QL]at ht h<;>first
  | (cases ht;done)|exact .inl (aq1 _ _ _ h)|exact .inr (aq0 _ _ _ h)| (refine .inl (agH ?_ n w' h);revert ht;split<;>first|(intro _;assumption)|(intro ht;cases ht))| (cases h;exact .inl ⟨_,rfl⟩)| (exact (hn ⟨_,ho⟩).elim)
theorem aqj (ht:QL o.op=true)(h1:o.wp P a w K1 Q)(h2:o.wp P a w K2 Q):o.wp P a w (λa w=>K1 a w/\K2 a w) Q:=by
 unfold Oper.wp at *;cases hr:(execOp a.eval o).run P w with
 | ok n w' =>
  rw [hr] at h1 h2;rcases akq ht n w' hr with⟨x,rfl⟩|rfl;.exact⟨h1,h2⟩
  .exact⟨h1,h2⟩| halt x w'=>rw [hr] at h1 h2;cases x<;>simp only [Oper.upon] at h1 h2 ⊢<;>exact h1
end
structure zy (ops A:Array Oper)(π ρ:Nat->Nat)(i j:Nat):Prop where
 sz:A.size=ops.size
 lt:∀ p,p<ops.size->π p<ops.size
 inv:∀ p,p<ops.size->ρ (π p)=p
 ltr:∀ q,q<ops.size->ρ q<ops.size
 inr:∀ q,q<ops.size->π (ρ q)=q
 hi:i<ops.size
 hj:j<ops.size
 op:∀ (p:Nat)(o:Oper),ops[p]?=some o->∃ X:Array Edge,A[π p]?=some { o with after:=X }/\(∀ e∈X,Region.binds .any e=true->(∃ e'∈o.after,Region.binds .any e'=true/\e.on=π e'.on)\/(p=j/\e.on=π i)) /\(∀ e'∈o.after,Region.binds .any e'=true->∃ e∈X,Region.binds .any e=true/\e.on=π e'.on)tm:∀ (p:Nat)(o:Oper),ops[p]?=some o->(p=i\/p=j\/QL o.op=true)/\o.guard=none/\∀ e∈o.after,e.on<ops.size
structure OG (n:Nat)(π:Nat->Nat)(L LA:Array Bool):Prop where
 s1:L.size=n
 s2:LA.size=n
 at_:∀ p,p<n->LA.getD (π p) false=L.getD p false
section
variable {P:Program} {ops A B:Array Oper} {π ρ π' ρ':Nat→Nat} {i j k:Nat} {L LA LB:Array Bool} {a:Act} {w:World} {K K1 K2:Act→World→Prop} {Q:Exit→Act→World→Prop}
theorem OG.put (hl:zy ops A π ρ i j) (h:OG ops.size π L LA) (hk:k<ops.size):OG ops.size π (L.setIfInBounds k true) (LA.setIfInBounds (π k) true):=by exact asB
theorem og (hl:zy ops A π ρ i j) (h:OG ops.size π L LA) (hij:k=j->L.getD i false=true) (hk:k∈Region.ready .any ops L):π k∈Region.ready .any A LA:=by exact asj
theorem afS (hl:zy ops A π ρ i j) (h:OG ops.size π L LA) {q:Nat} (hq:q∈Region.ready .any A LA):ρ q∈Region.ready .any ops L:=by
 have hlt:=uQ hq;rw [hl.sz] at hlt;obtain ⟨h1,o',ho',h2⟩:=mem_ready.1 hq;have hr:=hl.ltr q hlt;have ho:ops[ρ q]?=some ops[ρ q]:=vC hr;obtain ⟨X,hX,_,hX2⟩:=hl.op (ρ q) _ ho;rw [hl.inr q hlt,ho'] at hX;cases hX;exact asC
theorem Md(hl:zy ops A π ρ i j)(h:OG ops.size π L LA)(hr:Region.ready .any ops L=[]):Region.ready .any A LA=[] :=List.eq_nil_iff_forall_not_mem.2 λq hq=>by grind[afS]
theorem Az (hl:zy ops A π ρ i j)(hk:k<ops.size)(h:wpOp P A Q (π k) K a w):wpOp P ops Q k K a w:=by exact asL
theorem agP (hk:k<ops.size)(ht:QL ops[k].op=true)(hg:ops[k].guard=none)(h1:wpOp P ops Q k K1 a w)(h2:wpOp P ops Q k K2 a w):wpOp P ops Q k (λa w=>K1 a w/\K2 a w) a w:=by grind[wpOp,Region.wanted,aqj]
theorem Nu (hl:zy ops A π ρ i j):∀ (fuel:Nat) (L LA:Array Bool) (a:Act) (w:World),OG ops.size π L LA->(L.getD i false=true\/L.getD j false=true)->wpAny P .any A Q fuel LA a w->wpAny P .any ops Q fuel L a w:=by
 have cond:∀ {L:Array Bool} {k:Nat},L.size=ops.size->(L.getD i false=true\/L.getD j false=true)->k∈Region.ready .any ops L->k=j->L.getD i false=true:=by grind[mem_ready]
 intro fuel;induction fuel with
 | zero =>
  intro L LA a w h hor hw;refine ⟨List.eq_nil_iff_forall_not_mem.2 λk hk=>?_,hw.2⟩;have:=og hl h (cond h.s1 hor hk) hk;rw [hw.1] at this;cases this| succ fuel ih =>
  intro L LA a w h hor hw;refine ⟨λhr=>hw.1 (Md hl h hr),λk hk=>?_⟩;have hlt:=uQ hk;refine wpOp_mono (λa' w' hw'=>ih _ _ a' w' (h.put hl hlt) ?_ hw') (Az hl hlt (hw.2 _ (og hl h (cond h.s1 hor hk) hk)));exact asM
theorem Yp (hA:zy ops A π ρ i j) (hB:zy ops B π' ρ' j i) (hne:i≠j):∀ (fuel:Nat) (L LA LB:Array Bool) (a:Act) (w:World),OG ops.size π L LA->OG ops.size π' L LB->L.getD i false=false->L.getD j false=false ->wpAny P .any A Q fuel LA a w->wpAny P .any B Q fuel LB a w->wpAny P .any ops Q fuel L a w:=by
 intro fuel;induction fuel with
 | zero =>
  intro L LA LB a w ha hb hi hj wa wb;refine ⟨List.eq_nil_iff_forall_not_mem.2 λk hk=>?_,wa.2⟩;by_cases e:k=j
  .have:=og hB hb (λe2=>absurd (e2.symm.trans e) hne) hk;rw [wb.1] at this;cases this
  .have:=og hA ha (λe2=>absurd e2 e) hk;rw [wa.1] at this;cases this| succ fuel ih =>
  intro L LA LB a w ha hb hi hj wa wb;refine ⟨λhr=>wa.1 (Md hA ha hr),λk hk=>?_⟩;have hlt:=uQ hk;have hs:(L.setIfInBounds k true).getD k false=true:=by simp [dU,show k<L.size by rw [ha.s1];exact hlt]
  have hso:∀ q,k≠q->(L.setIfInBounds k true).getD q false=L.getD q false:=λq e=>by simp_all
  by_cases e1:k=i
  .subst e1;exact wpOp_mono (λa' w' hw'=>Nu hA fuel _ _ a' w' (ha.put hA hlt) (.inl hs) hw') (Az hA hlt (wa.2 _ (og hA ha (λe=>absurd e hne) hk)))
  .by_cases e2:k=j
   .subst e2;exact wpOp_mono (λa' w' hw'=>Nu hB fuel _ _ a' w' (hb.put hB hlt) (.inl hs) hw') (Az hB hlt (wb.2 _ (og hB hb (λe=>absurd e e1) hk)))
   .have t:=hA.tm k _ (vC hlt);refine wpOp_mono (λa' w' hw'=>ih _ _ _ a' w' (ha.put hA hlt) (hb.put hB hlt) ((hso i e1).trans hi) ((hso j e2).trans hj) hw'.1 hw'.2) (agP hlt ((t.1.resolve_left e1).resolve_left e2) t.2.1 (Az hA hlt (wa.2 _ (og hA ha (λe=>absurd e e2) hk))) (Az hB hlt (wb.2 _ (og hB hb (λe=>absurd e e1) hk))))
theorem WA.aog {C:Cx} {σ:St} {Q:Exit->St->Prop} (hA:zy ops A π ρ i j) (hB:zy ops B π' ρ' j i) (hne:i≠j) (h1:WA P C A σ Q) (h2:WA P C B σ Q):WA P C ops σ Q:=by
 intro G a w ok;have r:∀ (n p:Nat),(Array.replicate n false).getD p false=false:=λn p=>by exact amd
 have ag:∀ (π:Nat->Nat),OG ops.size π (Array.replicate ops.size false) (Array.replicate ops.size false):=λπ=>⟨by simp,by simp,λp _=>by rw [r,r]⟩;have x:=h1 G a w ok;have y:=h2 G a w ok;rw [hA.sz] at x;rw [hB.sz] at y;exact Yp hA hB hne _ _ _ _ a _ (ag π) (ag π') (r _ _) (r _ _) x y
end
def adv (L:List Oper)(π ρ:List Nat)(i j:Nat):Bool :=(List.range L.length).all (λp=>Nat.blt (π.getD p 0) L.length && Nat.beq (ρ.getD (π.getD p 0) 0) p && Nat.blt (ρ.getD p 0) L.length && Nat.beq (π.getD (ρ.getD p 0) 0) p) && Nat.blt i L.length && Nat.blt j L.length &&(List.range L.length).all (λp=>(Nat.beq p i|| (Nat.beq p j|| QL (L.getD p default).op)) && (L.getD p default).guard.isNone && (L.getD p default).after.toList.all λe=>Nat.blt e.on L.length)
theorem PZ {L:List Oper} {π ρ:List Nat} {i j:Nat} (h:adv L π ρ i j=true):zy L.toArray (reo L π ρ i j).toArray (λp=>π.getD p 0) (λp=>ρ.getD p 0) i j:=by
 unfold adv at h;simp only [gG,oW,UA] at h;obtain ⟨⟨⟨hp,hi⟩,hj⟩,ho⟩:=h;refine ⟨by simp [reo],λp hq=>?_,λp hq=>?_,λp hq=>?_,λp hq=>?_,by simpa using dn hi,by simpa using dn hj,λp o hpo=>?_,λp o hpo=>?_⟩;.simp_all
 .simp_all
 .simp_all
 .simp_all
 .exact arY
 .have ZA:L[p]?=some o:=by simpa using hpo
  have:=ho p (List.getElem?_eq_some_iff.1 ZA).1;rw [show L.getD p default=o by rw [dL,ZA];rfl] at this;refine ⟨?_,?_,λe he=>?_⟩
  .have h9:=this.1.1;rw [CQ,CQ] at h9;exact h9.imp dG λq=>q.imp dG id
  .exact alL
  .simpa using dn (this.2 e (by simpa using he))
section
variable {P:Program} {C:Cx} {σ:St} {Q:Exit→St→Prop}
theorem WA.VD {L:List Oper} (π ρ π' ρ':List Nat) (i j:Nat) (hA:adv L π ρ i j=true) (hB:adv L π' ρ' j i=true) (hne:Nat.beq i j=false) (h1:WA P C (reo L π ρ i j).toArray σ Q) (h2:WA P C (reo L π' ρ' j i).toArray σ Q):WA P C L.toArray σ Q :=WA.aog (PZ hA) (PZ hB) (λe=>by simp_all) h1 h2
end
section
variable {P:Program} {C:Cx} {σ:St} {o:Oper} {d:Tmp} {av:AV} {ops:Array Oper} {rest:List Oper} {Q:Exit→St→Prop} {mem:List Bool} {Mc jK:List (Nat×AO)} {e0 dB k:Nat}
theorem aV.vq (hm:mem.getD k false=false) (hds:o.dst=some d) (hdN:Nat.blt d C.N=true) (hb:iV ops mem k=true) (hi:Lh σ.nk Mc=true) (ht:Nq σ.nk (dR σ.t (o.looksAt ops))=true)(hg:qm ops o ⟨dR σ.t (o.looksAt ops),Mc,σ.nk⟩=some true) (h:WV P C o ⟨dR σ.t (o.looksAt ops),Mc,σ.nk⟩ av) (r:aV P C ops mem Mc jK e0 dB (k+1) rest (σ.put d av) Q):aV P C ops mem Mc jK e0 dB k (o::rest) σ Q:=by
 obtain ⟨s,x,y⟩:=r;exact ⟨s,.val k o rest d av σ.nk Mc σ s (.inl rfl) hm hds hdN (.inr ⟨rfl,hb⟩) ⟨hi,ht,.inl ⟨hg,h⟩⟩ x,y⟩
end
end
end Go.Proofs.YthohlofpphjofaaGreatDoor
