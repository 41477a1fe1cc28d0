/- A walk that knows values as trees: an own slice is handed on in a drawn region. -/
import Derived.Lib.SmallJoins
import Derived.Test.YthohlofpphjofaaGreatDoorG1Lq
import Derived.Lib.TrimU
set_option maxHeartbeats 1600000
set_option maxRecDepth 100000
set_option linter.unusedVariables false
set_option linter.unusedSimpArgs false
namespace Go.Proofs.YthohlofpphjofaaGreatDoor
section
variable {p:Prop}
theorem ank(h:p:=by
 go_enter Tryz.func339,Tryz.ntmps339;go_wp2;exact vJ):p:=h
theorem amu(h:p:=by rename_i h;obtain⟨a,b⟩:=Fj h;exact⟨1,by omega,rfl,a,b⟩):p:=h
theorem ams(h:p:=by rename_i h;obtain⟨a,b⟩:=Fj h;exact⟨2,by omega,rfl,a,b⟩):p:=h
theorem amr(h:p:=by rename_i h;obtain⟨a,b⟩:=Fj h;exact⟨3,by omega,rfl,a,b⟩):p:=h
theorem alU(h:p:=by unfold nP;rw [if_neg (λk=>k hs),if_neg (by omega),if_neg (by omega),if_neg hne]):p:=h
theorem alO(h:p:=by
 split at hx;.omega
 .split at hx;.simp at hx;subst hx;decide
  .cases hx):p:=h
theorem aeg(h:p:=by
 have:=nJ [66,83,77,67,81,88,68] (v - 1) v;simp at this;omega):p:=h
theorem ad9(h:p:=by
 rcases h8 with rfl|rfl|rfl|rfl|rfl|rfl|rfl|rfl;all_goals first
   | (exfalso;revert hz;decide)
   | (clear hz;simp only [DY,BI];go_enter Tryz.func110,Tryz.ntmps110;go_wp2_with fail;go_ret2;exact iZ.mk' rfl CU)):p:=h
end
theorem Jr {p q:Prop}(k:q)(h:iF q->p:=by
 intro hq;unfold Oper.wp execOp;exact hq.k):p:=h ⟨k⟩
section
open Go.RowKit Go.WideShapes Go.ChangeShapes Go.Joins Go.Deep
section
variable {H:Type} {enc:TypeId×Value→H} {P:Program} {w:World} {base:Nat} {spare:Nat→Bool} {held:Bool}
theorem O5 {f:Func} {s:ChangeSpec} {apart fresh handsOn again:Bool} {W W':World} {args:Array Value} {v:Value} {ds gs:List (DataW H)} {before pa pv:List MemPlace}(hW:DataW.Whole enc P f.params.toList s.vars apart W args.toList ds gs before)(hres:∀ (b:Nat) (sp:Nat->Bool) (hd:Bool),DataW.TrodAll enc P W' b sp hd f.resultTypes.toList (v.resultList f.resultTypes.size) (s.fn H (ds++gs)).results [])(hargs:∀ sp:Nat->Bool,(∀ p∈before,sp p.block=true)->DataW.TrodAll enc P W' 0 sp true f.params.toList args.toList (s.fn H (ds++gs)).args pa)(hvars:∀ sp:Nat->Bool,(∀ p∈before,sp p.block=true)->DataW.TrodVars enc P W' sp s.vars (s.fn H (ds++gs)).vars pv)(hps:before=pa++pv) (hb:Below W.heap.size W W')(hok:∀ (j:Nat) (t:TypeId) (r:Value),f.resultTypes[j]?=some t->(v.resultList f.resultTypes.size)[j]?=some r->Value.okWide P W' .any 0 t r) :s.post enc P f apart fresh handsOn again W args v W':=by
 have hlt:∀ p∈before,p.block<W.heap.size:=λp hp=>hW.lt p hp;have hold:∀ p∈before,(λb=>decide (b<W.heap.size)) p.block=true:=λp hp=>by simpa using hlt p hp
 refine ⟨ds,gs,before,[],pa,pv,hW,hres _ _ _,hargs _ hold,hvars _ hold,World.keptBut_mono (λp hp=>⟨hp,?_⟩) (hb.frame (.∈before)),λ_=>?_⟩;.simp_all
 .obtain ⟨_,_,_,_,_,hz,hn⟩:=hW;refine ⟨hok,_,_,([]++pa)++pv,⟨[]++pa,pv,trodAll_append (hargs _ (λ_ _=>rfl)) (hres _ _ _),hvars _ (λ_ _=>rfl),rfl,?_,?_⟩,?_⟩
  .intro b off hp;have hin:MemPlace.cell b off∈before:=by simp_all
   rw [hb.frozen (hlt _ hin)];exact hz b off hin
  all_goals simp_all
end
section
variable {H:Type} {enc:TypeId×Value→H} {P:Program} {w w':World} {base:Nat} {spare:Nat→Bool} {held:Bool}
theorem CJ:∀ {ts:List TypeId} {vs:List Value} {ds:List (DataW H)} {ps:List MemPlace},DataW.TrodAll enc P w base spare held ts vs ds ps->(∀ p∈ps,w.sameAt w' p)->DataW.TrodAll enc P w' base spare held ts vs ds ps
 | [],[],[],_,h,_=>h| _::_,_::_,_::_,_,⟨p,q,⟨n,h1⟩,h2,e⟩,hs=>⟨p,q,⟨n,DataW.trod_carry n _ _ _ h1 (λx hx=>hs x (by rw [e];exact Ny _ hx))⟩,CJ h2 (λx hx=>hs x (by rw [e];exact List.mem_append_right _ hx)),e⟩
theorem aem {W W':World} {T:TypeId->Prop} {sp:Nat->Bool} (K:Kids P T)(hz:∀ t e,T t->P.underlying t=some (.slice e)->0<P.cellsOf e) {ts:List TypeId} {vs:List Value} {ds:List (DataW H)} {ps:List MemPlace} (hT:∀ t∈ts,T t)(h:DataW.TrodAll enc P W 0 (λ_=>true) true ts vs ds ps)(hb:Below W.heap.size W W')(hlt:∀ p∈ps,p.block<W.heap.size)(hs:∀ p∈ps,sp p.block=true):DataW.TrodAll enc P W' 0 sp true ts vs ds ps :=DataW.TrodAll.respare K hz hT (CJ h λp hp=>hb.same (hlt p hp)) hs
end
theorem agM:Kids Tryz.prog (.<Tryz.prog.types.size):=kids_rows (by kernel_rfl) (by kernel_rfl)
theorem aa2:∀ t e,t<Tryz.prog.types.size->Tryz.prog.underlying t=some (.slice e)->0<Tryz.prog.cellsOf e:=slices_full_of Tryz.prog (by kernel_rfl)
end
section
open Go.RowKit
attribute [local go_sem]zQ dI jf je gq
attribute [local simp]tV jZ iK lG
theorem aaw (n:Int)(w:World):Calls Tryz.prog 315 #[.agg #[],.int .i64 n] w (iZ (.bool (if (1:Int)=3 then n != 8 else if (1:Int)=4 then n == 8 else true)) w):=by
 go_enter Tryz.func315,Tryz.ntmps315;exact YW
theorem auT (v:Int) (w:World) (hv:1<=v/\v<=7) :Calls Tryz.prog 110 #[(.iface 170 (.agg #[])),.agg #[.int .i64 v,.bool false,.bool true]] w (iZ (.tuple #[.string (bs (tW v 2)),.bool (Ec 1 v 2)]) w):=by
 obtain ⟨hv1,hv7⟩:=hv;have e1:tW v 2=cut [66,83,77,67,81,88,68] (v - 1) v++[51]:=by unfold tW;rw [if_neg (by omega)];rfl
 have e2:Ec 1 v 2=decide ((1:Int)≠4):=by unfold Ec;rw [if_neg (by omega)];rfl
 have H5:=Lib.hid (aaw 5);rw [e1,e2];have hb1:(v == 0)=false:=by simp;omega
 have g0:0<=v - 1:=by omega
 have g1:v - 1<=v:=by omega
 have gl:(cut [66,83,77,67,81,88,68] (v - 1) v).length+1<=9223372036854775807:=by exact aeg
 have w1:IntKind.i64.wrap (v - 1)=v - 1:=IntWalk.i64_in _ au;clear e1 e2;go_enter Tryz.func110,Tryz.ntmps110;go_wp2_with fail;go_region_held3 (λw'=>w'.cell? ⟨w.heap.size,0,none⟩=some (.int .i64 v))(first|(simp [bc];done)|go_keep)((go_at_call 315;refine (H5.out _).mono ?_;rintro e w' ⟨rfl,hb⟩;obtain ⟨bc,bf⟩:=Po hb));go_wp2_with fail;go_ret2;exact iZ.mk' (by simp) CU
theorem axM (v:Int) (i:Nat) (w:World) (hv:0<=v/\v<=7) (hi:i<=2) (hz:v=0->i=0) :Calls Tryz.prog 110 #[(.iface 170 (.agg #[])),.agg #[.int .i64 v,.bool (DY i),.bool (BI i)]] w (iZ (.tuple #[.string (bs (tW v i)),.bool (Ec 1 v i)]) w):=by
  have h3:i=0\/i=1\/i=2:=by omega
  have h8:v=0\/v=1\/v=2\/v=3\/v=4\/v=5\/v=6\/v=7:=by omega
  have H6:=Lib.hid (aaw 6);have HV:=Lib.hid hv;clear hi hv;rcases h3 with rfl|rfl|rfl
  · rcases h8 with rfl|rfl|rfl|rfl|rfl|rfl|rfl|rfl;all_goals
      clear hz;simp only [DY,BI];go_enter Tryz.func110,Tryz.ntmps110;go_wp2_with (go_at_call 315;refine (H6.out _).mono ?_;rintro e w' ⟨rfl,hb⟩);go_ret2;exact iZ.mk' rfl CU
  · exact ad9
  · exact auT v w ⟨by have:=HV.out;by_cases h0:v=0<;>omega,HV.out.2⟩
theorem aax (n:Int)(w:World):Calls Tryz.prog 331 #[.agg #[],.int .i64 n] w (iZ (.bool (if (2:Int)=3 then n != 8 else if (2:Int)=4 then n == 8 else true)) w):=by
 go_enter Tryz.func331,Tryz.ntmps331;exact YW
theorem auU (v:Int) (w:World) (hv:1<=v/\v<=7) :Calls Tryz.prog 110 #[(.iface 174 (.agg #[])),.agg #[.int .i64 v,.bool false,.bool true]] w (iZ (.tuple #[.string (bs (tW v 2)),.bool (Ec 2 v 2)]) w):=by
 obtain ⟨hv1,hv7⟩:=hv;have e1:tW v 2=cut [66,83,77,67,81,88,68] (v - 1) v++[51]:=by unfold tW;rw [if_neg (by omega)];rfl
 have e2:Ec 2 v 2=decide ((2:Int)≠4):=by unfold Ec;rw [if_neg (by omega)];rfl
 have H5:=Lib.hid (aax 5);rw [e1,e2];have hb1:(v == 0)=false:=by simp;omega
 have g0:0<=v - 1:=by omega
 have g1:v - 1<=v:=by omega
 have gl:(cut [66,83,77,67,81,88,68] (v - 1) v).length+1<=9223372036854775807:=by exact aeg
 have w1:IntKind.i64.wrap (v - 1)=v - 1:=IntWalk.i64_in _ au;clear e1 e2;go_enter Tryz.func110,Tryz.ntmps110;go_wp2_with fail;go_region_held3 (λw'=>w'.cell? ⟨w.heap.size,0,none⟩=some (.int .i64 v))(first|(simp [bc];done)|go_keep)((go_at_call 331;refine (H5.out _).mono ?_;rintro e w' ⟨rfl,hb⟩;obtain ⟨bc,bf⟩:=Po hb));go_wp2_with fail;go_ret2;exact iZ.mk' (by simp) CU
theorem axN (v:Int) (i:Nat) (w:World) (hv:0<=v/\v<=7) (hi:i<=2) (hz:v=0->i=0) :Calls Tryz.prog 110 #[(.iface 174 (.agg #[])),.agg #[.int .i64 v,.bool (DY i),.bool (BI i)]] w (iZ (.tuple #[.string (bs (tW v i)),.bool (Ec 2 v i)]) w):=by
  have h3:i=0\/i=1\/i=2:=by omega
  have h8:v=0\/v=1\/v=2\/v=3\/v=4\/v=5\/v=6\/v=7:=by omega
  have H6:=Lib.hid (aax 6);have HV:=Lib.hid hv;clear hi hv;rcases h3 with rfl|rfl|rfl
  · rcases h8 with rfl|rfl|rfl|rfl|rfl|rfl|rfl|rfl;all_goals
      clear hz;simp only [DY,BI];go_enter Tryz.func110,Tryz.ntmps110;go_wp2_with (go_at_call 331;refine (H6.out _).mono ?_;rintro e w' ⟨rfl,hb⟩);go_ret2;exact iZ.mk' rfl CU
  · exact ad9
  · exact auU v w ⟨by have:=HV.out;by_cases h0:v=0<;>omega,HV.out.2⟩
theorem aay (n:Int)(w:World):Calls Tryz.prog 338 #[.agg #[],.int .i64 n] w (iZ (.bool (if (3:Int)=3 then n != 8 else if (3:Int)=4 then n == 8 else true)) w):=by
 go_enter Tryz.func338,Tryz.ntmps338;exact YW
theorem auV (v:Int) (w:World) (hv:1<=v/\v<=7) :Calls Tryz.prog 110 #[(.iface 176 (.agg #[])),.agg #[.int .i64 v,.bool false,.bool true]] w (iZ (.tuple #[.string (bs (tW v 2)),.bool (Ec 3 v 2)]) w):=by
 obtain ⟨hv1,hv7⟩:=hv;have e1:tW v 2=cut [66,83,77,67,81,88,68] (v - 1) v++[51]:=by unfold tW;rw [if_neg (by omega)];rfl
 have e2:Ec 3 v 2=decide ((3:Int)≠4):=by unfold Ec;rw [if_neg (by omega)];rfl
 have H5:=Lib.hid (aay 5);rw [e1,e2];have hb1:(v == 0)=false:=by simp;omega
 have g0:0<=v - 1:=by omega
 have g1:v - 1<=v:=by omega
 have gl:(cut [66,83,77,67,81,88,68] (v - 1) v).length+1<=9223372036854775807:=by exact aeg
 have w1:IntKind.i64.wrap (v - 1)=v - 1:=IntWalk.i64_in _ au;clear e1 e2;go_enter Tryz.func110,Tryz.ntmps110;go_wp2_with fail;go_region_held3 (λw'=>w'.cell? ⟨w.heap.size,0,none⟩=some (.int .i64 v))(first|(simp [bc];done)|go_keep)((go_at_call 338;refine (H5.out _).mono ?_;rintro e w' ⟨rfl,hb⟩;obtain ⟨bc,bf⟩:=Po hb));go_wp2_with fail;go_ret2;exact iZ.mk' (by simp) CU
theorem axO (v:Int) (i:Nat) (w:World) (hv:0<=v/\v<=7) (hi:i<=2) (hz:v=0->i=0) :Calls Tryz.prog 110 #[(.iface 176 (.agg #[])),.agg #[.int .i64 v,.bool (DY i),.bool (BI i)]] w (iZ (.tuple #[.string (bs (tW v i)),.bool (Ec 3 v i)]) w):=by
  have h3:i=0\/i=1\/i=2:=by omega
  have h8:v=0\/v=1\/v=2\/v=3\/v=4\/v=5\/v=6\/v=7:=by omega
  have H6:=Lib.hid (aay 6);have HV:=Lib.hid hv;clear hi hv;rcases h3 with rfl|rfl|rfl
  · rcases h8 with rfl|rfl|rfl|rfl|rfl|rfl|rfl|rfl;all_goals
      clear hz;simp only [DY,BI];go_enter Tryz.func110,Tryz.ntmps110;go_wp2_with (go_at_call 338;refine (H6.out _).mono ?_;rintro e w' ⟨rfl,hb⟩);go_ret2;exact iZ.mk' rfl CU
  · exact ad9
  · exact auV v w ⟨by have:=HV.out;by_cases h0:v=0<;>omega,HV.out.2⟩
theorem aaz (n:Int)(w:World):Calls Tryz.prog 346 #[.agg #[],.int .i64 n] w (iZ (.bool (if (4:Int)=3 then n != 8 else if (4:Int)=4 then n == 8 else true)) w):=by
 go_enter Tryz.func346,Tryz.ntmps346;exact YW
theorem auW (v:Int) (w:World) (hv:1<=v/\v<=7) :Calls Tryz.prog 110 #[(.iface 178 (.agg #[])),.agg #[.int .i64 v,.bool false,.bool true]] w (iZ (.tuple #[.string (bs (tW v 2)),.bool (Ec 4 v 2)]) w):=by
 obtain ⟨hv1,hv7⟩:=hv;have e1:tW v 2=cut [66,83,77,67,81,88,68] (v - 1) v++[51]:=by unfold tW;rw [if_neg (by omega)];rfl
 have e2:Ec 4 v 2=decide ((4:Int)≠4):=by unfold Ec;rw [if_neg (by omega)];rfl
 have H5:=Lib.hid (aaz 5);rw [e1,e2];have hb1:(v == 0)=false:=by simp;omega
 have g0:0<=v - 1:=by omega
 have g1:v - 1<=v:=by omega
 have gl:(cut [66,83,77,67,81,88,68] (v - 1) v).length+1<=9223372036854775807:=by exact aeg
 have w1:IntKind.i64.wrap (v - 1)=v - 1:=IntWalk.i64_in _ au;clear e1 e2;go_enter Tryz.func110,Tryz.ntmps110;go_wp2_with fail;go_region_held3 (λw'=>w'.cell? ⟨w.heap.size,0,none⟩=some (.int .i64 v))(first|(simp [bc];done)|go_keep)((go_at_call 346;refine (H5.out _).mono ?_;rintro e w' ⟨rfl,hb⟩;obtain ⟨bc,bf⟩:=Po hb));go_wp2_with fail;go_ret2;exact iZ.mk' (by simp) CU
theorem axP (v:Int) (i:Nat) (w:World) (hv:0<=v/\v<=7) (hi:i<=2) (hz:v=0->i=0) :Calls Tryz.prog 110 #[(.iface 178 (.agg #[])),.agg #[.int .i64 v,.bool (DY i),.bool (BI i)]] w (iZ (.tuple #[.string (bs (tW v i)),.bool (Ec 4 v i)]) w):=by
  have h3:i=0\/i=1\/i=2:=by omega
  have h8:v=0\/v=1\/v=2\/v=3\/v=4\/v=5\/v=6\/v=7:=by omega
  have H6:=Lib.hid (aaz 6);have HV:=Lib.hid hv;clear hi hv;rcases h3 with rfl|rfl|rfl
  · rcases h8 with rfl|rfl|rfl|rfl|rfl|rfl|rfl|rfl;all_goals
      clear hz;simp only [DY,BI];go_enter Tryz.func110,Tryz.ntmps110;go_wp2_with (go_at_call 346;refine (H6.out _).mono ?_;rintro e w' ⟨rfl,hb⟩);go_ret2;exact iZ.mk' rfl CU
  · exact ad9
  · exact auW v w ⟨by have:=HV.out;by_cases h0:v=0<;>omega,HV.out.2⟩
theorem ajn (n:Int)(w:World)(h:0<=n/\n<=3) :Calls Tryz.prog 343 #[.agg #[],.int .i64 n] w (iZ (.tuple #[.string (bs (rR 3 n)),.bool (okR 3 n)]) w):=by
 have h4:n=0\/n=1\/n=2\/n=3:=by omega
 clear h;rcases h4 with rfl|rfl|rfl|rfl;all_goals
  go_enter Tryz.func343,Tryz.ntmps343;go_wp2;go_ret2;exact iZ.mk' rfl CU
theorem aje (n:Int)(w:World)(h:0<=n/\n<=4) :Calls Tryz.prog 337 #[.agg #[],.int .i64 n] w (iZ (.tuple #[.string (bs (rG 3 n)),.bool (zZ 3 n)]) w):=by
 have h4:n=0\/n=1\/n=2\/n=3\/n=4:=by omega
 clear h;rcases h4 with rfl|rfl|rfl|rfl|rfl;all_goals
  go_enter Tryz.func337,Tryz.ntmps337;go_wp2;go_ret2;exact iZ.mk' rfl CU
theorem apx (n L:Int)(w:World)(h:0<=n/\n<=15) :Calls Tryz.prog 339 #[.agg #[],.int .i64 n,.int .i64 L] w (iZ (.tuple #[.string (bs (pH 3 n L)),.bool (xM 3 n L)]) w):=by
 obtain⟨hn0,hn1⟩:=h;by_cases h0:n=0
 .subst h0;exact ank
 .have hb:(n == 0)=false:=by simp;exact h0
  have e0:pH 3 n L=rH 3 n L:=if_neg h0;have e1:xM 3 n L=!(rH 3 n L).isEmpty:=by unfold xM;rw [hb];rfl
  rw [e0,e1];have e2:rH 3 n L=[]:=rfl;rw [e2];clear e0 e1 e2;exact ank
end
section
open Go.RowKit
def uV(ok:Bool)(sg t:List UInt8):Bool:=ok && sg.isPrefixOf t
def Fh (s:Int) (t:List UInt8):Int×List UInt8 :=if uV (okR s 3) (rR s 3) t then (3,t.drop (rR s 3).length) else if uV (okR s 2) (rR s 2) t then (2,t.drop (rR s 2).length) else if uV (okR s 1) (rR s 1) t then (1,t.drop (rR s 1).length) else (0,t)
def O7 (s:Int) (t:List UInt8):Int×List UInt8 :=if uV (zZ s 4) (rG s 4) t then (4,t.drop (rG s 4).length) else if uV (zZ s 3) (rG s 3) t then (3,t.drop (rG s 3).length) else if uV (zZ s 2) (rG s 2) t then (2,t.drop (rG s 2).length) else if uV (zZ s 1) (rG s 1) t then (1,t.drop (rG s 1).length) else (0,t)
def BQ (s:Int)(fp:Bool)(t:List UInt8):Option Int :=if t=[]then some 0 else match (List.range 15).find? λn=>fp && (decide (s=1) && (t == 95::jy (n+1)))with
 | some n=>some ((n:Int)+1)| none=>if (fp && decide (s=2\/s=4) && (t == [42]))=true then some (-1)else none
def xR (s:Int)(fp:Bool)(t:List UInt8):Option (Int×Int×Int):=(BQ s fp (O7 s (Fh s t).2).2).map λh=>((Fh s t).1,(O7 s (Fh s t).2).1,h)
def nH(s:Int)(h:Nat):Int:=if h=0 then 0 else if s=1 then(h:Int)else -1
theorem avc:((List.range 4).all λs=>(List.range 4).all λr=>(List.range 5).all λg=>(List.range 16).all λh=>[true,false].all λfp =>!(okR ((s:Int)+1) r && zZ ((s:Int)+1) g && xM ((s:Int)+1) h 15 && (fp|| h == 0))||xR ((s:Int)+1) fp (rR ((s:Int)+1) r++rG ((s:Int)+1) g++pH ((s:Int)+1) h 15) == some ((r:Int),(g:Int),nH ((s:Int)+1) h))=true:=by decide +kernel
theorem apT {s:Int} {r g h:Nat} {fp:Bool} (hs:1<=s/\s<=4)(hr:r<=3)(hg:g<=4)(hh:h<=15)(h1:okR s r=true)(h2:zZ s g=true)(h3:xM s h 15=true)(hf:0<h->fp=true) :xR s fp (rR s r++rG s g++pH s h 15)=some ((r:Int),(g:Int),nH s h):=by
 obtain⟨k,hk⟩:=kQ (show 0<=s-1 by omega);obtain rfl:s=(k:Int)+1:=by omega
 have h0:=List.all_eq_true.1 (List.all_eq_true.1 (List.all_eq_true.1 (List.all_eq_true.1 (List.all_eq_true.1 avc k (List.mem_range.2 (by omega))) r (List.mem_range.2 (by omega))) g (List.mem_range.2 (by omega))) h (List.mem_range.2 (by omega))) fp (by cases fp<;>simp);grind
theorem Fj {ok:Bool} {sg t:List UInt8} (h:uV ok sg t=true):ok=true/\t=sg++t.drop sg.length:=by
 unfold uV at h;simp only [gG,List.isPrefixOf_iff_prefix]at h;obtain⟨h1,u,hu⟩:=h;grind
theorem apS(s:Int)(t:List UInt8):∃ r:Nat,r<=3/\(Fh s t).1=(r:Int)/\okR s r=true/\t=rR s r++(Fh s t).2:=by
 unfold Fh;split;.exact amr
 .split;.exact ams
  .split;.exact amu
   .exact⟨0,by omega,rfl,by simp [okR],by simp [rR]⟩
theorem apQ(s:Int)(t:List UInt8):∃ g:Nat,g<=4/\(O7 s t).1=(g:Int)/\zZ s g=true/\t=rG s g++(O7 s t).2:=by
 unfold O7;split;.rename_i h;obtain⟨a,b⟩:=Fj h;exact⟨4,by omega,rfl,a,b⟩
 .split;.exact amr
  .split;.exact ams
   .split;.exact amu
    .exact⟨0,by omega,rfl,by simp [zZ],by simp [rG]⟩
theorem apR {s:Int} {fp:Bool} {t:List UInt8} {x:Int} (hs:1<=s/\s<=4)(h:BQ s fp t=some x):∃ n:Nat,n<=15/\xM s n 15=true/\(0<n->fp=true)/\t=pH s n 15/\x=nH s n:=by
 unfold BQ at h;split at h
 .rename_i e;cases h;exact⟨0,by omega,by simp [xM],λk=>absurd k (by omega),by simp [e,pH],rfl⟩
 .split at h
  .rename_i n hn;have h1:=List.find?_some hn;grind[xM,rH,pH,nH]
  .split at h
   .rename_i h1;cases h;simp only [gG,dH,beq_iff_eq]at h1;obtain⟨⟨a,b⟩,c⟩:=h1;refine⟨15,by omega,?_,λ_=>a,?_,?_⟩;.rcases b with rfl|rfl<;>decide
    .rcases b with rfl|rfl<;>exact c
    .rcases b with rfl|rfl<;>rfl
   .cases h
theorem axT {s:Int} {fp:Bool} {t:List UInt8} {x:Int×Int×Int} (hs:1<=s/\s<=4)(h:xR s fp t=some x) :∃ r g n:Nat,r<=3/\g<=4/\n<=15/\okR s r=true/\zZ s g=true/\xM s n 15=true/\(0<n->fp=true)/\t=rR s r++rG s g++pH s n 15/\x=((r:Int),(g:Int),nH s n):=by
 unfold xR at h;obtain⟨y,hy,rfl⟩:=Option.map_eq_some_iff.1 h;obtain⟨r,r1,r2,r3,r4⟩:=apS s t;obtain⟨g,g1,g2,g3,g4⟩:=apQ s (Fh s t).2;grind[apR]
end
section
theorem Hw(p:UInt8->Bool):∀ (a a' b b':List UInt8),(∀ x∈a,p x=true)->(∀ x∈a',p x=true)->(∀ x,b.head?=some x->p x=false)->(∀ x,b'.head?=some x->p x=false)->a++b=a'++b'->a=a'/\b=b':=by
 intro a;induction a with
 | nil =>
  intro a' b b' _ ha' hb _ he;cases a'<;>simp_all| cons x r ih =>
  intro a' b b' ha ha' hb hb' he;cases a' with
  | nil =>
   have h1:b'.head?=some x:=by grind
   simp_all| cons y r' =>grind
def isR(b:UInt8):Bool:=b == 46|| b == 58|| b == 39
def isG(s:Int)(b:UInt8):Bool:=b == 35|| (s == 1 && (b == 44|| b == 94|| b == 40))|| (s == 2 && b == 116)
def isH(s:Int)(b:UInt8):Bool:=if s=1 then b == 95 else b == 42
def isM(s:Int)(b:UInt8):Bool:=isR b|| isG s b|| isH s b
theorem agD:((List.range' 1 4).all λs=>(List.range' 1 14).all λc=>(List.range 19).all λf=>(rS (s:Nat) (c:Nat) (f:Nat)).all λb=>!isM (s:Nat) b)=true:=by decide +kernel
theorem Nl (s c f:Int)(hs:1<=s/\s<=4)(hc:1<=c/\c<=14)(hf:0<=f/\f<=18):∀ x∈rS s c f,(!isM s x)=true:=by
 obtain⟨s,rfl⟩:=kQ (show 0<=s by omega);obtain⟨c,rfl⟩:=kQ (show 0<=c by omega);obtain⟨f,rfl⟩:=kQ hf.1;have h:=agD;exact alg
theorem aaI(s n:Int):∀ x∈rR s n,isR x=true:=by
 intro x hx;unfold rR at hx;split at hx;.simp at hx;subst hx;rfl
 .split at hx;.simp at hx;subst hx;rfl
  .split at hx;.simp at hx;subst hx;rfl
   .simp at hx
theorem aaF(s n:Int)(hs:1<=s/\s<=4)(hn:0<=n/\n<=4):∀ x∈rG s n,isG s x=true/\isR x=false:=by
 have s4:s=1\/s=2\/s=3\/s=4:=by omega
 have n4:n=0\/n=1\/n=2\/n=3\/n=4:=by omega
 rcases s4 with rfl|rfl|rfl|rfl<;>rcases n4 with rfl|rfl|rfl|rfl|rfl<;>decide
theorem TG(s n L:Int)(hs:1<=s/\s<=4):∀ x,(pH s n L).head?=some x->isH s x=true/\isG s x=false/\isR x=false:=by
 intro x hx;have s4:s=1\/s=2\/s=3\/s=4:=by omega
 unfold pH rH at hx;split at hx;.cases hx
 .rcases s4 with rfl|rfl|rfl|rfl;.simp at hx;subst hx;decide
  .exact alO
  .simp at hx
  .exact alO
theorem Hy(s g h L:Int)(hs:1<=s/\s<=4)(hg:0<=g/\g<=4):∀ x,(rG s g++pH s h L).head?=some x->isM s x=true/\isR x=false:=by
 intro x hx;cases hq:rG s g<;>grind[TG,isM,aaF]
theorem Ld(s r g h L:Int)(hs:1<=s/\s<=4)(hg:0<=g/\g<=4):∀ x,(rR s r++(rG s g++pH s h L)).head?=some x->(!isM s x)=false:=by grind[rR,Hy,aaI,isM]
theorem WR (s r g h r' g' h' L:Int) (hs:1<=s/\s<=4) (hg:0<=g/\g<=4) (hg':0<=g'/\g'<=4) (he:rR s r++(rG s g++pH s h L)=rR s r'++(rG s g'++pH s h' L)) :rR s r=rR s r'/\rG s g=rG s g'/\pH s h L=pH s h' L:=by
 obtain ⟨a,b⟩:=Hw isR _ _ _ _ (aaI s r) (aaI s r') (λx hx=>(Hy s g h L hs hg x hx).2) (λx hx=>(Hy s g' h' L hs hg' x hx).2) he;obtain ⟨c,d⟩:=Hw (isG s) _ _ _ _ (λx hx=>(aaF s g hs hg x hx).1) (λx hx=>(aaF s g' hs hg' x hx).1) (λx hx=>(TG s h L hs x hx).2.1) (λx hx=>(TG s h' L hs x hx).2.1) b;exact ⟨a,c,d⟩
theorem af5(s r r':Int)(hs:1<=s/\s<=4)(hr:0<=r/\r<=3)(hr':0<=r'/\r'<=3)(h1:okR s r=true)(h2:okR s r'=true)(he:rR s r=rR s r'):r=r':=by
 have s4:s=1\/s=2\/s=3\/s=4:=by omega
 have n4:r=0\/r=1\/r=2\/r=3:=by omega
 have m4:r'=0\/r'=1\/r'=2\/r'=3:=by omega
 revert h1 h2 he;rcases s4 with rfl|rfl|rfl|rfl<;>rcases n4 with rfl|rfl|rfl|rfl<;>rcases m4 with rfl|rfl|rfl|rfl<;>decide
theorem aeP(s r r':Int)(hs:1<=s/\s<=4)(hr:0<=r/\r<=4)(hr':0<=r'/\r'<=4)(h1:zZ s r=true)(h2:zZ s r'=true)(he:rG s r=rG s r'):r=r':=by
 have s4:s=1\/s=2\/s=3\/s=4:=by omega
 have n4:r=0\/r=1\/r=2\/r=3\/r=4:=by omega
 have m4:r'=0\/r'=1\/r'=2\/r'=3\/r'=4:=by omega
 revert h1 h2 he;rcases s4 with rfl|rfl|rfl|rfl<;>rcases n4 with rfl|rfl|rfl|rfl|rfl<;>rcases m4 with rfl|rfl|rfl|rfl|rfl<;>decide
theorem aht:((List.range 16).all λa=>(List.range 16).all λb=>!(jy a == jy b)|| a == b)=true:=by decide +kernel
theorem ah4 (s h h' L:Int)(hs:1<=s/\s<=4)(hh:0<=h/\h<=15)(hh':0<=h'/\h'<=15)(h1:xM s h L=true)(h2:xM s h' L=true)(he:pH s h L=pH s h' L):h=h':=by
 have ne:∀ k:Int,k≠0->xM s k L=true->pH s k L≠[]/\pH s k L=rH s k L:=by simp_all[pH,xM]
 by_cases z:h=0;.simp_all[pH]
 .by_cases z':h'=0;.simp_all[pH]
  .obtain⟨a1,a2⟩:=ne h z h1;obtain⟨b1,b2⟩:=ne h' z' h2;rw [a2,b2]at he;rw [a2]at a1;rw [b2]at b1;unfold rH at he a1 b1;by_cases s1:s=1
   .rw [if_pos s1,if_pos s1,List.cons.injEq]at he;have hd:=aht;rw [oW]at hd;have hd1:=hd h.toNat (List.mem_range.2 au);grind
   simp_all
theorem Ud(s aI c:Int)(hs:aJ s aI=0)(h:fO s aI c=true):aI=Nh s c:=by grind[aJ,fO,Nh]
theorem ahl (s aI c f r g h c' f' r' g' h' L:Int) (hsp:aJ s aI=0) (hc:1<=c/\c<=14) (hf:0<=f/\f<=18) (hr:0<=r/\r<=3) (hg:0<=g/\g<=4) (hh:0<=h/\h<=15)(hc':1<=c'/\c'<=14) (hf':0<=f'/\f'<=18) (hr':0<=r'/\r'<=3) (hg':0<=g'/\g'<=4) (hh':0<=h'/\h'<=15)(hst:fO s aI c=true) (hst':fO s aI c'=true) (ho:iJ s c f r g h L=true) (ho':iJ s c' f' r' g' h' L=true) (he:cellS s c f r g h L=cellS s c' f' r' g' h' L) :c=c'/\f=f'/\r=r'/\g=g'/\h=h':=by
 have hs:1<=s/\s<=4:=by
  by_cases k:1<=s/\s<=4;.exact k
  .unfold aJ at hsp;rw [if_pos k] at hsp;cases hsp
 simp only [iJ,gG] at ho ho';obtain ⟨l1,l2⟩:=qO s c f hs hc hf;obtain ⟨m1,m2⟩:=qO s c' f' hs hc' hf';unfold cellS at he;rw [l2 ho.1.1.1,m2 ho'.1.1.1,vg,vg,vg,vg] at he;obtain ⟨a,b⟩:=Hw (λx=>!isM s x) _ _ _ _ (Nl s c f hs hc hf) (Nl s c' f' hs hc' hf') (Ld s r g h L hs hg) (Ld s r' g' h' L hs hg') he;obtain ⟨x,y,z⟩:=WR s r g h r' g' h' L hs hg hg' b;have e0:nP s c f=0:=by
  have hne:rS s c f≠[]:=by intro k;rw [k] at l1;rw [l1] at ho;simp at ho
  exact alU
 have e0':nP s c' f'=0:=by
  have hne:rS s c' f'≠[]:=by intro k;rw [k] at m1;rw [m1] at ho';simp at ho'
  exact alU
 have p1:=(F8 s c f e0).2;have p2:=(F8 s c' f' e0').2;rw [← Ud s aI c hsp hst,a] at p1;rw [← Ud s aI c' hsp hst',p1] at p2;grind[af5,aeP,ah4]
end
section
open Go.RowKit
def yL(s aI L:Int)(l:List UInt8)(c f r g h:Nat):Prop:=(1<=c/\c<=14)/\f<=18/\fO s aI c=true/\stM s c f l L r g h=true
theorem afG {s aI L:Int} {l:List UInt8} {c f r g h c' f' r' g' h':Nat} (hsp:aJ s aI=0) (hL:0<=L/\L<=15) (a:yL s aI L l c f r g h) (b:yL s aI L l c' f' r' g' h') :c=c'/\f=f'/\r=r'/\g=g'/\h=h':=by
 obtain ⟨a1,a2,a3,a4⟩:=a;obtain ⟨b1,b2,b3,b4⟩:=b;obtain ⟨a5,a6,a7⟩:=yR a4;obtain ⟨b5,b6,b7⟩:=yR b4;have k:=ahl s aI c f r g h c' f' r' g' h' L hsp au au au au au au au au au au a3 b3 a6 b6 (a7.trans b7.symm);omega
def NoC(s aI L:Int)(l:List UInt8)(n:Nat):Prop:=∀ c f r g h:Nat,c<n->¬ yL s aI L l c f r g h
theorem agi (m:Nat->Nat->Bool):∀ (n c a b:Nat),oh m c n=some (a,b)->c<=a/\a<c+n/\b<=18/\m a b=true:=by
 intro n;induction n with
 | zero=>intro c a b h;cases h| succ n ih =>grind[DW,mZ]
theorem wR {s aI:Int} (l:List UInt8)(h:aJ s aI=0) :(∃ c f:Nat,placeOf s aI l=((c:Int),(f:Int),0)/\(1<=c/\c<=14)/\f<=18/\fO s aI c=true/\rS s c f=l)\/placeOf s aI l=(0,0,4):=by cases e:oh (BF s aI l) 1 14 with
 | none=>simp_all[yM]| some cf =>
  obtain⟨c,f⟩:=cf;obtain⟨x,y,z,m⟩:=agi _ _ _ _ _ e;grind[BF,tC]
theorem rM {s aI:Int} (h:aJ s aI=0):1<=s/\s<=4:=by grind[aJ]
theorem E5 {s aI L:Int} {l:List UInt8} {c f r g h:Nat} (hsp:aJ s aI=0)(a:yL s aI L l c f r g h) :1<=(rS s c f).length/\(rS s c f).length<=l.length/\placeOf s aI (l.take (rS s c f).length)=((c:Int),(f:Int),0):=by
 obtain⟨a1,a2,a3,a4⟩:=a;obtain⟨a5,a6,a7⟩:=yR a4;grind[rM,qO,iJ,rS,nP,cellS,F8,Ud]
theorem adl {s aI L:Int} {l:List UInt8} {n:Nat} (hsp:aJ s aI=0)(hn:∀ c f r g h:Nat,yL s aI L l c f r g h->n<=(rS s c f).length)(hno:∀ c f r g h:Nat,placeOf s aI (l.take n)=((c:Int),(f:Int),0)->¬ yL s aI L l c f r g h):∀ c f r g h:Nat,yL s aI L l c f r g h->n+1<=(rS s c f).length:=by
 intro c f r g h a;have h1:=hn c f r g h a;by_cases e:(rS s c f).length=n
 .have:=(E5 hsp a).2.2;simp_all
 .omega
theorem aer {s c f L:Int} {l:List UInt8} {r g h:Nat} (hs:1<=s/\s<=4)(hc:1<=c/\c<=14)(hf:0<=f/\f<=18)(hr:r<=3)(hg:g<=4)(hh:(h:Int)<=L)(hL:0<=L/\L<=15) :stM s c f l L r g h=((lV s c f r g h L == 0) && (jU s c f r g h L == l)):=by grind[BZ,Y9,stM,jU]
theorem ajO {s aI:Int} {w:List UInt8} {n:Nat} {c f:Int} {x:Int×Int×Int} (hsp:aJ s aI=0) (h1:1<=n) (hn:n<=w.length) (hp:placeOf s aI (w.take n)=(c,f,0)) (hm:xR s (decide (0<f)) (w.drop n)=some x) :∃ c' f' r g h:Nat,c=(c':Int)/\f=(f':Int)/\yL s aI 15 w c' f' r g h/\x=((r:Int),(g:Int),nH s h):=by
 have hs:=rM hsp;rcases wR (w.take n) hsp with⟨c',f',p1,p2,p3,p4,p5⟩|p
 .rw [hp] at p1;obtain ⟨rfl,rfl⟩:c=(c':Int)/\f=(f':Int):=by simp_all
  obtain ⟨r,g,h,q1,q2,q3,q4,q5,q6,q7,q8,q9⟩:=axT hs hm;obtain ⟨l1,l2⟩:=qO s c' f' hs au au;have hne:rS s c' f'≠[]:=by grind[AA]
  have hok:Qu s c' f'=true:=by simp_all
  have hw:cellS s c' f' r g h 15=w:=by grind[cellS,NI]
  refine ⟨c',f',r,g,h,rfl,rfl,⟨p2,p3,p4,?_⟩,q9⟩;grind[stM,iJ]
 simp_all
theorem I5 {s aI:Int} {w:List UInt8} {c f r g h:Nat} (hsp:aJ s aI=0) (a:yL s aI 15 w c f r g h) :1<=(rS s c f).length/\(rS s c f).length<=w.length/\placeOf s aI (w.take (rS s c f).length)=((c:Int),(f:Int),0)/\xR s (decide (0<(f:Int))) (w.drop (rS s c f).length)=some ((r:Int),(g:Int),nH s h):=by
 obtain ⟨b1,b2,b3⟩:=E5 hsp a;have hs:=rM hsp;obtain ⟨a1,a2,a3,a4⟩:=a;obtain ⟨a5,a6,a7⟩:=yR a4;obtain ⟨l1,l2⟩:=qO s c f hs au au;unfold iJ at a6;simp only [gG]at a6;have hw:w=rS s c f++(rR s r++rG s g++pH s h 15):=by simp_all[cellS]
 refine ⟨b1,b2,b3,?_⟩;grind[apT]
abbrev N5:=Nat×Nat×Nat×Nat×Nat
abbrev Crs:=Int×Int×Bool
open Classical in
noncomputable def iP (s aI:Int)(w:List UInt8):Option N5 :=
 if h:∃ x:N5,yL s aI 15 w x.1 x.2.1 x.2.2.1 x.2.2.2.1 x.2.2.2.2 then some (Classical.choose h)else none
theorem Ls {s aI:Int} {w:List UInt8} {c f r g h:Nat} (hsp:aJ s aI=0) (a:yL s aI 15 w c f r g h):iP s aI w=some (c,f,r,g,h):=by
 have ex:∃ x:N5,yL s aI 15 w x.1 x.2.1 x.2.2.1 x.2.2.2.1 x.2.2.2.2:=⟨(c,f,r,g,h),a⟩;unfold iP;rw [dif_pos ex];obtain ⟨e1,e2,e3,e4,e5⟩:=afG hsp au (Classical.choose_spec ex) a;grind
theorem EL {s aI:Int} {w:List UInt8} {x:N5} (h:iP s aI w=some x):yL s aI 15 w x.1 x.2.1 x.2.2.1 x.2.2.2.1 x.2.2.2.2:=by
 unfold iP at h;split at h;all_goals grind
theorem Du {s aI:Int} {w:List UInt8}:(∀ c f r g h:Nat,¬ yL s aI 15 w c f r g h)↔iP s aI w=none:=by simp[iP]
noncomputable def bF (s:Int)(n i:Nat)(w:List UInt8):Option (Option N5) :=if i<n then (if w=[45] then some none else (iP s ((i:Int)+1) w).map some) else (iP s 0 w).map some
noncomputable def kV (s:Int)(n:Nat)(W:List (List UInt8))(i:Nat):List N5:=((bF s n i ((W[i]?).getD [])).getD none).toList
noncomputable def gQ (s:Int)(n:Nat)(W:List (List UInt8))(k:Nat):List N5:=(List.range k).flatMap (kV s n W)
noncomputable def jA (s:Int)(n:Nat)(W:List (List UInt8))(k:Nat):List N5:=(List.range' k (W.length-k)).flatMap (kV s n W)
def eX(l:List N5):Prop:=l.Pairwise λa b=>a.1<b.1
open Classical in
noncomputable def nM (s:Int)(n:Nat)(W:List (List UInt8)):Option (List N5) :=
 if n≤W.length∧(∀ i (h:i<W.length),(bF s n i W[i]).isSome=true)∧eX (gQ s n W W.length)∧gQ s n W W.length≠[]then some (gQ s n W W.length)else none
theorem IG {s:Int} {n:Nat} {W:List (List UInt8)} (h:W.length<n):nM s n W=none:=if_neg λk=>by have:=k.1;omega
theorem uO {s:Int} {n i:Nat} {W:List (List UInt8)} (hi:i<W.length)(h:bF s n i W[i]=none):nM s n W=none:=if_neg λk=>by grind
theorem Qd {s:Int} {n:Nat} {W:List (List UInt8)} (h:¬ eX (gQ s n W W.length)):nM s n W=none:=if_neg λk=>h k.2.2.1
theorem Bv {s:Int} {n:Nat} {W:List (List UInt8)} (h:gQ s n W W.length=[]):nM s n W=none:=if_neg λk=>k.2.2.2 h
theorem GL {s:Int} {n:Nat} {W:List (List UInt8)} (h1:n<=W.length) (h2:∀ i (h:i<W.length),(bF s n i W[i]).isSome=true) (h3:eX (gQ s n W W.length)) (h4:gQ s n W W.length≠[]) :nM s n W=some (gQ s n W W.length):=if_pos ⟨h1,h2,h3,h4⟩
theorem auw (s:Int)(n:Nat)(W:List (List UInt8)):gQ s n W 0=[]:=rfl
theorem wO (s:Int)(n:Nat)(W:List (List UInt8))(k:Nat):gQ s n W (k+1)=gQ s n W k++kV s n W k:=by simp[gQ,Nw]
theorem aiF (s:Int)(n:Nat)(W:List (List UInt8)) {k m:Nat} (h:k<=m):gQ s n W k <+: gQ s n W m:=by
 obtain⟨d,rfl⟩:=Nat.exists_eq_add_of_le h;induction d<;>grind[wO]
theorem TA {s:Int} {n:Nat} {W:List (List UInt8)} {k:Nat} (h:k<W.length):kV s n W k=((bF s n k W[k]).getD none).toList:=by simp_all[kV]
theorem Lp (s:Int)(n:Nat)(W:List (List UInt8)):jA s n W W.length=[]:=by simp[jA]
theorem GI (s:Int)(n:Nat)(W:List (List UInt8)) {k:Nat} (h:k<W.length):jA s n W k=kV s n W k++jA s n W (k+1):=by
 unfold jA;rw [show W.length-k=(W.length-(k+1))+1 by omega,FP,NG]
theorem aiJ (s:Int)(n:Nat)(W:List (List UInt8)):jA s n W 0=gQ s n W W.length:=by simp[jA,gQ,Rj]
theorem Xb (s:Int)(n:Nat)(W:List (List UInt8)):∀ {k:Nat},k<=W.length->jA s n W k <:+ gQ s n W W.length
 | 0,_=>by simp[aiJ]| k+1,h=>(show jA s n W (k+1) <:+ jA s n W k by grind[GI]).trans (Xb s n W au)
theorem afh {s:Int} {c:Nat} {w:List UInt8} {x:N5} (hc:0<c)(h:iP s c w=some x):x.1=c:=by
 have a:=(EL h).2.2.1;grind[fO]
theorem afi {s:Int} {w:List UInt8} {x:N5} (h:iP s 0 w=some x):s=4\/6<x.1:=by
 have a:=(EL h).2.2.1;grind[fO]
theorem aiP {s aI:Int} {w:List UInt8} {x:N5} (h:iP s aI w=some x):1<=x.1/\x.1<=14/\x.2.1<=18/\x.2.2.1<=3/\x.2.2.2.1<=4/\x.2.2.2.2<=15:=by
 obtain⟨a1,a2,a3,a4⟩:=EL h;obtain⟨a5,a6,a7⟩:=yR a4;omega
theorem Xl {s:Int} {n i:Nat} {w:List UInt8} {x:N5} (h:bF s n i w=some (some x)):1<=x.1/\x.1<=14/\x.2.1<=18/\x.2.2.1<=3/\x.2.2.2.1<=4/\x.2.2.2.2<=15:=by grind[bF,abx,aiP]
theorem Bz {s:Int} {n:Nat} {W:List (List UInt8)} {i:Nat} {x:N5} (h:x∈kV s n W i):1<=x.1/\x.1<=14/\x.2.1<=18/\x.2.2.1<=3/\x.2.2.2.1<=4/\x.2.2.2.2<=15:=by
 unfold kV at h;cases hw:bF s n i ((W[i]?).getD [])<;>grind[Xl]
theorem apg {s:Int} {n:Nat} {W:List (List UInt8)} {k:Nat} {x:N5} (h:x∈gQ s n W k):1<=x.1/\x.1<=14/\x.2.1<=18/\x.2.2.1<=3/\x.2.2.2.1<=4/\x.2.2.2.2<=15:=by
 obtain⟨i,_,hi⟩:=List.mem_flatMap.1 h;exact Bz hi
theorem Dt:∀ {l:List N5} {a:Nat},eX l->(∀ x∈l,a<x.1/\x.1<=14)->l.length+a<=14\/l=[]
 | [],_,_,_=>.inr rfl| x::r,a,h,hb=>by
  have h1:=hb x (by simp);obtain⟨h2,h3⟩:=List.pairwise_cons.1 h;rcases Dt (a:=x.1) h3 (λy hy=>⟨h2 y hy,(hb y CY).2⟩) with k|k;all_goals grind
def fJ (s:Int)(words:List (List UInt8)):List (List UInt8):=if s=2 then words.reverse else words
def aA(s:Int)(cs:List Crs):Nat:=if s=4 then 0 else min cs.length 6
noncomputable def pF (s:Int)(n:Nat)(words:List (List UInt8)):Option (List N5):=nM s n (fJ s words)
structure NC where
 bar:Bool
 v:Nat
 i:Nat
 tie:Bool
 l:List N5
noncomputable def jC (s:Int) (n:Nat) (bar:Bool) (v i:Nat) (ws:List (List UInt8)):Option NC :=if ws=[[126]]/\s≠4 then some ⟨bar,v,i,true,[]⟩else if ws=[[37]]/\s≠3 then some ⟨bar,v,i,false,[]⟩else (pF s n ws).map λl=>⟨bar,v,i,false,l⟩
noncomputable def iW (s:Int)(n:Nat)(bar:Bool):List (List UInt8)->Option NC
 | sg::w::r=>(jP (D6 s sg) 0 8).bind λx=>jC s n bar x.1 x.2 (w::r)| _=>none
noncomputable def dQ (s:Int)(n:Nat)(t:List UInt8):Option NC :=match aZ 32 t with
 | w::r=>if w=[124]then iW s n true r else iW s n false (w::r)| []=>none
def dX (cs:List Crs) (x:N5):Int:=if cs.length<x.1 then 12 else if (cs.getD (x.1-1) (0,0,false)).2.1<(x.2.1:Int)then 13 else 0
def mX(cs:List Crs):List N5->Int
 | []=>0| x::r=>if dX cs x≠0 then dX cs x else mX cs r
def oL(cs:List Crs)(first:Bool)(x:NC):Int:=if first=true/\x.v=0 then 20 else if(first && x.tie)=true then 21 else mX cs x.l
noncomputable def eY (s:Int)(cs:List Crs)(k:Nat)(t:List UInt8):Int :=match dQ s (aA s cs) t with
 | none=>4| some x=>oL cs (k == 0) x
noncomputable def aT (s:Int) (cs:List Crs) (t:List UInt8):NC:=(dQ s (aA s cs) t).getD ⟨false,0,0,false,[]⟩
noncomputable def nK (s:Int)(cs:List Crs):Nat->List (List UInt8)->Option (Nat×Int)
 | _,[]=>none| k,t::r=>if eY s cs k t≠0 then some (k,eY s cs k t) else nK s cs (k+1) r
theorem GK {s:Int} {cs:List Crs}:∀ {L:List (List UInt8)} {k j:Nat} (hj:j<L.length),(∀ i (hi:i<L.length),i<j->eY s cs (k+i) L[i]=0)->eY s cs (k+j) L[j]≠0->nK s cs k L=some (k+j,eY s cs (k+j) L[j])
 | t::r,k,0,hj,_,h=>by simp_all[nK]| t::r,k,j+1,hj,h1,h=>by
  have h0:=h1 0 (by simp) (by omega);simp only [NU,FQ] at h0;unfold nK;rw [if_neg (by rw [h0];decide),GK (k:=k+1) (j:=j) CX (λi hi hij=>by grind) (by grind)];grind
theorem vV {s:Int} {cs:List Crs}:∀ {L:List (List UInt8)} {k:Nat},(∀ i (hi:i<L.length),eY s cs (k+i) L[i]=0)->nK s cs k L=none
 | [],_,_=>rfl| t::r,k,h=>by
  have h0:=h 0 (by simp);simp only [NU,FQ] at h0;unfold nK;rw [if_neg (by rw [h0];decide)];exact vV λi hi=>by
   have:=h (i+1) (by simpa using hi);grind
def dJ(x:NC)(w:N5->Int):Ev:=⟨x.bar,x.v,DY x.i,BI x.i,x.tie,x.l.map λn=>(n.1,n.2.1,n.2.2.1,n.2.2.2.1,w n)⟩
def iQ(x:NC):Ev:=dJ x λ_=>0
def EN(x:NC):Ev:=dJ x λn=>(n.2.2.2.2:Int)
def pI (E:List NC)(i:Nat)(x:N5):Int:=(ak (E.map iQ) i x.1:Int)
def nU (s:Int)(E:List NC)(i:Nat)(x:N5):Bool:=decide (x.2.2.2.2≠0) && (decide (pI E i x=0)|| (decide (s=1) && decide (pI E i x<x.2.2.2.2)))
def aN(s:Int)(E:List NC)(i:Nat)(x:N5):Int:=if x.2.2.2.2=0 then 0 else if s=1 then(x.2.2.2.2:Int)else pI E i x
def pG (s:Int) (E:List NC):Option Nat:=(List.range E.length).find? λi=>((E[i]?).getD ⟨false,0,0,false,[]⟩).l.any (nU s E i)
def oM (s:Int)(E:List NC):List Ev:=E.mapIdx λi x=>dJ x (aN s E i)
def nN(l:List UInt8):Option Int :=if l.take 10=[116,97,98,108,97,116,117,114,101,32]then(if [102,114,101,110,99,104]=l.drop 10 then some 1 else if [105,116,97,108,105,97,110]=l.drop 10 then some 2 else if [115,112,97,110,105,115,104]=l.drop 10 then some 3 else if [103,101,114,109,97,110]=l.drop 10 then some 4 else none)else none
def aF (t:List UInt8):(List Crs×List Int)×Int :=if (oU t).2≠0 then (([],[]),(oU t).2)else if jW (oU t).1.1 (oU t).1.2≠0 then (([],[]),jW (oU t).1.1 (oU t).1.2)else ((oU t).1,0)
abbrev J6:=Int×bV×Int×Int
def fC(line e:Int):J6:=(0,⟨[],[],[]⟩,line,e)
noncomputable def mF (s:Int)(cs:List Crs)(st:List Int)(tl:List UInt8)(L:List (List UInt8)):J6 :=match nK s cs 0 L with
 | some (k,e)=>fC ((k:Int)+3) e| none =>if tl≠[] then fC ((L.length:Int)+3) 4 else match pG s (L.map (aT s cs)) with
  | some i=>fC ((i:Int)+3) 24| none=>(s,⟨cs,st,oM s (L.map (aT s cs))⟩,0,0)
noncomputable def wP (s:Int)(tl:List UInt8):List (List UInt8)->J6
 | []=>fC 2 4| l::L =>if (aF l).2≠0 then fC 2 (aF l).2 else if 400<L.length+(if tl=[]then 0 else 1)then fC 403 2 else mF s (aF l).1.1 (aF l).1.2 tl L
noncomputable def jq (tl:List UInt8):List (List UInt8)->J6
 | []=>fC 1 4| l::L=>match nN l with
  | none=>fC 1 4| some s=>wP s tl L
noncomputable def aG (t:List UInt8):J6:=jq (aH 10 t).2 (aH 10 t).1
end
section
open Go.RowKit
theorem ZW:((List.range' 1 4).all λs=>(List.range' 1 14).all λc=>(List.range 19).all λf=>(rS (s:Int) (c:Int) (f:Int)).all λb=>decide (b.toNat<128))=true:=by decide +kernel
theorem afg:((List.range' 1 4).all λs=>((List.range 4).all λr=>(rR (s:Int) (r:Int)).all λb=>decide (b.toNat<128)) && ((List.range 5).all λg=>(rG (s:Int) (g:Int)).all λb=>decide (b.toNat<128)) && ((List.range 16).all λh=>(pH (s:Int) (h:Int) 15).all λb=>decide (b.toNat<128)))=true:=by decide +kernel
theorem aiM {s aI:Int} {w:List UInt8} {c f r g h:Nat} (hsp:aJ s aI=0) (a:yL s aI 15 w c f r g h):∀ b∈w,b.toNat<128:=by
 have hs:=rM hsp;obtain ⟨a1,a2,a3,a4⟩:=a;obtain ⟨a5,a6,a7⟩:=yR a4;obtain ⟨l1,l2⟩:=qO s c f hs au au;unfold iJ at a6;simp only [gG] at a6;obtain ⟨k,rfl⟩:=kQ (show 0<=s by omega);have h1:=List.all_eq_true.1 (List.all_eq_true.1 (List.all_eq_true.1 (List.all_eq_true.1 ZW k (List.mem_range'_1.2 au)) c (List.mem_range'_1.2 au)) f (List.mem_range.2 au));have h2:=List.all_eq_true.1 afg k (List.mem_range'_1.2 au);grind[cellS]
def Lm(s aI:Int)(w:List UInt8)(pos:Nat):Prop:=∀ c f r g h:Nat,yL s aI 15 w c f r g h->pos<=(rS s c f).length
theorem aiG(s aI:Int)(w:List UInt8):Lm s aI w 0:=λ_ _ _ _ _ _=>iT _
theorem auz {l:List UInt8} {i:Nat} (h:i<l.length):(bs l)[i]'(by rw [dI];exact h)=l[i]:=by simp[bs,ByteArray.getElem_eq_getElem_data]
theorem aiH {s aI:Int} {w:List UInt8} {pos:Nat} (hsp:aJ s aI=0) (hp:pos<w.length+1) (hN:Lm s aI w pos)(hno:pos=0\/∀ c f:Nat,placeOf s aI (w.take pos)=((c:Int),(f:Int),0)->xR s (decide (0<(f:Int))) (w.drop pos)=none):Lm s aI w (pos+(Utf8.decode (bs (w++[32])) pos).2):=by
 intro c f r g h a;have h1:=hN c f r g h a;obtain ⟨b1,b2,b3,b4⟩:=I5 hsp a;grind[dI,auz,aiM,decode_ascii]
theorem ZT {s aI:Int} {w:List UInt8} {pos:Nat} (hsp:aJ s aI=0)(hp:w.length+1<=pos)(hN:Lm s aI w pos):iP s aI w=none :=Du.1 λc f r g h a=>by
  have h1:=hN c f r g h a;obtain⟨b1,b2,b3,b4⟩:=I5 hsp a;omega
def yt (s:Int)(x:N5):List AV:=[.sc (.int .i64 x.1),.sc (.int .i64 x.2.1),.sc (.int .i64 x.2.2.1),.sc (.int .i64 x.2.2.2.1),.sc (.int .i64 0),.sc (.int .i64 (nH s x.2.2.2.2))]
theorem auA {s aI:Int} {w:List UInt8} {n:Nat} {c f:Nat} {x:Int×Int×Int} (hsp:aJ s aI=0) (h1:1<=n) (hn:n<=w.length) (hp:placeOf s aI (w.take n)=((c:Int),(f:Int),0)) (hm:xR s (decide (0<(f:Int))) (w.drop n)=some x) :∃ y:N5,iP s aI w=some y/\(c:Int)=(y.1:Int)/\(f:Int)=(y.2.1:Int)/\x.1=(y.2.2.1:Int)/\x.2.1=(y.2.2.2.1:Int)/\x.2.2=nH s y.2.2.2.2:=by
 obtain ⟨c',f',r,g,h,e1,e2,a,rfl⟩:=ajO hsp h1 hn hp hm;exact ⟨(c',f',r,g,h),Ls hsp a,e1,e2,rfl,rfl,rfl⟩
def sp(t:List UInt8):List UInt8:=32::t
def Y4 (s:Int)(L:Int->Nat)(x:Stp):List UInt8:=cellS s x.1 x.2.1 x.2.2.1 x.2.2.2.1 x.2.2.2.2 (L x.1)
def stK (s:Int)(L:Int->Nat)(x:Stp):Bool:=iJ s x.1 x.2.1 x.2.2.1 x.2.2.2.1 x.2.2.2.2 (L x.1)
def JC(l:List Stp)(c:Int):Option Stp:=l.find? λx=>x.1 == c
def stF(s:Int)(L:Int->Nat)(l:List Stp)(c:Int):List UInt8 :=match JC l c with
 | some x=>Y4 s L x| none=>[45]
def asc:Int->List Stp->Prop
 | _,[]=>True| m,x::r=>m<x.1/\asc x.1 r
theorem ahb {p:bV} {i:Int}:∀ {l:List Stp} {last:Int},kN p i last l=0->asc last l
 | [],_,_=>trivial| x::r,last,h=>by
  unfold kN at h;by_cases h1:lI p i x last≠0;.omega
  .rw [if_neg h1]at h;refine⟨?_,ahb h⟩;grind[lI]
theorem aha:∀ {l:List Stp} {m:Int},asc m l->∀ x∈l,m<x.1
 | y::r,m,h,x,hx=>by
  rcases List.mem_cons.1 hx with rfl|hx;.exact h.1
  .have:=aha h.2 x hx;have:=h.1;omega
theorem ahc {l:List Stp}:∀ {m:Int} (k:Nat)(h:k<l.length),asc m l->∀ x∈l.take k,x.1<l[k].1:=by induction l with
 | nil=>simp| cons y r ih =>
  intro m k h ha x hx;cases k with
  | zero=>simp at hx| succ k =>
   simp only [List.take_succ_cons,NP] at hx;rcases hx with rfl|hx;.exact aha ha.2 _ (by simp)
   .simpa using ih k yj ha.2 x hx
theorem ags {l:List Stp} {c:Int} (h:∀ x∈l,x.1≠c):JC l c=none:=by grind[JC]
theorem agt (l:List Stp)(x:Stp)(c:Int)(h:∀ y∈l,y.1<x.1):JC (l++[x]) c=if c=x.1 then some x else JC l c:=by grind[JC]
theorem X7 (s:Int)(L:Int->Nat)(l:List Stp)(x:Stp)(c:Int)(h:∀ y∈l,y.1<x.1):stF s L (l++[x]) c=if c=x.1 then Y4 s L x else stF s L l c:=by grind[stF,agt]
def cAt(s:Int)(n j:Nat):Int:=if s=2 then(n:Int)-j else(j:Int)+1
def gW (s:Int)(L:Int->Nat)(n:Nat)(l:List Stp):List (List UInt8):=(List.range n).map λj=>stF s L l (cAt s n j)
theorem aa5(s:Int)(L:Int->Nat)(n:Nat):gW s L n []=List.replicate n [45]:=by
 unfold gW;apply oV;all_goals simp[stF,JC]
theorem X8 (s:Int)(L:Int->Nat)(n:Nat)(l:List Stp)(x:Stp)(hs:s≠4)(h:∀ y∈l,y.1<x.1)(h1:1<=x.1)(hn:x.1<=n):gW s L n (l++[x])=(gW s L n l).set (xC s x.1 n-1).toNat (Y4 s L x):=by
 apply oV;all_goals grind[gW,X7,cAt,xC]
def tq (s:Int)(L:Int->Nat)(n:Nat)(l:List Stp):List (List UInt8) :=if s=2 then ((l.filter λx=>decide ((n:Int)<x.1)).map (Y4 s L)).reverse else (l.filter λx=>decide ((n:Int)<x.1)).map (Y4 s L)
theorem aps (s:Int)(L:Int->Nat)(n:Nat)(l:List Stp)(x:Stp)(h:x.1<=n):tq s L n (l++[x])=tq s L n l:=by grind[tq]
theorem ai3 (s:Int)(L:Int->Nat)(n:Nat)(l:List Stp)(x:Stp)(h:¬ x.1<=n):tq s L n (l++[x])=if s=2 then Y4 s L x::tq s L n l else tq s L n l++[Y4 s L x]:=by grind[tq]
theorem LY(s:Int)(L:Int->Nat)(n:Nat)(l:List Stp):(tq s L n l).length<=l.length:=by grind[tq]
def headW (s:Int)(e:Ev):List (List UInt8):=if e.bar=true then [[124],tW e.val (Y3 e.dot e.three)]else [tW e.val (Y3 e.dot e.three)]
def nO(s:Int)(p:bV):Nat:=if s=4 then 0 else min p.cs.length 6
def yA (s:Int) (p:bV) (i:Int) (e:Ev):List (List UInt8) :=headW s e++(if e.tie=true then [[126]] else if e.stops.length=0 then [[37]] else if s=2 then tq s (λc=>ak p.evs i c) (nO s p) e.stops++gW s (λc=>ak p.evs i c) (nO s p) e.stops else gW s (λc=>ak p.evs i c) (nO s p) e.stops++tq s (λc=>ak p.evs i c) (nO s p) e.stops)
def spW (l:List (List UInt8)):List UInt8:=l.flatMap sp
def y5:List (List UInt8)->List UInt8
 | []=>[]| x::r=>x++spW r
theorem PY (l:List (List UInt8)):Lib.join l [32]=y5 l:=by cases l with
 | nil=>rfl| cons x r =>
  rw [Lib.join_cons];show x++Lib.joinTail [32] r=x++r.flatMap sp;unfold Lib.joinTail;rw [List.flatMap_def];rfl
def colS (s:Int)(p:bV)(i:Int)(e:Ev):List UInt8:=y5 (yA s p i e)
theorem adF {l:List Stp} {c:Int} {x:Stp} (h:JC l c=some x):x∈l/\x.1=c:=by grind[JC]
theorem Px(s c f r g h L:Int)(hs:1<=s/\s<=4)(hc:1<=c/\c<=14)(hf:0<=f/\f<=18):(cellS s c f r g h L).length<=12:=by grind[cellS,aav,aaJ,aaG,aat]
theorem adD {n:Nat}:∀ {l:List (List UInt8)},(∀ t∈l,t.length<=n)->(spW l).length<=(n+1)*l.length
 | [],_=>by simp [spW]| x::r,h=>by
  have h1:=adD (l:=r) λt ht=>h t (by simp [ht]);grind[spW,Nat.mul_succ,sp]
structure Vk(p:bV)(k:Nat)(x:Stp):Prop where
 aI:1<=x.1/\x.1<=p.cs.length
 c14:x.1<=14awz:0<=x.2.1/\x.2.1<=jV p.cs x.1f18:x.2.1<=18hold:0<=x.2.2.2.2/\x.2.2.2.2<=ak p.evs k x.1h0:0<x.2.2.2.2->x.2.1≠0
theorem aki {p:bV} {i:Nat} {last:Int} {s:Stp} (hI:jW p.cs p.st=0)(h:lI p i s last=0):Vk p i s/\last<s.1:=by
 have hb:=Yb hI h;unfold lI at h;by_cases h1:s.1<1\/(p.cs.length:Int)<s.1;.rw [if_pos h1]at h;cases h
 .rw [if_neg h1]at h;by_cases h2:s.2.1<0\/jV p.cs s.1<s.2.1;.rw [if_pos h2]at h;cases h
  .rw [if_neg h2]at h;by_cases h3:s.1<=last;.rw [if_pos h3]at h;cases h
   .rw [if_neg h3]at h;by_cases h4:(s.2.2.1<0\/3<s.2.2.1)\/(s.2.2.2.1<0\/4<s.2.2.2.1);.rw [if_pos h4]at h;cases h
    .rw [if_neg h4]at h;by_cases h5:(s.2.2.2.2<0\/(ak p.evs i s.1:Int)<s.2.2.2.2)\/(0<s.2.2.2.2/\s.2.1=0);.rw [if_pos h5]at h;cases h
     .exact⟨⟨by omega,by omega,by omega,by omega,by omega,by omega⟩,by omega⟩
theorem agB {p:bV} {i:Nat} (hI:jW p.cs p.st=0):∀ {l:List Stp} {last:Int},kN p i last l=0->(∀ x∈l,Vk p i x/\last<x.1)/\l.Pairwise λx y=>x.1<y.1:=by
 intro l;induction l with
 | nil=>intro _ _;exact⟨λx hx=>(by cases hx),.nil⟩| cons x r ih =>
  intro last h;unfold kN at h;by_cases h1:lI p i x last≠0;.rw [if_pos h1] at h;exact absurd h h1
  .rw [if_neg h1] at h;have hx:=aki hI (by simpa using h1:lI p i x last=0);obtain⟨q1,q2⟩:=ih h;refine⟨λy hy=>?_,.cons (λy hy=>(q1 y hy).2) q2⟩;rcases List.mem_cons.1 hy with rfl|hy;.exact hx
   .exact⟨(q1 y hy).1,by have:=(q1 y hy).2;omega⟩
structure av1(p:bV)(k:Nat)(e:Ev):Prop where
 sg:qG e.val e.dot e.three=true
 first:¬ ((k:Int)=0/\e.val=0)tie:e.tie=true->e.stops=[]/\0<k
 stops:∀ x∈e.stops,Vk p k x
 asc:e.stops.Pairwise λx y=>x.1<y.1
theorem Bj {p:bV} (h:bM p=0) {k:Nat} (hk:k<p.evs.length):av1 p k p.evs[k]:=by
 obtain ⟨h1,h2,h3⟩:=uo h;obtain ⟨a,b,c,d⟩:=zF (h3 k hk);obtain ⟨q1,q2⟩:=agB h1 d;refine ⟨a,b,λht=>?_,λx hx=>(q1 x hx).1,q2⟩;have:¬ (0<p.evs[k].stops.length\/(k:Int)=0):=λhh=>c ⟨ht,hh⟩;exact ⟨sN au,by omega⟩
theorem ajT(c:Int):∀ (n:Nat)(l:List Ev),tN c n l<=l.length:=by
 intro n;induction n with
 | zero=>intro l;unfold tN;first|exact iT _|(split<;>exact iT _)
 | succ n ih =>
  intro l;cases l with
  | nil=>simp [tN]| cons e r =>
   unfold tN;split;.exact iT _
   .have:=ih r;simp;omega
theorem Ti {evs:List Ev} {i:Nat} (h:i<evs.length)(c:Int):i+ak evs i c+1<=evs.length:=by
 unfold ak;rw [if_neg (by omega)];have:=ajT c 15 (evs.drop ((i:Int).toNat+1));simp only [gy,vk]at this ⊢;omega
def pch(v:Value):List PanicEntry:=[{ v:=v,recovered:=false }]
def Ve (B:World->View->Prop)(g:Nat)(P:Program)(f:FuncId)(args:List AV)(M:List (Nat×AO))(nk:Nat)(pv:Value):Prop :=∀ (w:World)(G:Gh)(vs:List Value),B w G.F->(∀ x,yE G M x->g<=x)->Y6 G w M nk->vs.length=args.length->(∀ (i:Nat) av u,args[i]?=some av->vs[i]?=some u->R G av u) ->Calls P f vs.toArray w λe w'=>e=.panicked (pch pv)/\Kept (yE G M) w w'/\∀ p u,G.F p=some u->w'.cell? p=some u
theorem Ve.intro {B:World->View->Prop} {g:Nat} (hS:RN B g) {P:Program} {f:FuncId} {fn:Func} {c:Code} {args:List AV} {M:List (Nat×AO)} {nk:Nat} {pv:Value} (hf:P.funcs[f]?=some fn) (hb:fn.body=some c) {N:Nat} (hN:fn.ntmps=N) (hn:args.length<=N)(hp:args.all (AV.inn nk)=true)(h:∀ w0 F0 fp pg,Holds B g ⟨w0,F0,N,fp,nk,pg,[]⟩->W P ⟨w0,F0,N,fp,nk,pg,[]⟩ c ⟨number 0 args,M,nk⟩ (λe _=>e=.panic (pch pv))):Ve B g P f args M nk pv:=by
 intro w G vs hB hlo hO hl hR;subst hN;refine calls_of_wp hf hb ?_;have hH:Holds B g ⟨w,G.F,fn.ntmps,yE G M,nk,G,[]⟩:=⟨λw2 F2 k1 k2=>hS.2 w w2 G.F F2 (λi hi=>k1.block i (oD hi (hS.1 w G.F hB)) λh=>by have:=hlo i h;omega) k2 hB,λx hx=>hx.elim (λh=>gX (hS.1 w G.F hB) h) (hlo x)⟩;have h1:=h w G.F (yE G M) G hH G { tmps:=vs.toArray++Array.replicate (fn.ntmps - vs.toArray.size) undef,defers:=[] } w ⟨by simp;omega,⟨rfl,Nat.le_refl _,λk _=>⟨rfl,rfl,rfl⟩⟩,λi av hx=>by
   obtain ⟨_,h2⟩:=kX args 0 i av hx;simp only [CP] at h2;have hi:i < args.length:=(List.getElem?_eq_some_iff.1 h2).1;have hv:i < vs.length:=by omega
   refine ⟨by show i < fn.ntmps;omega,Gv (List.all_eq_true.1 hp av (cZ h2)),hR i av _ h2 ?_⟩;simp [dU,FN,hv],Kept.refl _ _,hO.fw,λ_ _ h=>h,λ_ _ h=>.inl h,hO.ob,(λk o x h1 h2=>⟨.inr ⟨k,o,h1,h2⟩,hO.my k o x h1 h2⟩),hO.dj,hO.dF⟩;refine wp_mono h1 λe a w' ⟨σ,G1,he,ok⟩=>?_;subst he;exact ⟨ok.df.1,rfl,ok.bel,λp u x=>ok.fw p u (ok.f0 p u x)⟩
section
variable {B:World→View→Prop} {gl:Nat} {P:Program} {C:Cx} {σ:St} {G:Gh} {a:Act} {w:World} {o:Oper} {ops:Array Oper} {rest:List Oper} {Q:Exit→St→Prop} {d:Tmp}
theorem WL.stop (hg:o.guard=none)(h:∀ G a w,Ok C σ G a w->∀ N,o.wp P a w N (Post C Q)):WL P C ops (o::rest) σ Q:=λG a w ok=>wpList_plain hg λK hK=>h G a w ok K
theorem WL.pan {x:Operand} {t:TypeId} {v:Value} (hg:o.guard=none)(ho:o.op=.panic x)(hx:σ.ev x=some (.sc (.iface t v)))(k:Q (.panic (pch (.iface t v))) σ):WL P C ops (o::rest) σ Q :=WL.stop hg λG a w ok N=>by
  have e:=ok.evs hx;refine Jr ?_;simp only [ho,e,Sem.run_bind,run_panic_iface,Oper.upon];exact⟨σ,G,k,ok⟩
theorem WV.mki {x:Operand} {T:TypeId} {l:List AV} {ys:List Value} (ho:o.op=.makeInterface T x) (hi:∀ v w,(Instr.makeInterface T v).run P w=.ok (.iface T v) w) (hx:σ.ev x=some (.ag l)) (hs:JW l=some ys):WV P C o σ (.sc (.iface T (.agg ys.toArray))) :=WV.val (λ_ _ _ _=>.sc _) λG a w ok=>by
  have r:=(ok.l9 hx).2;obtain ⟨cs,e,h1,h2⟩:∃ cs:Array Value,a.eval x=.agg cs/\cs.size=l.length/\∀ (i:Nat) av u,l[i]?=some av->cs[i]?=some u->R G av u:=R.Ed r;have ey:=DX hs (cs:=cs.toList) yh λi av u p q=>h2 i av u p wF;refine ⟨.iface T (.agg ys.toArray),?_,.pu _ _ (.sc _)⟩;unfold execOp;simp only [ho,e,Sem.run_bind,hi];rw [← ey];rfl
theorem ahk {f:FuncId} {o:Oper} {y:Operand} {xs:Array Operand} {ts:Array TypeId} {cs:Array Value} {R':Ending->World->Prop} {N:Act->World->Prop} {Q':Exit->Act->World->Prop} (ho:o.op=.call { callee:=.value y,args:=xs,argTypes:=ts })(hc:∀ vs w,(callFunc f vs).run P w=.ok (.enter f vs) w)(ey:a.eval y=.func (.func f) #[] cs)(h:Calls P f (xs.toList.map a.eval++cs.toList).toArray w R')(hN:∀ e w1,R' e w1->∃ c,e=.panicked c/\Q' (.panic c) a w1):o.wp P a w N Q':=by
 refine Jr ?_;have e3:(#[]++xs.map a.eval++cs:Array Value)=(xs.toList.map a.eval++cs.toList).toArray:=by apply AQ;simp
 simp only [ho,resolve,ey,Deferred.ofValue,invoke,Sem.run_bind,Sem.run_pure,Result.andThen_ok,hc,Oper.upon,e3];refine h.mono λe w1 hr=>?_;obtain⟨c,rfl,hn⟩:=hN e w1 hr;exact hn
theorem Ok.ay6 (ok:Ok C σ G a w) (hB:Holds B gl C) {f:FuncId} {args args':List AV} {M:List (Nat×AO)} {nk:Nat} {pv:Value} (ks:List Nat) {vs:List Value} (hl:vs.length=args'.length) (hR:∀ (i:Nat) av u,args'[i]?=some av->vs[i]?=some u->R G av u)(h:Ve B gl P f args M nk pv) (hks:ksB ks nk σ.nk=true) (ha:args.map (AV.ren (rhoC ks nk σ.nk))=args') (hp:args.all (AV.inn nk)=true) (hM:Vl σ (rhoC ks nk σ.nk) nk M) :Calls P f vs.toArray w λe w1=>∃ yu,e=.panicked (pch pv)/\Ok C ⟨σ.t,Fb ks σ.M,σ.nk⟩ yu a w1:=by
 have ah0:=hks;simp only [ksB,gG] at ah0;obtain ⟨⟨⟨hk1,_⟩,hk3⟩,hk4⟩:=ah0;have hlen:=dG hk1;have Zz:=Tt hk3;have XU:∀ i,i<nk->rhoC ks nk σ.nk i=ks.getD i 0:=λi hi=>by exact anJ
 have hat:∀ i,i<nk->ks[i]?=some (ks.getD i 0):=λi hi=>by exact abK
 have aeR:∀ k o,look k M=some o->look (ks.getD k 0) σ.M=some (o.ren (rhoC ks nk σ.nk))/\o.inn nk=true/\k<nk:=λk o h=>by exact al1
 have hMk:∀ x,yE (G.ren (rhoC ks nk σ.nk)) M x->∃ k o,k<nk/\look (ks.getD k 0) σ.M=some o/\G.fp (ks.getD k 0) x:=λx ⟨k,o,h1,h2⟩=>by exact alp
 have hO:Y6 (G.ren (rhoC ks nk σ.nk)) w M nk:=by exact ar8
 have qo:=h w (G.ren (rhoC ks nk σ.nk)) vs (hB.1 w G.F ok.bel ok.f0) (λx hx=>by
   obtain ⟨k,o,_,h1,h2⟩:=hMk x hx;exact hB.2 x (ok.my _ o x h1 h2).1) hO (by rw [hl,← ha];simp) λi av u p q=>by
  have:args'[i]?=some (av.ren (rhoC ks nk σ.nk)):=by rw [← ha,dw,p];rfl
  exact R.au4 (List.all_eq_true.1 hp av (cZ p)) (hR i _ u this q)
 refine qo.mono λe w1 ⟨he,q1,q2⟩=>?_;obtain ⟨yu,ok',_⟩:=ok.qQ (M:=M) (M':=[]) (bP:=nk) (G':=G.ren (rhoC ks nk σ.nk)) hks (λk o h=>⟨(aeR k o h).2.2,_,(aeR k o h).1⟩) hMk q1 (λ_ _ h=>h) (λp u x=>.inl x) ⟨q2,(λk o h=>by cases h),(λk o x h=>by cases h),(λk o k' o' x h=>by cases h),(λk o x p u h=>by cases h)⟩ (λk o x h=>by cases h) (λk _=>⟨rfl,rfl,rfl⟩) (Nat.le_refl _) rfl rfl;refine ⟨yu,he,?_⟩;have e0:σ.nk+(nk-nk)=σ.nk:=by omega
 rw [e0] at ok';exact ok'
theorem WL.ctp (hB:Holds B gl C) {f:FuncId} {args args':List AV} {M:List (Nat×AO)} {nk:Nat} {pv:Value} {t:List (Nat×AV)} {M0:List (Nat×AO)} {n0:Nat} (ks:List Nat) (hg:o.guard=none) (he:Vq ⟨t,M0,n0⟩ o.op=some (f,args')) (hc:∀ vs w,(callFunc f vs).run P w=.ok (.enter f vs) w)(h:Ve B gl P f args M nk pv) (hks:ksB ks nk n0=true) (ha:args.map (AV.ren (rhoC ks nk n0))=args') (hp:args.all (AV.inn nk)=true) (hM:Vl ⟨t,M0,n0⟩ (rhoC ks nk n0) nk M)(k:Q (.panic (pch pv)) ⟨t,Fb ks M0,n0⟩):WL P C ops (o::rest) ⟨t,M0,n0⟩ Q:=by
 unfold Vq at he;split at he
 .rename_i y xs ts ho;split at he
  .rename_i fv qP hy hx;split at he
   .rename_i f' caps hf;cases he;refine WL.stop hg λG a w ok N=>?_;obtain ⟨cs,ey,h1,h2⟩:=JK hf (ok.l9 hy).2;obtain ⟨hl,hR⟩:=ok.aom (xs:=⟨xs⟩) hx h1 h2 rfl;exact ahk ho hc ey (ok.ay6 hB ks hl hR h hks ha hp hM) λe w1 ⟨yu,he,ok'⟩=>⟨_,he,_,yu,k,ok'⟩
   .cases he
  .cases he
 .cases he
end
inductive UR where| ok (res:AV)(M':List (Nat×AO))(bP:Nat)| er (pv:Value)
def OE (B:World->View->Prop)(g:Nat)(P:Program)(f:FuncId)(args:List AV)(M:List (Nat×AO))(nk:Nat):UR->Prop
 | .ok res M' bP=>jr B g P f args M nk res M' bP| .er pv=>Ve B g P f args M nk pv
def av4 (P:Program)(fn:Func)(C:Cx):UR->Exit->St->Prop
 | .ok res M' bP=>nR P fn C res M' bP| .er pv=>λe _=>e=.panic (pch pv)
theorem OE.intro {B:World->View->Prop} {g:Nat} (hS:RN B g) {P:Program} {f:FuncId} {fn:Func} {c:Code} {args:List AV} {M:List (Nat×AO)} {nk:Nat} {r:UR} (hf:P.funcs[f]?=some fn) (hb:fn.body=some c) {N:Nat} (hN:fn.ntmps=N) (hn:args.length<=N)(hp:args.all (AV.inn nk)=true)(h:∀ w0 F0 fp pg,Holds B g ⟨w0,F0,N,fp,nk,pg,[]⟩->W P ⟨w0,F0,N,fp,nk,pg,[]⟩ c ⟨number 0 args,M,nk⟩ (av4 P fn ⟨w0,F0,N,fp,nk,pg,[]⟩ r)):OE B g P f args M nk r:=by cases r with
 | ok res M' bP=>exact jr.intro hS hf hb hN hn hp h| er pv=>exact Ve.intro hS hf hb hN hn hp h
theorem OE.ok_ {B:World->View->Prop} {g:Nat} {P:Program} {f:FuncId} {args:List AV} {M:List (Nat×AO)} {nk:Nat} {r:UR} {res:AV} {M':List (Nat×AO)} {bP:Nat} (h:OE B g P f args M nk r)(e:r=.ok res M' bP):jr B g P f args M nk res M' bP:=by subst e;exact h
theorem OE.er_ {B:World->View->Prop} {g:Nat} {P:Program} {f:FuncId} {args:List AV} {M:List (Nat×AO)} {nk:Nat} {r:UR} {pv:Value} (h:OE B g P f args M nk r)(e:r=.er pv):Ve B g P f args M nk pv:=by subst e;exact h
section
variable {P:Program} {C:Cx} {σ:St} {ops:Array Oper} {l:List Oper} {Q Q' Q1 Q2 Q3:Exit→St→Prop}
theorem oH.mono {id:Nat} (h:∀ e s,Q e s->Q' e s):∀ e s,oH id Q e s->oH id Q' e s:=λe s q=>by cases e with
 | exit id' =>
  show if id'=id then Q' .normal s else Q' (.exit id') s;have q:if id'=id then Q .normal s else Q (.exit id') s:=q;grind| _=>exact h _ _ q
theorem gU.mono {N N':St->Prop} (hN:∀ s,N s->N' s)(h:∀ e s,Q e s->Q' e s):∀ e s,gU N Q e s->gU N' Q' e s:=λe s q=>by cases e with
 | normal=>exact hN s q| _=>exact h _ _ q
theorem WL.mono (h:WL P C ops l σ Q)(hq:∀ e s,Q e s->Q' e s):WL P C ops l σ Q':=λG a w ok=>tZ (h G a w ok) λe a w⟨s,g,q,o⟩=>⟨s,g,hq e s q,o⟩
theorem WL.aiy {id:Nat} {x y:Code} (Pm:St)(h:WL P C ops l σ (gU (λs=>W P C x s (oH id (gU (λs=>Tr C s Pm) Q))) Q1))(k:W P C y Pm Q2) :WL P C ops l σ (gU (λs=>W P C x s (oH id (gU (λs=>W P C y s Q2) Q))) Q1) :=WL.mono h (gU.mono (λs q=>W.mono q (oH.mono (gU.mono (λs q=>W.tr q k) λ_ _ q=>q))) λ_ _ q=>q)
theorem W.aiy {id:Nat} {x y:Code} (Pm:St)(h:W P C x σ (oH id (gU (λs=>Tr C s Pm) Q)))(k:W P C y Pm Q2):W P C x σ (oH id (gU (λs=>W P C y s Q2) Q)) :=W.mono h (oH.mono (gU.mono (λs q=>W.tr q k) λ_ _ q=>q))
theorem nR.sub {fn:Func} {res:AV} {M' M'':List (Nat×AO)} {bP:Nat} {e:Exit} (h:nR P fn C res M' bP e σ) (hs:bD M'' M'):nR P fn C res M'' bP e σ :=⟨h.1,λG a w ok=>by
  obtain ⟨v,G',e1,ok',b,r⟩:=h.2 G a w ok;have g:=xH hs;exact ⟨v,G',e1,⟨ok'.sz,ok'.df,ok'.tm,ok'.bel,ok'.fw,ok'.f0,ok'.f1,λk o x=>ok'.ob k o (g k o x),λk o x h1 h2=>ok'.my k o x (g k o h1) h2,λk o k' o' x h1 h2=>ok'.dj k o k' o' x (g k o h1) (g k' o' h2),λk o x p u h1=>ok'.dF k o x p u (g k o h1)⟩,b,r⟩⟩
theorem sG {fn:Func} {aW:List AV} {res:AV} {M':List (Nat×AO)} {bP:Nat} (h:Af P σ fn.results.toList=some aW)(hp:aW.all (λav=>!ownB av)=true)(e:resT aW=res)(hs:bD M' σ.M)(hk:σ.nk=bP):nR P fn C res M' bP .ret σ :=nR.sub (BN h hp e rfl hk) hs
end
section
variable {P:Program} {C:Cx} {σ:St} {o:Oper} {d:Tmp} {av:AV} {ops:Array Oper} {rest:List Oper} {Q:Exit→St→Prop} {mem:List Bool} {Mc jK:List (Nat×AO)} {e0 dB k:Nat}
theorem aV.mv {x:Operand} (hm:mem.getD k false=true) (hg:o.guard=none) (hds:o.dst=some d) (hdN:Nat.blt d C.N=true) (ho:o.op=.assign x) (hx:σ.ev x=some av) (hs:bD Mc σ.M) (hsB:Nat.blt k e0=true->bD jK σ.M)(r:aV P C ops mem Mc jK e0 dB (k+1) rest (σ.put d av) Q):aV P C ops mem Mc jK e0 dB k (o::rest) σ Q:=by
 have he:o9 o.dst true av=[(d,av)]:=by rw [hds];rfl
 refine aV.wr av hm (pY (Nat.le_refl _)) hs hsB ⟨hg,λt H=>?_⟩ YM;rw [he];have hmem:x∈o.op.operands.toList:=by rw [ho];simp [Op.operands]
 exact WO.adh (σ:=⟨t,σ.M,σ.nk⟩) hds hdN (kE ho (show xW P ⟨t,σ.M,σ.nk⟩ (.assign x)=some av from (kC H hmem).trans hx))
end
end
end Go.Proofs.YthohlofpphjofaaGreatDoor
