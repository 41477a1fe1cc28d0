/- The piece reduced, as the reference does it: ties, marks, holds. Plain. -/
import Derived.Test.YtaeelcfjkhfpkaaGreatGDTq
import Derived.Test.YtaeelcfjkhfpkaaGreatYFTq
import Derived.Test.YtaeelcfjkhfpkaaGreatG9Tq
set_option maxHeartbeats 8000000
set_option maxRecDepth 100000
set_option linter.unusedVariables false
set_option linter.unusedSimpArgs false
namespace Go.Proofs.YtaeelcfjkhfpkaaGreat
section
open Go.RowKit
def sgL (evs:List Ev)(k:Nat):List (Int×Bool×Bool):=(List.range k).map fun i=>sgF evs (i+1)
theorem sgL_succ (evs:List Ev)(k:Nat):sgL evs (k+1)=sgL evs k++[sgF evs (k+1)]:=by simp [sgL,List.range_succ]
theorem sgL_length(evs:List Ev)(k:Nat):(sgL evs k).length=k:=by simp [sgL]
theorem rForces_FS (p:Pce) (hO:PcOk p):Ctr Tryz.prog 79 [ePce p] (.ls 3 ((sgL p.evs p.evs.length).map eSig)):=by
 have hn3:=hO.n3
 refine zqe Tryz.func79 Tryz.ntmps79 fun w0 F0=>?_;dsimp only [St.init,number,Nat.reduceAdd]
 repeat refine W.go rfl ?_
 refine (?_:W _ _ _ _ _)
 refine W.tr (Tr.nil (t:=3) 42 3 rfl rfl) ?_
 dsimp only [St.put,St.new,St.upd,Nat.reduceAdd]
 refine W.loop (fun k:Nat=>k≤p.evs.length) (fun k=>⟨[(1,.pt 0 0 0),(3,.sl 2),(4,.pt 1 0 0),(5,.sc (.int .i64 k))],[(0,.box 29 (ePce p).cells),(1,.box 42 (eSig (sgF p.evs k))),(2,.row 42 3 ((sgL p.evs k).map eSig))],3⟩) (fun k=>p.evs.length - k) 0 (by omega) (zqu (fun q=>q) (by repeat (first|exact trivial|refine ⟨⟨?_,?_,?_⟩,?_⟩|rfl|exact congrArg (fun q=>some (AO.row _ _ q)) (by first|rfl|(simp;done)|(simp [eInt];done)|(simp [eLk];done)))) rfl) fun k hk=>?_
 have hsl:=sgL_length p.evs k
 by_cases hlt:k < p.evs.length
 rotate_left
 ·obtain rfl:k=p.evs.length:=by omega
  repeat (first|refine W.gob rfl ?_|refine WL.nil ?_|refine WL.bf rfl rfl rfl zqo ?_|refine WL.e1 rfl ?_|refine WL.len rfl rfl zql ?_|refine W.condF rfl ?_)
  refine (?_:W _ _ _ _ _)
  refine W.tr (Tr.freeze 2 rfl) ?_
  exact W.ret zqr
 have e1:sgF p.evs (k+1)=if p.evs[k].val=0 then sgF p.evs k else (p.evs[k].val,p.evs[k].dot,p.evs[k].three):=by
  show (match p.evs[k]? with|some e=>_|none=>_)=_
  rw [List.getElem?_eq_getElem hlt]
 have e2:=sgL_succ p.evs k
 by_cases hv:p.evs[k].val=0
 ·rw [if_pos hv] at e1
  rw [e1] at e2
  repeat (first|refine W.gob rfl ?_|refine WL.nil ?_|refine WL.bt rfl rfl rfl zqo ?_|refine WL.nf rfl rfl rfl zqo ?_|refine WL.e1 rfl ?_|refine WL.ar rfl rfl (by unfold I64;omega) ?_|refine WL.len rfl rfl zql ?_|refine WL.idx rfl rfl zqo zqm ?_|refine WL.app rfl rfl rfl zqs ?_|refine W.condT rfl ?_|refine W.condF rfl ?_)
  refine ⟨k+1,by omega,by omega,?_⟩
  rw [e2,e1]
  exact (zqu (fun q=>bif Nat.beq q 2 then 4 else q) (by repeat (first|exact trivial|refine ⟨⟨?_,?_,?_⟩,?_⟩|rfl|exact congrArg (fun q=>some (AO.row _ _ q)) (by rw [List.map_append];rfl))) rfl)
 ·rw [if_neg hv] at e1
  rw [e1] at e2
  repeat (first|refine W.gob rfl ?_|refine WL.nil ?_|refine WL.bt rfl rfl rfl zqo ?_|refine WL.nt rfl rfl rfl zqo ?_|refine WL.e1 rfl ?_|refine WL.ar rfl rfl (by unfold I64;omega) ?_|refine WL.len rfl rfl zql ?_|refine WL.idx rfl rfl zqo zqm ?_|refine WL.app rfl rfl rfl zqs ?_|refine W.condT rfl ?_)
  refine ⟨k+1,by omega,by omega,?_⟩
  rw [e2,e1]
  exact (zqu (fun q=>bif Nat.beq q 2 then 4 else q) (by repeat (first|exact trivial|refine ⟨⟨?_,?_,?_⟩,?_⟩|rfl|exact congrArg (fun q=>some (AO.row _ _ q)) (by rw [List.map_append];rfl))) rfl)
end
section
open Go.RowKit
theorem thr_sg {evs:List Ev}:∀ n,n≤evs.length→(∀ k (h:k<evs.length),evs[k].val=0→evs[k].three=false)→(thrB (plN evs n)=thrB (evs.take n))∧((sgF evs n).2.2=true→thrB (evs.take n)=true)
 | 0,_,_=>⟨rfl,fun h=>by cases h⟩
 | n+1,hn,hz=>by
  obtain ⟨a,b⟩:=thr_sg n zqo hz
  have e:=sgF_at (evs:=evs) (k:=n) zqo
  rw [plN_at (by omega),List.take_succ_eq_append_getElem (by omega)]
  have e2:thrB (evs.take n++[evs[n]])=(thrB (evs.take n)|| evs[n].three):=by unfold thrB;rw [List.any_append];simp
  have e3:thrB (plN evs n++[sgW evs[n] (sgF evs (n+1))])=(thrB (plN evs n)|| (sgF evs (n+1)).2.2):=by unfold thrB;rw [List.any_append];simp [sgW]
  rw [e2,e3,a,e]
  by_cases hv:evs[n].val=0
  ·rw [if_pos hv,hz n (by omega) hv]
   constructor
   ·cases h:(sgF evs n).2.2 with
    | true=>rw [b h];rfl
    | false=>rfl
   ·intro h;rw [b h];rfl
  ·rw [if_neg hv]
   exact ⟨rfl,fun h=>by rw [show evs[n].three=true from h];simp⟩
theorem thr_plE {p:Pce} (h0:pceE p=0):thrB (plE p)=thrB p.evs:=by
 have:=(thr_sg (evs:=p.evs) p.evs.length (Nat.le_refl _) fun k hk hv=>by
  have hok:=(evOk_of h0 hk).sg
  unfold sgOk at hok
  rw [hv] at hok
  have:p.evs[k].dot=false∧p.evs[k].three=false:=by simpa using hok
  exact this.2).1
 rw [List.take_length] at this
 exact this
end
section
open Go.RowKit
theorem redC_ls (s:Int):CgLs (redC s):=by
 refine⟨redC_crs,fun x y h=>?_⟩
 obtain⟨_,rfl⟩:=redC_mv h
 show (if okR s x.2.2.1=true then []else [2])++(if okG s x.2.2.2.1=true then []else [3])=(if (if okR s x.2.2.1=true then x.2.2.1 else 0)=x.2.2.1 then []else [2])++(if (if okG s x.2.2.2.1=true then x.2.2.2.1 else 0)=x.2.2.2.1 then []else [3])
 have e1:(if okR s x.2.2.1=true then []else [2]:List Int)=if (if okR s x.2.2.1=true then x.2.2.1 else 0)=x.2.2.1 then []else [2]:=by
  by_cases h:okR s x.2.2.1=true
  ·rw [if_pos h,if_pos h,if_pos rfl]
  ·rw [if_neg h,if_neg h,if_neg]
   intro e
   apply h
   rw [← e];rfl
 have e2:(if okG s x.2.2.2.1=true then []else [3]:List Int)=if (if okG s x.2.2.2.1=true then x.2.2.2.1 else 0)=x.2.2.2.1 then []else [3]:=by
  by_cases h:okG s x.2.2.2.1=true
  ·rw [if_pos h,if_pos h,if_pos rfl]
  ·rw [if_neg h,if_neg h,if_neg]
   intro e
   apply h
   rw [← e];rfl
 rw [e1,e2]
end
section
open Go.RowKit
theorem known_FS (s:Int):Ctr Tryz.prog 58 [.sc (.int .u8 s)] (.sc (.bool (decide (1≤s∧s≤4)))) :=
 Ctr.of_sc (xs:=[.int .u8 s]) rfl (fun _=>.sc _) fun w=>(known_any s w).mono fun e w'⟨he,hw⟩=>⟨he,hw ▸ Below.refl _ _⟩
end
section
open Go.RowKit
def rdT (s:Int)(i:Nat)(e:Ev):Bool:=(e.tie && !decide (s=4))|| (decide (s=3) && decide (0<i))
def rdC(s:Int):Cg:={ redC s with tie:=rdT s }
theorem rd_ls (s:Int):CgLs (rdC s):=⟨(redC_ls s).crs,(redC_ls s).ml⟩
theorem rd_ml(s:Int)(y:Stp):((rdC s).ml y).length≤2:=redC_ml s y
theorem rd_bare (s:Int)(hs:1≤s∧s≤4)(i:Nat):(rdC s).bare i=(decide (0<i) && !decide (s=4)):=by
 show (decide (0<i) && hasS s 7)=_
 congr 1
 rcases sys_cases hs with rfl|rfl|rfl|rfl<;>rfl
theorem frsB_0 {C:Cg} {evs:List Ev} (h:0<evs.length):frsB C evs=decide ((nwS C evs[0].stops).length=0):=by
 cases evs with
 | nil=>cases h
 | cons e r=>rfl
theorem rd_tie {s:Int} (hs:1≤s∧s≤4) {evs:List Ev} (hf:¬ (s=3∧frsB (redC s) evs=true)) {k:Nat} (h:k<evs.length) (h0:evs[k].stops.length=0):rdT s k evs[k]=(redC s).tie k evs[k]:=by
 show ((evs[k].tie && !decide (s=4))|| (decide (s=3) && decide (0<k)))=(if evs[k].tie=true∧hasS s 7=false then false else if evs[k].tie=false∧hasS s 8=false then true else evs[k].tie)
 rcases Nat.eq_zero_or_pos k with h1|h1
 ·subst h1
  by_cases h3:s=3
  ·exfalso
   refine hf ⟨h3,?_⟩
   rw [frsB_0 h,List.eq_nil_of_length_eq_zero h0];rfl
  ·rw [decide_eq_false h3,Bool.false_and,Bool.or_false]
   have:s=1∨s=2∨s=4:=by omega
   generalize evs[0].tie=b
   rcases this with rfl|rfl|rfl<;>cases b<;>rfl
 ·rw [decide_eq_true h1]
  generalize evs[k].tie=b
  rcases sys_cases hs with rfl|rfl|rfl|rfl<;>cases b<;>rfl
theorem rd_nwT {s:Int} (hs:1≤s∧s≤4) {evs:List Ev} (hf:¬ (s=3∧frsB (redC s) evs=true)) {k:Nat} (h:k<evs.length):nwT (rdC s) k evs[k]=nwT (redC s) k evs[k]:=by
 unfold nwT
 by_cases h0:evs[k].stops.length=0
 ·rw [if_pos h0,if_pos h0];exact rd_tie hs hf h h0
 ·rw [if_neg h0,if_neg h0];rfl
theorem rd_nwL {s:Int} (hs:1≤s∧s≤4) {evs:List Ev} (hf:¬ (s=3∧frsB (redC s) evs=true)):nwL (rdC s) evs=nwL (redC s) evs:=by
 apply List.ext_getElem (by rw [nwL_len,nwL_len])
 intro k h1 h2
 have hk:k<evs.length:=by rw [nwL_len] at h1;exact h1
 rw [nwL_get hk,nwL_get hk]
 unfold nwE
 rw [rd_nwT hs hf hk];rfl
theorem rd_lsL {s:Int} (hs:1≤s∧s≤4) {evs:List Ev} (hf:¬ (s=3∧frsB (redC s) evs=true)) {H:Nat→Stp→Int}:∀ n,n≤evs.length→lsL (rdC s) H evs n=lsL (redC s) H evs n
 | 0,_=>rfl
 | n+1,hn=>by
  rw [lsL_at (show n<evs.length by omega),lsL_at (show n<evs.length by omega),rd_lsL hs hf n (by omega)]
  congr 1
  unfold lsE
  have e:evT (rdC s) n evs[n]=evT (redC s) n evs[n]:=by
   unfold evT
   by_cases h0:evs[n].stops.length=0
   ·rw [if_pos h0,if_pos h0,show (rdC s).tie n evs[n]=(redC s).tie n evs[n] from rd_tie hs hf (by omega) h0]
   ·rw [if_neg h0,if_neg h0]
  unfold lsH
  rw [e];rfl
theorem rd_first {q:Pce} {evs:List Ev} (h:0<evs.length)(hE:EvOk q 0 evs[0]):restB (nwE (rdC 3) 0 evs[0])=frsB (redC 3) evs:=by
 rw [frsB_0 h]
 generalize evs[0]=e at hE ⊢
 unfold restB nwE nwT
 show ((nwS (redC 3) e.stops).length == 0 && !(if e.stops.length=0 then rdT 3 0 e else if (nwS (redC 3) e.stops).length=0 then (decide (0<0) && hasS 3 7) else e.tie))=_
 by_cases hn:(nwS (redC 3) e.stops).length=0
 ·rw [hn,if_pos rfl]
  by_cases hl:e.stops.length=0
  ·rw [if_pos hl]
   have ht:e.tie=false:=by
    cases ht:e.tie with
    | false=>rfl
    | true=>exact absurd (hE.tie ht).2 zqo
   unfold rdT
   rw [ht];rfl
  ·rw [if_neg hl];rfl
 ·rw [decide_eq_false hn]
  have:((nwS (redC 3) e.stops).length == 0)=false:=by simpa using hn
  rw [this];rfl
def mkL(C:Cg)(ties:Bool)(evs:List Ev)(n:Nat):List Ev:=evs.mapIdx fun j e=>if j<n then nwE C j e else baE C ties j e
theorem mkL_len(C:Cg)(ties:Bool)(evs:List Ev)(n:Nat):(mkL C ties evs n).length=evs.length:=List.length_mapIdx
theorem mkL_get {C:Cg} {ties:Bool} {evs:List Ev} {n j:Nat} (h:j<evs.length):(mkL C ties evs n)[j]'(by rw [mkL_len];exact h)=if j<n then nwE C j evs[j]else baE C ties j evs[j]:=by
 unfold mkL;rw [List.getElem_mapIdx]
theorem mkL_0(C:Cg)(ties:Bool)(evs:List Ev):mkL C ties evs 0=baA C ties evs:=by
 unfold mkL baA
 congr 1
theorem mkL_all (C:Cg)(ties:Bool)(evs:List Ev):mkL C ties evs evs.length=nwL C evs:=by
 apply List.ext_getElem (by rw [mkL_len,nwL_len])
 intro j h1 h2
 have hj:j<evs.length:=by rw [mkL_len]at h1;exact h1
 rw [mkL_get hj,nwL_get hj,if_pos hj]
theorem mkL_set {C:Cg} {ties:Bool} {evs:List Ev} {n:Nat} (h:n<evs.length):(mkL C ties evs n).set n (nwE C n evs[n])=mkL C ties evs (n+1):=by
 apply List.ext_getElem (by rw [List.length_set,mkL_len,mkL_len])
 intro j h1 h2
 have hj:j<evs.length:=by rw [mkL_len]at h2;exact h2
 rw [List.getElem_set,mkL_get hj,mkL_get hj]
 by_cases e:n=j
 ·subst e
  rw [if_pos rfl,if_pos (by omega)]
 ·rw [if_neg e]
  by_cases e2:j<n
  ·rw [if_pos e2,if_pos (by omega)]
  ·rw [if_neg e2,if_neg (by omega)]
theorem nwT_ba {C:Cg} {ties:Bool} (hb:∀ i,C.bare i=(decide (0<i) && ties))(n:Nat)(e:Ev):nwT C n e=if e.stops.length=0 then C.tie n e else (baE C ties n e).tie:=by
 unfold nwT baE
 by_cases h0:e.stops.length=0
 ·rw [if_pos h0,if_pos h0]
 ·rw [if_neg h0,if_neg h0]
  show _=if e.stops.length=0 then e.tie else _
  rw [if_neg h0,hb,nwS_pl,List.length_map]
def mrK(C:Cg)(k:Nat)(l:List Stp):List Stp:=(l.take k).map C.mr++l.drop k
theorem mrK_0(C:Cg)(l:List Stp):mrK C 0 l=l:=by unfold mrK;simp
theorem mrK_len(C:Cg)(k:Nat)(l:List Stp):(mrK C k l).length=l.length:=by
 unfold mrK;rw [List.length_append,List.length_map,List.length_take,List.length_drop];omega
theorem mrK_all(C:Cg)(l:List Stp):mrK C l.length l=l.map C.mr:=by
 unfold mrK;rw [List.take_length,List.drop_length,List.append_nil]
theorem mrK_get {C:Cg} {k:Nat} {l:List Stp} (h:k<l.length):(mrK C k l)[k]?=some l[k]:=by
 unfold mrK
 have hl:((l.take k).map C.mr).length=k:=by rw [List.length_map,List.length_take];omega
 rw [List.getElem?_append_right (by omega),hl,Nat.sub_self,List.getElem?_drop,Nat.add_zero,List.getElem?_eq_getElem h]
theorem mrK_put {C:Cg} {k:Nat} {l:List Stp} (h:k<l.length):(mrK C k l).set k (C.mr l[k])=mrK C (k+1) l:=by
 unfold mrK
 have hl:((l.take k).map C.mr).length=k:=by rw [List.length_map,List.length_take];omega
 rw [List.set_append_right _ _ (by omega),hl,Nat.sub_self,List.drop_eq_getElem_cons h,List.set_cons_zero,List.take_succ_eq_append_getElem h,List.map_append,List.append_assoc];rfl
def mk1(x:Stp)(a:Int):Stp:=if a=2 then(x.1,x.2.1,0,x.2.2.2.1,x.2.2.2.2)else if a=3 then(x.1,x.2.1,x.2.2.1,0,x.2.2.2.2)else x
def mkF(x:Stp)(w:List Int)(j:Nat):Stp:=(w.take j).foldl mk1 x
theorem mkF_0(x:Stp)(w:List Int):mkF x w 0=x:=rfl
theorem mkF_at {x:Stp} {w:List Int} {j:Nat} (h:j<w.length):mkF x w (j+1)=mk1 (mkF x w j) w[j]:=by
 unfold mkF
 rw [List.take_succ_eq_append_getElem h,List.foldl_append];rfl
def wnt(s r g h L:Int):List Int:=(if okR s r=true then []else [2])++(if okG s g=true then []else [3])++(if okH s h L=true then []else [4])
theorem wnt_len(s r g h L:Int):(wnt s r g h L).length≤3:=by
 unfold wnt
 rw [List.length_append,List.length_append]
 split<;>split<;>split<;>simp
theorem mkF_all (s:Int) (x:Stp) (L:Int):mkF x (wnt s x.2.2.1 x.2.2.2.1 x.2.2.2.2 L) (wnt s x.2.2.1 x.2.2.2.1 x.2.2.2.2 L).length=(redC s).mr x:=by
 unfold mkF
 rw [List.take_length]
 show _=(x.1,x.2.1,if okR s x.2.2.1=true then x.2.2.1 else 0,if okG s x.2.2.2.1=true then x.2.2.2.1 else 0,x.2.2.2.2)
 unfold wnt
 obtain ⟨a,b,c,d,e⟩:=x
 dsimp only
 cases okR s c<;>cases okG s d<;>cases okH s e L<;>rfl
theorem wnt_pos(s r g h L:Int)(hr:okR s r=true)(hg:okG s g=true):(wnt s r g h L).length=if okH s h L=true then 0 else 1:=by
 unfold wnt
 rw [if_pos hr,if_pos hg]
 split<;>rfl
theorem okR_mr (s r:Int):okR s (if okR s r=true then r else 0)=true:=by
 by_cases h:okR s r=true
 ·rw [if_pos h];exact h
 ·rw [if_neg h];rfl
theorem okG_mr (s r:Int):okG s (if okG s r=true then r else 0)=true:=by
 by_cases h:okG s r=true
 ·rw [if_pos h];exact h
 ·rw [if_neg h];rfl
theorem rd_bds {s:Int} {l:List Stp} (hIn:∀ k (h:k<l.length),(1≤l[k].1∧l[k].1≤14)∧(0≤l[k].2.1∧l[k].2.1≤18)∧(0≤l[k].2.2.1∧l[k].2.2.1≤3)∧(0≤l[k].2.2.2.1∧l[k].2.2.2.1≤4)∧(0≤l[k].2.2.2.2∧l[k].2.2.2.2≤15)) (N:List Ev) (i:Nat) :
  ∀ X∈(nwS (rdC s) l).map fun y=>stH y (ftH N i y),pOk s X.1 X.2.1=true∧(1≤X.1∧X.1≤14)∧(0≤X.2.1∧X.2.1≤18)∧(0≤X.2.2.1∧X.2.2.1≤3)∧(0≤X.2.2.2.1∧X.2.2.2.1≤4)∧(0≤X.2.2.2.2∧X.2.2.2.2≤15)∧okR s X.2.2.1=true∧okG s X.2.2.2.1=true:=by
 intro X hX
 obtain ⟨y,hy,rfl⟩:=List.mem_map.1 hX
 obtain ⟨z,hz,hm⟩:=nwS_mem hy
 obtain ⟨hp,rfl⟩:=redC_mv hm
 obtain ⟨j,hj,rfl⟩:=List.getElem_of_mem hz
 obtain ⟨b1,b2,b3,b4,b5⟩:=hIn j hj
 obtain ⟨f1,f2,f3⟩:=ftH_bd (evs:=N) (i:=i) (y:=(redC s).mr l[j]) b5.1
 have hl:=longestN_le N i ((redC s).mr l[j]).1
 refine ⟨hp,b1,b2,?_,?_,⟨f1,?_⟩,okR_mr _ _,okG_mr _ _⟩
 ·show 0≤(if _ then _ else _:Int)∧(if _ then _ else _:Int)≤3
  split<;>omega
 ·show 0≤(if _ then _ else _:Int)∧(if _ then _ else _:Int)≤4
  split<;>omega
 ·show ftH N i ((redC s).mr l[j])≤15
  omega
def zhH (s:Int)(evs:List Ev)(i:Nat)(y:Stp):Int:=if okH s y.2.2.2.2 (longestN evs i y.1)=true then y.2.2.2.2 else 0
theorem zh_two (s:Int) (evs:List Ev):fnL (zhH s evs) (fnL (ftH evs) evs)=fnL (znH s evs) evs:=by
 rw [← zn_two s evs]
 congr 1
 funext i y
 unfold zhH
 rw [longestN_fn]
end
end Go.Proofs.YtaeelcfjkhfpkaaGreat
