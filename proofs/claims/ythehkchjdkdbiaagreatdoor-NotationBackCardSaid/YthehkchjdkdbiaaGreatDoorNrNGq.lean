/- Numbers: the program. -/
import Derived.Test.YthehkchjdkdbiaaGreatDoorRows
import Derived.LaidMore
import Derived.HandedShaped
import Derived.Stop.Joined
import Derived.Stop.LaidErr
import Derived.Lay
import Derived.Test.YthehkchjdkdbiaaGreatDoorGXGq
import Derived.Test.YthehkchjdkdbiaaGreatDoorCoAGq
set_option maxHeartbeats 4000000
set_option maxRecDepth 100000
set_option linter.unusedVariables false
set_option linter.unusedSimpArgs false
namespace Go.Proofs.YthehkchjdkdbiaaGreatDoor
section
open Go.RowKit
def tabW(w:World)(F:View):Prop:=tabB w F∧tabN w F
theorem stabW:Stab tabW (max gloB gloN):=⟨fun w F h=>Nat.max_le.2 ⟨stabB.1 w F h.1,stabN.1 w F h.2⟩,fun w w' F F' hb hF h=>⟨stabB.2 w w' F F' (fun i hi=>hb i (Nat.lt_of_lt_of_le hi (Nat.le_max_left _ _))) hF h.1,stabN.2 w w' F F' (fun i hi=>hb i (Nat.lt_of_lt_of_le hi (Nat.le_max_right _ _))) hF h.2⟩⟩
theorem Ctg.wB {P:Program} {f:FuncId} {args:List AV} {res:AV} (h:Ctg tabB P f args res):Ctg tabW P f args res:=h.mono fun _ _ k=>k.1
theorem Ctg.wN {P:Program} {f:FuncId} {args:List AV} {res:AV} (h:Ctg tabN P f args res):Ctg tabW P f args res:=h.mono fun _ _ k=>k.2
end
section
open Go.ChangeShapes Go.WideShapes Go.ChangeAt Go.RowKit
def laidW:List (String×DataW Unit):=[("math/bits.deBruijn32tab",Rows.laid_math_bits_deBruijn32tab),("math/bits.deBruijn64tab",Rows.laid_math_bits_deBruijn64tab),("internal/strconv.uint64pow10",Rows.laid_internal_strconv_uint64pow10),("unicode/utf8.acceptRanges",Rows.laid_unicode_utf8_acceptRanges),("theorbo/instrument.bases",Rows.laid_theorbo_instrument_bases),("theorbo/instrument.fifths",Rows.laid_theorbo_instrument_fifths),("unicode/utf8.first",Rows.laid_unicode_utf8_first)]
theorem ownR:ownKnob Tryz.prog.godebug=none:=by kernel_rfl
theorem tab_get(l:List Int)(i:Nat)(v:Int)(hv:l[i]?=some v):i<l.length∧l.getD i 0=v:=by
 obtain⟨hi,e⟩:=List.getElem?_eq_some_iff.1 hv
 exact⟨hi,by rw [List.getD_eq_getElem?_getD,hv];rfl⟩
theorem tabW_of_laid {W:World} (h:laidMetH Tryz.prog laidW W) (hs:W.ShapedOpen Tryz.prog):tabW W (fun p=>W.cell? p):=by
 rw [MakeChecks.laidMetH_plain _ _ _ zqk] at h
 have h3:=h.tail.tail
 have h5:=h3.tail.tail
 have e1:Lib.TabIs Tryz.prog W "internal/strconv.uint64pow10" .u64 Lib.pow10Tab :=
  Lib.tabIs_of_head (g:=5) (t:=371) (e:=349) (n:=20) zqk zqk Tryz.underlying371 Tryz.underlying349 zqk zqk h3
 have e2:Lib.TabIs Tryz.prog W "theorbo/instrument.bases" .i64 bsL :=
  Lib.tabIs_of_head (g:=1) (t:=261) (e:=3) (n:=7) zqk zqk Tryz.underlying261 Tryz.underlying3 zqk zqk h5
 have e3:Lib.TabIs Tryz.prog W "theorbo/instrument.fifths" .i64 ftL :=
  Lib.tabIs_of_head (g:=0) (t:=261) (e:=3) (n:=7) zqk zqk Tryz.underlying261 Tryz.underlying3 zqk zqk h5.tail
 have c2:∀ (i:Nat) v,bsL[i]?=some v→W.cell? ⟨1,i,none⟩=some (.int .i64 v):=fun i v hv=>by
  obtain ⟨hi,e⟩:=tab_get _ _ _ hv
  rw [← e];exact e2.cell zqk i hi
 have c3:∀ (i:Nat) v,ftL[i]?=some v→W.cell? ⟨0,i,none⟩=some (.int .i64 v):=fun i v hv=>by
  obtain ⟨hi,e⟩:=tab_get _ _ _ hv
  rw [← e];exact e3.cell zqk i hi
 exact ⟨⟨c3,c2,e1⟩,c2,e1,cell_of_shapedOpen_int (zero:=#[.int .i64 0]) (t:=3) hs (of_decide_eq_true zqk) zqk rfl zqk zqk Tryz.underlying3⟩
theorem doorW_met (os:Os) (args:Array Value):laidMetH Tryz.prog laidW ((World.laidAll Tryz.prog os laidW).forCall (fun _ _=>0) ⟨#[],args,[]⟩).memory:=by
 rw [MakeChecks.laidMetH_plain _ _ _ zqk]
 exact laidMet_laidAll _ zqk zqk
theorem shapedW (os:Os):(World.laidAll Tryz.prog os laidW).Shaped Tryz.prog:=World.shaped_of_ZipB (by kernel_rfl) (by kernel_rfl)
theorem returnsR {H:Type} {enc:TypeId×Value→H} {a:Assume} {C:Checked} {os:Os} {f:FuncId} {fn:Func} {s:ChangeSpec} {conds:List PathCond} {apart fresh handsOn again:Bool} {X:World→Array Value→Prop}
  (hX:∀ (w w':World) (args:Array Value),w.heap=w'.heap→X w args→X w' args)
  (own:ownKnob C.prog.godebug=none) (started:os.Started) (noInit:C.prog.inits.idxOf? f=none) (hfn:C.prog.funcs[f]?=some fn)
  (witness:∃ (w:World) (tape:Tape) (i:Input),w.os=os∧(w.forCall tape i).Shaped C.prog∧i.vars=[]∧Input.okWide C.prog (w.forCall tape i) .any w.heap.size f i ∧
   ((s.pre enc C.prog fn conds apart (w.forCall tape i).memory i.args∧X (w.forCall tape i).memory i.args)∧sizedMet enc C.prog fn (OpenSpec.ofChange s) apart (w.forCall tape i).memory i.args)∧a.holds C.prog (lone (Frame.enter C.prog f i.args .normal) [] (w.forCall tape i)))
  (contract:∀ (W:World) (base:Nat) (args:Array Value) (ds gs:List (DataW H)) (before:List MemPlace),
   (∀ (j:Nat) t v,fn.params[j]?=some t→args[j]?=some v→Value.okWide C.prog W .any base t v) →
   DataW.Whole enc C.prog fn.params.toList s.vars apart W args.toList ds gs before→X W args→W.ShapedOpen C.prog →
   Calls C.prog f args W fun e W'=>∃ v,e=.returned v∧s.post enc C.prog fn apart fresh handsOn again W args v W') :
  ReturnsInHanded a C os f .any (fun w args=>(s.pre enc C.prog fn conds apart w args∧X w args)∧sizedMet enc C.prog fn (OpenSpec.ofChange s) apart w args) (s.post enc C.prog fn apart fresh handsOn again):=by
 refine returnsInHanded_of_calls own started noInit witness ?_
 intro w tape i _ hsh _ hok hpre _
 obtain ⟨_,_,_,fn',hfn',_,_,_,_,hval⟩:=hok
 obtain rfl:fn'=fn:=Option.some.inj (hfn'.symm.trans hfn)
 obtain ⟨⟨⟨ds,gs,before,hw,_⟩,hx⟩,_⟩:=hpre
 refine (contract (w.forCall tape i) w.heap.size i.args ds gs before hval (DataW.Whole.of_heap (w':=w.forCall tape i) (by rfl) hw) (hX _ _ _ (by rfl) hx) hsh).mono fun e W' ⟨v,he,hp⟩=>?_
 subst he
 exact ChangeSpec.post_blind hp
end
section
open Go.RowKit
def nw_oct (o:Int):List UInt8:=if o<0 then [45,49]else [UInt8.ofNat (48+o.toNat)]
theorem nw_oct_eq {o:Int} (h:-1≤o∧o≤9):Lib.itoa o=nw_oct o:=by
 unfold nw_oct
 by_cases h0:o < 0
 ·rw [if_pos h0]
  obtain rfl:o=-1:=by omega
  rw [itoa_neg _ (by omega),show (0:Int) - -1=((1:Nat):Int)by omega,rq_dig3_eq (by omega)]
  rfl
 ·rw [if_neg h0]
  obtain⟨k,rfl⟩:=Int.eq_ofNat_of_zero_le (show 0≤o by omega)
  rw [rq_dig3_eq (by omega)]
  unfold rq_dig3
  rw [if_pos (by omega),Int.toNat_natCast]
def nw_nm (r:Int×Int×Int):List UInt8:=cut ltrs r.1 (r.1+1)++sgn r.2.1++nw_oct r.2.2
theorem nw_nm_all:((List.range 128).all fun p=>ri_nm (nw_nm (spV (p:Int) 0)) == (spV (p:Int) 0,0) && sndV (spV (p:Int) 0).1 (spV (p:Int) 0).2.1 (spV (p:Int) 0).2.2 == (p:Int) && (nw_nm (spV (p:Int) 0)).all (fun b=>b != 32 && b != 10 && b != 47))=true:=by decide +kernel
theorem nw_nm_of {p:Int} (h:0≤p∧p≤127):nmT (spV p 0).1 (spV p 0).2.1 (spV p 0).2.2=nw_nm (spV p 0)∧ri_nm (nw_nm (spV p 0))=(spV p 0,0)∧sndV (spV p 0).1 (spV p 0).2.1 (spV p 0).2.2=p∧∀ b∈nw_nm (spV p 0),b≠32∧b≠10∧b≠47:=by
 have hi:=(sndOk_of (spV_ok h).2).1
 unfold sndIn at hi
 obtain⟨k,rfl⟩:=Int.eq_ofNat_of_zero_le h.1
 have:=List.all_eq_true.1 nw_nm_all k (List.mem_range.2 zqo)
 simp only [Bool.and_eq_true,beq_iff_eq,List.all_eq_true,bne_iff_ne]at this
 refine⟨?_,this.1.1,this.1.2,fun b hb=>⟨(this.2 b hb).1.1,(this.2 b hb).1.2,(this.2 b hb).2⟩⟩
 unfold nmT nw_nm
 rw [nw_oct_eq hi.2.2]
theorem nw_dig_all:((List.range 128).all fun n=>(rq_dig3 n).all (fun b=>b != 43 && b != 58) && !(rq_dig3 n).isEmpty)=true:=by decide +kernel
theorem nw_dig {n:Nat} (h:n<128):(∀ b∈rq_dig3 n,b≠43∧b≠58)∧rq_dig3 n≠[]:=by
 have:=List.all_eq_true.1 nw_dig_all n (List.mem_range.2 h)
 simp only [Bool.and_eq_true,List.all_eq_true,bne_iff_ne,Bool.not_eq_true',List.isEmpty_eq_false_iff]at this
 exact this
def nw_cw (c:Crs):List UInt8:=nmT (spV c.1 0).1 (spV c.1 0).2.1 (spV c.1 0).2.2++[47]++Lib.itoa c.2.1++(if c.2.2 then [43]else [])
theorem nw_cw_of {c:Crs} (h1:0≤c.1∧c.1≤127) (h2:0≤c.2.1∧c.2.1≤18):ri_crs (nw_cw c)=(c,0)∧rq_NoB 32 (nw_cw c)∧rq_NoB 10 (nw_cw c)∧nw_cw c≠[58]:=by
 obtain ⟨p,f,pl⟩:=c
 dsimp only at h1 h2
 obtain ⟨n1,n2,n3,n4⟩:=nw_nm_of h1
 obtain ⟨k,rfl⟩:=Int.eq_ofNat_of_zero_le h2.1
 have hd:=rq_dig3_eq (n:=k) zqo
 have hdo:=rq_dig3_of (n:=k) zqo
 obtain ⟨d1,d2⟩:=nw_dig (n:=k) zqo
 obtain ⟨T,hT⟩:∃ z,nw_nm (spV p 0)=z:=⟨_,rfl⟩
 obtain ⟨D,hD⟩:∃ z,rq_dig3 k=z:=⟨_,rfl⟩
 rw [hT]at n1 n2 n4
 rw [hD]at hd hdo d1 d2
 have hw:nw_cw (p,(k:Int),pl)=T++47::(D++if pl then [43]else []):=by
  unfold nw_cw
  dsimp only
  rw [n1,hd];simp
 rw [hw]
 have hpl:ri_plus (D++if pl then [43]else [])=(D,pl):=by
  unfold ri_plus
  cases pl with
  | true =>
   rw [if_pos (by simp)]
   simp
  | false =>
   have:(D++(if false=true then [43]else []):List UInt8)=D:=by simp
   rw [this,if_neg]
   intro q
   exact (d1 43 (List.mem_of_getLast? q)).1 rfl
 refine ⟨?_,fun b hb=>?_,fun b hb=>?_,?_⟩
 ·unfold ri_crs
  rw [ri_cut_at (fun b hb=>(n4 b hb).2.2)]
  dsimp only
  rw [n2,hpl]
  dsimp only
  rw [if_neg (by decide),hdo.1]
  dsimp only
  rw [if_neg (fun q=>q rfl),n3]
 ·rcases List.mem_append.1 hb with q|q
  ·exact (n4 b q).1
  ·rcases List.mem_cons.1 q with rfl|q
   ·decide
   ·rcases List.mem_append.1 q with q|q
    ·exact hdo.2.1 b q
    ·cases pl with
     | true=>rw [List.mem_singleton.1 q];decide
     | false=>cases q
 ·rcases List.mem_append.1 hb with q|q
  ·exact (n4 b q).2.1
  ·rcases List.mem_cons.1 q with rfl|q
   ·decide
   ·rcases List.mem_append.1 q with q|q
    ·exact hdo.2.2.1 b q
    ·cases pl with
     | true=>rw [List.mem_singleton.1 q];decide
     | false=>cases q
 ·intro e
  have:(47:UInt8)∈T++47::(D++if pl then [43]else []):=by simp
  rw [e]at this
  exact absurd (List.mem_singleton.1 this) (by decide)
theorem nw_crs_bd {st:List Int}:∀ {cs:List Crs},crsE st cs=0→∀ c∈cs,(0≤c.1∧c.1≤127)∧0≤c.2.1∧c.2.1≤st.length:=by
 intro cs
 induction cs with
 | nil=>intro _ c hc;cases hc
 | cons x r ih =>
  intro h c hc
  unfold crsE at h
  by_cases h1:x.2.1<0∨(st.length:Int)<x.2.1
  ·rw [if_pos h1]at h;cases h
  ·rw [if_neg h1]at h
   by_cases h2:(x.1<0∨127<x.1)∨127<topOf st x
   ·rw [if_pos h2]at h;cases h
   ·rw [if_neg h2]at h
    rcases List.mem_cons.1 hc with rfl|hc
    ·omega
    ·exact ih h c hc
def nw_iw (cs:List Crs)(st:List Int):List (List UInt8):=cs.map nw_cw++[58]::st.map Lib.itoa
theorem nw_iw_join:∀ (cs:List Crs)(st:List Int),fmT cs st=joinW (nw_iw cs st)
 | [],st=>by
  unfold fmT nw_iw crsTs stpTs
  show []++[58]++(st.map stpT).flatten=[58]++spW (st.map Lib.itoa)
  unfold spW
  rw [List.flatMap_map,List.flatMap_def];rfl
 | c::r,st=>by
  have ih:=nw_iw_join r st
  have e:fmT (c::r) st=crsT c++fmT r st:=by unfold fmT crsTs;simp
  have e2:crsT c=nw_cw c++[32]:=by unfold crsT nw_cw;simp
  rw [e,e2,ih,List.append_assoc]
  show nw_cw c++([32]++joinW (nw_iw r st))=joinW (nw_cw c::nw_iw r st)
  cases hw:nw_iw r st with
  | nil=>unfold nw_iw at hw;simp at hw
  | cons y q=>rfl
theorem nw_col:∀ {a b:List (List UInt8)},(∀ w∈a,w≠[58])→ri_col (a++[58]::b)=some (a,b)
 | [],b,_=>by unfold ri_col;exact if_pos rfl
 | w::r,b,h=>by
  show (if w=[58]then some ([],r++[58]::b)else (ri_col (r++[58]::b)).map fun x=>(w::x.1,x.2))=_
  rw [if_neg (h w (by simp)),nw_col (fun x hx=>h x (by simp [hx]))];rfl
theorem nw_ierr:∀ {l:List (List UInt8)},(∀ w∈l,(ri_crs w).2=0)→ri_err l=0
 | [],_=>rfl
 | w::r,h=>by
  unfold ri_err
  rw [if_neg (fun q=>q (h w (by simp))),nw_ierr fun x hx=>h x (by simp [hx])]
theorem nw_istp:∀ {l:List (List UInt8)},(∀ w∈l,(rq_numR w).isSome=true)→ri_stp l=0
 | [],_=>rfl
 | w::r,h=>by
  unfold ri_stp
  rw [if_pos (h w (by simp)),nw_istp fun x hx=>h x (by simp [hx])]
theorem nw_ins {cs:List Crs} {st:List Int} (h:insE cs st=0):nr_ins (fmT cs st)=((cs,st),0)∧rq_NoB 10 (fmT cs st):=by
 obtain ⟨l1,l2,l3,l4,l5⟩:=insE_len h
 have hc:=nw_crs_bd l5
 have hst:=stepsBad_bd (st:=st) (last:=0) (Int.le_refl 0) l4
 have hs:∀ n∈st,1≤n∧n≤127:=fun n hn=>by
  obtain ⟨k,hk,rfl⟩:=List.getElem_of_mem hn
  exact hst k hk
 have hcw:∀ c∈cs,ri_crs (nw_cw c)=(c,0)∧rq_NoB 32 (nw_cw c)∧rq_NoB 10 (nw_cw c)∧nw_cw c≠[58]:=fun c hcm=>by
  have:=hc c hcm
  exact nw_cw_of this.1 ⟨this.2.1,by omega⟩
 have hsw:∀ n∈st,rq_numR (Lib.itoa n)=some n.toNat∧rq_NoB 32 (Lib.itoa n)∧rq_NoB 10 (Lib.itoa n):=fun n hn=>by
  have hb:=hs n hn
  obtain ⟨k,rfl⟩:=Int.eq_ofNat_of_zero_le (show 0≤n by omega)
  have e:=rq_dig3_of (n:=k) zqo
  rw [rq_dig3_eq (by omega),Int.toNat_natCast]
  exact ⟨e.1,e.2.1,e.2.2.1⟩
 have hmem:∀ w∈nw_iw cs st,rq_NoB 32 w∧rq_NoB 10 w:=fun w hw=>by
  unfold nw_iw at hw
  rcases List.mem_append.1 hw with q|q
  ·obtain ⟨c,hcm,rfl⟩:=List.mem_map.1 q
   exact ⟨(hcw c hcm).2.1,(hcw c hcm).2.2.1⟩
  ·rcases List.mem_cons.1 q with rfl|q
   ·exact ⟨fun b hb=>by rw [List.mem_singleton.1 hb];decide,fun b hb=>by rw [List.mem_singleton.1 hb];decide⟩
   ·obtain ⟨n,hn,rfl⟩:=List.mem_map.1 q
    exact (hsw n hn).2
 have hwds:rq_wds 32 (fmT cs st)=nw_iw cs st:=by
  rw [nw_iw_join]
  cases hw:nw_iw cs st with
  | nil=>unfold nw_iw at hw;simp at hw
  | cons y q =>
   rw [hw] at hmem
   exact nw_wds rfl q y (hmem y (by simp)).1 fun x hx=>(hmem x (by simp [hx])).1
 refine ⟨?_,?_⟩
 ·have hraw:ri_raw (fmT cs st)=((cs,st),0):=by
   unfold ri_raw
   rw [hwds]
   unfold nw_iw
   rw [nw_col (fun w hw=>by
    obtain ⟨c,hcm,rfl⟩:=List.mem_map.1 hw
    exact (hcw c hcm).2.2.2)]
   dsimp only
   rw [nw_ierr (fun w hw=>by
    obtain ⟨c,hcm,rfl⟩:=List.mem_map.1 hw
    rw [(hcw c hcm).1]),nw_istp (fun w hw=>by
    obtain ⟨n,hn,rfl⟩:=List.mem_map.1 hw
    rw [(hsw n hn).1];rfl),if_neg (fun q=>q rfl),if_neg (fun q=>q rfl),List.map_map,List.map_map]
   have e1:cs.map ((fun w=>(ri_crs w).1) ∘ nw_cw)=cs:=by
    refine Eq.trans (List.map_congr_left fun c hcm=>?_) (List.map_id cs)
    show (ri_crs (nw_cw c)).1=c
    rw [(hcw c hcm).1]
   have e2:st.map ((fun w=>(((rq_numR w).getD 0:Nat):Int)) ∘ Lib.itoa)=st:=by
    refine Eq.trans (List.map_congr_left fun n hn=>?_) (List.map_id st)
    show (((rq_numR (Lib.itoa n)).getD 0:Nat):Int)=n
    rw [(hsw n hn).1]
    have:=hs n hn
    show ((n.toNat:Nat):Int)=n
    omega
   rw [e1,e2]
  unfold nr_ins
  rw [hraw]
  dsimp only
  rw [if_neg (fun q=>q rfl),if_neg (fun q=>q h)]
 ·rw [nw_iw_join]
  cases hw:nw_iw cs st with
  | nil=>intro b hb;cases hb
  | cons y q =>
   rw [hw] at hmem
   intro b hb
   rcases List.mem_append.1 hb with k|k
   ·exact (hmem y (by simp)).2 b k
   ·obtain ⟨x,hx,hbx⟩:=List.mem_flatMap.1 k
    unfold sp at hbx
    rcases List.mem_cons.1 hbx with rfl|k
    ·decide
    ·exact (hmem x (by simp [hx])).2 b k
end
section
open Go.RowKit
def nw_sn(s:Int):List UInt8:=if s=1 then [102,114,101,110,99,104]else if s=2 then [105,116,97,108,105,97,110]else if s=3 then [115,112,97,110,105,115,104]else [103,101,114,109,97,110]
def nw_l0(s:Int):List UInt8:=[116,97,98,108,97,116,117,114,101,32]++nw_sn s
def nw_cols (s:Int)(p:Pce):List (List UInt8):=p.evs.mapIdx fun i e=>colS s p i e
def nw_T (s:Int)(p:Pce):List UInt8:=rq_joinC 10 (nw_l0 s::fmT p.cs p.st::nw_cols s p) []
theorem nw_sys_of {s:Int} (hs:1≤s∧s≤4):nr_sys (nw_l0 s)=some s∧rq_NoB 10 (nw_l0 s):=by
 have hb:∀ (k:Int),((nw_l0 k).all fun b=>b != 10)=true→rq_NoB 10 (nw_l0 k):=fun k h b hb=>by
  have:=List.all_eq_true.1 h b hb
  simpa using this
 rcases nw_sys hs with rfl|rfl|rfl|rfl
 ·exact⟨by decide,hb 1 (by decide)⟩
 ·exact⟨by decide,hb 2 (by decide)⟩
 ·exact⟨by decide,hb 3 (by decide)⟩
 ·exact⟨by decide,hb 4 (by decide)⟩
theorem nw_note_iff {cs:List Crs} {x:N5} (h1:1≤x.1):nr_note cs x=0↔(x.1≤cs.length∧(x.2.1:Int)≤fretsOf cs x.1):=by
 unfold nr_note fretsOf
 rw [Int.toNat_natCast]
 constructor
 ·intro h
  split at h
  ·cases h
  ·split at h
   ·cases h
   ·omega
 ·intro h
  rw [if_neg (by omega),if_neg (by omega)]
section
variable {s:Int} {p:Pce}
structure NwP(s:Int)(p:Pce):Prop where
 e:pceE p=0
 y:1≤s∧s≤4
 l:∀ i(h:i<p.evs.length),lackE s p i p.evs[i]=[]
theorem nw_asc_of:∀ {l:List Stp} {m:Int},(∀ x∈l,m<x.1)→(l.Pairwise fun x y=>x.1<y.1)→asc m l
 | [],_,_,_=>trivial
 | x::r,m,h1,h2=>⟨h1 x (by simp),nw_asc_of (List.pairwise_cons.1 h2).1 (List.pairwise_cons.1 h2).2⟩
theorem nw_stops (h:NwP s p) {i:Nat} (hi:i<p.evs.length):(∀ x∈p.evs[i].stops,NwS s (fun c=>longestN p.evs i c) x∧1≤x.1∧x.1≤p.cs.length∧x.2.1≤fretsOf p.cs x.1)∧asc 0 p.evs[i].stops:=by
 obtain⟨q1,q2,q3,q4,q5⟩:=evOk_of h.e hi
 have hin:=stopsIn_of h.e i hi
 have hk:=stK_of (h.l i hi)
 refine⟨fun x hx=>?_,nw_asc_of (fun x hx=>by have:=(q4 x hx).crs;omega) q5⟩
 obtain⟨j,hj,rfl⟩:=List.getElem_of_mem hx
 have hb:=hin j hj
 have hq:=q4 _ hx
 exact⟨⟨hb.1,hb.2.1,hb.2.2.1,hb.2.2.2.1,⟨hq.hold.1,hq.hold.2⟩,longestN_le _ _ _,hq.h0,hk _ hx⟩,hq.crs.1,hq.crs.2,hq.fret.2⟩
theorem nw_cols_len(s:Int)(p:Pce):(nw_cols s p).length=p.evs.length:=List.length_mapIdx
theorem nw_cols_at {i:Nat} (h:i<(nw_cols s p).length):(nw_cols s p)[i]=colS s p i (p.evs[i]'(by rw [← nw_cols_len s p];exact h)):=by
 rw [List.getElem_of_eq (show nw_cols s p=p.evs.mapIdx fun i e=>colS s p i e from rfl) h,List.getElem_mapIdx]
end
end
section
open Go.RowKit
structure NwR (t:List UInt8)(s:Int)(l1:List UInt8)(F:List (List UInt8)):Prop where
 spl:rq_spl 10 t=(nw_l0 s::l1::F,[])
 y:1≤s∧s≤4
 ins:(nr_ins l1).2=0
 len:F.length≤400
 bad:∀ i (h:i<F.length),nr_err s (nr_ins l1).1.1 i F[i]=0
 hb:nr_hB s (F.map (nr_nc s (nr_ins l1).1.1))=none
 eq:nr_read t=(s,⟨(nr_ins l1).1.1,(nr_ins l1).1.2,nr_fin s (F.map (nr_nc s (nr_ins l1).1.1))⟩,0,0)
end
section
open Go.RowKit
theorem rq_numG_all:∀ (w:List UInt8)(n:Nat),(∀ b∈w,48≤b.toNat∧b.toNat≤57)→rq_numG n w=some (w.foldl (fun a b=>10*a+(b.toNat-48)) n)
 | [],n,_=>rfl
 | b::r,n,h=>by
  rw [rq_numG,if_pos (h b (by simp)),rq_numG_all r _ fun x hx=>h x (by simp [hx])];rfl
theorem rq_numG_bad:∀ (w:List UInt8) (n:Nat) (k:Nat) (hk:k<w.length),¬ (48≤w[k].toNat∧w[k].toNat≤57)→rq_numG n w=none
 | b::r,n,0,_,h=>by rw [rq_numG,if_neg (by simpa using h)]
 | b::r,n,k+1,hk,h=>by
  rw [rq_numG]
  split
  ·exact rq_numG_bad r _ k (by simpa using hk) (by simpa using h)
  ·rfl
def rq_valN (w:List UInt8)(k:Nat):Nat:=(w.take k).foldl (fun a b=>10*a+(b.toNat-48)) 0
theorem rq_valN_succ {w:List UInt8} {k:Nat} (hk:k<w.length):rq_valN w (k+1)=10*rq_valN w k+(w[k].toNat-48):=by
 unfold rq_valN
 rw [List.take_succ_eq_append_getElem hk,List.foldl_append];rfl
end
section
open Go.RowKit
theorem pNumber_FS (w:List UInt8) (hl:w.length≤1000000):Ctr Tryz.prog 160 [.sc (.string (bs w))] (.tu [.sc (.int .i64 (((rq_numR w).getD 0:Nat):Int)),.sc (.bool (rq_numR w).isSome)]):=by
 by_cases h1:w.length < 1
 ·have e:rq_numR w=none:=if_pos (.inl h1)
  rw [e]
  refine zqe Tryz.func160 Tryz.ntmps160 fun w0 F0=>?_;dsimp only [St.init,number,Nat.reduceAdd]
  refine zqg44 ?_
  exact W.ret (finN rfl rfl rfl rfl)
 by_cases h2:3 < w.length
 ·have e:rq_numR w=none:=if_pos (.inr (.inl h2))
  rw [e]
  refine zqe Tryz.func160 Tryz.ntmps160 fun w0 F0=>?_;dsimp only [St.init,number,Nat.reduceAdd]
  refine zqg44 ?_
  exact W.ret (finN rfl rfl rfl rfl)
 have ez:((0:Int)).toNat=0:=rfl
 have hz:((w.getD 0 0).toNat:Int)=48↔w.getD 0 0=48:=⟨fun h=>UInt8.toNat_inj.1 (by show _=48;omega),fun h=>by rw [h];rfl⟩
 obtain ⟨b0,hb0⟩:∃ z,((w.getD 0 0).toNat:Int)=z:=⟨_,rfl⟩
 rw [hb0] at hz
 by_cases h3:b0=48∧1 < w.length
 ·have e:rq_numR w=none:=if_pos (.inr (.inr ⟨hz.1 h3.1,h3.2⟩))
  have hw:(w == [48])=false:=by
   cases h:w == [48] with
   | false=>rfl
   | true =>
    have:=eq_of_beq h
    rw [this] at h3;exact absurd h3.2 (by decide)
  rw [e]
  obtain ⟨h4,h5⟩:=h3
  refine zqe Tryz.func160 Tryz.ntmps160 fun w0 F0=>?_;dsimp only [St.init,number,Nat.reduceAdd]
  refine zqg44 ?_
  refine WL.six rfl rfl ⟨by omega,by omega⟩ ?_
  simp only [ez,hb0]
  refine zqg44 ?_
  rw [hw]
  refine zqg44 ?_
  exact W.ret (finN rfl rfl rfl rfl)
 have e:rq_numR w=rq_numG 0 w:=if_neg (by
  rintro (h|h|h)
  ·exact h1 h
  ·exact h2 h
  ·exact h3 ⟨hz.2 h.1,h.2⟩)
 rw [e]
 have key:∀ {Q:Prop},(b0≠48→Q)→(b0=48→(w == [48])=true→Q)→Q:=fun {Q} f g=>by
  by_cases h:b0=48
  ·refine g h ?_
   match w,h1,h2,h3,hz with
   | [x],_,_,_,hz =>
    have:x=48:=hz.1 h
    subst this;rfl
   | x::y::r,_,_,h3,_=>exact absurd ⟨h,by simp⟩ h3
   | [],h1,_,_,_=>exact absurd (by simp) h1
  ·exact f h
 refine zqe Tryz.func160 Tryz.ntmps160 fun w0 F0=>?_;dsimp only [St.init,number,Nat.reduceAdd]
 refine zqg44 ?_
 refine WL.six rfl rfl ⟨by omega,by omega⟩ ?_
 simp only [ez,hb0]
 refine key (fun h4=>?_) (fun h4 h5=>?_)
 all_goals
  refine zqg44 ?_
  try rw [h5]
  refine zqg44 ?_
  refine W.loop (fun k:Nat=>k≤w.length∧∀ j (hj:j < w.length),j < k→48≤w[j].toNat∧w[j].toNat≤57) (fun k=>⟨[(0,.sc (.string (bs w))),(4,.sc (.int .i64 (rq_valN w k:Nat))),(5,.sc (.int .i64 k))],[],0⟩) (fun k=>w.length - k) 0 ⟨by omega,fun j hj h=>absurd h zqo⟩ (zqt id) fun k hk=>?_
  obtain ⟨hk,hall⟩:=hk
  by_cases hlt:k < w.length
  rotate_left
  ·obtain rfl:k=w.length:=by omega
   have hg:=rq_numG_all w 0 fun b hb=>by
    obtain ⟨j,hj,rfl⟩:=List.mem_iff_getElem.1 hb
    exact hall j hj hj
   have hv:rq_valN w w.length=w.foldl (fun a b=>10*a+(b.toNat - 48)) 0:=by unfold rq_valN;rw [List.take_length]
   rw [hg,← hv]
   refine zqg44 ?_
   exact W.ret (finN rfl rfl rfl rfl)
  have ek:((k:Nat):Int).toNat=k:=Int.toNat_natCast k
  have hgd:w.getD k 0=w[k]:=by rw [List.getD_eq_getElem?_getD,List.getElem?_eq_getElem hlt];rfl
  have hbad:=rq_numG_bad w 0 k hlt
  have hvs:=rq_valN_succ hlt
  have hvb:rq_valN w k < 100:=by
   have h10:(10:Nat) ^ k≤10 ^ 2:=Nat.pow_le_pow_right zqo zqo
   have:∀ k,k≤w.length→(∀ j (hj:j < w.length),j < k→48≤w[j].toNat∧w[j].toNat≤57)→rq_valN w k < 10 ^ k:=fun k=>by
    induction k with
    | zero=>intro _ _;simp [rq_valN]
    | succ k ih =>
     intro hk' ha
     have i1:=ih zqo fun j hj hjk=>ha j hj zqo
     have i2:=ha k zqo zqo
     rw [rq_valN_succ (by omega),Nat.pow_succ];omega
   have:=this k hk hall
   have e2:(10:Nat) ^ 2=100:=rfl
   omega
  have hnx:48≤w[k].toNat∧w[k].toNat≤57→∀ j (hj:j < w.length),j < k+1→48≤w[j].toNat∧w[j].toNat≤57:=fun h j hj hjk=>by
   by_cases e:j=k
   ·subst e;exact h
   ·exact hall j hj zqo
  obtain ⟨c,hc⟩:∃ z,w[k].toNat=z:=⟨_,rfl⟩
  rw [hc] at hbad hvs hnx
  have hcc:((w.getD k 0).toNat:Int)=(c:Int):=by rw [hgd,hc]
  obtain ⟨v,hv⟩:∃ z,rq_valN w k=z:=⟨_,rfl⟩
  rw [hv] at hvs hvb ⊢
  clear hall
  by_cases c1:c < 48
  ·rw [hbad (by omega)]
   refine zqg44 ?_
   refine WL.six rfl rfl ⟨by omega,by omega⟩ ?_
   simp only [ek,hcc]
   refine zqg44 ?_
   exact W.ret (finN rfl rfl rfl rfl)
  by_cases c2:57 < c
  ·rw [hbad (by omega)]
   refine zqg44 ?_
   refine WL.six rfl rfl ⟨by omega,by omega⟩ ?_
   simp only [ek,hcc]
   refine zqg44 ?_
   refine WL.six rfl rfl ⟨by omega,by omega⟩ ?_
   simp only [ek,hcc]
   refine zqg44 ?_
   exact W.ret (finN rfl rfl rfl rfl)
  have hn2:=hnx zqo
  clear hbad hnx
  refine zqg44 ?_
  refine WL.six rfl rfl ⟨by omega,by omega⟩ ?_
  simp only [ek,hcc]
  refine zqg44 ?_
  refine WL.six rfl rfl ⟨by omega,by omega⟩ ?_
  simp only [ek,hcc]
  refine zqg44 ?_
  refine WL.six rfl rfl ⟨by omega,by omega⟩ ?_
  simp only [ek,hcc]
  refine zqg44 ?_
  refine WL.sb8 rfl rfl zqo ?_
  refine WL.cvt rfl rfl rfl (I64.wrap (by unfold I64;omega)) ?_
  refine zqg44 ?_
  refine ⟨k+1,⟨by omega,hn2⟩,by omega,?_⟩
  rw [hvs,show ((10*v+(c - 48):Nat):Int)=10*(v:Int)+((c:Int) - 48) by omega]
  exact (zqu (fun q=>q) (by repeat (first|exact trivial|refine ⟨⟨?_,?_,?_⟩,?_⟩|rfl|exact congrArg (fun q=>some (AO.row _ _ q)) (by first|rfl|(simp;done)|(simp [eInt];done)|(simp [eLk];done)))) rfl)
end
end Go.Proofs.YthehkchjdkdbiaaGreatDoor
