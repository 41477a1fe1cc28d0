/- Time words of the program: signs. -/
import Derived.Test.YtaeelcfjkhfpkaaGreatSpTq
import Derived.Test.YtaeelcfjkhfpkaaGreatPLgTq
set_option maxHeartbeats 4000000
set_option maxRecDepth 100000
set_option linter.unusedVariables false
set_option linter.unusedSimpArgs false
namespace Go.Proofs.YtaeelcfjkhfpkaaGreat
section
def rR(s n:Int):List UInt8:=if n=1∧s≠3 then [46]else if n=2∧s=1 then [58]else if n=3∧s=1 then [39]else []
def rG(s n:Int):List UInt8 :=
 if s=1∧1≤n∧n≤4 then cut [44,94,35,40] (n-1) n else if s=2∧n=1 then [116] else if(s=2∨s=4)∧n=3 then [35] else []
def rH(s n L:Int):List UInt8:=if s=1 then 95::dig2 n.toNat else if(s=2∨s=4)∧n=L then [42]else []
def pH(s n L:Int):List UInt8:=if n=0 then []else rH s n L
def okR(s n:Int):Bool:=n == 0|| !(rR s n).isEmpty
def okG(s n:Int):Bool:=n == 0|| !(rG s n).isEmpty
def okH(s n L:Int):Bool:=n == 0|| !(rH s n L).isEmpty
def cellS(s c f r g h L:Int):List UInt8:=pS s c f++rR s r++rG s g++pH s h L
def cellOk(s c f r g h L:Int):Bool:=pOk s c f && okR s r && okG s g && okH s h L
theorem rR_len(s n:Int):(rR s n).length≤1:=by
 unfold rR;split
 ·decide
 ·split
  ·decide
  ·split<;>decide
theorem rG_len(s n:Int):(rG s n).length≤4:=by
 unfold rG;split
 ·exact cut_length _ _ _
 ·split
  ·decide
  ·split<;>decide
theorem dig2_len(n:Nat):(dig2 n).length≤2:=by unfold dig2;split<;>simp
theorem rH_len(s n L:Int):(rH s n L).length≤3:=by
 unfold rH;split
 ·have:=dig2_len n.toNat;simp;omega
 ·split<;>decide
theorem pH_len(s n L:Int):(pH s n L).length≤3:=by
 unfold pH;split
 ·decide
 ·exact rH_len s n L
theorem symLenAll:((List.range' 1 4).all fun s=>(List.range' 1 14).all fun c=>(List.range 19).all fun f=>decide ((pS (s:Nat) (c:Nat) (f:Nat)).length≤4∧(rS (s:Nat) (c:Nat) (f:Nat)).length≤4))=true:=by
 decide +kernel
theorem pS_len (s c f:Int)(hs:1≤s∧s≤4)(hc:1≤c∧c≤14)(hf:0≤f∧f≤18):(pS s c f).length≤4∧(rS s c f).length≤4:=by
 obtain⟨s,rfl⟩:=Int.eq_ofNat_of_zero_le (show 0≤s by omega)
 obtain⟨c,rfl⟩:=Int.eq_ofNat_of_zero_le (show 0≤c by omega)
 obtain⟨f,rfl⟩:=Int.eq_ofNat_of_zero_le hf.1
 have h:=symLenAll
 rw [List.all_eq_true]at h
 have h1:=h s (List.mem_range'_1.2 zqo)
 rw [List.all_eq_true]at h1
 have h2:=h1 c (List.mem_range'_1.2 zqo)
 rw [List.all_eq_true]at h2
 exact of_decide_eq_true (h2 f (List.mem_range.2 zqo))
end
section
open Go.RowKit
theorem rd_of_rp {α:Type} {F:View} {w:World} {n:Nat} {l:List α} {e:α→List AV} {f:α→List Value} {v:Value} (hF:∀ p u,F p=some u→w.cell? p=some u) (h0:0<n) (hf:∀ x,(f x).length=n) (hef:∀ x (j:Nat) u,(f x)[j]?=some u→(e x)[j]?=some (.sc u))
  (r:RP F (.ls n (l.map e)) v):∃ A c,v=.slice A l.length c∧Rd w w.heap.size n A (l.map f)∧l.length≤c:=by
 obtain ⟨A,cap,ad,u,rfl,h1,h2,h3,h4,h5⟩:=r.ls_of
 have hcell:∀ (k:Nat) x,l[k]?=some x→∀ (j:Nat) y,(f x)[j]?=some y→w.cell? (ad.add (k*n+j))=some y:=fun k x hk j y hy=>by
  have a1:(l.map e)[k]?=some (e x):=by rw [List.getElem?_map,hk];rfl
  have:=h3 k _ j _ a1 (hef x j y hy)
  rw [hF _ _ this.1,(h4 k _ j _ a1 (hef x j y hy)).sc_eq]
 refine ⟨A,cap,by rw [List.length_map],fun hp=>⟨ad,h2 (by simpa using hp),?_,fun k r hr j y hy=>?_⟩,by simpa using h5⟩
 ·have hp:0<l.length:=by simpa using hp
  have hx:0<(f (l[0]'hp)).length:=by rw [hf];exact h0
  have:=cell_block (hcell 0 (l[0]'hp) (List.getElem?_eq_getElem hp) 0 _ (List.getElem?_eq_getElem hx))
  rwa [block_of_add] at this
 ·rw [List.getElem?_map] at hr
  cases hk:l[k]? with
  | none=>simp [hk] at hr
  | some x =>
   rw [hk] at hr
   obtain rfl:f x=r:=by simpa using hr
   exact hcell k x hk j y hy
theorem stps_of_rp {F:View} {w:World} {l:List Stp} {v:Value} (hF:∀ p u,F p=some u→w.cell? p=some u) (r:RP F (eStps l) v):∃ A c,v=.slice A l.length c∧StpsAt w w.heap.size A l∧l.length≤c :=
 rd_of_rp (n:=5) (f:=stpCells) hF zqo (fun _=>rfl) (fun x j u h=>by
  match j with
  | 0=>cases h;rfl
  | 1=>cases h;rfl
  | 2=>cases h;rfl
  | 3=>cases h;rfl
  | 4=>cases h;rfl
  | j+5=>simp [stpCells] at h) r
theorem evs_of_rp {F:View} {w:World} {l:List Ev} {v:Value} (hF:∀ p u,F p=some u→w.cell? p=some u) (r:RP F (.ls 6 (l.map eEv)) v):∃ A c,v=.slice A l.length c∧EvsAt w w.heap.size A l∧l.length≤c:=by
 obtain ⟨A,cap,ad,u,rfl,h1,h2,h3,h4,h5⟩:=r.ls_of
 obtain ⟨ms,hml,hmq⟩:=list_ofT (fun k (m:Option Addr×Nat)=>∀ x,l[k]?=some x→u k 5=.slice m.1 x.stops.length m.2∧StpsAt w w.heap.size m.1 x.stops) l.length fun k hk=>by
  have a1:(l.map eEv)[k]?=some (eEv l[k]):=by simp [hk]
  obtain ⟨A',c',e,hs,_⟩:=stps_of_rp hF (h4 k _ 5 _ a1 rfl)
  refine ⟨(A',c'),fun x hx=>?_⟩
  rw [List.getElem?_eq_getElem hk] at hx
  cases hx
  exact ⟨e,hs⟩
 have hcell:∀ (k:Nat) x m,l[k]?=some x→ms[k]?=some m→∀ (j:Nat) y,(evCells x m)[j]?=some y→w.cell? (ad.add (k*6+j))=some y:=fun k x m hk hm j y hy=>by
  have a1:(l.map eEv)[k]?=some (eEv x):=by rw [List.getElem?_map,hk];rfl
  have hj:j < 6:=(List.getElem?_eq_some_iff.1 hy).1
  have get:∀ av,(eEv x)[j]?=some av→w.cell? (ad.add (k*6+j))=some (u k j):=fun av hav=>hF _ _ (h3 k _ j _ a1 hav).1
  match j,hj with
  | 0,_=>cases hy;rw [get _ rfl,(h4 k _ 0 _ a1 rfl).sc_eq]
  | 1,_=>cases hy;rw [get _ rfl,(h4 k _ 1 _ a1 rfl).sc_eq]
  | 2,_=>cases hy;rw [get _ rfl,(h4 k _ 2 _ a1 rfl).sc_eq]
  | 3,_=>cases hy;rw [get _ rfl,(h4 k _ 3 _ a1 rfl).sc_eq]
  | 4,_=>cases hy;rw [get _ rfl,(h4 k _ 4 _ a1 rfl).sc_eq]
  | 5,_=>cases hy;rw [get _ rfl,(hmq k m hm x hk).1]
 refine ⟨A,cap,by rw [List.length_map],⟨ms,hml,fun hp=>⟨ad,h2 ?_,?_,fun k r hr j y hy=>?_⟩,fun k e m he hm=>(hmq k m hm e he).2⟩,by simpa using h5⟩
 ·simp [hml] at hp ⊢;omega
 ·have hp:0 < l.length:=by simp [hml] at hp;omega
  have:=cell_block (hcell 0 (l[0]'hp) (ms[0]'(by omega)) (List.getElem?_eq_getElem hp) (List.getElem?_eq_getElem (by omega)) 0 _ rfl)
  rwa [block_of_add] at this
 ·rw [List.getElem?_zipWith] at hr
  cases hk:l[k]? with
  | none=>simp [hk] at hr
  | some x =>
   cases hm:ms[k]? with
   | none=>simp [hk,hm] at hr
   | some m =>
    simp [hk,hm] at hr
    subst hr
    exact hcell k x m hk hm j y hy
theorem ins_of_rp {F:View} {w:World} {cs:List (Int×Int×Bool)} {st:List Int} {v1 v2:Value} (hF:∀ p u,F p=some u→w.cell? p=some u) (r1:RP F (.ls 3 (cs.map eCrs)) v1) (r2:RP F (.ls 1 (st.map eInt)) v2) :
  ∃ A1 c1 A2 c2,v1=.slice A1 cs.length c1∧v2=.slice A2 st.length c2∧InsAt w w.heap.size A1 A2 cs st:=by
 obtain ⟨A1,c1,e1,h1,_⟩:=rd_of_rp (n:=3) (f:=crsCells) hF zqo (fun _=>rfl) (fun x j u h=>by
  match j with
  | 0=>cases h;rfl
  | 1=>cases h;rfl
  | 2=>cases h;rfl
  | j+3=>simp [crsCells] at h) r1
 obtain ⟨A2,c2,e2,h2,_⟩:=rd_of_rp (n:=1) (f:=intCell) hF zqo (fun _=>rfl) (fun x j u h=>by
  match j with
  | 0=>cases h;rfl
  | j+1=>simp [intCell] at h) r2
 exact ⟨A1,c1,A2,c2,e1,e2,h1,h2⟩
theorem pc_of_rp {F:View} {w:World} {p:Pce} {v:Value} (hF:∀ p u,F p=some u→w.cell? p=some u) (r:RP F (ePce p) v):∃ M,v=pcValue M p∧PcAt w w.heap.size M p:=by
 obtain ⟨cs,rfl,h1,h2⟩:∃ cs:Array Value,v=.agg cs∧cs.size=3∧∀ (i:Nat) av u,[AV.ls 3 (p.cs.map eCrs),.ls 1 (p.st.map eInt),.ls 6 (p.evs.map eEv)][i]?=some av→cs[i]?=some u→RP F av u:=by
  cases r with|ag l cs a b=>exact ⟨cs,rfl,a,b⟩
 have g:∀ i (h:i<3),cs[i]?=some (cs[i]'(by omega)):=fun i h=>Array.getElem?_eq_getElem (by omega)
 obtain ⟨A1,c1,A2,c2,e1,e2,hI⟩:=ins_of_rp hF (h2 0 _ _ rfl (g 0 zqo)) (h2 1 _ _ rfl (g 1 zqo))
 obtain ⟨A3,c3,e3,hE,hc⟩:=evs_of_rp hF (h2 2 _ _ rfl (g 2 zqo))
 refine ⟨⟨A1,A2,A3,c1,c2,c3⟩,?_,hI,hE,hc⟩
 unfold pcValue
 congr 1
 apply Array.ext (by simp [h1])
 intro i hi hi2
 match i,(show i<3 by omega) with
 | 0,_=>exact e1
 | 1,_=>exact e2
 | 2,_=>exact e3
theorem Ctr.of_sc {P:Program} {f:FuncId} {args:List AV} {xs:List Value} {res:AV} {v:Value} (hs:scs args=some xs)(hv:∀ F,RP F res v)(h:∀ w,Calls P f xs.toArray w (Ret v w)):Ctr P f args res:=by
 intro w F vs hF hR
 have:vs=xs:=scs_of (G:=⟨F,fun _=>0,fun _=>0,fun _=>undef,fun _ _=>False⟩) hs hR.1 fun i av u a b=>.pu _ _ (hR.2 i av u a b)
 subst this
 exact (h w).mono fun e w'⟨he,hb⟩=>⟨v,F,he,hb,fun _ _ h=>h,fun p u x=>by rw [hb.cell (cell_block (hF p u x))];exact hF p u x,fun _ _ h=>.inl h,hv F⟩
theorem Ctr.of_pc {P:Program} {f:FuncId} {p:Pce} {pre post:List AV} {xs ys:List Value} {res:AV} {v:Value} (hs:scs pre=some xs) (hs2:scs post=some ys) (hv:∀ F,RP F res v)
  (h:∀ w M,PcAt w w.heap.size M p→Calls P f (xs++pcValue M p::ys).toArray w (Ret v w)):Ctr P f (pre++ePce p::post) res:=by
 intro w F vs hF hR
 have hG:∀ i av u,(pre++ePce p::post)[i]?=some av→vs[i]?=some u→R ⟨F,fun _=>0,fun _=>0,fun _=>undef,fun _ _=>False⟩ av u:=fun i av u a b=>.pu _ _ (hR.2 i av u a b)
 have hlen:vs.length=pre.length+(post.length+1):=by rw [hR.1];simp
 have e1:vs.take pre.length=xs:=scs_of hs (by simp;omega) fun i av u a b=>by
  have hi:i<pre.length:=(List.getElem?_eq_some_iff.1 a).1
  rw [List.getElem?_take_of_lt hi] at b
  exact hG i av u (by rw [List.getElem?_append_left hi];exact a) b
 have e2:vs.drop (pre.length+1)=ys:=scs_of hs2 (by simp;omega) fun i av u a b=>by
  rw [List.getElem?_drop] at b
  exact hG (pre.length+1+i) av u (by rw [List.getElem?_append_right (by omega),show pre.length+1+i-pre.length=i+1 by omega];exact a) b
 have hp:vs[pre.length]?=some (vs[pre.length]'(by omega)):=List.getElem?_eq_getElem (by omega)
 obtain ⟨M,eM,hM⟩:=pc_of_rp hF (hR.2 pre.length _ _ (by rw [List.getElem?_append_right (Nat.le_refl _),Nat.sub_self];rfl) hp)
 have ev:vs=xs++pcValue M p::ys:=by
  rw [← e1,← e2,← eM]
  conv=>lhs;rw [← List.take_append_drop pre.length vs]
  congr 1
  rw [List.drop_eq_getElem_cons (by omega)]
 rw [ev]
 exact (h w M hM).mono fun e w' ⟨he,hb⟩=>⟨v,F,he,hb,fun _ _ h=>h,fun p u x=>by rw [hb.cell (cell_block (hF p u x))];exact hF p u x,fun _ _ h=>.inl h,hv F⟩
end
section
open Go.RowKit
theorem infoCourse:(Tryz.prog.info? 70).map (fun i=>(i.zero,i.size,i.bytes))=some (some (.agg #[.int .i64 0,.int .i64 0,.bool false]),3,24):=by kernel_rfl
theorem infoInt:(Tryz.prog.info? 3).map (fun i=>(i.zero,i.size,i.bytes))=some (some (.int .i64 0),1,8):=by kernel_rfl
theorem crs_len (cs:List (Int×Int×Bool)):∀ r∈cs.map crsCells,r.length=3:=by intro r h;obtain⟨x,_,rfl⟩:=List.mem_map.1 h;rfl
theorem int_len(st:List Int):∀ r∈st.map intCell,r.length=1:=by intro r h;obtain⟨x,_,rfl⟩:=List.mem_map.1 h;rfl
theorem crs_one (cs:List (Int×Int×Bool)):∀ r∈cs.map crsCells,∀ u∈r,u.oneCell'=true:=by
 intro r h u hu;obtain⟨x,_,rfl⟩:=List.mem_map.1 h
 simp only [crsCells,List.mem_cons,List.not_mem_nil,or_false]at hu
 rcases hu with rfl|rfl|rfl<;>rfl
theorem int_one(st:List Int):∀ r∈st.map intCell,∀ u∈r,u.oneCell'=true:=by
 intro r h u hu;obtain⟨x,_,rfl⟩:=List.mem_map.1 h
 simp only [intCell,List.mem_cons,List.not_mem_nil,or_false]at hu
 rcases hu with rfl;rfl
def CopyIns (cs:List (Int×Int×Bool))(st:List Int)(W:World)(e:Ending)(w':World):Prop :=
 ∃ (A1 A2:Option Addr)(c1 c2:Nat),e=.returned (.agg #[.slice A1 cs.length c1,.slice A2 st.length c2])∧Below W.heap.size W w'∧InsAt w' w'.heap.size A1 A2 cs st∧(∀ ad,A1=some ad→W.heap.size≤ad.block)∧(∀ ad,A2=some ad→W.heap.size≤ad.block)∧cs.length≤c1∧st.length≤c2
structure InsS (w:World)(B:Nat)(A1 A2:Option Addr)(cs:List (Int×Int×Bool))(st:List Int):Prop where
 out:InsAt w B A1 A2 cs st
section
variable {w w':World} {B g:Nat} {A1 A2:Option Addr} {cs:List (Int×Int×Bool)} {st:List Int}
theorem hid_ins1 (h:InsS w B A1 A2 cs st):Rd w B 3 A1 (cs.map crsCells):=h.out.1
theorem hid_ins2 (h:InsS w B A1 A2 cs st):Rd w B 1 A2 (st.map intCell):=h.out.2
theorem hins_drew(h:InsS w B A1 A2 cs st):InsS w.drew B A1 A2 cs st:=⟨h.out⟩
theorem hins_alloc (h:InsS w B A1 A2 cs st)(hB:B≤w.heap.size)(o:Obj):InsS (w.alloc o) B A1 A2 cs st:=⟨h.out.alloc hB o⟩
theorem hins_grown (h:InsS w B A1 A2 cs st)(hg:w.grownBy w' (some g))(hB:B≤w.heap.size)(hr:B≤g):InsS w' B A1 A2 cs st :=
 ⟨⟨h.out.1.grown hg hB (fun k e=>by injection e with e;omega),h.out.2.grown hg hB (fun k e=>by injection e with e;omega)⟩⟩
theorem hins_setCell {p:Addr} {u:Value} (h:InsS w B A1 A2 cs st)(hB:B≤p.block):InsS (w.setCell p u) B A1 A2 cs st:=⟨⟨h.out.1.setCell hB u,h.out.2.setCell hB u⟩⟩
end
theorem rInsCopy (A1 A2:Option Addr) (cs:List (Int×Int×Bool)) (st:List Int) (c1 c2:Nat) (w:World) (hI:InsAt w w.heap.size A1 A2 cs st) (hm1:cs.length≤64) (hm2:st.length≤64) :
    Calls Tryz.prog 35 #[.agg #[.slice A1 cs.length c1,.slice A2 st.length c2]] w (CopyIns cs st w):=by
  obtain ⟨i0,hi0,hz0,hz1,hz2⟩:=info_parts infoCourse
  obtain ⟨i1,hi1,hz3,hz4,hz5⟩:=info_parts infoInt
  obtain ⟨n1,hn1⟩:∃ n,cs.length=n:=⟨_,rfl⟩
  obtain ⟨n2,hn2⟩:∃ n,st.length=n:=⟨_,rfl⟩
  have HP:Hid (∀ e w',(∃ (A1 A2:Option Addr) (c1 c2:Nat),e=.returned (.agg #[.slice A1 n1 c1,.slice A2 n2 c2])∧Below w.heap.size w w'∧InsAt w' w'.heap.size A1 A2 cs st∧(∀ ad,A1=some ad→w.heap.size≤ad.block)∧(∀ ad,A2=some ad→w.heap.size≤ad.block)∧n1≤c1∧n2≤c2)→CopyIns cs st w e w'):=by
    intro e w' ⟨x1,x2,x3,x4,h1,h2,h3,h4,h5,h6,h7⟩
    exact ⟨x1,x2,x3,x4,by rw [hn1,hn2];exact h1,h2,h3,h4,h5,by rw [hn1];exact h6,by rw [hn2];exact h7⟩
  have HI:InsS w w.heap.size A1 A2 cs st:=⟨hI⟩
  rw [hn1,hn2]
  rw [hn1] at hm1
  rw [hn2] at hm2
  have HN1:=Lib.hid (show n1=(cs.map crsCells).length by simp [hn1])
  have HN2:=Lib.hid (show n2=(st.map intCell).length by simp [hn2])
  clear hn1 hn2 hI
  go_enter Tryz.func35,Tryz.ntmps35
  go_wp2_with fail
  have HT:((w.alloc (Obj.cells #[Value.slice A1 n1 c1,Value.slice A2 n2 c2] 26)).alloc (Obj.cells #[Value.slice none 0 0,Value.slice none 0 0] 26)).there (w.heap.size+1) 0 2:=blk_there (blk_new' (by simp)) (by simp)
  go_region_held3 (fun w'=>w'.cell? ⟨w.heap.size,0,none⟩=some (.slice A1 n1 c1)∧w'.cell? ⟨w.heap.size,1,none⟩=some (.slice A2 n2 c2)∧InsS w' w.heap.size A1 A2 cs st∧w'.there (w.heap.size+1) 0 2)
    (((try go_split_ands);(try dsimp only);refine ⟨?_,?_,?_,?_⟩;
      (focus (first|(rw [hga.cell_far _ (by simp;omega) (by simp;omega)];with_reducible assumption)|(rw [hgb.cell_far _ (by simp;omega) (by simp;omega)];with_reducible assumption)|(rw [World.cell?_setCell_other _ _ _ _ (by simp),World.cell?_setCell_other _ _ _ _ (by simp)];with_reducible assumption)|(go_keep;done)));(focus (first|(rw [hga.cell_far _ (by simp;omega) (by simp;omega)];with_reducible assumption)|(rw [hgb.cell_far _ (by simp;omega) (by simp;omega)];with_reducible assumption)|(rw [World.cell?_setCell_other _ _ _ _ (by simp),World.cell?_setCell_other _ _ _ _ (by simp)];with_reducible assumption)|(go_keep;done)));
      (focus (repeat (first|with_reducible exact HI|with_reducible assumption|with_reducible refine hins_drew ?_|with_reducible refine hins_alloc ?_ zqs _|with_reducible refine hins_setCell ?_ zqs|with_reducible refine hins_grown ?_ (by assumption) zqs zqs)));
      (focus (repeat (first|with_reducible exact HT|with_reducible assumption|with_reducible refine there_drew ?_|with_reducible refine World.there_alloc ?_ _|with_reducible refine there_setCell ?_ _ _|with_reducible refine there_grown ?_ (by assumption) zqs)))))
    (first
      | (refine step_append_new (by rfl) _ _ 23 (by rfl) 70 i0 _ 3 24 Tryz.underlying23 hi0 hz0 hz1 hz2 rfl (by omega) _ (by rfl) (by repeat (first|with_reducible assumption|with_reducible refine Blk.drew ?_|with_reducible exact blk_new' (by simp)|with_reducible refine Blk.alloc ?_ _|with_reducible refine blk_grown ?_ (by assumption) zqs)) w.heap.size A1 (cs.map crsCells) n1 c1 (by rfl) HN1.out (hid_ins1 (by first|with_reducible assumption|(go_split_ands;with_reducible assumption))) (crs_len _) (crs_one _) (by rw [← HN1.out];simp only [maxLen];omega) (by rw [← HN1.out];omega) ?_;intro Aa ca wa hra hga hata0;have hata:=hata0.1;have HCA:=Lib.hid hata0.2;clear hata0;obtain ⟨ub0,ub1,eb0,eb1,fb0,fb1⟩:=there2 (there_grown (by first|with_reducible assumption|(go_split_ands;with_reducible assumption)) hga zqs);have hsa:w.heap.size+2 < wa.heap.size:=(by have:=hga.size;(try simp at this);omega))
      | (refine step_append_new (by rfl) _ _ 24 (by rfl) 3 i1 _ 1 8 Tryz.underlying24 hi1 hz3 hz4 hz5 rfl (by omega) _ (by rfl) (by repeat (first|with_reducible assumption|with_reducible refine Blk.drew ?_|with_reducible exact blk_new' (by simp)|with_reducible refine Blk.alloc ?_ _|with_reducible refine blk_grown ?_ (by assumption) zqs)) w.heap.size A2 (st.map intCell) n2 c2 (by rfl) HN2.out (hid_ins2 (by first|with_reducible assumption|(go_split_ands;with_reducible assumption))) (int_len _) (int_one _) (by rw [← HN2.out];simp only [maxLen];omega) (by rw [← HN2.out];omega) ?_;intro Ab cb wb hrb hgb hatb0;have hatb:=hatb0.1;have HCB:=Lib.hid hatb0.2;clear hatb0;obtain ⟨ub0,ub1,eb0,eb1,fb0,fb1⟩:=there2 (there_grown (by first|with_reducible assumption|(go_split_ands;with_reducible assumption)) hgb zqs);have hsb:w.heap.size+2 < wb.heap.size:=(by have:=hgb.size;(try simp at this);omega)))
  all_goals
    go_wp2_with fail
    refine bodyPost_ret (v:=.agg #[.slice Aa n1 ca,.slice Ab n2 cb]) (by simp [results,Tryz.results35,go_sem,eb0,eb1]) rfl (HP.out _ _ ⟨Aa,Ab,ca,cb,rfl,(by repeat (first|with_reducible exact Below.refl _ _|with_reducible refine Below.drew ?_|with_reducible refine bel_alloc ?_ _|with_reducible refine Below.setCell ?_ zqs _|with_reducible refine bel_grown ?_ (by assumption) zqs)),⟨hra.stay (fun ad had hlt=>?_),hrb.stay (fun ad had hlt=>?_)⟩,fun ad had=>?_,fun ad had=>?_,HCA.out,HCB.out⟩)
    · have hh:=(hata ad had).1
      try simp at hh
      repeat (first|with_reducible exact Stay.refl hlt|with_reducible refine Stay.drew ?_|with_reducible refine Stay.alloc ?_ _|with_reducible refine Stay.setCell ?_ zqs _|with_reducible refine Stay.grown ?_ (by assumption) zqs)
    · have hh:=(hatb ad had).1
      try simp at hh
      repeat (first|with_reducible exact Stay.refl hlt|with_reducible refine Stay.drew ?_|with_reducible refine Stay.alloc ?_ _|with_reducible refine Stay.setCell ?_ zqs _|with_reducible refine Stay.grown ?_ (by assumption) zqs)
    · have hh:=(hata ad had).1
      try simp at hh
      omega
    · have hh:=(hatb ad had).1
      try simp at hh
      omega
end
section
open Go.RowKit
def newF(F:View)(w w':World):View:=fun p=>if p.block<w.heap.size then F p else w'.cell? p
theorem newF_le {F:View} {w w':World} (hF:∀ p u,F p=some u→w.cell? p=some u):View.le F (newF F w w'):=fun p u h=>by
 unfold newF
 rw [if_pos (cell_block (hF p u h))];exact h
theorem newF_fw {F:View} {w w':World} (hF:∀ p u,F p=some u→w.cell? p=some u)(hb:Below w.heap.size w w'):∀ p u,newF F w w' p=some u→w'.cell? p=some u:=fun p u h=>by
 unfold newF at h
 by_cases e:p.block<w.heap.size
 ·rw [if_pos e]at h;rw [hb.cell e];exact hF p u h
 ·rw [if_neg e]at h;exact h
theorem newF_new {F:View} {w w':World}:∀ p u,newF F w w' p=some u→F p=some u∨w.heap.size≤p.block:=fun p u h=>by
 unfold newF at h
 by_cases e:p.block<w.heap.size
 ·rw [if_pos e]at h;exact .inl h
 ·exact .inr zqo
theorem rp_of_rd {α:Type} {F:View} {w w':World} {n:Nat} {l:List α} {e:α→List AV} {f:α→List Value} {A:Option Addr} {c B:Nat} (hr:Rd w' B n A (l.map f)) (hA:∀ ad,A=some ad→w.heap.size≤ad.block) (hc:l.length≤c)
  (hf:∀ x,(e x).length=n) (hef:∀ x (j:Nat) av,(e x)[j]?=some av→∃ u,av=.sc u∧(f x)[j]?=some u∧u.oneCell'=true):RP (newF F w w') (.ls n (l.map e)) (.slice A l.length c):=by
 have hcell:∀ ad,A=some ad→∀ (k:Nat) x,l[k]?=some x→∀ (j:Nat) u,(f x)[j]?=some u→newF F w w' (ad.add (k*n+j))=some u:=fun ad had k x hk j u hu=>by
  have hl:0<(l.map f).length:=by have:=(List.getElem?_eq_some_iff.1 hk).1;simp;omega
  obtain ⟨ad',e',_,h2⟩:=hr hl
  rw [had] at e'
  cases e'
  unfold newF
  rw [if_neg (by rw [block_of_add];have:=hA ad had;omega)]
  exact h2 k (f x) (by rw [List.getElem?_map,hk];rfl) j u hu
 have key:∀ (i:Nat) r (j:Nat) av,(l.map e)[i]?=some r→r[j]?=some av→∃ x u,l[i]?=some x∧av=.sc u∧(f x)[j]?=some u∧u.oneCell'=true:=fun i r j av hr' hav=>by
  rw [List.getElem?_map] at hr'
  cases hx:l[i]? with
  | none=>simp [hx] at hr'
  | some x =>
   rw [hx] at hr'
   obtain rfl:e x=r:=by simpa using hr'
   obtain ⟨u,a,b,c⟩:=hef x j av hav
   exact ⟨x,u,rfl,a,b,c⟩
 have hlen:l.length=(l.map e).length:=by simp
 rw [hlen]
 refine .ls n (l.map e) A c (A.getD ⟨0,0,none⟩) (fun i j=>((l[i]?).bind fun x=>(f x)[j]?).getD undef) (by simpa using hc) (fun r hr'=>?_) (fun hp=>?_) (fun i r j av hr' hav=>?_) (fun i r j av hr' hav=>?_)
 ·obtain ⟨x,_,rfl⟩:=List.mem_map.1 hr';exact hf x
 ·obtain ⟨ad,e',_⟩:=hr (by simpa using hp)
  rw [e'];rfl
 ·obtain ⟨x,u,h1,h2,h3,h4⟩:=key i r j av hr' hav
  obtain ⟨ad,e',_⟩:=hr (by have:=(List.getElem?_eq_some_iff.1 h1).1;simp;omega)
  simp only [h1,Option.bind_some,h3,Option.getD_some]
  rw [e']
  exact ⟨hcell ad e' i x h1 j u h3,h4⟩
 ·obtain ⟨x,u,h1,h2,h3,h4⟩:=key i r j av hr' hav
  simp only [h1,Option.bind_some,h3,Option.getD_some,h2]
  exact .sc u
theorem eCrs_of(x:Int×Int×Bool)(j:Nat)(av:AV)(h:(eCrs x)[j]?=some av):∃ u,av=.sc u∧(crsCells x)[j]?=some u∧u.oneCell'=true:=by
 match j with
 | 0=>cases h;exact⟨_,rfl,rfl,rfl⟩
 | 1=>cases h;exact⟨_,rfl,rfl,rfl⟩
 | 2=>cases h;exact⟨_,rfl,rfl,rfl⟩
 | j+3=>simp [eCrs]at h
theorem eInt_of(x:Int)(j:Nat)(av:AV)(h:(eInt x)[j]?=some av):∃ u,av=.sc u∧(intCell x)[j]?=some u∧u.oneCell'=true:=by
 match j with
 | 0=>cases h;exact⟨_,rfl,rfl,rfl⟩
 | j+1=>simp [eInt]at h
theorem insCopy_FS (cs:List (Int×Int×Bool)) (st:List Int) (h1:cs.length≤64) (h2:st.length≤64):Ctr Tryz.prog 35 [.ag (eIns cs st)] (.ag (eIns cs st)):=by
 intro w F vs hF hR
 match vs,hR.1 with
 | [v],_ =>
  have r:=hR.2 0 _ v rfl rfl
  obtain ⟨xs,rfl,q1,q2⟩:∃ xs:Array Value,v=.agg xs∧xs.size=2∧∀ (i:Nat) av u,(eIns cs st)[i]?=some av→xs[i]?=some u→RP F av u:=by
   cases r with|ag l cs a b=>exact ⟨cs,rfl,a,b⟩
  have g:∀ i (h:i<2),xs[i]?=some (xs[i]'(by omega)):=fun i h=>Array.getElem?_eq_getElem (by omega)
  obtain ⟨A1,c1,A2,c2,e1,e2,hI⟩:=ins_of_rp hF (q2 0 _ _ rfl (g 0 zqo)) (q2 1 _ _ rfl (g 1 zqo))
  have ex:xs=#[.slice A1 cs.length c1,.slice A2 st.length c2]:=by
   apply Array.ext (by simp [q1])
   intro i hi hi2
   match i,(show i<2 by omega) with
   | 0,_=>exact e1
   | 1,_=>exact e2
  rw [ex]
  refine (rInsCopy A1 A2 cs st c1 c2 w hI h1 h2).mono fun e w' ⟨B1,B2,d1,d2,he,hb,hI',f1,f2,k1,k2⟩=>?_
  refine ⟨_,newF F w w',he,hb,newF_le hF,newF_fw hF hb,newF_new,.ag _ _ rfl fun i av u a b=>?_⟩
  match i with
  | 0=>cases a;cases b;exact rp_of_rd hI'.1 f1 k1 (fun _=>rfl) eCrs_of
  | 1=>cases a;cases b;exact rp_of_rd hI'.2 f2 k2 (fun _=>rfl) eInt_of
  | i+2=>simp [eIns] at a
end
section
open Go.RowKit
theorem pcCopy_FS (p:Pce) (hO:PcOk p):Ctr Tryz.prog 15 [ePce p] (ePce p):=by
 refine zqe Tryz.func15 Tryz.ntmps15 fun w0 F0=>?_
 have hn3:=hO.n3
 repeat refine W.go rfl ?_
 refine (?_:WL _ _ _ _ _ _)
 refine WL.vl rfl (WV.call rfl (callF Tryz.func35 rfl rfl) rfl rfl (insCopy_FS p.cs p.st hO.n1 hO.n2)) ?_
 repeat (first|refine W.go rfl ?_|refine WL.ev rfl ?_)
 refine (?_:W _ _ _ _ _)
 refine W.tr (Tr.nilBox (k:=2) (j:=2) 45 6 rfl rfl rfl rfl) ?_
 refine W.loop (fun k:Nat=>k≤p.evs.length) (fun k=>⟨[(1,.pt 0 0 0),(2,.pt 1 0 0),(3,.pt 2 0 0),(4,.sc (.int .i64 k))],[(0,.box 29 [.ls 3 (p.cs.map eCrs),.ls 1 (p.st.map eInt),.ls 6 (p.evs.map eEv)]),(1,.box 29 [.sc (.slice none 0 0),.sc (.slice none 0 0),.sc (.slice none 0 0)]),(2,.box 29 [.ls 3 (p.cs.map eCrs),.ls 1 (p.st.map eInt),.sl 3]),(3,.row 45 6 ((p.evs.take k).map eEv))],4⟩) (fun k=>p.evs.length - k) 0 zqo (zqt id) fun k hk=>?_
 repeat (first|refine W.go rfl ?_|refine WL.ev rfl ?_|refine WL.len rfl rfl zql ?_)
 refine (?_:W _ _ _ _ _)
 (refine W.cond rfl (fun hif=>?_) (fun hif=>?_)<;>(try simp only [decide_eq_true_eq,decide_eq_false_iff_not,Int.not_lt,Int.not_le,Bool.not_eq_true',Bool.not_eq_false'] at hif))
 ·have hk2:k < p.evs.length:=by omega
  have h20:=hO.n4 k hk2
  repeat (first|refine W.go rfl ?_|refine WL.ev rfl ?_|refine WL.idx rfl rfl zqo zqm ?_|refine WL.app rfl rfl rfl zqs ?_)
  refine (?_:WL _ _ _ _ _ _)
  refine WL.tr (Tr.freeze 6 rfl) ?_
  repeat (first|refine W.go rfl ?_|refine WL.ev rfl ?_|refine WL.ar rfl rfl (by unfold I64;omega) ?_|refine WL.app rfl rfl rfl zqs ?_)
  refine ⟨k+1,by omega,by omega,zqu (fun q=>bif Nat.beq q 3 then 8 else q) (by repeat (first|exact trivial|refine ⟨⟨?_,?_,?_⟩,?_⟩|exact congrArg (fun r=>some (AO.row _ _ r)) (take_map_succ hk2)|rfl)) rfl⟩
 ·have he:k=p.evs.length:=by omega
  subst he
  repeat refine W.go rfl ?_
  refine (?_:W _ _ _ _ _)
  refine W.tr (Tr.freeze 3 rfl) ?_
  refine W.ret (fin_cell rfl rfl rfl rfl rfl rfl ?_ rfl)
  show AV.ag [_,_,.ls 6 ((p.evs.take p.evs.length).map eEv)]=ePce p
  rw [List.take_length]
  rfl
end
section
open Go.RowKit
attribute [local go_sem]mk_bs bs_size bs_toList bs_append bs_extract
attribute [local simp]run_cut run_cut_to run_cut_from run_add_bs
theorem ticks_bad (v:Int)(d t:Bool)(w:World)(h:v < 1∨7 < v∨(d && t)=true):Calls Tryz.prog 121 #[.agg #[.int .i64 v,.bool d,.bool t]] w (Ret (.int .i64 0) w):=by
 by_cases h1:v < 1
 ·clear h
  go_enter Tryz.func121,Tryz.ntmps121
  go_wp2
  go_ret
  exact Ret.mk' rfl zqb
 ·by_cases h2:7 < v
  ·clear h
   go_enter Tryz.func121,Tryz.ntmps121
   go_wp2
   go_ret
   exact Ret.mk' rfl zqb
  ·have h3:d=true∧t=true:=by
    rcases h with h|h|h
    ·exact absurd h h1
    ·exact absurd h h2
    ·simpa using h
   obtain⟨rfl,rfl⟩:=h3
   clear h
   go_enter Tryz.func121,Tryz.ntmps121
   go_wp2
   go_ret
   exact Ret.mk' rfl zqb
theorem ticks_good (v:Int)(d t:Bool)(w:World)(hv:1≤v∧v≤7)(h:(d && t)=false):Calls Tryz.prog 121 #[.agg #[.int .i64 v,.bool d,.bool t]] w (Ret (.int .i64 (tkV v d t)) w):=by
  have h7:v=1∨v=2∨v=3∨v=4∨v=5∨v=6∨v=7:=by omega
  clear hv
  cases d<;>cases t
  all_goals first
    | (exfalso;revert h;decide)
    | (clear h
       rcases h7 with rfl|rfl|rfl|rfl|rfl|rfl|rfl
       all_goals
         go_enter Tryz.func121,Tryz.ntmps121
         go_wp2
         go_ret
         exact Ret.mk' rfl zqb)
theorem ticks_any (v:Int) (d t:Bool) (w:World):Calls Tryz.prog 121 #[.agg #[.int .i64 v,.bool d,.bool t]] w (Ret (.int .i64 (tkV v d t)) w):=by
 by_cases h:v<1∨7<v∨(d && t)=true
 ·have e:tkV v d t=0:=if_pos h
  rw [e];exact ticks_bad v d t w h
 ·exact ticks_good v d t w zqo (by cases hd:(d && t) with|false=>rfl|true=>exact absurd (.inr (.inr hd)) h)
end
end Go.Proofs.YtaeelcfjkhfpkaaGreat
