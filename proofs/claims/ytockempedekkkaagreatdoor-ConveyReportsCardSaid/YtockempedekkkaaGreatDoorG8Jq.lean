/- A walk that knows values as trees: whether a function value is nil. -/
import Derived.Test.YtockempedekkkaaGreatDoorFSJq
set_option maxHeartbeats 8000000
set_option maxRecDepth 100000
set_option linter.unusedVariables false
set_option linter.unusedSimpArgs false
namespace Go.Proofs.YtockempedekkkaaGreatDoor
section
open Go.RowKit
def eTx (t:List UInt8):List AV:=[.sc (.string (bs t))]
theorem Ctg.of_strs {B:World→View→Prop} {P:Program} {f:FuncId} {args:List AV} {xs:List Value} {T:TypeId} {L:List (List UInt8)} (hs:scs args=some xs)
  (h:∀ w F,B w F→Calls P f xs.toArray w fun e w'=>e=.returned (.slice (some ⟨w.heap.size,0,none⟩) L.length L.length)∧w'=w.alloc (.cells (L.map fun l=>Value.string (bs l)).toArray T)):Ctg B P f args (.ls 1 (L.map eTx)):=by
 intro w F vs hB hF hR
 have:vs=xs:=scs_of (G:=⟨F,fun _=>0,fun _=>0,fun _=>undef,fun _ _=>False⟩) hs hR.1 fun i av u a b=>.pu _ _ (hR.2 i av u a b)
 subst this
 refine (h w F hB).mono fun e w' ⟨he,hw⟩=>?_
 have hb:Below w.heap.size w w':=by subst hw;exact bel_alloc (Below.refl _ _) _
 have hcell:∀ (i:Nat) l,L[i]?=some l→w'.cell? ⟨w.heap.size,i,none⟩=some (.string (bs l)):=fun i l hl=>by
  have hh:w'.heap[w.heap.size]?=some (.cells (L.map fun l=>Value.string (bs l)).toArray T):=by
   subst hw
   show (w.heap.push _)[w.heap.size]?=_
   simp
  rw [Lib.cell_of_heap hh]
  simp [hl]
 refine ⟨_,newF F w w',he,hb,newF_le hF,newF_fw hF hb,newF_new,?_⟩
 have hlen:L.length=(L.map eTx).length:=by simp
 rw [hlen]
 refine .ls 1 (L.map eTx) _ _ ⟨w.heap.size,0,none⟩ (fun i j=>((L[i]?).map fun l=>Value.string (bs l)).getD undef) (by simp) (fun r hr=>?_) (fun _=>rfl) (fun i r j av hr hav=>?_) (fun i r j av hr hav=>?_)
 ·obtain ⟨l,_,rfl⟩:=List.mem_map.1 hr;rfl
 ·rw [List.getElem?_map] at hr
  cases hx:L[i]? with
  | none=>simp [hx] at hr
  | some l =>
   rw [hx] at hr
   obtain rfl:eTx l=r:=by simpa using hr
   match j,hav with
   | 0,hav =>
    refine ⟨?_,by simp [Value.oneCell']⟩
    unfold newF
    have e:Addr.add (⟨w.heap.size,0,none⟩:Addr) (i*1+0)=⟨w.heap.size,i,none⟩:=by
     simp [Addr.add]
     intro h;exact h.symm
    rw [e,if_neg (by show ¬ w.heap.size<w.heap.size;omega),hcell i l hx]
    simp
   | j+1,hav=>simp [eTx] at hav
 ·rw [List.getElem?_map] at hr
  cases hx:L[i]? with
  | none=>simp [hx] at hr
  | some l =>
   rw [hx] at hr
   obtain rfl:eTx l=r:=by simpa using hr
   match j,hav with
   | 0,hav =>
    obtain rfl:AV.sc (.string (bs l))=av:=by simpa [eTx] using hav
    simp [hx]
    exact .sc _
   | j+1,hav=>simp [eTx] at hav
theorem fields_G:Ctg tabR Tryz.prog 13 [.sc (.string (bs [110,111,116,101,32,114,105,103,104,116,32,103,114,97,99,101,32,104,111,108,100,32,116,104,114,101,101,32,115,105,103,110,32,116,105,101,32,114,101,115,116]))] (.ls 1 (rq_nmL.map eTx)) :=
 Ctg.of_strs (T:=9) rfl fun w F hB=>by
  have h:=Tryz.strings_Fields (bs [110,111,116,101,32,114,105,103,104,116,32,103,114,97,99,101,32,104,111,108,100,32,116,104,114,101,101,32,115,105,103,110,32,116,105,101,32,114,101,115,116]) w (by decide) (fun j b hb=>by
   have hm:=List.mem_of_getElem? hb
   rw [bs_data] at hm
   exact (by decide:∀ b∈([110,111,116,101,32,114,105,103,104,116,32,103,114,97,99,101,32,104,111,108,100,32,116,104,114,101,101,32,115,105,103,110,32,116,105,101,32,114,101,115,116]:List UInt8),b.toNat<128) b hm) hB.2.1
  rw [bs_data,rq_fields_nm] at h
  exact h
theorem split_G (t:List UInt8) (ht:t.length≤1000000):Ctg tabR Tryz.prog 20 [.sc (.string (bs t)),.sc (.string (bs [32]))] (.ls 1 ((rq_wds 32 t).map eTx)) :=
 Ctg.of_strs (T:=9) rfl fun w F hB=>by
  obtain ⟨m,hm⟩:=hB.2.2.1
  have h:=Tryz.strings_Split (bs t) (bs [32]) m w (by rw [bs_size];omega) hm (by decide)
  have hd:=Lib.splitB_data (bs [32]) 0 (Lib.countB (bs t) (bs [32])) (bs t)
  have hc:Lib.countB (bs t) (bs [32])=Lib.count t [32]:=by
   show Lib.count (bs t).data.toList (bs [32]).data.toList=_
   rw [bs_data,bs_data]
  rw [bs_data,bs_data,hc,rq_split_wds] at hd
  have hl:=rq_wds_len 32 t
  rw [hc] at h
  rw [hl]
  have hv:(Lib.splitB (bs [32]) 0 (Lib.count t [32]) (bs t)).map Value.string=(rq_wds 32 t).map fun l=>Value.string (bs l):=by
   rw [← hd,List.map_map]
   exact List.map_congr_left fun x _=>by
    show Value.string x=Value.string (bs x.data.toList)
    obtain ⟨l,rfl⟩:=bs_of x
    rw [bs_data]
  rw [hv] at h
  exact h
theorem cutAt_G (l r:List UInt8) (h:rq_NoB 10 l) (hl:l.length+r.length≤1000000):Ctg tabR Tryz.prog 19 [.sc (.string (bs (l++10::r))),.sc (.string (bs [10]))] (.tu [.sc (.string (bs l)),.sc (.string (bs r)),.sc (.bool true)]) :=
 Ctg.of_scR (v:=.tuple #[.string (bs l),.string (bs r),.bool true]) rfl (fun F=>.tu _ _ rfl fun i av u a b=>by
  match i with
  | 0=>cases a;cases b;exact .sc _
  | 1=>cases a;cases b;exact .sc _
  | 2=>cases a;cases b;exact .sc _
  | i+3=>simp at a) fun w F hB=>by
  obtain ⟨m,hm⟩:=hB.2.2.1
  have hc:=Tryz.strings_Cut (bs (l++10::r)) (bs [10]) m w (by rw [bs_size];simp;omega) hm
  rw [bs_data,bs_data,rq_cut_at h] at hc
  exact hc.mono fun e w' ⟨he,n,hw⟩=>⟨he,by subst hw;exact bel_drewN (Below.refl _ _) _⟩
theorem cutNo_G (l:List UInt8) (h:rq_NoB 10 l) (hl:l.length≤1000000):Ctg tabR Tryz.prog 19 [.sc (.string (bs l)),.sc (.string (bs [10]))] (.tu [.sc (.string (bs l)),.sc (.string (bs [])),.sc (.bool false)]) :=
 Ctg.of_scR (v:=.tuple #[.string (bs l),.string (bs []),.bool false]) rfl (fun F=>.tu _ _ rfl fun i av u a b=>by
  match i with
  | 0=>cases a;cases b;exact .sc _
  | 1=>cases a;cases b;exact .sc _
  | 2=>cases a;cases b;exact .sc _
  | i+3=>simp at a) fun w F hB=>by
  obtain ⟨m,hm⟩:=hB.2.2.1
  have hc:=Tryz.strings_Cut (bs l) (bs [10]) m w (by rw [bs_size];omega) hm
  rw [bs_data,bs_data,rq_cut_no h] at hc
  exact hc.mono fun e w' ⟨he,n,hw⟩=>⟨he,by subst hw;exact bel_drewN (Below.refl _ _) _⟩
theorem rp_tuR {F:View} {u v:Value}:RP F (.tu [.sc u,.sc v]) (.tuple #[u,v]):=.tu _ _ rfl fun i av x a b=>by
 match i with
 | 0=>cases a;cases b;exact .sc _
 | 1=>cases a;cases b;exact .sc _
 | i+2=>simp at a
def atS (t:List UInt8)(res:AV):Prop:=(∃ v,Lib.atoiAll t=.ok v∧res=.tu [.sc (.int .i64 v),.sc .nilIface])∨((∀ v,Lib.atoiAll t≠.ok v)∧∃ n T p,res=.tu [.sc (.int .i64 n),.sc (.iface T p)])
theorem atoi_G (t:List UInt8) (ht:t.length≤1000000):Ctgx tabR Tryz.prog 21 [.sc (.string (bs t))] (atS t) :=
 Ctgx.of_sc rfl fun w F hB=>by
  obtain ⟨_,_,_,⟨T1,p1,h1⟩,⟨T2,p2,h2⟩⟩:=hB
  rcases h:Lib.atoiAll t with v|_|_
  ·have hc:=Tryz.strconv_Atoi_ok (bs t) (by rw [bs_size];omega) v (by rw [bs_data];exact h) w
   refine hc.mono fun e w' ⟨he,hw⟩=>⟨.tu [.sc (.int .i64 v),.sc .nilIface],_,.inl ⟨v,h,rfl⟩,fun F=>rp_tuR,he,?_⟩
   rcases hw with rfl|⟨x,rfl⟩
   ·exact Below.refl _ _
   ·exact Lib.bytesWorld_below _ _ _
  ·have hc:=Tryz.strconv_Atoi_syntax (bs t) (by rw [bs_size];omega) (by rw [bs_data];exact h) _ w h1 (.inr ⟨T1,p1,rfl⟩)
   refine hc.mono fun e w' ⟨N,he,_,_,hw⟩=>⟨.tu [.sc (.int .i64 0),.sc (.iface _ (.pointer (some ⟨N,0,none⟩)))],_,.inr ⟨fun v hv=>(by rw [h] at hv;cases hv),0,_,_,rfl⟩,fun F=>rp_tuR,he,hw⟩
  ·have hc:=Tryz.strconv_Atoi_range (bs t) (by rw [bs_size];omega) (by rw [bs_data];exact h) _ w h2 (.inr ⟨T2,p2,rfl⟩)
   refine hc.mono fun e w' ⟨N,he,_,_,hw⟩=>⟨.tu [.sc (.int .i64 _),.sc (.iface _ (.pointer (some ⟨N,0,none⟩)))],_,.inr ⟨fun v hv=>(by rw [h] at hv;cases hv),_,_,_,rfl⟩,fun F=>rp_tuR,he,hw⟩
end
section
open Go.RowKit
structure Cg where
 ch:Stp→Stp×Bool
 mr:Stp→Stp
 ml:Stp→List Int
 tie:Nat→Ev→Bool
 bare:Nat→Bool
def Cg.mv (C:Cg)(x:Stp):Option Stp:=if (C.ch x).2=true then none else some (C.mr (C.ch x).1)
def nwS(C:Cg)(l:List Stp):List Stp:=l.filterMap C.mv
def nwT(C:Cg)(i:Nat)(e:Ev):Bool:=if e.stops.length=0 then C.tie i e else if(nwS C e.stops).length=0 then C.bare i else e.tie
def nwE(C:Cg)(i:Nat)(e:Ev):Ev:={ e with stops:=nwS C e.stops,tie:=nwT C i e }
def nwL (C:Cg)(evs:List Ev):List Ev:=evs.mapIdx (nwE C)
def ftH (evs:List Ev)(i:Nat)(y:Stp):Int:=if y.2.1=0 then 0 else min y.2.2.2.2 (longestN evs i y.1)
def znH (s:Int) (evs:List Ev) (i:Nat) (y:Stp):Int:=if okH s (ftH evs i y) (longestN evs i y.1)=true then ftH evs i y else 0
def stH(y:Stp)(h:Int):Stp:=(y.1,y.2.1,y.2.2.1,y.2.2.2.1,h)
def fnE (H:Nat→Stp→Int)(i:Nat)(e:Ev):Ev:={ e with stops:=e.stops.map fun y=>stH y (H i y) }
def fnL (H:Nat→Stp→Int)(evs:List Ev):List Ev:=evs.mapIdx (fnE H)
def evT(C:Cg)(i:Nat)(e:Ev):Int:=if e.stops.length=0 then(if e.tie=true∧C.tie i e=false then 7 else if e.tie=false∧C.tie i e=true then 8 else 0)else 0
def lsH(C:Cg)(i:Nat)(e:Ev):List Lck:=if evT C i e=0 then []else [((i:Int),0,evT C i e)]
def lsS (C:Cg)(H:Nat→Stp→Int)(i:Nat)(x:Stp):List Lck :=
 match C.mv x with
 | none=>[((i:Int),x.1,1)]
 | some y=>(C.ml (C.ch x).1).map (fun w=>((i:Int),x.1,w))++if H i y=x.2.2.2.2 then []else [((i:Int),x.1,4)]
def lsE (C:Cg)(H:Nat→Stp→Int)(i:Nat)(e:Ev):List Lck:=lsH C i e++e.stops.flatMap (lsS C H i)
def lsL(C:Cg)(H:Nat→Stp→Int)(evs:List Ev):Nat→List Lck
 | 0=>[]
 | k+1=>lsL C H evs k++(match evs[k]? with|some e=>lsE C H k e|none=>[])
theorem lsL_at {C:Cg} {H:Nat→Stp→Int} {evs:List Ev} {k:Nat} (h:k<evs.length):lsL C H evs (k+1)=lsL C H evs k++lsE C H k evs[k]:=by
 show lsL C H evs k++_=_
 rw [List.getElem?_eq_getElem h]
theorem nwL_len(C:Cg)(evs:List Ev):(nwL C evs).length=evs.length:=List.length_mapIdx
theorem fnL_len(H:Nat→Stp→Int)(evs:List Ev):(fnL H evs).length=evs.length:=List.length_mapIdx
theorem nwL_get {C:Cg} {evs:List Ev} {k:Nat} (h:k<evs.length):(nwL C evs)[k]'(by rw [nwL_len];exact h)=nwE C k evs[k]:=by
 unfold nwL;rw [List.getElem_mapIdx]
theorem fnL_get {H:Nat→Stp→Int} {evs:List Ev} {k:Nat} (h:k<evs.length):(fnL H evs)[k]'(by rw [fnL_len];exact h)=fnE H k evs[k]:=by
 unfold fnL;rw [List.getElem_mapIdx]
theorem nwS_len(C:Cg)(l:List Stp):(nwS C l).length≤l.length:=List.length_filterMap_le _ _
theorem nwS_snoc {C:Cg} {l:List Stp} {k:Nat} (h:k<l.length):nwS C (l.take (k+1))=nwS C (l.take k)++(match C.mv l[k]with|some y=>[y]|none=>[]):=by
 unfold nwS
 rw [List.take_succ_eq_append_getElem h,List.filterMap_append]
 congr 1
 rw [List.filterMap_cons,List.filterMap_nil]
 cases C.mv l[k]<;>rfl
theorem lsS_len {C:Cg} {H:Nat→Stp→Int} (hm:∀ y,(C.ml y).length≤2)(i:Nat)(x:Stp):(lsS C H i x).length≤3:=by
 unfold lsS
 split
 ·simp
 ·rw [List.length_append,List.length_map]
  have:=hm (C.ch x).1
  split
  ·simp;omega
  ·simp;omega
theorem lsF_len {C:Cg} {H:Nat→Stp→Int} (hm:∀ y,(C.ml y).length≤2)(i:Nat):∀ l:List Stp,(l.flatMap (lsS C H i)).length≤3*l.length
 | []=>by simp
 | x::r=>by
  have:=lsS_len (H:=H) hm i x
  have:=lsF_len (H:=H) hm i r
  simp only [List.flatMap_cons,List.length_append,List.length_cons];omega
theorem lsE_len {C:Cg} {H:Nat→Stp→Int} (hm:∀ y,(C.ml y).length≤2)(i:Nat)(e:Ev)(h:e.stops.length≤20):(lsE C H i e).length≤61:=by
 have:=lsF_len (H:=H) hm i e.stops
 unfold lsE lsH
 rw [List.length_append]
 split
 ·simp only [List.length_nil];omega
 ·simp only [List.length_cons,List.length_nil];omega
theorem lsL_len {C:Cg} {H:Nat→Stp→Int} (hm:∀ y,(C.ml y).length≤2) {evs:List Ev} (h20:∀ e∈evs,e.stops.length≤20):∀ k,k≤evs.length→(lsL C H evs k).length≤61*k
 | 0,_=>by simp [lsL]
 | k+1,hk=>by
  have:=lsL_len (H:=H) hm h20 k zqo
  have:=lsE_len (H:=H) hm k evs[k] (h20 _ (List.getElem_mem _))
  rw [lsL_at (by omega),List.length_append];omega
def crsE'(e:Ev):List Int×Bool:=(e.stops.map fun x=>x.1,restB e)
theorem hasB_crs(c:Int)(l:List Stp):hasB c l=(l.map fun x=>x.1).any fun x=>x == c:=by
 unfold hasB;rw [List.any_map];rfl
theorem runL_crs {c:Int}:∀ (k:Nat) {l m:List Ev},l.map crsE'=m.map crsE'→runL c k l=runL c k m
 | 0,l,m,_=>by simp [runL]
 | k+1,[],[],_=>rfl
 | k+1,[],y::m,h=>by simp at h
 | k+1,x::l,[],h=>by simp at h
 | k+1,x::l,y::m,h=>by
  rw [List.map_cons,List.map_cons] at h
  obtain⟨h1,h2⟩:=List.cons.inj h
  unfold crsE' at h1
  obtain⟨h3,h4⟩:=Prod.mk.inj h1
  have ih:=runL_crs (c:=c) k h2
  unfold runL
  rw [h4,hasB_crs,hasB_crs,h3,ih]
theorem longestN_crs {l m:List Ev} (h:l.map crsE'=m.map crsE') (i c:Int):longestN l i c=longestN m i c:=by
 have hl:l.length=m.length:=by have:=congrArg List.length h;simpa using this
 unfold longestN
 rw [hl,runL_crs 15 (l:=l.drop (i.toNat+1)) (m:=m.drop (i.toNat+1)) (by rw [List.map_drop,List.map_drop,h])]
theorem fnE_crs (H:Nat→Stp→Int)(i:Nat)(e:Ev):crsE' (fnE H i e)=crsE' e:=by
 unfold crsE' fnE restB stH
 simp [Function.comp_def]
theorem fnL_crs (H:Nat→Stp→Int)(evs:List Ev):(fnL H evs).map crsE'=evs.map crsE':=by
 apply List.ext_getElem (by simp [fnL])
 intro k h1 h2
 have hk:k<evs.length:=by simpa using h2
 rw [List.getElem_map,List.getElem_map,fnL_get hk,fnE_crs]
theorem longestN_fn (H:Nat→Stp→Int)(evs:List Ev)(i c:Int):longestN (fnL H evs) i c=longestN evs i c:=longestN_crs (fnL_crs H evs) i c
def fnN (H:Nat→Stp→Int)(evs:List Ev)(n k:Nat):List Ev:=evs.mapIdx fun i e=>if i<n then fnE H i e else if i=n then { e with stops:=(e.stops.take k).map (fun y=>stH y (H n y))++e.stops.drop k } else e
theorem fnN_len(H:Nat→Stp→Int)(evs:List Ev)(n k:Nat):(fnN H evs n k).length=evs.length:=List.length_mapIdx
theorem fnN_0 (H:Nat→Stp→Int)(evs:List Ev):fnN H evs 0 0=evs:=by
 apply List.ext_getElem (fnN_len _ _ _ _)
 intro i h1 h2
 simp only [fnN,List.getElem_mapIdx]
 by_cases e:i=0
 ·subst e;simp
 ·rw [if_neg (by omega),if_neg e]
theorem fnN_all (H:Nat→Stp→Int)(evs:List Ev):fnN H evs evs.length 0=fnL H evs:=by
 apply List.ext_getElem (by rw [fnN_len,fnL_len])
 intro i h1 h2
 have hi:i<evs.length:=by rw [fnL_len]at h2;exact h2
 simp only [fnN,fnL,List.getElem_mapIdx]
 rw [if_pos hi]
theorem fnN_crs (H:Nat→Stp→Int)(evs:List Ev)(n k:Nat):(fnN H evs n k).map crsE'=evs.map crsE':=by
 apply List.ext_getElem (by simp [fnN])
 intro i h1 h2
 have hk:i<evs.length:=by simpa using h2
 rw [List.getElem_map,List.getElem_map]
 simp only [fnN,List.getElem_mapIdx]
 split
 ·exact fnE_crs H i _
 ·split
  ·unfold crsE' restB
   have e1:((evs[i].stops.take k).map (fun y=>stH y (H n y))++evs[i].stops.drop k).map (fun x=>x.1)=evs[i].stops.map fun x=>x.1:=by
    rw [List.map_append,List.map_map,show ((fun x:Stp=>x.1) ∘ fun y=>stH y (H n y))=fun x:Stp=>x.1 from rfl,← List.map_append,List.take_append_drop]
   have e2:((evs[i].stops.take k).map (fun y=>stH y (H n y))++evs[i].stops.drop k).length=evs[i].stops.length:=by
    rw [List.length_append,List.length_map,List.length_take,List.length_drop];omega
   show (_,_)=(_,_)
   rw [e1,e2]
  ·rfl
theorem fnN_stops {H:Nat→Stp→Int} {evs:List Ev} {n k i:Nat} (h:i<evs.length):((fnN H evs n k)[i]'(by rw [fnN_len];exact h)).stops.length=evs[i].stops.length:=by
 simp only [fnN,List.getElem_mapIdx]
 split
 ·exact List.length_map _
 ·split
  ·show((evs[i].stops.take k).map _++evs[i].stops.drop k).length=_
   rw [List.length_append,List.length_map,List.length_take,List.length_drop];omega
  ·rfl
def fnK (H:Nat→Stp→Int)(n k:Nat)(l:List Stp):List Stp:=(l.take k).map (fun y=>stH y (H n y))++l.drop k
theorem fnK_0(H:Nat→Stp→Int)(n:Nat)(l:List Stp):fnK H n 0 l=l:=by unfold fnK;simp
theorem fnK_len(H:Nat→Stp→Int)(n k:Nat)(l:List Stp):(fnK H n k l).length=l.length:=by
 unfold fnK;rw [List.length_append,List.length_map,List.length_take,List.length_drop];omega
theorem fnK_get {H:Nat→Stp→Int} {n k:Nat} {l:List Stp} (h:k<l.length):(fnK H n k l)[k]?=some l[k]:=by
 unfold fnK
 have hl:((l.take k).map fun y=>stH y (H n y)).length=k:=by rw [List.length_map,List.length_take];omega
 rw [List.getElem?_append_right (by omega),hl,Nat.sub_self,List.getElem?_drop,Nat.add_zero,List.getElem?_eq_getElem h]
theorem fnK_put {H:Nat→Stp→Int} {n k:Nat} {l:List Stp} (h:k<l.length):(fnK H n k l).set k (stH l[k] (H n l[k]))=fnK H n (k+1) l:=by
 unfold fnK
 have hl:((l.take k).map fun y=>stH y (H n y)).length=k:=by rw [List.length_map,List.length_take];omega
 rw [List.set_append_right _ _ (by omega),hl,Nat.sub_self,List.drop_eq_getElem_cons h,List.set_cons_zero,List.take_succ_eq_append_getElem h,List.map_append,List.append_assoc];rfl
end
section
open Go.RowKit
def eKp (x:Stp×Bool):List AV:=[.sc (.int .i64 x.1.1),.sc (.int .i64 x.1.2.1),.sc (.int .i64 x.1.2.2.1),.sc (.int .i64 x.1.2.2.2.1),.sc (.int .i64 x.1.2.2.2.2),.sc (.bool x.2)]
def eRs (y:Stp)(c h:Int)(ml:List Int):List AV:=[.sc (.int .i64 y.1),.sc (.int .i64 y.2.1),.sc (.int .i64 y.2.2.1),.sc (.int .i64 y.2.2.2.1),.sc (.int .i64 y.2.2.2.2),.sc (.int .i64 c),.sc (.int .i64 h),.ls 1 (ml.map eInt)]
abbrev Nte:=Stp×Int×Int×List Int
def eNt(r:Nte):List AV:=eRs r.1 r.2.1 r.2.2.1 r.2.2.2
def eBl (b:Bool):List AV:=[.sc (.bool b)]
def oc1 (C:Cg)(x:Stp):Nte:=if (C.ch x).2=true then ((C.ch x).1,x.1,x.2.2.2.2,[])else (C.mr (C.ch x).1,x.1,x.2.2.2.2,C.ml (C.ch x).1)
def ocN (C:Cg)(l:List Stp):List Nte:=l.map (oc1 C)
def ocG(C:Cg)(l:List Stp):List Bool:=l.map fun x=>(C.ch x).2
def eOc (lost:Int)(ns:List Nte)(gs:List Bool):List AV:=[.sc (.int .i64 lost),.ls 8 (ns.map eNt),.ls 1 (gs.map eBl)]
def eEvS (e:Ev)(k:Nat):List AV:=[.sc (.bool e.bar),.sc (.int .i64 e.val),.sc (.bool e.dot),.sc (.bool e.three),.sc (.bool e.tie),.sl k]
theorem ocN_len(C:Cg)(l:List Stp):(ocN C l).length=l.length:=List.length_map _
theorem ocG_len(C:Cg)(l:List Stp):(ocG C l).length=l.length:=List.length_map _
theorem nw_rows (C:Cg) {l:List Stp} {k:Nat} (h:k<l.length):(nwS C (l.take k)).map eStp++(if (C.ch l[k]).2=true then []else [eStp (C.mr (C.ch l[k]).1)])=(nwS C (l.take (k+1))).map eStp:=by
 rw [nwS_snoc h,List.map_append]
 congr 1
 unfold Cg.mv
 cases (C.ch l[k]).2<;>rfl
theorem ocN_rows (C:Cg) {l:List Stp} {k:Nat} (h:k<l.length):(ocN C (l.take k)).map eNt++[eNt (if (C.ch l[k]).2=true then ((C.ch l[k]).1,l[k].1,l[k].2.2.2.2,[])else (C.mr (C.ch l[k]).1,l[k].1,l[k].2.2.2.2,C.ml (C.ch l[k]).1))]=(ocN C (l.take (k+1))).map eNt:=by
 unfold ocN
 rw [List.take_succ_eq_append_getElem h,List.map_append,List.map_append];rfl
theorem ocG_rows (C:Cg) {l:List Stp} {k:Nat} (h:k<l.length):(ocG C (l.take k)).map eBl++[eBl (C.ch l[k]).2]=(ocG C (l.take (k+1))).map eBl:=by
 unfold ocG
 rw [List.take_succ_eq_append_getElem h,List.map_append,List.map_append];rfl
end
section
open Go.RowKit
theorem stopE_of {p:Pce} {i:Int} {s:Stp} {last:Int} (h1:1≤s.1∧s.1≤p.cs.length) (h2:0≤s.2.1∧s.2.1≤fretsOf p.cs s.1) (h3:last<s.1) (h4:0≤s.2.2.1∧s.2.2.1≤3) (h5:0≤s.2.2.2.1∧s.2.2.2.1≤4)
  (h6:0≤s.2.2.2.2∧s.2.2.2.2≤longestN p.evs i s.1) (h7:0<s.2.2.2.2→s.2.1≠0):stopE p i s last=0 :=
 stopE_ok zqo zqo zqo zqo zqo
theorem stopsE_of {p:Pce} {i:Int}:∀ {l:List Stp} {last:Int},(∀ x∈l,last<x.1)→l.Pairwise (fun x y=>x.1<y.1)→(∀ x∈l,∀ la,la<x.1→stopE p i x la=0)→stopsE p i last l=0
 | [],_,_,_,_=>rfl
 | x::r,last,h1,h2,h3=>by
  have e:stopE p i x last=0:=h3 x (by simp) last (h1 x (by simp))
  unfold stopsE
  rw [if_neg (by rw [e];simp)]
  cases h2 with
  | cons a b=>exact stopsE_of (fun y hy=>a y hy) b fun y hy la hla=>h3 y (by simp [hy]) la hla
theorem pceE_of {p:Pce} (hI:insE p.cs p.st=0)(hn:p.evs.length≤400)(h:∀ k (hk:k<p.evs.length),evE p k p.evs[k]=0):pceE p=0:=by
 unfold pceE
 rw [if_neg (by simpa using hI),if_neg (by omega)]
 exact evsE_all fun k hk=>by rw [Nat.zero_add];exact h k hk
theorem evE_of {p:Pce} {i:Int} {e:Ev} (h1:sgOk e.val e.dot e.three=true)(h2:¬ (i=0∧e.val=0))(h3:¬ (e.tie=true∧(0<e.stops.length∨i=0)))(h4:stopsE p i 0 e.stops=0):evE p i e=0:=by
  unfold evE
  rw [if_neg (by rintro (h|h);· rw [h1]at h;cases h
                 · exact h2 h),if_neg h3]
  exact h4
structure CgOk (C:Cg)(p:Pce)(cs:List (Int×Int×Bool)):Prop where
 crs:∀ x y,C.mv x=some y→y.1=x.1∧y.2.2.2.2=x.2.2.2.2
 len:cs.length=p.cs.length
 bd:∀ k (hk:k<p.evs.length),∀ x∈p.evs[k].stops,∀ y,C.mv x=some y→(0≤y.2.1∧y.2.1≤fretsOf cs y.1)∧(0≤y.2.2.1∧y.2.2.1≤3)∧(0≤y.2.2.2.1∧y.2.2.2.1≤4)
 tie:∀ k (hk:k<p.evs.length),nwT C k p.evs[k]=true→0<k∧nwS C p.evs[k].stops=[]
theorem nwS_asc {C:Cg} (hc:∀ x y,C.mv x=some y→y.1=x.1∧y.2.2.2.2=x.2.2.2.2) {l:List Stp} (h:l.Pairwise fun x y=>x.1<y.1):(nwS C l).Pairwise fun x y=>x.1<y.1:=by
 unfold nwS
 refine List.Pairwise.filterMap C.mv (fun a a' hr b hb b' hb'=>?_) h
 have e1:=(hc a b hb).1
 have e2:=(hc a' b' hb').1
 omega
theorem nwS_mem {C:Cg} {l:List Stp} {y:Stp} (h:y∈nwS C l):∃ x∈l,C.mv x=some y:=List.mem_filterMap.1 h
theorem ftH_bd {evs:List Ev} {i:Nat} {y:Stp} (h:0≤y.2.2.2.2):0≤ftH evs i y∧ftH evs i y≤longestN evs i y.1∧(0<ftH evs i y→y.2.1≠0):=by
 unfold ftH
 split
 ·exact⟨by omega,by omega,fun h=>by omega⟩
 ·rename_i hy
  exact⟨by omega,by omega,fun _=>hy⟩
theorem map_stH_asc {f:Stp→Int} {l:List Stp} (h:l.Pairwise fun x y=>x.1<y.1):(l.map fun y=>stH y (f y)).Pairwise fun x y=>x.1<y.1:=by
 rw [List.pairwise_map];exact h
theorem cv_ok {C:Cg} {p:Pce} {cs:List (Int×Int×Bool)} {st:List Int} (h0:pceE p=0) (hI:insE cs st=0) (hC:CgOk C p cs) {H:Nat→Stp→Int}
  (hH:∀ i y,0≤y.2.2.2.2→0≤H i y∧H i y≤longestN (nwL C p.evs) i y.1∧(0 < H i y→y.2.1≠0)):pceE ⟨cs,st,fnL H (nwL C p.evs)⟩=0:=by
 obtain ⟨_,hn,_⟩:=pceE_zero h0
 refine pceE_of hI (by show (fnL H (nwL C p.evs)).length≤400;rw [fnL_len,nwL_len];exact hn) fun k hk=>?_
 have hk1:k < p.evs.length:=by
  have hk:k < (fnL H (nwL C p.evs)).length:=hk
  rw [fnL_len,nwL_len] at hk;exact hk
 have hk2:k < (nwL C p.evs).length:=by rw [nwL_len];exact hk1
 have hE:=evOk_of h0 hk1
 have hIn:=stopsIn_of h0 k hk1
 have e1:(fnL H (nwL C p.evs))[k]'hk=fnE H k (nwE C k p.evs[k]):=by rw [fnL_get hk2,nwL_get hk1]
 show evE _ _ ((fnL H (nwL C p.evs))[k]'hk)=0
 rw [e1]
 refine evE_of hE.sg hE.first ?_ ?_
 ·rintro ⟨ht,hh⟩
  have ht:nwT C k p.evs[k]=true:=ht
  obtain ⟨a,b⟩:=hC.tie k hk1 ht
  have hh:0 < ((nwS C p.evs[k].stops).map fun y=>stH y (H k y)).length∨(k:Int)=0:=hh
  rw [b] at hh
  rcases hh with hh|hh
  ·exact absurd hh (by simp)
  ·omega
 ·refine stopsE_of ?_ (map_stH_asc (nwS_asc hC.crs hE.asc)) ?_
  ·intro x hx
   obtain ⟨y,hy,rfl⟩:=List.mem_map.1 hx
   obtain ⟨z,hz,hm⟩:=nwS_mem hy
   have:=(hE.stops z hz).crs
   have e:=(hC.crs z y hm).1
   show (0:Int) < y.1
   omega
  ·intro x hx la hla
   obtain ⟨y,hy,rfl⟩:=List.mem_map.1 hx
   obtain ⟨z,hz,hm⟩:=nwS_mem hy
   have hz1:=hE.stops z hz
   have hcr:=hz1.crs
   have hzh:=hz1.hold
   obtain ⟨e1,e2⟩:=hC.crs z y hm
   obtain ⟨b1,b2,b3⟩:=hC.bd k hk1 z hz y hm
   obtain ⟨c1,c2,c3⟩:=hH k y zqo
   have hlen:=hC.len
   refine stopE_of ?_ b1 hla b2 b3 ?_ c3
   ·show 1≤y.1∧y.1≤cs.length
    omega
   ·show 0≤H k y∧H k y≤longestN (fnL H (nwL C p.evs)) k y.1
    rw [longestN_fn]
    exact ⟨c1,c2⟩
def crI(l:List Stp)(c:Int):Nat:=l.findIdx fun x=>x.1 == c
theorem crI_mem {l:List Stp} (ha:l.Pairwise fun x y=>x.1<y.1) {k:Nat} (h:k<l.length):crI l l[k].1=k:=by
 unfold crI
 rw [List.findIdx_eq h]
 refine⟨by simp,fun j hj=>?_⟩
 have:=List.pairwise_iff_getElem.1 ha j k (by omega) h hj
 simp;omega
def zrE(l:List Lck)(i:Nat)(e:Ev):Ev:={ e with stops:=e.stops.map fun y=>if((i:Int),y.1,(4:Int))∈l then stH y 0 else y }
def zrL (l:List Lck)(evs:List Ev):List Ev:=evs.mapIdx (zrE l)
theorem zrL_len(l:List Lck)(evs:List Ev):(zrL l evs).length=evs.length:=List.length_mapIdx
theorem mem_lkIf {ok:Bool} {i c w:Int} {x:Lck}:x∈lkIf ok i c w↔ok=false∧x=(i,c,w):=by
 unfold lkIf;cases ok<;>simp
theorem mem_head {s i c:Int} {e:Ev} {j:Int}:¬ (j,c,(4:Int))∈lackHead s i e:=by
 unfold lackHead
 intro h
 rcases List.mem_append.1 h with h|h
 ·split at h
  ·rw [mem_lkIf]at h;simp at h
  ·cases h
 rcases List.mem_append.1 h with h|h
 ·split at h
  ·rw [mem_lkIf]at h;simp at h
  ·cases h
 ·split at h
  ·rw [mem_lkIf]at h;simp at h
  ·split at h
   ·rw [mem_lkIf]at h;simp at h
   ·cases h
theorem mem_lackE {s:Int} {p:Pce} {i:Nat} {e:Ev} {j c:Int}:(j,c,(4:Int))∈lackE s p i e↔j=i∧∃ x∈e.stops,x.1=c∧pOk s x.1 x.2.1=true∧okH s x.2.2.2.2 (longestN p.evs i x.1)=false:=by
 unfold lackE
 rw [List.mem_append]
 constructor
 ·rintro (h|h)
  ·exact absurd h mem_head
  ·obtain ⟨x,hx,h⟩:=List.mem_flatMap.1 h
   unfold lackStop at h
   split at h
   ·simp at h
   ·rename_i hp
    rcases List.mem_append.1 h with h|h
    ·rw [mem_lkIf]at h;simp at h
    rcases List.mem_append.1 h with h|h
    ·rw [mem_lkIf]at h;simp at h
    ·rw [mem_lkIf]at h
     obtain ⟨h1,h2⟩:=h
     simp at h2
     exact ⟨h2.1,x,hx,h2.2.symm,by simpa using hp,h1⟩
 ·rintro ⟨rfl,x,hx,rfl,hp,ho⟩
  refine .inr (List.mem_flatMap.2 ⟨x,hx,?_⟩)
  unfold lackStop
  rw [if_neg (by rw [hp];simp)]
  exact List.mem_append.2 (.inr (List.mem_append.2 (.inr (mem_lkIf.2 ⟨ho,rfl⟩))))
theorem mem_lksTo {s:Int} {p:Pce} {j c:Int}:∀ {n:Nat},n≤p.evs.length→((j,c,(4:Int))∈lksTo s p n↔∃ (i:Nat) (hi:i<n) (hi2:i<p.evs.length),j=i∧∃ x∈p.evs[i].stops,x.1=c∧pOk s x.1 x.2.1=true∧okH s x.2.2.2.2 (longestN p.evs i x.1)=false)
 | 0,_=>by
  constructor
  ·intro h;cases h
  ·rintro ⟨i,hi,_⟩;omega
 | n+1,hn=>by
  rw [lksTo_at s p (by omega),List.mem_append,mem_lksTo (by omega),mem_lackE]
  constructor
  ·rintro (⟨i,hi,hi2,h⟩|⟨h1,h2⟩)
   ·exact ⟨i,by omega,hi2,h⟩
   ·exact ⟨n,by omega,by omega,h1,h2⟩
  ·rintro ⟨i,hi,hi2,h⟩
   by_cases e:i=n
   ·subst e;exact .inr ⟨h.1,h.2⟩
   ·exact .inl ⟨i,by omega,hi2,h⟩
theorem mem_crs {l:List Stp} (ha:l.Pairwise fun x y=>x.1<y.1) {x y:Stp} (hx:x∈l)(hy:y∈l)(h:x.1=y.1):x=y:=by
 obtain⟨i,hi,rfl⟩:=List.getElem_of_mem hx
 obtain⟨j,hj,rfl⟩:=List.getElem_of_mem hy
 have a:=crI_mem ha hi
 have b:=crI_mem ha hj
 rw [h]at a
 have e:i=j:=a.symm.trans b
 subst e;rfl
theorem zr_lks {s:Int} {p:Pce} (ha:∀ e∈p.evs,e.stops.Pairwise fun x y=>x.1<y.1)(hp:∀ e∈p.evs,∀ x∈e.stops,pOk s x.1 x.2.1=true) :
  zrL (lksTo s p p.evs.length) p.evs=fnL (fun i y=>if okH s y.2.2.2.2 (longestN p.evs i y.1)=true then y.2.2.2.2 else 0) p.evs:=by
 apply List.ext_getElem (by rw [zrL_len,fnL_len])
 intro i h1 h2
 have hi:i<p.evs.length:=by rw [fnL_len] at h2;exact h2
 simp only [zrL,fnL,List.getElem_mapIdx]
 unfold zrE fnE
 congr 1
 refine List.map_congr_left fun y hy=>?_
 have hm:p.evs[i]∈p.evs:=List.getElem_mem hi
 dsimp only
 by_cases ho:okH s y.2.2.2.2 (longestN p.evs i y.1)=true
 ·rw [if_pos ho,if_neg]
  ·rfl
  ·rw [mem_lksTo (Nat.le_refl _)]
   rintro⟨k,hk,hk2,e,x,hx,hxy,_,h5⟩
   obtain rfl:i=k:=by omega
   have:=mem_crs (ha _ hm) hx hy hxy
   subst this
   rw [ho] at h5;cases h5
 ·rw [if_neg ho,if_pos]
  rw [mem_lksTo (Nat.le_refl _)]
  exact⟨i,hi,hi,rfl,y,hy,rfl,hp _ hm y hy,by simpa using ho⟩
theorem zrL_nil (evs:List Ev):zrL [] evs=evs:=by
 apply List.ext_getElem (zrL_len _ _)
 intro i h1 h2
 simp only [zrL,List.getElem_mapIdx]
 unfold zrE
 simp
theorem zrL_other {l:List Lck} {x:Lck} (evs:List Ev)(h:x.2.2≠4):zrL (l++[x]) evs=zrL l evs:=by
 apply List.ext_getElem (by rw [zrL_len,zrL_len])
 intro i h1 h2
 simp only [zrL,List.getElem_mapIdx]
 unfold zrE
 congr 1
 refine List.map_congr_left fun y hy=>?_
 have e:(((i:Int),y.1,(4:Int))∈l++[x])↔((i:Int),y.1,(4:Int))∈l:=by
  rw [List.mem_append,List.mem_singleton]
  constructor
  ·rintro (h2|h2)
   ·exact h2
   ·rw [← h2] at h;exact absurd rfl h
  ·exact .inl
 by_cases hy:((i:Int),y.1,(4:Int))∈l
 ·rw [if_pos hy,if_pos (e.2 hy)]
 ·rw [if_neg hy,if_neg fun h=>hy (e.1 h)]
theorem zrL_hold {l:List Lck} {i k:Nat} {c:Int} {evs:List Ev} (ha:∀ e∈evs,e.stops.Pairwise fun x y=>x.1<y.1)(hi:i<evs.length)(hk:k<evs[i].stops.length)(hc:evs[i].stops[k].1=c) :
  zrL (l++[((i:Int),c,4)]) evs=(zrL l evs).set i { (zrE l i evs[i]) with stops:=(zrE l i evs[i]).stops.set k (stH evs[i].stops[k] 0) }:=by
 apply List.ext_getElem (by rw [zrL_len,List.length_set,zrL_len])
 intro j h1 h2
 have hj:j<evs.length:=by rw [zrL_len] at h1;exact h1
 rw [List.getElem_set]
 simp only [zrL,List.getElem_mapIdx]
 by_cases e:i=j
 ·subst e
  rw [if_pos rfl]
  unfold zrE
  congr 1
  apply List.ext_getElem (by simp)
  intro m m1 m2
  have hm:m<evs[i].stops.length:=by simpa using m1
  rw [List.getElem_map,List.getElem_set,List.getElem_map]
  by_cases e2:k=m
  ·subst e2
   rw [if_pos rfl,if_pos]
   rw [hc];simp
  ·rw [if_neg e2]
   have hne:evs[i].stops[m].1≠c:=by
    intro hh
    rw [← hc] at hh
    have a:=crI_mem (ha _ (List.getElem_mem hi)) hm
    have b:=crI_mem (ha _ (List.getElem_mem hi)) hk
    rw [hh] at a
    omega
   have e3:(((i:Int),evs[i].stops[m].1,(4:Int))∈l++[((i:Int),c,(4:Int))])↔((i:Int),evs[i].stops[m].1,(4:Int))∈l:=by
    rw [List.mem_append,List.mem_singleton]
    constructor
    ·rintro (h2|h2)
     ·exact h2
     ·simp at h2;exact absurd h2 hne
    ·exact .inl
   by_cases hy:((i:Int),evs[i].stops[m].1,(4:Int))∈l
   ·rw [if_pos hy,if_pos (e3.2 hy)]
   ·rw [if_neg hy,if_neg fun h=>hy (e3.1 h)]
 ·rw [if_neg e]
  unfold zrE
  congr 1
  refine List.map_congr_left fun y hy=>?_
  have e3:(((j:Int),y.1,(4:Int))∈l++[((i:Int),c,(4:Int))])↔((j:Int),y.1,(4:Int))∈l:=by
   rw [List.mem_append,List.mem_singleton]
   constructor
   ·rintro (h2|h2)
    ·exact h2
    ·simp at h2;omega
   ·exact .inl
  by_cases hy:((j:Int),y.1,(4:Int))∈l
  ·rw [if_pos hy,if_pos (e3.2 hy)]
  ·rw [if_neg hy,if_neg fun h=>hy (e3.1 h)]
theorem fnL_two (H H':Nat→Stp→Int)(evs:List Ev):fnL H' (fnL H evs)=fnL (fun i y=>H' i (stH y (H i y))) evs:=by
 apply List.ext_getElem (by rw [fnL_len,fnL_len,fnL_len])
 intro i h1 h2
 have hi:i<evs.length:=by rw [fnL_len] at h2;exact h2
 simp only [fnL,List.getElem_mapIdx]
 unfold fnE
 congr 1
 rw [List.map_map];rfl
theorem zn_two (s:Int) (evs:List Ev):fnL (fun i y=>if okH s y.2.2.2.2 (longestN (fnL (ftH evs) evs) i y.1)=true then y.2.2.2.2 else 0) (fnL (ftH evs) evs)=fnL (znH s evs) evs:=by
 rw [fnL_two]
 congr 1
 funext i y
 rw [longestN_fn]
 rfl
end
section
open Go.RowKit
theorem run_equalIn_fn {P:Program} (w:World)(d:Nat)(t:TypeId) {a b c} (f:Fn)(fs cs:Array Value)(h:P.underlying t=some (.func a b c)):(Op.equalIn (d+1) t (.func f fs cs) .nilFunc).run P w=.ok false w:=by
 simp [Op.equalIn,run_underlying h]
theorem run_equalIn_nn {P:Program} (w:World)(d:Nat)(t:TypeId) {a b c} (h:P.underlying t=some (.func a b c)):(Op.equalIn (d+1) t .nilFunc .nilFunc).run P w=.ok true w:=by
 simp [Op.equalIn,run_underlying h]
theorem run_neq_fn {P:Program} (w:World)(t:TypeId) {a b c} (f:Fn)(fs cs:Array Value)(h:P.underlying t=some (.func a b c)):(binOp .neq t (.func f fs cs) .nilFunc).run P w=.ok (.bool true) w:=by
 simp only [binOp]
 simp [Op.equal,Op.maxDepth,run_equalIn_fn w 9999 t f fs cs h]
theorem run_neq_nn {P:Program} (w:World)(t:TypeId) {a b c} (h:P.underlying t=some (.func a b c)):(binOp .neq t .nilFunc .nilFunc).run P w=.ok (.bool false) w:=by
 simp only [binOp]
 simp [Op.equal,Op.maxDepth,run_equalIn_nn w 9999 t h]
section
variable {P:Program} {C:Cx} {σ:St} {o:Oper}
def fnqV (P:Program)(σ:St):Op→Option Bool
 | .binOp .neq T x y _ =>
  match P.underlying T,σ.ev x,σ.ev y with
  | some (.func _ _ _),some (.fn _ _),some (.sc .nilFunc)=>some true
  | some (.func _ _ _),some (.sc .nilFunc),some (.sc .nilFunc)=>some false
  | _,_,_=>none
 | _=>none
theorem fnqV_of {b:Bool} (h:fnqV P σ o.op=some b):WV P C o σ (.sc (.bool b)):=by
 unfold fnqV at h
 split at h
 ·rename_i T x y Ty ho
  split at h
  ·rename_i a1 a2 a3 f caps hT hx hy
   cases h
   refine WV.val (fun G a w ok=>.sc _) fun G a w ok=>?_
   obtain⟨cs,e1,_,_⟩:=(ok.evr hx).2.fn_of
   have e2:=ok.evs hy
   have hrun:=run_neq_fn (P:=P) w T (.func f) #[] cs hT
   refine⟨.bool true,?_,.pu _ _ (.sc _)⟩
   unfold execOp
   simp only [ho,e1,e2,eqGuard,Sem.run_bind,Sem.run_pure,Result.andThen_ok,hrun]
   simp only [Bool.not_true,Bool.false_eq_true,if_false,Sem.run_bind,Sem.run_pure,Result.andThen_ok,hrun]
  ·rename_i a1 a2 a3 hT hx hy
   cases h
   refine WV.val (fun G a w ok=>.sc _) fun G a w ok=>?_
   have e1:=ok.evs hx
   have e2:=ok.evs hy
   have hrun:=run_neq_nn (P:=P) w T hT
   refine⟨.bool false,?_,.pu _ _ (.sc _)⟩
   unfold execOp
   simp only [ho,e1,e2,eqGuard,Sem.run_bind,Sem.run_pure,Result.andThen_ok,hrun]
   simp only [Bool.not_true,Bool.false_eq_true,if_false,Sem.run_bind,Sem.run_pure,Result.andThen_ok,hrun]
  ·cases h
 ·cases h
end
end
end Go.Proofs.YtockempedekkkaaGreatDoor
