/- Names of notes, the text of an instrument: the program. -/
import Derived.Test.YtgelfflighgajaaGreatDoorAlPTq
import Derived.Test.YtgelfflighgajaaGreatDoorRInsTq
set_option maxHeartbeats 4000000
set_option maxRecDepth 100000
set_option linter.unusedVariables false
set_option linter.unusedSimpArgs false
namespace Go.Proofs.YtgelfflighgajaaGreatDoor
open Go.RowKit
theorem z48o {p : Prop} (h : p := by omega) : p := h
theorem z48i {z : Int} (h : I64 z := by unfold I64; omega) : I64 z := h
theorem z48t {C : Cx} {σ σ' : St} (ρ : Nat → Nat) (ht : TrT σ ρ σ'.nk σ'.t := by repeat (first | exact trivial | refine ⟨⟨?_, ?_⟩, ?_⟩ | rfl)) (hm : TrM σ ρ σ'.nk σ'.M := by repeat (first | exact trivial | refine ⟨⟨?_, ?_, ?_⟩, ?_⟩ | rfl)) (hi : (injB ρ (σ'.M.map (·.1)) && pinB ρ σ'.nk C.np) = true := by rfl) : Tr C σ σ' := Tr.ren ρ ht hm hi
theorem z48u {C : Cx} {σ σ' : St} (ρ : Nat → Nat) (hm : TrM σ ρ σ'.nk σ'.M) (hi : (injB ρ (σ'.M.map (·.1)) && pinB ρ σ'.nk C.np) = true) (ht : TrT σ ρ σ'.nk σ'.t := by repeat (first | exact trivial | refine ⟨⟨?_, ?_⟩, ?_⟩ | rfl)) : Tr C σ σ' := Tr.ren ρ ht hm hi
theorem ownsRowF_base {w:World} {B e size n:Nat} {v:Value} {xs:List Value} (h:w.ownsRowF B e size v n xs):w.ownsRowF 0 e size v n xs:=by
 refine ⟨h.1,?_⟩
 rcases h.2 with x|⟨g,cap,cur,fz,e,hb,r⟩
 ·exact .inl x
 ·exact .inr ⟨g,cap,cur,fz,e,Nat.zero_le _,r⟩
theorem append_strF {P:Program} (w:World) (t u ty e:TypeId) (i:TypeInfo) (ht:P.underlying t=some (.slice e)) (hu:P.underlying u=some .string) (hi:P.info? e=some i) (hz:i.zero=some (.int .u8 0)) (hs1:i.size=1) (hby:i.bytes=1)
  (v:Value) (n:Nat) (xs:List Value) (hown:w.ownsRowF 0 e 1 v n xs) (s:ByteArray) (hb:n+s.size≤1000000000) :
  ∃ v' w',(Builtin.append_ #[t,u] ty #[v,.string s]).run P w=.ok v' w'∧w'.ownsRowF 0 e 1 v' (n+s.size) (xs++Lib.strCells s)∧w.grownBy w' v.ownBlock∧∀ g,v'.ownBlock=some g→v.ownBlock=some g∨w.heap.size≤g:=by
 rcases hown.2 with⟨rfl,rfl⟩|⟨g,cap,cur,fz,rfl,hbg,hg,hfz,hnc,hcm,hcs,htake⟩
 ·obtain ⟨v',w',h1,h2,h3,_⟩:=Lib.run_append_own_stringF (P:=P) w w.heap.size t u ty e i ht hu hi hz hs1 hby (.slice none 0 0) 0 xs ⟨hown.1,.inl ⟨rfl,rfl⟩⟩ s (by unfold maxLen;omega) z48o (Nat.le_refl _)
  exact ⟨v',w',h1,ownsRowF_base h2,h3,fun g hg=>.inr (h2.lt g hg).1⟩
 ·obtain ⟨v',w',h1,h2,h3,_⟩:=Lib.run_append_own_stringF (P:=P) w 0 t u ty e i ht hu hi hz hs1 hby _ n xs hown s (by unfold maxLen;omega) z48o (Nat.zero_le _)
  refine ⟨v',w',h1,h2,h3,fun g' hg'=>?_⟩
  have hxl:xs.length=n:=by simpa using hown.1
  have hcs1:cur.size=cap:=by simpa using hcs
  by_cases hroom:n+s.size≤cap
  ·have hr:=Lib.run_append_room_stringF (P:=P) w t u ty e i ht hu hi hs1 g n cap cur fz hg (by simpa using hfz) s hroom (by omega)
   rw [hr] at h1
   cases h1
   exact .inl hg'
  ·have hr:=Lib.run_append_grow_string (P:=P) w t u ty e i (.int .u8 0) ht hu hi hz ⟨g,0,none⟩ n cap xs (by rw [hs1];simpa using hxl) (hown.cells (g:=g) rfl) s (by omega) (by omega) (by rw [hby];exact growslice_fits (by omega) (by omega))
   rw [hr] at h1
   cases h1
   simp [Value.ownBlock] at hg'
   right;omega
theorem run_appendStr {P:Program} {o:Oper} {a:Act} {w w':World} {x y:Operand} {T U:TypeId} {s:ByteArray} {v v':Value} {N:Act→World→Prop} {Q':Exit→Act→World→Prop} (ho:o.op=.call { callee:=.builtin .append,args:=#[x,y],argTypes:=#[T,U] })(ex:a.eval x=v)(ey:a.eval y=.string s)
  (hrun:(Builtin.append_ #[T,U] o.type #[v,.string s]).run P w=.ok v' w')(hN:N (a.put o.dst v') w'):o.wp P a w N Q':=by
 unfold Oper.wp execOp
 have hargs:(#[x,y]:Array Operand).map a.eval=#[v,.string s]:=by simp [ex,ey]
 simp only [ho,resolve,invoke,builtin,Sem.run_bind,Sem.run_pure,Result.andThen_ok,hargs,hrun,Oper.upon]
 exact hN
theorem strCells_bs (s:List UInt8):Lib.strCells (bs s)=Lib.byteCells s:=by
 unfold Lib.strCells Lib.byteCells
 rfl
theorem bldSize:(Tryz.prog.info? 109).map (·.size)=some 2:=by kernel_rfl
theorem bldLies:liesAt Tryz.prog Tryz.prog.depth 109 (2/Tryz.prog.cellsOf 109) 0 109 1=true:=by kernel_rfl
theorem byteInfo:(Tryz.prog.info? 5).map (fun i=>(i.zero,i.size,i.bytes))=some (some (.int .u8 0),1,1):=by kernel_rfl
theorem byteCellsOf:Tryz.prog.cellsOf 5=1:=by kernel_rfl
theorem bld_copy_used (b:Nat) (w:World) (h0:w.cell? ⟨b,0,none⟩=some (.pointer (some ⟨b,0,none⟩))) :
  Calls Tryz.prog 125 #[.pointer (some ⟨b,0,none⟩)] w fun e w'=>e=.returned (.tuple #[])∧w'=w:=by
 obtain ⟨j,hj,_⟩:=Option.map_eq_some_iff.1 bldSize
 go_enter Tryz.func125,Tryz.ntmps125
 go_wp2
 rw [Lib.run_neq_ptr_same w _ Tryz.underlying107 hj]
 go_wp2
 go_end0
 exact ⟨rfl,rfl⟩
theorem bld_copy_fresh (b:Nat) (w:World) (h0:w.cell? ⟨b,0,none⟩=some (.pointer none)) (hsh:w.shape? b=some (109,2)) (hfz:w.frozen? ⟨b,0,none⟩=false) :
  Calls Tryz.prog 125 #[.pointer (some ⟨b,0,none⟩)] w fun e w'=>e=.returned (.tuple #[])∧w'=w.setCell ⟨b,0,none⟩ (.pointer (some ⟨b,0,none⟩)):=by
 obtain ⟨j,hj,hjs⟩:=Option.map_eq_some_iff.1 bldSize
 go_enter Tryz.func125,Tryz.ntmps125
 go_wp2
 rw [Lib.run_to_unsafe w ⟨b,0,none⟩ Tryz.underlying107 Tryz.underlying266 hj (by rw [hjs];decide) hsh (Nat.zero_lt_succ 1)]
 simp only [Result.andThen]
 rw [Oper.upon_value]
 go_wp2
 rw [run_callFunc_extern Tryz.func184 (by kernel_rfl) (by kernel_rfl) (by kernel_rfl) (e:=Extern.AbiNoEscape.same) (by kernel_rfl)]
 rw [Lib.run_noEscape]
 simp only [Result.andThen]
 rw [Oper.upon_value]
 go_wp2
 rw [Lib.run_from_unsafe w ⟨b,0,none⟩ Tryz.underlying266 Tryz.underlying107 hj hsh bldLies]
 simp only [Result.andThen]
 rw [Oper.upon_value]
 go_wp2
 go_end0
 exact ⟨rfl,rfl⟩
theorem bld_copy (w:World) (b:Nat) (p v:Value) (hp:p=.pointer none∨p=.pointer (some ⟨b,0,none⟩)) (hbk:w.heap[b]?=some (.cells #[p,v] 109 (0,0))) :
  Calls Tryz.prog 125 #[.pointer (some ⟨b,0,none⟩)] w fun e w'=>e=.returned (.tuple #[])∧w'.heap[b]?=some (.cells #[.pointer (some ⟨b,0,none⟩),v] 109 (0,0))∧Kept (fun x=>x=b) w w'∧w'.heap.size=w.heap.size:=by
 have c0:w.cell? ⟨b,0,none⟩=some p:=by rw [Lib.cell_of_heap hbk];rfl
 rcases hp with rfl|rfl
 ·refine (bld_copy_fresh b w c0 (by simp [World.shape?,hbk]) (Lib.frozen_of_heap hbk 0)).mono ?_
  rintro e w' ⟨rfl,rfl⟩
  refine ⟨rfl,heap_setCell_same w b 0 _ _ _ hbk,⟨rfl,rfl,rfl,by simp [World.setCell],fun k hk hne=>heap_setCell_other w _ k _ hne⟩,by simp [World.setCell]⟩
 ·refine (bld_copy_used b w c0).mono ?_
  rintro e w' ⟨rfl,rfl⟩
  exact ⟨rfl,hbk,Kept.refl _ _,rfl⟩
theorem bldW_ok:BldW Tryz.prog 58 109 5:=by
 intro w b φ l s hφ h hl
 obtain ⟨p,v,hp,hbk,hown,hfp⟩:=h
 obtain ⟨i0,hi,hz0,hz1,hz2⟩:=info_parts (P:=Tryz.prog) byteInfo
 have hblt:b < w.heap.size:=(Array.getElem?_eq_some_iff.1 hbk).1
 go_enter Tryz.func58,Tryz.ntmps58
 go_wp2_with (go_at_call 125;refine (bld_copy w b p v hp hbk).mono ?_)
 rintro e w1 ⟨rfl,hb1,hk1,hs1⟩
 have hown1:w1.ownsRowF 0 5 1 v l.length (Lib.byteCells l):=ownsRowF_keep hown fun g hg=>hk1.block g (hown.lt g hg).2 (fun e=>(hfp g hg).2 e)
 have c0:w1.cell? ⟨b,0,none⟩=some (.pointer (some ⟨b,0,none⟩)):=by rw [Lib.cell_of_heap hb1];rfl
 have c1:w1.cell? ⟨b,1,none⟩=some v:=by rw [Lib.cell_of_heap hb1];rfl
 obtain ⟨v',w2,hrun,hown',hgrow,hnew⟩:=append_strF (P:=Tryz.prog) w1 57 9 57 5 i0 Tryz.underlying57 Tryz.underlying9 hi hz0 hz1 hz2 v l.length _ hown1 (bs s) (by rw [bs_size];omega)
 obtain ⟨ao,n',cap,rfl⟩:∃ ao n' cap,v'=.slice ao n' cap:=by
  rcases hown'.2 with ⟨hv,_⟩|⟨g,cap,cur,fz,hv,_⟩
  ·exact ⟨_,_,_,hv⟩
  ·exact ⟨_,_,_,hv⟩
 have hb2:w2.heap[b]?=some (.cells #[.pointer (some ⟨b,0,none⟩),v] 109 (0,0)):=by
  rw [hgrow.block b (by omega) (fun e=>(hfp b e.symm).2 rfl)]
  exact hb1
 have d0:w2.cell? ⟨b,0,none⟩=some (.pointer (some ⟨b,0,none⟩)):=by rw [Lib.cell_of_heap hb2];rfl
 have d1:w2.cell? ⟨b,1,none⟩=some v:=by rw [Lib.cell_of_heap hb2];rfl
 have f1:w2.frozen? ⟨b,1,none⟩=false:=Lib.frozen_of_heap hb2 1
 have hsz:w.heap.size≤w2.heap.size:=by have:=hgrow.size;omega
 have hvb:∀ g,(Value.slice ao n' cap).ownBlock=some g→φ g∨(w.heap.size≤g∧g < w2.heap.size):=fun g hg=>by
  rcases hnew g hg with h|h
  ·exact .inl (hfp g h).1
  ·exact .inr ⟨by omega,(hown'.lt g hg).2⟩
 have hvb2:∀ g,(Value.slice ao n' cap).ownBlock=some g→g≠b:=fun g hg e=>by
  rcases hnew g hg with h|h
  ·exact (hfp g h).2 e
  ·omega
 go_wp2_with (at_builtin;refine wpList_plain rfl fun K hK=>run_appendStr rfl rfl rfl hrun (hK _ _ ?_))
 go_ret2
 refine ⟨by rw [bs_size];rfl,⟨?_,?_,?_,by simp [World.setCell];exact hsz,fun k hk hn=>?_⟩,.pointer (some ⟨b,0,none⟩),.slice ao n' cap,.inr rfl,?_,?_,fun g hg=>⟨?_,hvb2 g hg⟩⟩
 ·exact hgrow.os.trans hk1.os
 ·exact hgrow.tape.trans hk1.tape
 ·exact hgrow.output.trans hk1.output
 ·have hkb:k≠b:=fun e=>hn (e ▸ hφ)
  simp only [World.setCell,Array.getElem?_modify]
  rw [if_neg (fun h=>hkb h.symm),hgrow.block k (by omega) (fun e=>hn (hfp k e.symm).1)]
  exact hk1.block k hk hkb
 ·exact heap_setCell_same w2 b 1 _ _ _ hb2
 ·have:=ownsRowF_keep (w':=w2.setCell ⟨b,1,none⟩ (.slice ao n' cap)) hown' fun g hg=>by
   simp only [World.setCell,Array.getElem?_modify]
   rw [if_neg (fun h=>hvb2 g hg h.symm)]
  rw [bs_size] at this
  simpa [strCells_bs,Lib.byteCells,List.length_append] using this
 ·rcases hvb g hg with h|h
  ·exact .inl h
  ·exact .inr ⟨h.1,by simpa [World.setCell] using h.2⟩
theorem bldS_ok:BldS Tryz.prog 59 109 5:=by
 intro w b φ l hφ h h0
 obtain ⟨p,v,hp,hbk,hown,hfp⟩:=h
 have hl0:l.length≠0:=by simpa using h0
 obtain ⟨g,cap,cur,fz,rfl,hbg,hg,hfz,hnc,hcm,hcs,htake⟩:∃ g cap cur fz,v=.slice (some ⟨g,0,none⟩) l.length cap∧0≤g∧w.heap[g]?=some (.cells cur 5 fz)∧fz.2≤l.length*1∧l.length≤cap∧cap≤maxLen∧cur.size=cap*1∧cur.toList.take (l.length*1)=Lib.byteCells l:=by
  rcases hown.2 with⟨_,hz⟩|⟨g,cap,cur,fz,hv,r⟩
  ·exact absurd hz hl0
  ·exact ⟨g,cap,cur,fz,hv,r⟩
 have hgb:g≠b:=(hfp g rfl).2
 have c1:w.drew.cell? ⟨b,1,none⟩=some (.slice (some ⟨g,0,none⟩) l.length cap):=by
  have:w.drew.heap[b]?=some (.cells #[p,.slice (some ⟨g,0,none⟩) l.length cap] 109 (0,0)):=hbk
  rw [Lib.cell_of_heap this];rfl
 have hUS:(Builtin.unsafeString_ #[202,3] 9 #[.pointer (some ⟨g,0,none⟩),.int .i64 l.length]).run Tryz.prog w.drew=.ok (.string ⟨l.toArray⟩) (w.drew.freeze ⟨g,0,none⟩ l.length):=by
  have hg':w.drew.heap[g]?=some (.cells cur 5 fz):=hg
  refine Lib.run_unsafeString_row w.drew 202 3 9 5 Tryz.underlying202 byteCellsOf g cur.size (by simp [World.shape?,hg']) l h0 (by omega) (by unfold maxLen at hcm;omega) ?_
  intro j x hx
  exact hown.cells (g:=g) rfl j (.int .u8 x.toNat) (by simp [Lib.byteCells,hx])
 have hSD:(Builtin.unsafeSliceData_ #[57] 202 #[.slice (some ⟨g,0,none⟩) l.length cap]).run Tryz.prog w.drew=.ok (.pointer (some ⟨g,0,none⟩)) w.drew :=
  Lib.run_unsafeSliceData_row _ _ _ _ _ _ z48o
 have hother:∀ k,k≠g→(w.drew.freeze ⟨g,0,none⟩ l.length).heap[k]?=w.heap[k]?:=fun k hk=>by
  unfold World.freeze
  rw [if_neg hl0]
  simp only [Array.getElem?_modify]
  rw [if_neg (fun h=>hk h.symm)]
  rfl
 have hsize:(w.drew.freeze ⟨g,0,none⟩ l.length).heap.size=w.heap.size:=by
  unfold World.freeze
  rw [if_neg hl0]
  simp only [Array.size_modify]
  rfl
 have hkept:Kept φ w (w.drew.freeze ⟨g,0,none⟩ l.length):=by
  refine ⟨?_,?_,?_,Nat.le_of_eq hsize.symm,fun k hk hn=>hother k fun e=>hn (e ▸ (hfp g rfl).1)⟩
  all_goals (unfold World.freeze;rw [if_neg hl0];rfl)
 have hbld:BldIs (w.drew.freeze ⟨g,0,none⟩ l.length) 109 5 b (fun x=>φ x∨(w.heap.size≤x∧x<(w.drew.freeze ⟨g,0,none⟩ l.length).heap.size)) l:=by
  have hA:Lib.BuilderAtF 109 5 0 b p (Lib.byteCells l) w.drew:=⟨Nat.zero_le _,_,hbk,by rw [Lib.byteCells_length];exact hown,fun e=>(hfp b e).2 rfl⟩
  obtain ⟨_,v2,hb2,hown2,_⟩:=hA.froze (g:=g) (cap:=cap) (by rw [Lib.byteCells_length];exact c1)
  rw [Lib.byteCells_length] at hb2 hown2
  rw [hother b (fun e=>hgb e.symm),hbk] at hb2
  have ev:v2=.slice (some ⟨g,0,none⟩) l.length cap:=by
   simp only [Option.some.injEq,Obj.cells.injEq] at hb2
   have:=hb2.1
   simp at this
   exact this.symm
  subst ev
  exact ⟨p,_,hp,(hother b (fun e=>hgb e.symm)).trans hbk,hown2,fun x hx=>⟨.inl (hfp x hx).1,(hfp x hx).2⟩⟩
 have mixed:Tryz.prog.follows .mixedOrders=true:=by kernel_rfl
 go_enter Tryz.func59,Tryz.ntmps59
 go_wp2
 go_region_o
 all_goals (go_wp2;go_ret;exact ⟨rfl,hkept,hbld⟩)
end Go.Proofs.YtgelfflighgajaaGreatDoor
namespace Go.Proofs.YtgelfflighgajaaGreatDoor
open Go.RowKit
theorem pSounding_G (l al o:Int):Ctg tabB Tryz.prog 210 [.ag [.sc (.int .i64 l),.sc (.int .i64 al),.sc (.int .i64 o)]] (.tu [.sc (.int .i64 (sndR l al o)),.sc (.int .i64 (sndX l al o))]):=by
 refine Ctg.intro stabB Tryz.func210 rfl Tryz.ntmps210 (Nat.le_of_ble_eq_true rfl) (bd_all rfl) fun w0 F0 hB=>?_;dsimp only [St.init,number,Nat.reduceAdd]
 have hc:(l < 0∨(¬ l < 0∧7≤l)∨(¬ l < 0∧¬ 7≤l∧al < -1)∨(¬ l < 0∧¬ 7≤l∧¬ al < -1∧1 < al)∨(¬ l < 0∧¬ 7≤l∧¬ al < -1∧¬ 1 < al∧o < -1)∨(¬ l < 0∧¬ 7≤l∧¬ al < -1∧¬ 1 < al∧¬ o < -1∧9 < o))∨sndIn l al o:=by unfold sndIn;omega
 rcases hc with hc|hc
 ·have hno:=sndOk_out (l:=l) (al:=al) (o:=o) (by unfold sndIn;omega)
  rw [(snd_no hno).1,(snd_no hno).2]
  rcases hc with h|h|h|h|h|h
  all_goals
   repeat (first|refine W.gob rfl ?_|refine WL.nil ?_|refine WL.bt rfl rfl rfl z48o ?_|refine WL.bf rfl rfl rfl z48o ?_|refine WL.e1 rfl ?_|refine WL.gyes rfl rfl rfl rfl ?_|refine WL.opno rfl rfl rfl rfl rfl rfl rfl ?_|refine W.condT rfl ?_)
   refine (?_:W _ _ _ _ _)
   exact W.ret (fin2 rfl rfl rfl rfl rfl rfl rfl)
 ·obtain ⟨⟨h1,h2⟩,⟨h3,h4⟩,h5,h6⟩:=id hc
  have hbd:=basV_bd ⟨h1,h2⟩
  have htab:=tab_bases ⟨h1,h2⟩
  have hin:=sndOk_in hc
  have hv:sndV l al o=12*(o+1)+basV l+al:=rfl
  have hR:sndOk l al o=true→sndR l al o=12*(o+1)+basV l+al:=fun h=>(snd_ok h).1
  obtain ⟨b,hb⟩:∃ b,basV l=b:=⟨_,rfl⟩
  rw [hb] at hbd htab hv hR
  repeat (first|refine W.gob rfl ?_|refine WL.nil ?_|refine WL.bf rfl rfl rfl z48o ?_|refine WL.e1 rfl ?_|refine WL.gyes rfl rfl rfl rfl ?_|refine W.condF rfl ?_)
  refine (?_:W _ _ _ _ _)
  refine W.drawK (by kernel_rfl) (by kernel_rfl) ?_
  repeat (first|refine DK.st rfl ?_|refine DK.ar rfl rfl z48i ?_)
  refine DK.glob hB rfl rfl ⟨h1,by omega⟩ htab rfl ?_
  repeat (first|refine DK.st rfl ?_|refine DK.ar rfl rfl z48i ?_|refine DK.nil ?_)
  by_cases hr:0≤12*(o+1)+b+al∧12*(o+1)+b+al≤127
  ·have hok:sndOk l al o=true:=by rw [hin,hv];simpa using hr
   rw [hR hok,(snd_ok hok).2]
   repeat (first|refine W.gob rfl ?_|refine WL.nil ?_|refine WL.bf rfl rfl rfl z48o ?_|refine WL.e1 rfl ?_|refine WL.gyes rfl rfl rfl rfl ?_|refine W.condF rfl ?_)
   refine (?_:W _ _ _ _ _)
   exact W.ret (fin2 rfl rfl rfl rfl rfl rfl rfl)
  ·have hok:sndOk l al o=false:=by rw [hin,hv];simpa using hr
   rw [(snd_no hok).1,(snd_no hok).2]
   have hr2:(12*(o+1)+b+al < 0)∨(¬ 12*(o+1)+b+al < 0∧127 < 12*(o+1)+b+al):=by omega
   rcases hr2 with h|h
   all_goals
    repeat (first|refine W.gob rfl ?_|refine WL.nil ?_|refine WL.bt rfl rfl rfl z48o ?_|refine WL.bf rfl rfl rfl z48o ?_|refine WL.e1 rfl ?_|refine WL.gyes rfl rfl rfl rfl ?_|refine WL.opno rfl rfl rfl rfl rfl rfl rfl ?_|refine W.condT rfl ?_)
    refine (?_:W _ _ _ _ _)
    exact W.ret (fin2 rfl rfl rfl rfl rfl rfl rfl)
theorem pSpell_G (p key:Int):Ctg tabB Tryz.prog 169 [.sc (.int .i64 p),.sc (.int .i64 key)] (.tu [eSp (spV p key),.sc (.int .i64 (spX p key))]):=by
 refine Ctg.intro stabB Tryz.func169 rfl Tryz.ntmps169 (Nat.le_of_ble_eq_true rfl) (bd_all rfl) fun w0 F0 hB=>?_;dsimp only [St.init,number,Nat.reduceAdd]
 by_cases hp:0≤p∧p≤127
 rotate_left
 ·rw [(sp_pitch hp).1,(sp_pitch hp).2]
  have hp2:p < 0∨(¬ p < 0∧127 < p):=by omega
  rcases hp2 with h|h
  all_goals
   repeat (first|refine W.gob rfl ?_|refine WL.nil ?_|refine WL.bt rfl rfl rfl z48o ?_|refine WL.bf rfl rfl rfl z48o ?_|refine WL.e1 rfl ?_|refine WL.gyes rfl rfl rfl rfl ?_|refine WL.opno rfl rfl rfl rfl rfl rfl rfl ?_|refine W.condT rfl ?_)
   refine (?_:W _ _ _ _ _)
   exact W.ret (finN rfl rfl rfl rfl)
 by_cases hk:-4≤key∧key≤4
 rotate_left
 ·rw [(sp_arg hp hk).1,(sp_arg hp hk).2]
  have hk2:key < -4∨(¬ key < -4∧4 < key):=by omega
  rcases hk2 with h|h
  all_goals
   repeat (first|refine W.gob rfl ?_|refine WL.nil ?_|refine WL.bt rfl rfl rfl z48o ?_|refine WL.bf rfl rfl rfl z48o ?_|refine WL.e1 rfl ?_|refine WL.gyes rfl rfl rfl rfl ?_|refine WL.opno rfl rfl rfl rfl rfl rfl rfl ?_|refine W.condT rfl ?_|refine W.condF rfl ?_)
   refine (?_:W _ _ _ _ _)
   exact W.ret (finN rfl rfl rfl rfl)
 repeat (first|refine W.gob rfl ?_|refine WL.nil ?_|refine WL.bf rfl rfl rfl z48o ?_|refine WL.e1 rfl ?_|refine WL.gyes rfl rfl rfl rfl ?_|refine W.condF rfl ?_)
 refine (?_:W _ _ _ _ _)
 refine W.loop (fun k:Nat=>k≤7∧∀ m,m < 3*k→spN p key m=false) (fun k=>⟨[(0,.sc (.int .i64 p)),(1,.sc (.int .i64 key)),(4,.pt 0 0 0),(27,.sc (.int .i64 k))],[(0,.box 235 [.sc (.int .i64 0),.sc (.int .i64 0),.sc (.int .i64 0)])],1⟩) (fun k=>7 - k) 0 ⟨by omega,by omega⟩ (z48t id) fun k hk0=>?_
 obtain ⟨hk7,hno⟩:=hk0
 by_cases hlt:k < 7
 rotate_left
 ·have hn:spP p key=none:=by unfold spP;rw [find_no fun m hm=>hno m (by omega)];rfl
  rw [(sp_none hp hk hn).1,(sp_none hp hk hn).2]
  repeat (first|refine W.gob rfl ?_|refine WL.nil ?_|refine WL.bf rfl rfl rfl z48o ?_|refine WL.e1 rfl ?_|refine W.condF rfl ?_)
  refine (?_:W _ _ _ _ _)
  exact W.ret (finN rfl rfl rfl rfl)
 repeat (first|refine W.gob rfl ?_|refine WL.nil ?_|refine WL.bt rfl rfl rfl z48o ?_|refine WL.e1 rfl ?_|refine W.condT rfl ?_)
 refine (?_:W _ _ _ _ _)
 refine W.loop (fun j:Nat=>j≤3∧∀ m,m < 3*k+j→spN p key m=false) (fun j=>⟨[(0,.sc (.int .i64 p)),(1,.sc (.int .i64 key)),(4,.pt 0 0 0),(6,.sc (.int .i64 k)),(7,.sc (.int .i64 ((j:Int) - 1))),(27,.sc (.int .i64 k))],[(0,.box 235 [.sc (.int .i64 0),.sc (.int .i64 0),.sc (.int .i64 0)])],1⟩) (fun j=>3 - j) 0 ⟨by omega,by simpa using hno⟩ (z48t id) fun j hj0=>?_
 obtain ⟨hj3,hno2⟩:=hj0
 by_cases hj:j < 3
 rotate_left
 ·repeat (first|refine W.gob rfl ?_|refine WL.nil ?_|refine WL.bf rfl rfl rfl z48o ?_|refine WL.e1 rfl ?_|refine WL.ar rfl rfl z48i ?_|refine W.condF rfl ?_)
  refine ⟨k+1,⟨by omega,fun m hm=>hno2 m z48o⟩,by omega,?_⟩
  exact (z48t id)
 have hl:0≤(k:Int)∧(k:Int)≤6:=by omega
 have htf:=tab_fifths hl
 have htb:=tab_bases hl
 have hfb:=ftV_bd hl
 have hbb:=basV_bd hl
 have e3:(3*k+j)/3=k:=by omega
 have e4:(3*k+j) % 3=j:=by omega
 have hN:spN p key (3*k+j)=(decide (key - 3≤ftV k+7*((j:Int) - 1)∧ftV k+7*((j:Int) - 1)≤key+8) && (sndOk k ((j:Int) - 1) ((p - ((j:Int) - 1) - basV k+12)/12 - 2) && decide (sndV k ((j:Int) - 1) ((p - ((j:Int) - 1) - basV k+12)/12 - 2)=p))):=by
  unfold spN spC spWin spO;rw [e3,e4]
 have hfound:spN p key (3*k+j)=true→spP p key=some ((k:Int),(j:Int) - 1,(p - ((j:Int) - 1) - basV k+12)/12 - 2):=fun h=>by
  unfold spP
  rw [find_at hno2 h (by omega)]
  unfold spO
  simp only [Option.map_some,e3,e4]
 have hnext:spN p key (3*k+j)=false→∀ m,m < 3*k+(j+1)→spN p key m=false:=fun h m hm=>by
  by_cases e:m=3*k+j
  ·rw [e];exact h
  ·exact hno2 m z48o
 have hS:=pSounding_G k ((j:Int) - 1) ((p - ((j:Int) - 1) - basV k+12)/12 - 2)
 obtain ⟨fv,hfv⟩:∃ z,ftV k=z:=⟨_,rfl⟩
 obtain ⟨bv,hbv⟩:∃ z,basV k=z:=⟨_,rfl⟩
 rw [hfv] at htf hfb hN
 rw [hbv] at htb hbb hN hS hfound
 obtain ⟨al,hal⟩:∃ z,(j:Int) - 1=z:=⟨_,rfl⟩
 have hal2:al+1=((j+1:Nat):Int) - 1:=by omega
 rw [hal] at hN hS hfound ⊢
 by_cases hw:key - 3≤fv+7*al∧fv+7*al≤key+8
 rotate_left
 ·rw [decide_eq_false hw,Bool.false_and] at hN
  have hw2:fv+7*al < key - 3∨(¬ fv+7*al < key - 3∧key+8 < fv+7*al):=by omega
  rcases hw2 with h|h
  all_goals
   repeat (first|refine W.gob rfl ?_|refine WL.nil ?_|refine WL.bt rfl rfl rfl z48o ?_|refine WL.e1 rfl ?_|refine W.condT rfl ?_)
   refine (?_:WL _ _ _ _ _ _)
   refine WL.glob hB rfl rfl ⟨by omega,by omega⟩ htf rfl ?_
   repeat (first|refine W.gob rfl ?_|refine WL.nil ?_|refine WL.bt rfl rfl rfl z48o ?_|refine WL.bf rfl rfl rfl z48o ?_|refine WL.e1 rfl ?_|refine WL.gyes rfl rfl rfl rfl ?_|refine WL.opno rfl rfl rfl rfl rfl rfl rfl ?_|refine WL.ar rfl rfl z48i ?_|refine W.condT rfl ?_)
   dsimp only [St.put,Nat.reduceAdd]
   refine ⟨j+1,⟨by omega,hnext hN⟩,by omega,?_⟩
   rw [← hal2]
   exact (z48t id)
 rw [decide_eq_true hw,Bool.true_and] at hN
 repeat (first|refine W.gob rfl ?_|refine WL.nil ?_|refine WL.bt rfl rfl rfl z48o ?_|refine WL.e1 rfl ?_|refine W.condT rfl ?_)
 refine (?_:WL _ _ _ _ _ _)
 refine WL.glob hB rfl rfl ⟨by omega,by omega⟩ htf rfl ?_
 repeat (first|refine W.gob rfl ?_|refine WL.nil ?_|refine WL.bf rfl rfl rfl z48o ?_|refine WL.e1 rfl ?_|refine WL.gyes rfl rfl rfl rfl ?_|refine WL.ar rfl rfl z48i ?_|refine W.condF rfl ?_)
 refine (?_:WL _ _ _ _ _ _)
 refine WL.glob hB rfl rfl ⟨by omega,by omega⟩ htb rfl ?_
 repeat (first|refine W.gob rfl ?_|refine WL.nil ?_|refine WL.e1 rfl ?_|refine WL.ar rfl rfl z48i ?_|refine WL.div rfl rfl z48o ?_)
 refine (?_:WL _ _ _ _ _ _)
 refine WL.vl rfl (WV.callG hB rfl (callF Tryz.func210 rfl rfl) rfl rfl hS) ?_
 obtain ⟨oc,hoc⟩:∃ z,(p - al - bv+12)/12 - 2=z:=⟨_,rfl⟩
 rw [hoc] at hN hfound ⊢
 cases hok:sndOk k al oc with
 | false =>
  rw [hok,Bool.false_and] at hN
  rw [(snd_no hok).1,(snd_no hok).2]
  repeat (first|refine W.gob rfl ?_|refine WL.nil ?_|refine WL.bf rfl rfl rfl z48o ?_|refine WL.e1 rfl ?_|refine WL.opno rfl rfl rfl rfl rfl rfl rfl ?_|refine WL.ar rfl rfl z48i ?_|refine W.condF rfl ?_)
  dsimp only [St.put,Nat.reduceAdd]
  refine ⟨j+1,⟨by omega,hnext hN⟩,by omega,?_⟩
  rw [← hal2]
  exact (z48u (fun q=>q) (by repeat (first|exact trivial|refine ⟨⟨?_,?_,?_⟩,?_⟩|rfl|exact congrArg (fun q=>some (AO.row _ _ q)) (by first|rfl|(simp;done)|(simp [eInt];done)|(simp [eLk];done)))) rfl)
 | true =>
  rw [hok,Bool.true_and] at hN
  rw [(snd_ok hok).1,(snd_ok hok).2]
  by_cases hv:sndV k al oc=p
  ·rw [decide_eq_true hv] at hN
   have hr:=sp_some hp hk (hfound hN)
   rw [hr.1,hr.2]
   repeat (first|refine W.gob rfl ?_|refine WL.nil ?_|refine WL.bt rfl rfl rfl z48o ?_|refine WL.e1 rfl ?_|refine WL.gyes rfl rfl rfl rfl ?_|refine W.condT rfl ?_)
   refine (?_:W _ _ _ _ _)
   exact W.ret (finN rfl rfl rfl rfl)
  ·rw [decide_eq_false hv] at hN
   repeat (first|refine W.gob rfl ?_|refine WL.nil ?_|refine WL.bt rfl rfl rfl z48o ?_|refine WL.bf rfl rfl rfl z48o ?_|refine WL.e1 rfl ?_|refine WL.gyes rfl rfl rfl rfl ?_|refine WL.ar rfl rfl z48i ?_|refine W.condF rfl ?_)
   dsimp only [St.put,Nat.reduceAdd]
   refine ⟨j+1,⟨by omega,hnext hN⟩,by omega,?_⟩
   rw [← hal2]
   exact (z48u (fun q=>q) (by repeat (first|exact trivial|refine ⟨⟨?_,?_,?_⟩,?_⟩|rfl|exact congrArg (fun q=>some (AO.row _ _ q)) (by first|rfl|(simp;done)|(simp [eInt];done)|(simp [eLk];done)))) rfl)
end Go.Proofs.YtgelfflighgajaaGreatDoor
namespace Go.Proofs.YtgelfflighgajaaGreatDoor
open Go.RowKit
theorem cut_ltr {l:Int}:(cut ltrs l (l+1)).length≤1:=by simp only [cut,List.length_take,List.length_drop];omega
theorem Ctr.of_ins {P:Program} {f:FuncId} {cs:List (Int×Int×Bool)} {st:List Int} {post:List AV} {ys:List Value} {res:AV} {v:Value} (hs2:scs post=some ys) (hv:∀ F,RP F res v)
  (h:∀ w A1 A2 c1 c2,InsAt w w.heap.size A1 A2 cs st→Calls P f (.agg #[.slice A1 cs.length c1,.slice A2 st.length c2]::ys).toArray w (Ret v w)):Ctr P f (.ag (eIns cs st)::post) res:=by
 intro w F vs hF hR
 match vs,hR.1,hR.2 with
 | u::us,hlen,hR2 =>
  have r:=hR2 0 _ u rfl rfl
  obtain ⟨xs,rfl,q1,q2⟩:∃ xs:Array Value,u=.agg xs∧xs.size=2∧∀ (i:Nat) av u,(eIns cs st)[i]?=some av→xs[i]?=some u→RP F av u:=by
   cases r with|ag l cs a b=>exact ⟨cs,rfl,a,b⟩
  have g:∀ i (h:i<2),xs[i]?=some (xs[i]'(by omega)):=fun i h=>Array.getElem?_eq_getElem (by omega)
  obtain ⟨A1,c1,A2,c2,e1,e2,hI⟩:=ins_of_rp hF (q2 0 _ _ rfl (g 0 z48o)) (q2 1 _ _ rfl (g 1 z48o))
  have ex:xs=#[.slice A1 cs.length c1,.slice A2 st.length c2]:=by
   apply Array.ext (by simp [q1])
   intro i hi hi2
   match i,(show i<2 by omega) with
   | 0,_=>exact e1
   | 1,_=>exact e2
  have ey:us=ys:=scs_of (G:=⟨F,fun _=>0,fun _=>0,fun _=>undef,fun _ _=>False⟩) hs2 (by simpa using hlen) fun i av u a b=>.pu _ _ (hR2 (i+1) av u (by simpa using a) (by simpa using b))
  subst ex ey
  exact (h w A1 A2 c1 c2 hI).mono fun e w' ⟨he,hb⟩=>⟨v,F,he,hb,fun _ _ h=>h,fun p u x=>by rw [hb.cell (cell_block (hF p u x))];exact hF p u x,fun _ _ h=>.inl h,hv F⟩
theorem pInsCheck_FS (cs:List (Int×Int×Bool))(st:List Int):Ctr Tryz.prog 117 [.ag (eIns cs st)] (.sc (.int .i64 (insE cs st))) :=
 Ctr.of_ins (post:=[]) rfl (fun _=>.sc _) fun w A1 A2 c1 c2 hI=>insCheck A1 A2 cs st cs.length st.length c1 c2 w hI rfl rfl
theorem rInsCheck_FS (cs:List (Int×Int×Bool))(st:List Int):Ctr Tryz.prog 66 [.ag (eIns cs st)] (.sc (.int .i64 (insE cs st))) :=
 Ctr.of_ins (post:=[]) rfl (fun _=>.sc _) fun w A1 A2 c1 c2 hI=>rInsCheck A1 A2 cs st cs.length st.length c1 c2 w hI rfl rfl
end Go.Proofs.YtgelfflighgajaaGreatDoor
