/- Notes of the staff, their names, the text of an instrument: the reference. BLD -/
import Derived.Test.YtgelfflighgajaaGreatDoorJnSq
set_option linter.unusedVariables false
set_option linter.unusedSimpArgs false
namespace Go.Proofs.YtgelfflighgajaaGreatDoor
open Go.RowKit
set_option maxRecDepth 100000
set_option maxHeartbeats 4000000
theorem crsE_bd {st:List Int}:∀ {cs:List (Int×Int×Bool)},crsE st cs=0→∀ k (h:k<cs.length),(0≤cs[k].1∧cs[k].1≤127)∧0≤cs[k].2.1∧cs[k].2.1≤st.length
 | [],_,k,h=>by simp at h
 | x::r,hc,k,h=>by
  unfold crsE at hc
  split at hc
  ·cases hc
  ·split at hc
   ·cases hc
   ·cases k with
    | zero=>simp only [List.getElem_cons_zero];omega
    | succ k=>simp only [List.getElem_cons_succ];exact crsE_bd hc k (by simpa using h)
theorem crsTs_len {cs:List (Int×Int×Bool)} {st:List Int} (h:insE cs st=0) (k:Nat):(crsTs (cs.take k)).length≤700:=by
 obtain ⟨h1,h2,h3,h4,h5⟩:=insE_len h
 have:=flatB_len (l:=cs.take k) (f:=crsT) (b:=46) fun x hx=>by
  obtain ⟨j,hj,rfl⟩:=List.getElem_of_mem (List.mem_of_mem_take hx)
  have:=crsE_bd h5 j hj
  exact crsT_len this.1 ⟨this.2.1,by omega⟩
 have hl:(cs.take k).length≤14:=by rw [List.length_take];omega
 have:46*(cs.take k).length≤46*14:=Nat.mul_le_mul_left 46 hl
 unfold crsTs;omega
theorem stpTs_len {cs:List (Int×Int×Bool)} {st:List Int} (h:insE cs st=0) (k:Nat):(stpTs (st.take k)).length≤400:=by
 obtain ⟨h1,h2,h3,h4,h5⟩:=insE_len h
 have:=flatB_len (l:=st.take k) (f:=stpT) (b:=21) fun x hx=>by
  obtain ⟨j,hj,rfl⟩:=List.getElem_of_mem (List.mem_of_mem_take hx)
  have:=stepsBad_bd (Int.le_refl 0) h4 j hj
  have:=itoa_len (n:=st[j]) (by omega)
  unfold stpT
  simp only [List.length_append,List.length_cons,List.length_nil];omega
 have hl:(st.take k).length≤18:=by rw [List.length_take];omega
 have:21*(st.take k).length≤21*18:=Nat.mul_le_mul_left 21 hl
 unfold stpTs;omega
def fmA (cs:List (Int×Int×Bool)) (st:List Int):List UInt8:=if insE cs st=0 then fmT cs st else []
theorem nmA_of {l al o:Int} (h:sndOk l al o=true):nmA l al o=nmT l al o:=if_pos h
theorem pFormat_G (cs:List (Int×Int×Bool)) (st:List Int):Ctg tabB Tryz.prog 123 [.ag (eIns cs st)] (.tu [.sc (.string (bs (fmA cs st))),.sc (.int .i64 (insE cs st))]):=by
 refine Ctg.intro stabB Tryz.func123 rfl Tryz.ntmps123 (Nat.le_of_ble_eq_true rfl) (bd_all rfl) fun w0 F0 hB=>?_;dsimp only [St.init,number,Nat.reduceAdd]
 repeat refine W.go rfl ?_
 refine (?_:WL _ _ _ _ _ _)
 dsimp only [St.put,Nat.reduceAdd]
 refine WL.vl rfl (WV.call rfl (callF Tryz.func117 rfl rfl) rfl rfl (pInsCheck_FS cs st)) ?_
 by_cases h0:insE cs st=0
 rotate_left
 ·have hA:fmA cs st=[]:=if_neg h0
  rw [hA]
  repeat (first|refine W.gob rfl ?_|refine WL.nil ?_|refine WL.nt rfl rfl rfl (by omega) ?_|refine WL.e1 rfl ?_|refine W.condT rfl ?_)
  refine (?_:W _ _ _ _ _)
  dsimp only [St.put,Nat.reduceAdd]
  exact W.ret (fin2 rfl rfl rfl rfl rfl rfl rfl)
 have hA:fmA cs st=crsTs cs++[58]++stpTs st:=if_pos h0
 have hz:=insE_len h0
 obtain ⟨hz1,hz2,hz3,hz4,hz5⟩:=hz
 have hcl:=crsTs_len h0
 have hsl:=stpTs_len h0
 rw [h0,hA]
 clear hA
 repeat (first|refine W.gob rfl ?_|refine WL.nil ?_|refine WL.nf rfl rfl rfl (by omega) ?_|refine WL.e1 rfl ?_|refine WL.len rfl rfl (by first|exact List.length_map _|exact List.length_replicate|rfl) ?_|refine W.condF rfl ?_)
 refine (?_:W _ _ _ _ _)
 dsimp only [St.put,Nat.reduceAdd]
 first|refine W.tr (Tr.bld 1 5 rfl) ?_|refine WL.tr (Tr.bld 1 5 rfl) ?_
 dsimp only [St.upd]
 refine (?_:W _ _ _ _ _)
 refine W.loop (fun k:Nat=>k≤cs.length) (fun k=>⟨[(1,.pt 0 0 0),(5,.pt 1 0 0),(19,.ls 3 (cs.map eCrs)),(20,.sc (.int .i64 cs.length)),(21,.sc (.int .i64 k))],[(0,.box 25 (eIns cs st)),(1,.bld 109 5 (crsTs (cs.take k)))],2⟩) (fun k=>cs.length - k) 0 (by omega) (Tr.ren id (by repeat (first|exact trivial|refine ⟨⟨?_,?_⟩,?_⟩|rfl)) (by repeat (first|exact trivial|refine ⟨⟨?_,?_,?_⟩,?_⟩|rfl)) rfl) fun k hk=>?_
 by_cases hk2:k < cs.length
 ·have hb:=crsE_bd hz5 k hk2
  have hsp:=spV_ok hb.1
  have hSp:=pSpell_G cs[k].1 0
  have hNm:=pName_G (spV cs[k].1 0).1 (spV cs[k].1 0).2.1 (spV cs[k].1 0).2.2
  have hnl:=nmT_len hsp.2
  have hil:=itoa_len (n:=cs[k].2.1) (by omega)
  have hIt:=itoa_G cs[k].2.1 (by unfold I64;omega)
  have hrow:=crsTs_succ hk2
  have hck:=hcl k
  unfold crsT at hrow
  rw [hsp.1] at hSp
  rw [(snd_ok hsp.2).2,nmA_of hsp.2] at hNm
  obtain ⟨x,hx⟩:∃ x,cs[k]=x:=⟨_,rfl⟩
  repeat (first|refine W.gob rfl ?_|refine WL.nil ?_|refine WL.bt rfl rfl rfl (by omega) ?_|refine WL.e1 rfl ?_|refine WL.idx rfl rfl (by omega) (by first|exact map_at (by omega)|exact map_atZ (by omega) (by omega)) ?_|refine W.condT rfl ?_)
  refine (?_:WL _ _ _ _ _ _)
  dsimp only [St.put,Nat.reduceAdd]
  rw [hx] at hb hSp hNm hnl hil hIt hrow hsp ⊢
  obtain ⟨sp,hspe⟩:∃ z,spV x.1 0=z:=⟨_,rfl⟩
  rw [hspe] at hSp hNm hnl hrow
  obtain ⟨nm,hnme⟩:∃ z,nmT sp.1 sp.2.1 sp.2.2=z:=⟨_,rfl⟩
  rw [hnme] at hNm hnl hrow
  obtain ⟨io,hioe⟩:∃ z,Lib.itoa x.2.1=z:=⟨_,rfl⟩
  rw [hioe] at hIt hil hrow
  obtain ⟨cc,hcc⟩:∃ z,crsTs (cs.take k)=z:=⟨_,rfl⟩
  rw [hcc] at hrow hck ⊢
  refine WL.vl rfl (WV.callG hB rfl (callF Tryz.func169 rfl rfl) rfl rfl hSp) ?_
  repeat (first|refine W.gob rfl ?_|refine WL.nil ?_|refine WL.nf rfl rfl rfl (by omega) ?_|refine WL.e1 rfl ?_|refine W.condF rfl ?_)
  refine (?_:WL _ _ _ _ _ _)
  dsimp only [St.put,Nat.reduceAdd]
  refine WL.vl rfl (WV.callG hB rfl (callF Tryz.func181 rfl rfl) rfl rfl hNm) ?_
  repeat (first|refine W.gob rfl ?_|refine WL.nil ?_|refine WL.nf rfl rfl rfl (by omega) ?_|refine WL.e1 rfl ?_|refine WL.cat rfl rfl (by first|omega|(simp;done)|(simp;omega)) ?_|refine W.condF rfl ?_)
  refine (?_:WL _ _ _ _ _ _)
  dsimp only [St.put,Nat.reduceAdd]
  refine WL.vl rfl (WV.callG hB rfl (callF Tryz.func116 rfl rfl) rfl rfl hIt) ?_
  have hcat:(nm++[47]).length≤23:=by simp only [List.length_append,List.length_cons,List.length_nil];omega
  have hcat2:(nm++[47]++io).length≤43:=by rw [List.length_append];omega
  repeat refine WL.cat rfl rfl (by first|omega|(simp;done)|(simp;omega)) ?_
  refine (?_:WL _ _ _ _ _ _)
  dsimp only [St.put,Nat.reduceAdd]
  refine WL.bw rfl rfl rfl (callF Tryz.func58 rfl rfl) bldW_ok (by omega) rfl ?_
  have hcat3:(cc++(nm++[47]++io)).length≤743:=by rw [List.length_append];omega
  repeat (first|refine W.gob rfl ?_|refine WL.nil ?_|refine WL.e1 rfl ?_)
  refine (?_:W _ _ _ _ _)
  dsimp only [St.put,Nat.reduceAdd]
  (refine W.cond rfl (fun hif=>?_) (fun hif=>?_)<;>(try simp only [decide_eq_true_eq,decide_eq_false_iff_not,Int.not_lt,Int.not_le,Bool.not_eq_true',Bool.not_eq_false'] at hif))
  ·rw [hif,if_pos rfl] at hrow
   have hrow2:cc++(nm++[47]++io)++[43]++[32]=crsTs (cs.take (k+1)):=by rw [hrow];simp [List.append_assoc]
   repeat refine W.gob rfl ?_
   refine (?_:WL _ _ _ _ _ _)
   dsimp only [St.put,Nat.reduceAdd]
   refine WL.bw rfl rfl rfl (callF Tryz.func58 rfl rfl) bldW_ok (by simp only [List.length_cons,List.length_nil];omega) rfl ?_
   repeat (first|refine W.gob rfl ?_|refine WL.nil ?_)
   refine (?_:WL _ _ _ _ _ _)
   dsimp only [St.put,Nat.reduceAdd]
   refine WL.bw rfl rfl rfl (callF Tryz.func58 rfl rfl) bldW_ok (by simp only [List.length_append,List.length_cons,List.length_nil] at hcat3 ⊢;omega) hrow2 ?_
   repeat (first|refine W.gob rfl ?_|refine WL.nil ?_|refine WL.e1 rfl ?_|refine WL.ar rfl rfl (by unfold I64;omega) ?_)
   dsimp only [St.put,Nat.reduceAdd]
   refine ⟨k+1,by omega,by omega,?_⟩
   exact (Tr.ren (fun q=>q) (by repeat (first|exact trivial|refine ⟨⟨?_,?_⟩,?_⟩|rfl)) (by repeat (first|exact trivial|refine ⟨⟨?_,?_,?_⟩,?_⟩|rfl|exact congrArg (fun q=>some (AO.row _ _ q)) (by first|rfl|(simp;done)|(simp [eInt];done)|(simp [eLk];done)))) rfl)
  ·rw [hif] at hrow
   have hrow2:cc++(nm++[47]++io)++[32]=crsTs (cs.take (k+1)):=by rw [hrow];simp [List.append_assoc]
   repeat refine W.gob rfl ?_
   refine (?_:WL _ _ _ _ _ _)
   dsimp only [St.put,Nat.reduceAdd]
   refine WL.bw rfl rfl rfl (callF Tryz.func58 rfl rfl) bldW_ok (by simp only [List.length_cons,List.length_nil];omega) hrow2 ?_
   repeat (first|refine W.gob rfl ?_|refine WL.nil ?_|refine WL.e1 rfl ?_|refine WL.ar rfl rfl (by unfold I64;omega) ?_)
   dsimp only [St.put,Nat.reduceAdd]
   refine ⟨k+1,by omega,by omega,?_⟩
   exact (Tr.ren (fun q=>q) (by repeat (first|exact trivial|refine ⟨⟨?_,?_⟩,?_⟩|rfl)) (by repeat (first|exact trivial|refine ⟨⟨?_,?_,?_⟩,?_⟩|rfl|exact congrArg (fun q=>some (AO.row _ _ q)) (by first|rfl|(simp;done)|(simp [eInt];done)|(simp [eLk];done)))) rfl)
 have hke:k=cs.length:=by omega
 have hck:=hcl cs.length
 rw [hke]
 rw [List.take_length] at hck ⊢
 obtain ⟨cc,hcc⟩:∃ z,crsTs cs=z:=⟨_,rfl⟩
 rw [hcc] at hck ⊢
 repeat (first|refine W.gob rfl ?_|refine WL.nil ?_|refine WL.bf rfl rfl rfl (by omega) ?_|refine W.condF rfl ?_)
 refine (?_:WL _ _ _ _ _ _)
 dsimp only [St.put,Nat.reduceAdd]
 refine WL.bw rfl rfl rfl (callF Tryz.func58 rfl rfl) bldW_ok (by simp only [List.length_cons,List.length_nil];omega) rfl ?_
 repeat (first|refine W.gob rfl ?_|refine WL.nil ?_|refine WL.e1 rfl ?_|refine WL.len rfl rfl (by first|exact List.length_map _|exact List.length_replicate|rfl) ?_)
 refine (?_:W _ _ _ _ _)
 dsimp only [St.put,Nat.reduceAdd]
 refine W.loop (fun j:Nat=>j≤st.length) (fun j=>⟨[(1,.pt 0 0 0),(5,.pt 1 0 0),(56,.ls 1 (st.map eInt)),(57,.sc (.int .i64 st.length)),(58,.sc (.int .i64 j))],[(0,.box 25 (eIns cs st)),(1,.bld 109 5 (cc++[58]++stpTs (st.take j)))],2⟩) (fun j=>st.length - j) 0 (by omega) (Tr.ren (fun q=>q) (by repeat (first|exact trivial|refine ⟨⟨?_,?_⟩,?_⟩|rfl)) (by repeat (first|exact trivial|refine ⟨⟨?_,?_,?_⟩,?_⟩|rfl|exact congrArg (fun q=>some (AO.row _ _ q)) (show cc++[58]=cc++[58]++stpTs (st.take 0) from (List.append_nil _).symm)|exact congrArg (fun q=>some (AO.bld _ _ q)) (show cc++[58]=cc++[58]++stpTs (st.take 0) from (List.append_nil _).symm))) rfl) fun j hj=>?_
 by_cases hj2:j < st.length
 ·have hb:=stepsBad_bd (Int.le_refl 0) hz4 j hj2
  have hil:=itoa_len (n:=st[j]) (by omega)
  have hIt:=itoa_G st[j] (by unfold I64;omega)
  have hsj:=hsl j
  have hrow:=stpTs_succ hj2
  unfold stpT at hrow
  obtain ⟨x,hx⟩:∃ x,st[j]=x:=⟨_,rfl⟩
  repeat (first|refine W.gob rfl ?_|refine WL.nil ?_|refine WL.bt rfl rfl rfl (by omega) ?_|refine WL.e1 rfl ?_|refine WL.idx rfl rfl (by omega) (by first|exact map_at (by omega)|exact map_atZ (by omega) (by omega)) ?_|refine W.condT rfl ?_)
  refine (?_:WL _ _ _ _ _ _)
  dsimp only [St.put,Nat.reduceAdd]
  rw [hx] at hb hil hIt hrow ⊢
  obtain ⟨io,hioe⟩:∃ z,Lib.itoa x=z:=⟨_,rfl⟩
  rw [hioe] at hIt hil hrow
  have hrow2:cc++[58]++stpTs (st.take j)++([32]++io)=cc++[58]++stpTs (st.take (j+1)):=by rw [hrow];simp [List.append_assoc]
  refine WL.vl rfl (WV.callG hB rfl (callF Tryz.func116 rfl rfl) rfl rfl hIt) ?_
  repeat refine WL.cat rfl rfl (by first|omega|(simp;done)|(simp;omega)) ?_
  refine (?_:WL _ _ _ _ _ _)
  dsimp only [St.put,Nat.reduceAdd]
  refine WL.bw rfl rfl rfl (callF Tryz.func58 rfl rfl) bldW_ok (by simp only [List.length_append,List.length_cons,List.length_nil];omega) hrow2 ?_
  repeat (first|refine W.gob rfl ?_|refine WL.nil ?_|refine WL.e1 rfl ?_|refine WL.ar rfl rfl (by unfold I64;omega) ?_)
  dsimp only [St.put,Nat.reduceAdd]
  refine ⟨j+1,by omega,by omega,?_⟩
  exact (Tr.ren (fun q=>q) (by repeat (first|exact trivial|refine ⟨⟨?_,?_⟩,?_⟩|rfl)) (by repeat (first|exact trivial|refine ⟨⟨?_,?_,?_⟩,?_⟩|rfl|exact congrArg (fun q=>some (AO.row _ _ q)) (by first|rfl|(simp;done)|(simp [eInt];done)|(simp [eLk];done)))) rfl)
 have hje:j=st.length:=by omega
 rw [hje,List.take_length]
 repeat (first|refine W.gob rfl ?_|refine WL.nil ?_|refine WL.bf rfl rfl rfl (by omega) ?_|refine W.condF rfl ?_)
 refine (?_:WL _ _ _ _ _ _)
 dsimp only [St.put,Nat.reduceAdd]
 refine WL.bs rfl rfl rfl (callF Tryz.func59 rfl rfl) bldS_ok (by simp) ?_
 repeat (first|refine WL.nil ?_|refine WL.e1 rfl ?_)
 refine (?_:W _ _ _ _ _)
 dsimp only [St.put,Nat.reduceAdd]
 exact W.ret (fin2 rfl rfl rfl rfl rfl rfl rfl)
end Go.Proofs.YtgelfflighgajaaGreatDoor
namespace Go.Proofs.YtgelfflighgajaaGreatDoor
open Go.RowKit
set_option maxRecDepth 100000
set_option maxHeartbeats 4000000
theorem bas_all:((List.range 7).all fun k=>decide (basV k=if (k:Int)<3 then 2*(k:Int) else 2*(k:Int)-1))=true:=by decide
theorem rBase_FS (l:Int) (h:0≤l∧l≤6):Ctr Tryz.prog 240 [.sc (.int .i64 l)] (.sc (.int .i64 (basV l))):=by
 have hb:basV l=if l < 3 then 2*l else 2*l - 1:=by
  obtain ⟨k,rfl⟩:=Int.eq_ofNat_of_zero_le h.1
  have:=List.all_eq_true.1 bas_all k (List.mem_range.2 (by omega))
  simpa using this
 by_cases h3:l < 3
 ·rw [if_pos h3] at hb
  rw [hb]
  refine Ctr.intro Tryz.func240 rfl Tryz.ntmps240 (Nat.le_of_ble_eq_true rfl) (bd_all rfl) fun w0 F0=>?_;dsimp only [St.init,number,Nat.reduceAdd]
  repeat (first|refine W.gob rfl ?_|refine WL.nil ?_|refine WL.bt rfl rfl rfl (by omega) ?_|refine WL.e1 rfl ?_|refine WL.ar rfl rfl (by unfold I64;omega) ?_|refine W.condT rfl ?_)
  refine (?_:W _ _ _ _ _)
  dsimp only [St.put,Nat.reduceAdd]
  exact W.ret (fin1 rfl rfl rfl rfl)
 ·rw [if_neg h3] at hb
  rw [hb]
  refine Ctr.intro Tryz.func240 rfl Tryz.ntmps240 (Nat.le_of_ble_eq_true rfl) (bd_all rfl) fun w0 F0=>?_;dsimp only [St.init,number,Nat.reduceAdd]
  repeat (first|refine W.gob rfl ?_|refine WL.nil ?_|refine WL.bf rfl rfl rfl (by omega) ?_|refine WL.e1 rfl ?_|refine WL.ar rfl rfl (by unfold I64;omega) ?_|refine W.condF rfl ?_)
  refine (?_:W _ _ _ _ _)
  dsimp only [St.put,Nat.reduceAdd]
  exact W.ret (fin1 rfl rfl rfl rfl)
theorem rRight_FS (l al o:Int):Ctr Tryz.prog 218 [.ag [.sc (.int .i64 l),.sc (.int .i64 al),.sc (.int .i64 o)]] (.sc (.bool (sndOk l al o))):=by
 refine Ctr.intro Tryz.func218 rfl Tryz.ntmps218 (Nat.le_of_ble_eq_true rfl) (bd_all rfl) fun w0 F0=>?_;dsimp only [St.init,number,Nat.reduceAdd]
 have hc:(l < 0∨(¬ l < 0∧6 < l)∨(¬ l < 0∧¬ 6 < l∧al < -1)∨(¬ l < 0∧¬ 6 < l∧¬ al < -1∧1 < al)∨(¬ l < 0∧¬ 6 < l∧¬ al < -1∧¬ 1 < al∧o < -1)∨(¬ l < 0∧¬ 6 < l∧¬ al < -1∧¬ 1 < al∧¬ o < -1∧9 < o))∨sndIn l al o:=by unfold sndIn;omega
 rcases hc with hc|hc
 ·have hno:=sndOk_out (l:=l) (al:=al) (o:=o) (by unfold sndIn;omega)
  rw [hno]
  rcases hc with h|h|h|h|h|h
  all_goals
   repeat (first|refine W.gob rfl ?_|refine WL.nil ?_|refine WL.bt rfl rfl rfl (by omega) ?_|refine WL.bf rfl rfl rfl (by omega) ?_|refine WL.e1 rfl ?_|refine WL.gyes rfl rfl rfl rfl ?_|refine WL.opno rfl rfl rfl rfl rfl rfl rfl ?_|refine W.condT rfl ?_)
   refine (?_:W _ _ _ _ _)
   dsimp only [St.put,Nat.reduceAdd]
   exact W.ret (fin1 rfl rfl rfl rfl)
 ·obtain ⟨⟨h1,h2⟩,⟨h3,h4⟩,h5,h6⟩:=id hc
  have hbd:=basV_bd ⟨h1,h2⟩
  have hB:=rBase_FS l ⟨h1,h2⟩
  have hin:=sndOk_in hc
  unfold sndV at hin
  obtain ⟨b,hb⟩:∃ b,basV l=b:=⟨_,rfl⟩
  rw [hb] at hbd hB hin
  rw [hin]
  by_cases hr:0≤12*(o+1)+b+al∧12*(o+1)+b+al≤127
  ·rw [decide_eq_true hr]
   repeat (first|refine W.gob rfl ?_|refine WL.nil ?_|refine WL.bf rfl rfl rfl (by omega) ?_|refine WL.e1 rfl ?_|refine WL.gyes rfl rfl rfl rfl ?_|refine W.condF rfl ?_)
   refine (?_:W _ _ _ _ _)
   dsimp only [St.put,Nat.reduceAdd]
   refine W.drawK (by kernel_rfl) (by kernel_rfl) ?_
   repeat (first|refine DK.st rfl ?_|refine DK.ar rfl rfl (by unfold I64;omega) ?_)
   refine DK.vl rfl (WV.call rfl (callF Tryz.func240 rfl rfl) rfl rfl hB) ?_
   repeat (first|refine DK.st rfl ?_|refine DK.ar rfl rfl (by unfold I64;omega) ?_|refine DK.nil ?_)
   repeat (first|refine W.gob rfl ?_|refine WL.nil ?_|refine WL.bt rfl rfl rfl (by omega) ?_|refine WL.e1 rfl ?_|refine WL.gyes rfl rfl rfl rfl ?_)
   refine (?_:W _ _ _ _ _)
   dsimp only [St.put,Nat.reduceAdd]
   exact W.ret (fin1 rfl rfl rfl rfl)
  ·rw [decide_eq_false hr]
   have hr2:(12*(o+1)+b+al < 0)∨(¬ 12*(o+1)+b+al < 0∧127 < 12*(o+1)+b+al):=by omega
   rcases hr2 with h|h
   all_goals
    repeat (first|refine W.gob rfl ?_|refine WL.nil ?_|refine WL.bf rfl rfl rfl (by omega) ?_|refine WL.e1 rfl ?_|refine WL.gyes rfl rfl rfl rfl ?_|refine W.condF rfl ?_)
    refine (?_:W _ _ _ _ _)
    dsimp only [St.put,Nat.reduceAdd]
    refine W.drawK (by kernel_rfl) (by kernel_rfl) ?_
    repeat (first|refine DK.st rfl ?_|refine DK.ar rfl rfl (by unfold I64;omega) ?_)
    refine DK.vl rfl (WV.call rfl (callF Tryz.func240 rfl rfl) rfl rfl hB) ?_
    repeat (first|refine DK.st rfl ?_|refine DK.ar rfl rfl (by unfold I64;omega) ?_|refine DK.nil ?_)
    repeat (first|refine W.gob rfl ?_|refine WL.nil ?_|refine WL.bt rfl rfl rfl (by omega) ?_|refine WL.bf rfl rfl rfl (by omega) ?_|refine WL.e1 rfl ?_|refine WL.gyes rfl rfl rfl rfl ?_|refine WL.opno rfl rfl rfl rfl rfl rfl rfl ?_)
    refine (?_:W _ _ _ _ _)
    dsimp only [St.put,Nat.reduceAdd]
    exact W.ret (fin1 rfl rfl rfl rfl)
theorem rSounding_FS (l al o:Int):Ctr Tryz.prog 217 [.ag [.sc (.int .i64 l),.sc (.int .i64 al),.sc (.int .i64 o)]] (.tu [.sc (.int .i64 (sndR l al o)),.sc (.int .i64 (sndX l al o))]):=by
 refine Ctr.intro Tryz.func217 rfl Tryz.ntmps217 (Nat.le_of_ble_eq_true rfl) (bd_all rfl) fun w0 F0=>?_;dsimp only [St.init,number,Nat.reduceAdd]
 repeat refine W.go rfl ?_
 refine (?_:WL _ _ _ _ _ _)
 dsimp only [St.put,Nat.reduceAdd]
 refine WL.vl rfl (WV.call rfl (callF Tryz.func218 rfl rfl) rfl rfl (rRight_FS l al o)) ?_
 cases hok:sndOk l al o with
 | false =>
  rw [(snd_no hok).1,(snd_no hok).2]
  repeat (first|refine W.gob rfl ?_|refine WL.nil ?_|refine WL.e1 rfl ?_|refine W.condT rfl ?_)
  refine (?_:W _ _ _ _ _)
  dsimp only [St.put,Nat.reduceAdd]
  exact W.ret (fin2 rfl rfl rfl rfl rfl rfl rfl)
 | true =>
  obtain ⟨⟨⟨h1,h2⟩,⟨h3,h4⟩,h5,h6⟩,hv⟩:=sndOk_of hok
  have hbd:=basV_bd ⟨h1,h2⟩
  have hB:=rBase_FS l ⟨h1,h2⟩
  have hR:sndR l al o=12*(o+1)+basV l+al:=(snd_ok hok).1
  obtain ⟨b,hb⟩:∃ b,basV l=b:=⟨_,rfl⟩
  rw [hb] at hbd hB hR
  rw [hR,(snd_ok hok).2]
  repeat (first|refine W.gob rfl ?_|refine WL.nil ?_|refine WL.e1 rfl ?_|refine W.condF rfl ?_)
  refine (?_:W _ _ _ _ _)
  dsimp only [St.put,Nat.reduceAdd]
  refine W.drawK (by kernel_rfl) (by kernel_rfl) ?_
  repeat (first|refine DK.st rfl ?_|refine DK.ar rfl rfl (by unfold I64;omega) ?_)
  refine DK.vl rfl (WV.call rfl (callF Tryz.func240 rfl rfl) rfl rfl hB) ?_
  repeat (first|refine DK.st rfl ?_|refine DK.ar rfl rfl (by unfold I64;omega) ?_|refine DK.nil ?_)
  refine (?_:W _ _ _ _ _)
  dsimp only [St.put,Nat.reduceAdd]
  exact W.ret (fin2 rfl rfl rfl rfl rfl rfl rfl)
theorem rPos_FS (l al:Int) (h:0≤l∧l≤6) (ha:-1≤al∧al≤1):Ctr Tryz.prog 216 [.sc (.int .i64 l),.sc (.int .i64 al)] (.sc (.int .i64 (ftV l+7*al))):=by
 have h7:l=0∨l=1∨l=2∨l=3∨l=4∨l=5∨l=6:=by omega
 rcases h7 with rfl|rfl|rfl|rfl|rfl|rfl|rfl
 all_goals
  refine Ctr.intro Tryz.func216 rfl Tryz.ntmps216 (Nat.le_of_ble_eq_true rfl) (bd_all rfl) fun w0 F0=>?_;dsimp only [St.init,number,Nat.reduceAdd]
  repeat (first|refine W.gob rfl ?_|refine WL.nil ?_|refine WL.e1 rfl ?_|refine WL.ar rfl rfl (by unfold I64;omega) ?_|refine WL.ixs rfl rfl (by first|omega|(simp;done)|(simp;omega)) ?_)
  refine (?_:W _ _ _ _ _)
  dsimp only [St.put,Nat.reduceAdd]
  exact W.ret (fin1 rfl rfl rfl rfl)
theorem rSpell_FS (p key:Int):Ctr Tryz.prog 187 [.sc (.int .i64 p),.sc (.int .i64 key)] (.tu [eSp (spV p key),.sc (.int .i64 (spX p key))]):=by
 refine Ctr.intro Tryz.func187 rfl Tryz.ntmps187 (Nat.le_of_ble_eq_true rfl) (bd_all rfl) fun w0 F0=>?_;dsimp only [St.init,number,Nat.reduceAdd]
 by_cases hp:0≤p∧p≤127
 rotate_left
 ·rw [(sp_pitch hp).1,(sp_pitch hp).2]
  have hp2:p < 0∨(¬ p < 0∧127 < p):=by omega
  rcases hp2 with h|h
  all_goals
   repeat (first|refine W.gob rfl ?_|refine WL.nil ?_|refine WL.bt rfl rfl rfl (by omega) ?_|refine WL.bf rfl rfl rfl (by omega) ?_|refine WL.e1 rfl ?_|refine WL.gyes rfl rfl rfl rfl ?_|refine WL.opno rfl rfl rfl rfl rfl rfl rfl ?_|refine W.condT rfl ?_)
   refine (?_:W _ _ _ _ _)
   dsimp only [St.put,Nat.reduceAdd]
   exact W.ret (finN rfl rfl rfl rfl)
 by_cases hk:-4≤key∧key≤4
 rotate_left
 ·rw [(sp_arg hp hk).1,(sp_arg hp hk).2]
  have hk2:key < -4∨(¬ key < -4∧4 < key):=by omega
  rcases hk2 with h|h
  all_goals
   repeat (first|refine W.gob rfl ?_|refine WL.nil ?_|refine WL.bt rfl rfl rfl (by omega) ?_|refine WL.bf rfl rfl rfl (by omega) ?_|refine WL.e1 rfl ?_|refine WL.gyes rfl rfl rfl rfl ?_|refine WL.opno rfl rfl rfl rfl rfl rfl rfl ?_|refine W.condT rfl ?_|refine W.condF rfl ?_)
   refine (?_:W _ _ _ _ _)
   dsimp only [St.put,Nat.reduceAdd]
   exact W.ret (finN rfl rfl rfl rfl)
 have hlaw:=sp_law hp hk
 repeat (first|refine W.gob rfl ?_|refine WL.nil ?_|refine WL.bf rfl rfl rfl (by omega) ?_|refine WL.e1 rfl ?_|refine WL.gyes rfl rfl rfl rfl ?_|refine W.condF rfl ?_)
 refine (?_:W _ _ _ _ _)
 dsimp only [St.put,Nat.reduceAdd]
 refine W.loop (fun i:Nat=>i≤11∧∀ m,m < 21*i→rfN p key m=false) (fun i=>⟨[(0,.sc (.int .i64 p)),(1,.sc (.int .i64 key)),(4,.pt 0 0 0),(6,.sc (.int .i64 ((i:Int) - 1)))],[(0,.box 270 [.sc (.int .i64 0),.sc (.int .i64 0),.sc (.int .i64 0)])],1⟩) (fun i=>11 - i) 0 ⟨by omega,by omega⟩ (Tr.ren id (by repeat (first|exact trivial|refine ⟨⟨?_,?_⟩,?_⟩|rfl)) (by repeat (first|exact trivial|refine ⟨⟨?_,?_,?_⟩,?_⟩|rfl)) rfl) fun i hi0=>?_
 obtain ⟨hi11,hno⟩:=hi0
 by_cases hi:i < 11
 rotate_left
 ·have hn:spP p key=none:=by rw [← hlaw];unfold spR;rw [find_no fun m hm=>hno m (by omega)];rfl
  rw [(sp_none hp hk hn).1,(sp_none hp hk hn).2]
  repeat (first|refine W.gob rfl ?_|refine WL.nil ?_|refine WL.bf rfl rfl rfl (by omega) ?_|refine WL.e1 rfl ?_|refine W.condF rfl ?_)
  refine (?_:W _ _ _ _ _)
  dsimp only [St.put,Nat.reduceAdd]
  exact W.ret (finN rfl rfl rfl rfl)
 obtain ⟨o,ho⟩:∃ z,(i:Int) - 1=z:=⟨_,rfl⟩
 have ho2:o+1=((i+1:Nat):Int) - 1:=by omega
 rw [ho]
 repeat (first|refine W.gob rfl ?_|refine WL.nil ?_|refine WL.bt rfl rfl rfl (by omega) ?_|refine WL.e1 rfl ?_|refine W.condT rfl ?_)
 refine (?_:W _ _ _ _ _)
 dsimp only [St.put,Nat.reduceAdd]
 refine W.loop (fun k:Nat=>k≤7∧∀ m,m < 21*i+3*k→rfN p key m=false) (fun k=>⟨[(0,.sc (.int .i64 p)),(1,.sc (.int .i64 key)),(4,.pt 0 0 0),(6,.sc (.int .i64 o)),(7,.sc (.int .i64 k))],[(0,.box 270 [.sc (.int .i64 0),.sc (.int .i64 0),.sc (.int .i64 0)])],1⟩) (fun k=>7 - k) 0 ⟨by omega,by simpa using hno⟩ (Tr.ren id (by repeat (first|exact trivial|refine ⟨⟨?_,?_⟩,?_⟩|rfl)) (by repeat (first|exact trivial|refine ⟨⟨?_,?_,?_⟩,?_⟩|rfl)) rfl) fun k hk0=>?_
 obtain ⟨hk7,hno1⟩:=hk0
 by_cases hlt:k < 7
 rotate_left
 ·repeat (first|refine W.gob rfl ?_|refine WL.nil ?_|refine WL.bf rfl rfl rfl (by omega) ?_|refine WL.e1 rfl ?_|refine WL.ar rfl rfl (by unfold I64;omega) ?_|refine W.condF rfl ?_)
  dsimp only [St.put,Nat.reduceAdd]
  refine ⟨i+1,⟨by omega,fun m hm=>hno1 m (by omega)⟩,by omega,?_⟩
  rw [← ho2]
  exact (Tr.ren id (by repeat (first|exact trivial|refine ⟨⟨?_,?_⟩,?_⟩|rfl)) (by repeat (first|exact trivial|refine ⟨⟨?_,?_,?_⟩,?_⟩|rfl)) rfl)
 repeat (first|refine W.gob rfl ?_|refine WL.nil ?_|refine WL.bt rfl rfl rfl (by omega) ?_|refine WL.e1 rfl ?_|refine W.condT rfl ?_)
 refine (?_:W _ _ _ _ _)
 dsimp only [St.put,Nat.reduceAdd]
 refine W.loop (fun j:Nat=>j≤3∧∀ m,m < 21*i+3*k+j→rfN p key m=false) (fun j=>⟨[(0,.sc (.int .i64 p)),(1,.sc (.int .i64 key)),(4,.pt 0 0 0),(6,.sc (.int .i64 o)),(7,.sc (.int .i64 k)),(8,.sc (.int .i64 ((j:Int) - 1)))],[(0,.box 270 [.sc (.int .i64 0),.sc (.int .i64 0),.sc (.int .i64 0)])],1⟩) (fun j=>3 - j) 0 ⟨by omega,by simpa using hno1⟩ (Tr.ren id (by repeat (first|exact trivial|refine ⟨⟨?_,?_⟩,?_⟩|rfl)) (by repeat (first|exact trivial|refine ⟨⟨?_,?_,?_⟩,?_⟩|rfl)) rfl) fun j hj0=>?_
 obtain ⟨hj3,hno2⟩:=hj0
 by_cases hj:j < 3
 rotate_left
 ·repeat (first|refine W.gob rfl ?_|refine WL.nil ?_|refine WL.bf rfl rfl rfl (by omega) ?_|refine WL.e1 rfl ?_|refine WL.ar rfl rfl (by unfold I64;omega) ?_|refine W.condF rfl ?_)
  dsimp only [St.put,Nat.reduceAdd]
  refine ⟨k+1,⟨by omega,fun m hm=>hno2 m (by omega)⟩,by omega,?_⟩
  exact (Tr.ren id (by repeat (first|exact trivial|refine ⟨⟨?_,?_⟩,?_⟩|rfl)) (by repeat (first|exact trivial|refine ⟨⟨?_,?_,?_⟩,?_⟩|rfl)) rfl)
 have hl:0≤(k:Int)∧(k:Int)≤6:=by omega
 have hfb:=ftV_bd hl
 have e3:(21*i+3*k+j) % 21/3=k:=by omega
 have e4:(21*i+3*k+j) % 3=j:=by omega
 have e5:(21*i+3*k+j)/21=i:=by omega
 have hN:rfN p key (21*i+3*k+j)=(decide (key - 3≤ftV k+7*((j:Int) - 1)∧ftV k+7*((j:Int) - 1)≤key+8) && (sndOk k ((j:Int) - 1) ((i:Int) - 1) && decide (sndV k ((j:Int) - 1) ((i:Int) - 1)=p))):=by
  unfold rfN spC spWin;rw [e3,e4,e5]
 have hfound:rfN p key (21*i+3*k+j)=true→spP p key=some ((k:Int),(j:Int) - 1,(i:Int) - 1):=fun h=>by
  rw [← hlaw]
  unfold spR
  rw [find_at hno2 h (by omega)]
  simp only [Option.map_some,e3,e4,e5]
 have hnext:rfN p key (21*i+3*k+j)=false→∀ m,m < 21*i+3*k+(j+1)→rfN p key m=false:=fun h m hm=>by
  by_cases e:m=21*i+3*k+j
  ·rw [e];exact h
  ·exact hno2 m (by omega)
 have hP:=rPos_FS k ((j:Int) - 1) hl (by omega)
 have hS:=rSounding_FS k ((j:Int) - 1) ((i:Int) - 1)
 obtain ⟨at_,hat⟩:∃ z,ftV k+7*((j:Int) - 1)=z:=⟨_,rfl⟩
 have hatb:-8≤at_∧at_≤12:=by omega
 rw [hat] at hN hP
 obtain ⟨al,hal⟩:∃ z,(j:Int) - 1=z:=⟨_,rfl⟩
 have hal2:al+1=((j+1:Nat):Int) - 1:=by omega
 rw [hal,ho] at hN hS hfound
 rw [hal] at hP ⊢
 repeat (first|refine W.gob rfl ?_|refine WL.nil ?_|refine WL.bt rfl rfl rfl (by omega) ?_|refine WL.e1 rfl ?_|refine W.condT rfl ?_)
 refine (?_:WL _ _ _ _ _ _)
 dsimp only [St.put,Nat.reduceAdd]
 refine WL.vl rfl (WV.call rfl (callF Tryz.func216 rfl rfl) rfl rfl hP) ?_
 repeat (first|refine W.gob rfl ?_|refine WL.nil ?_|refine WL.e1 rfl ?_)
 refine (?_:WL _ _ _ _ _ _)
 dsimp only [St.put,Nat.reduceAdd]
 refine WL.vl rfl (WV.call rfl (callF Tryz.func217 rfl rfl) rfl rfl hS) ?_
 cases hok:sndOk k al o with
 | false =>
  rw [hok,Bool.false_and,Bool.and_false] at hN
  rw [(snd_no hok).1,(snd_no hok).2]
  repeat (first|refine W.gob rfl ?_|refine WL.nil ?_|refine WL.bf rfl rfl rfl (by omega) ?_|refine WL.e1 rfl ?_|refine WL.opno rfl rfl rfl rfl rfl rfl rfl ?_|refine WL.ar rfl rfl (by unfold I64;omega) ?_|refine W.condF rfl ?_)
  dsimp only [St.put,Nat.reduceAdd]
  refine ⟨j+1,⟨by omega,hnext hN⟩,by omega,?_⟩
  rw [← hal2]
  exact (Tr.ren (fun q=>q) (by repeat (first|exact trivial|refine ⟨⟨?_,?_⟩,?_⟩|rfl)) (by repeat (first|exact trivial|refine ⟨⟨?_,?_,?_⟩,?_⟩|rfl|exact congrArg (fun q=>some (AO.row _ _ q)) (by first|rfl|(simp;done)|(simp [eInt];done)|(simp [eLk];done)))) rfl)
 | true =>
  rw [hok,Bool.true_and] at hN
  rw [(snd_ok hok).1,(snd_ok hok).2]
  by_cases hv:sndV k al o=p
  ·rw [decide_eq_true hv,Bool.and_true] at hN
   by_cases hw:key - 3≤at_∧at_≤key+8
   ·rw [decide_eq_true hw] at hN
    have hr:=sp_some hp hk (hfound hN)
    rw [hr.1,hr.2]
    repeat (first|refine W.gob rfl ?_|refine WL.nil ?_|refine WL.bt rfl rfl rfl (by omega) ?_|refine WL.e1 rfl ?_|refine WL.gyes rfl rfl rfl rfl ?_|refine WL.ar rfl rfl (by unfold I64;omega) ?_|refine W.condT rfl ?_)
    refine (?_:W _ _ _ _ _)
    dsimp only [St.put,Nat.reduceAdd]
    exact W.ret (finN rfl rfl rfl rfl)
   ·rw [decide_eq_false hw] at hN
    have hw2:at_ < key - 3∨(¬ at_ < key - 3∧key+8 < at_):=by omega
    rcases hw2 with h|h
    all_goals
     repeat (first|refine W.gob rfl ?_|refine WL.nil ?_|refine WL.bt rfl rfl rfl (by omega) ?_|refine WL.bf rfl rfl rfl (by omega) ?_|refine WL.e1 rfl ?_|refine WL.gyes rfl rfl rfl rfl ?_|refine WL.opno rfl rfl rfl rfl rfl rfl rfl ?_|refine WL.ar rfl rfl (by unfold I64;omega) ?_|refine W.condF rfl ?_)
     dsimp only [St.put,Nat.reduceAdd]
     refine ⟨j+1,⟨by omega,hnext hN⟩,by omega,?_⟩
     rw [← hal2]
     exact (Tr.ren (fun q=>q) (by repeat (first|exact trivial|refine ⟨⟨?_,?_⟩,?_⟩|rfl)) (by repeat (first|exact trivial|refine ⟨⟨?_,?_,?_⟩,?_⟩|rfl|exact congrArg (fun q=>some (AO.row _ _ q)) (by first|rfl|(simp;done)|(simp [eInt];done)|(simp [eLk];done)))) rfl)
  ·rw [decide_eq_false hv,Bool.and_false] at hN
   repeat (first|refine W.gob rfl ?_|refine WL.nil ?_|refine WL.bt rfl rfl rfl (by omega) ?_|refine WL.bf rfl rfl rfl (by omega) ?_|refine WL.e1 rfl ?_|refine WL.gyes rfl rfl rfl rfl ?_|refine WL.opno rfl rfl rfl rfl rfl rfl rfl ?_|refine WL.ar rfl rfl (by unfold I64;omega) ?_|refine W.condF rfl ?_)
   dsimp only [St.put,Nat.reduceAdd]
   refine ⟨j+1,⟨by omega,hnext hN⟩,by omega,?_⟩
   rw [← hal2]
   exact (Tr.ren (fun q=>q) (by repeat (first|exact trivial|refine ⟨⟨?_,?_⟩,?_⟩|rfl)) (by repeat (first|exact trivial|refine ⟨⟨?_,?_,?_⟩,?_⟩|rfl|exact congrArg (fun q=>some (AO.row _ _ q)) (by first|rfl|(simp;done)|(simp [eInt];done)|(simp [eLk];done)))) rfl)
theorem rDec_nat:∀ (n:Nat) (k:Nat),k≤n→k≤1000000000→Ctr Tryz.prog 189 [.sc (.int .i64 (k:Int))] (.sc (.string (bs (Lib.itoa k)))):=by
 intro n
 induction n with
 | zero =>
  intro k hk _
  obtain rfl:k=0:=by omega
  have ht:=itoa_one ((0:Nat):Int) (by omega)
  rw [ht]
  have hcb:0≤((0:Nat):Int) % 10∧((0:Nat):Int) % 10≤((0:Nat):Int) % 10+1∧((0:Nat):Int) % 10+1≤(([48,49,50,51,52,53,54,55,56,57]:List UInt8).length:Int):=⟨by omega,by omega,by simp⟩
  refine Ctr.intro Tryz.func189 rfl Tryz.ntmps189 (Nat.le_of_ble_eq_true rfl) (bd_all rfl) fun w0 F0=>?_;dsimp only [St.init,number,Nat.reduceAdd]
  repeat (first|refine W.gob rfl ?_|refine WL.nil ?_|refine WL.bf rfl rfl rfl (by omega) ?_|refine WL.e1 rfl ?_|refine WL.ar rfl rfl (by unfold I64;omega) ?_|refine WL.div rfl rfl (by omega) ?_|refine W.condF rfl ?_)
  refine (?_:WL _ _ _ _ _ _)
  dsimp only [St.put,Nat.reduceAdd]
  refine WL.cut rfl rfl hcb ?_
  repeat (first|refine W.gob rfl ?_|refine WL.nil ?_|refine WL.bt rfl rfl rfl (by omega) ?_|refine WL.e1 rfl ?_|refine W.condT rfl ?_)
  refine (?_:W _ _ _ _ _)
  dsimp only [St.put,Nat.reduceAdd]
  exact W.ret (fin1 rfl rfl rfl rfl)
 | succ n ih =>
  intro k hk hb
  have hcb:0≤(k:Int) % 10∧(k:Int) % 10≤(k:Int) % 10+1∧(k:Int) % 10+1≤(([48,49,50,51,52,53,54,55,56,57]:List UInt8).length:Int):=⟨by omega,by omega,by simp;omega⟩
  have hcl:(cut [48,49,50,51,52,53,54,55,56,57] ((k:Int) % 10) ((k:Int) % 10+1)).length≤1:=by simp only [cut,List.length_take,List.length_drop];omega
  by_cases h10:k < 10
  ·rw [itoa_one (k:Int) (by omega)]
   refine Ctr.intro Tryz.func189 rfl Tryz.ntmps189 (Nat.le_of_ble_eq_true rfl) (bd_all rfl) fun w0 F0=>?_;dsimp only [St.init,number,Nat.reduceAdd]
   repeat (first|refine W.gob rfl ?_|refine WL.nil ?_|refine WL.bf rfl rfl rfl (by omega) ?_|refine WL.e1 rfl ?_|refine WL.ar rfl rfl (by unfold I64;omega) ?_|refine WL.div rfl rfl (by omega) ?_|refine W.condF rfl ?_)
   refine (?_:WL _ _ _ _ _ _)
   dsimp only [St.put,Nat.reduceAdd]
   refine WL.cut rfl rfl hcb ?_
   repeat (first|refine W.gob rfl ?_|refine WL.nil ?_|refine WL.bt rfl rfl rfl (by omega) ?_|refine WL.e1 rfl ?_|refine W.condT rfl ?_)
   refine (?_:W _ _ _ _ _)
   dsimp only [St.put,Nat.reduceAdd]
   exact W.ret (fin1 rfl rfl rfl rfl)
  ·have hih:=ih (k/10) (by omega) (by omega)
   have hil:=itoa_len (n:=((k/10:Nat):Int)) (by omega)
   have ht:=itoa_ten (k:Int) (by omega)
   have e:((k/10:Nat):Int)=(k:Int)/10:=by omega
   rw [e] at hih hil
   rw [ht]
   refine Ctr.intro Tryz.func189 rfl Tryz.ntmps189 (Nat.le_of_ble_eq_true rfl) (bd_all rfl) fun w0 F0=>?_;dsimp only [St.init,number,Nat.reduceAdd]
   repeat (first|refine W.gob rfl ?_|refine WL.nil ?_|refine WL.bf rfl rfl rfl (by omega) ?_|refine WL.e1 rfl ?_|refine WL.ar rfl rfl (by unfold I64;omega) ?_|refine WL.div rfl rfl (by omega) ?_|refine W.condF rfl ?_)
   refine (?_:WL _ _ _ _ _ _)
   dsimp only [St.put,Nat.reduceAdd]
   refine WL.cut rfl rfl hcb ?_
   repeat (first|refine W.gob rfl ?_|refine WL.nil ?_|refine WL.bf rfl rfl rfl (by omega) ?_|refine WL.e1 rfl ?_|refine WL.div rfl rfl (by omega) ?_|refine W.condF rfl ?_)
   refine (?_:WL _ _ _ _ _ _)
   dsimp only [St.put,Nat.reduceAdd]
   refine WL.vl rfl (WV.call rfl (callF Tryz.func189 rfl rfl) rfl rfl hih) ?_
   repeat (first|refine WL.nil ?_|refine WL.e1 rfl ?_|refine WL.cat rfl rfl (by first|omega|(simp;done)|(simp;omega)) ?_)
   refine (?_:W _ _ _ _ _)
   dsimp only [St.put,Nat.reduceAdd]
   exact W.ret (fin1 rfl rfl rfl rfl)
theorem rDec_FS (n:Int) (h:-1000000000≤n∧n≤1000000000):Ctr Tryz.prog 189 [.sc (.int .i64 n)] (.sc (.string (bs (Lib.itoa n)))):=by
 by_cases h0:0≤n
 ·obtain ⟨k,rfl⟩:=Int.eq_ofNat_of_zero_le h0
  exact rDec_nat k k (Nat.le_refl _) (by omega)
 ·obtain ⟨k,hk⟩:=Int.eq_ofNat_of_zero_le (show 0≤0 - n by omega)
  have hih:=rDec_nat k k (Nat.le_refl _) (by omega)
  have hil:=itoa_len (n:=(k:Int)) (by omega)
  rw [← hk] at hih hil
  rw [itoa_neg n (by omega)]
  obtain ⟨io,hio⟩:∃ z,Lib.itoa (0 - n)=z:=⟨_,rfl⟩
  rw [hio] at hih hil ⊢
  refine Ctr.intro Tryz.func189 rfl Tryz.ntmps189 (Nat.le_of_ble_eq_true rfl) (bd_all rfl) fun w0 F0=>?_;dsimp only [St.init,number,Nat.reduceAdd]
  repeat (first|refine W.gob rfl ?_|refine WL.nil ?_|refine WL.bt rfl rfl rfl (by omega) ?_|refine WL.e1 rfl ?_|refine WL.neg rfl rfl (by unfold I64;omega) ?_|refine W.condT rfl ?_)
  refine (?_:WL _ _ _ _ _ _)
  dsimp only [St.put,Nat.reduceAdd]
  refine WL.vl rfl (WV.call rfl (callF Tryz.func189 rfl rfl) rfl rfl hih) ?_
  repeat (first|refine WL.nil ?_|refine WL.e1 rfl ?_|refine WL.cat rfl rfl (by first|omega|(simp;done)|(simp;omega)) ?_)
  refine (?_:W _ _ _ _ _)
  dsimp only [St.put,Nat.reduceAdd]
  exact W.ret (fin1 rfl rfl rfl rfl)
theorem rName_FS (l al o:Int):Ctr Tryz.prog 188 [.ag [.sc (.int .i64 l),.sc (.int .i64 al),.sc (.int .i64 o)]] (.tu [.sc (.string (bs (nmA l al o))),.sc (.int .i64 (sndX l al o))]):=by
 refine Ctr.intro Tryz.func188 rfl Tryz.ntmps188 (Nat.le_of_ble_eq_true rfl) (bd_all rfl) fun w0 F0=>?_;dsimp only [St.init,number,Nat.reduceAdd]
 repeat refine W.go rfl ?_
 refine (?_:WL _ _ _ _ _ _)
 dsimp only [St.put,Nat.reduceAdd]
 refine WL.vl rfl (WV.call rfl (callF Tryz.func218 rfl rfl) rfl rfl (rRight_FS l al o)) ?_
 cases hok:sndOk l al o with
 | false =>
  have hn:nmA l al o=[]:=if_neg (by simp [hok])
  rw [(snd_no hok).2,hn]
  repeat (first|refine W.gob rfl ?_|refine WL.nil ?_|refine WL.e1 rfl ?_|refine W.condT rfl ?_)
  refine (?_:W _ _ _ _ _)
  dsimp only [St.put,Nat.reduceAdd]
  exact W.ret (fin2 rfl rfl rfl rfl rfl rfl rfl)
 | true =>
  have hn:nmA l al o=cut ltrs l (l+1)++sgn al++Lib.itoa o:=if_pos hok
  obtain ⟨⟨⟨h1,h2⟩,⟨h3,h4⟩,h5,h6⟩,hv⟩:=sndOk_of hok
  rw [(snd_ok hok).2,hn]
  have hl1:(cut [67,68,69,70,71,65,66] l (l+1)).length≤1:=cut_ltr (l:=l)
  have hl2:=sgn_len al
  have hl3:=itoa_len (n:=o) (by omega)
  have hcb:0≤l∧l≤l+1∧l+1≤(([67,68,69,70,71,65,66]:List UInt8).length:Int):=⟨h1,by omega,by simp;omega⟩
  have hI:=rDec_FS o (by omega)
  have hcat:(cut [67,68,69,70,71,65,66] l (l+1)++sgn al).length≤2:=by rw [List.length_append];omega
  obtain ⟨io,hio⟩:∃ z,Lib.itoa o=z:=⟨_,rfl⟩
  rw [hio] at hl3 hI ⊢
  have cases3:(al=1∧sgn al=[35])∨(al≠1∧al=-1∧sgn al=[98])∨(al≠1∧al≠-1∧sgn al=[]):=by
   unfold sgn
   by_cases h1:al=1
   ·exact .inl ⟨h1,if_pos h1⟩
   ·by_cases h2:al=-1
    ·exact .inr (.inl ⟨h1,h2,by rw [if_neg h1,if_pos h2]⟩)
    ·exact .inr (.inr ⟨h1,h2,by rw [if_neg h1,if_neg h2]⟩)
  rcases cases3 with ⟨h1,hs⟩|⟨h1,h2,hs⟩|⟨h1,h2,hs⟩
  ·rw [hs] at hcat ⊢
   repeat (first|refine W.gob rfl ?_|refine WL.nil ?_|refine WL.e1 rfl ?_|refine WL.ar rfl rfl (by unfold I64;omega) ?_|refine W.condF rfl ?_)
   refine (?_:WL _ _ _ _ _ _)
   dsimp only [St.put,Nat.reduceAdd]
   refine WL.cut rfl rfl hcb ?_
   repeat (first|refine W.gob rfl ?_|refine WL.nil ?_|refine WL.bt rfl rfl rfl (by omega) ?_|refine WL.bf rfl rfl rfl (by omega) ?_|refine WL.e1 rfl ?_|refine WL.cat rfl rfl (by first|omega|(simp;done)|(simp;omega)) ?_|refine W.condT rfl ?_|refine W.condF rfl ?_)
   refine (?_:WL _ _ _ _ _ _)
   dsimp only [St.put,Nat.reduceAdd]
   refine WL.vl rfl (WV.call rfl (callF Tryz.func189 rfl rfl) rfl rfl hI) ?_
   repeat (first|refine WL.nil ?_|refine WL.e1 rfl ?_|refine WL.cat rfl rfl (by first|omega|(simp;done)|(simp;omega)) ?_)
   refine (?_:W _ _ _ _ _)
   dsimp only [St.put,Nat.reduceAdd]
   exact W.ret (fin2 rfl rfl rfl rfl rfl rfl rfl)
  ·rw [hs] at hcat ⊢
   repeat (first|refine W.gob rfl ?_|refine WL.nil ?_|refine WL.e1 rfl ?_|refine WL.ar rfl rfl (by unfold I64;omega) ?_|refine W.condF rfl ?_)
   refine (?_:WL _ _ _ _ _ _)
   dsimp only [St.put,Nat.reduceAdd]
   refine WL.cut rfl rfl hcb ?_
   repeat (first|refine W.gob rfl ?_|refine WL.nil ?_|refine WL.bt rfl rfl rfl (by omega) ?_|refine WL.bf rfl rfl rfl (by omega) ?_|refine WL.e1 rfl ?_|refine WL.cat rfl rfl (by first|omega|(simp;done)|(simp;omega)) ?_|refine W.condT rfl ?_|refine W.condF rfl ?_)
   refine (?_:WL _ _ _ _ _ _)
   dsimp only [St.put,Nat.reduceAdd]
   refine WL.vl rfl (WV.call rfl (callF Tryz.func189 rfl rfl) rfl rfl hI) ?_
   repeat (first|refine WL.nil ?_|refine WL.e1 rfl ?_|refine WL.cat rfl rfl (by first|omega|(simp;done)|(simp;omega)) ?_)
   refine (?_:W _ _ _ _ _)
   dsimp only [St.put,Nat.reduceAdd]
   exact W.ret (fin2 rfl rfl rfl rfl rfl rfl rfl)
  ·rw [hs,List.append_nil]
   repeat (first|refine W.gob rfl ?_|refine WL.nil ?_|refine WL.e1 rfl ?_|refine WL.ar rfl rfl (by unfold I64;omega) ?_|refine W.condF rfl ?_)
   refine (?_:WL _ _ _ _ _ _)
   dsimp only [St.put,Nat.reduceAdd]
   refine WL.cut rfl rfl hcb ?_
   repeat (first|refine W.gob rfl ?_|refine WL.nil ?_|refine WL.bf rfl rfl rfl (by omega) ?_|refine WL.e1 rfl ?_|refine W.condF rfl ?_)
   refine (?_:WL _ _ _ _ _ _)
   dsimp only [St.put,Nat.reduceAdd]
   refine WL.vl rfl (WV.call rfl (callF Tryz.func189 rfl rfl) rfl rfl hI) ?_
   repeat (first|refine WL.nil ?_|refine WL.e1 rfl ?_|refine WL.cat rfl rfl (by first|omega|(simp;done)|(simp;omega)) ?_)
   refine (?_:W _ _ _ _ _)
   dsimp only [St.put,Nat.reduceAdd]
   exact W.ret (fin2 rfl rfl rfl rfl rfl rfl rfl)
theorem rFormat_FS (cs:List (Int×Int×Bool)) (st:List Int):Ctr Tryz.prog 130 [.ag (eIns cs st)] (.tu [.sc (.string (bs (fmA cs st))),.sc (.int .i64 (insE cs st))]):=by
 refine Ctr.intro Tryz.func130 rfl Tryz.ntmps130 (Nat.le_of_ble_eq_true rfl) (bd_all rfl) fun w0 F0=>?_;dsimp only [St.init,number,Nat.reduceAdd]
 repeat refine W.go rfl ?_
 refine (?_:WL _ _ _ _ _ _)
 dsimp only [St.put,Nat.reduceAdd]
 refine WL.vl rfl (WV.call rfl (callF Tryz.func66 rfl rfl) rfl rfl (rInsCheck_FS cs st)) ?_
 by_cases h0:insE cs st=0
 rotate_left
 ·have hA:fmA cs st=[]:=if_neg h0
  rw [hA]
  repeat (first|refine W.gob rfl ?_|refine WL.nil ?_|refine WL.nt rfl rfl rfl (by omega) ?_|refine WL.e1 rfl ?_|refine W.condT rfl ?_)
  refine (?_:W _ _ _ _ _)
  dsimp only [St.put,Nat.reduceAdd]
  exact W.ret (fin2 rfl rfl rfl rfl rfl rfl rfl)
 have hA:fmA cs st=crsTs cs++[58]++stpTs st:=if_pos h0
 have hz:=insE_len h0
 obtain ⟨hz1,hz2,hz3,hz4,hz5⟩:=hz
 have hcl:=crsTs_len h0
 have hsl:=stpTs_len h0
 rw [h0,hA]
 clear hA
 repeat (first|refine W.gob rfl ?_|refine WL.nil ?_|refine WL.nf rfl rfl rfl (by omega) ?_|refine WL.e1 rfl ?_|refine W.condF rfl ?_)
 refine (?_:W _ _ _ _ _)
 dsimp only [St.put,Nat.reduceAdd]
 refine W.loop (fun k:Nat=>k≤cs.length) (fun k=>⟨[(1,.pt 0 0 0),(5,.sc (.string (bs (crsTs (cs.take k))))),(6,.sc (.int .i64 k))],[(0,.box 25 (eIns cs st))],1⟩) (fun k=>cs.length - k) 0 (by omega) (Tr.ren id (by repeat (first|exact trivial|refine ⟨⟨?_,?_⟩,?_⟩|rfl)) (by repeat (first|exact trivial|refine ⟨⟨?_,?_,?_⟩,?_⟩|rfl)) rfl) fun k hk=>?_
 by_cases hk2:k < cs.length
 ·have hb:=crsE_bd hz5 k hk2
  have hsp:=spV_ok hb.1
  have hSp:=rSpell_FS cs[k].1 0
  have hNm:=rName_FS (spV cs[k].1 0).1 (spV cs[k].1 0).2.1 (spV cs[k].1 0).2.2
  have hnl:=nmT_len hsp.2
  have hil:=itoa_len (n:=cs[k].2.1) (by omega)
  have hIt:=rDec_FS cs[k].2.1 (by omega)
  have hrow:=crsTs_succ hk2
  have hck:=hcl k
  unfold crsT at hrow
  rw [hsp.1] at hSp
  rw [(snd_ok hsp.2).2,nmA_of hsp.2] at hNm
  obtain ⟨x,hx⟩:∃ x,cs[k]=x:=⟨_,rfl⟩
  repeat (first|refine W.gob rfl ?_|refine WL.nil ?_|refine WL.bt rfl rfl rfl (by omega) ?_|refine WL.e1 rfl ?_|refine WL.len rfl rfl (by first|exact List.length_map _|exact List.length_replicate|rfl) ?_|refine WL.idx rfl rfl (by omega) (by first|exact map_at (by omega)|exact map_atZ (by omega) (by omega)) ?_|refine W.condT rfl ?_)
  refine (?_:WL _ _ _ _ _ _)
  dsimp only [St.put,Nat.reduceAdd]
  rw [hx] at hb hSp hNm hnl hil hIt hrow hsp
  obtain ⟨sp,hspe⟩:∃ z,spV x.1 0=z:=⟨_,rfl⟩
  rw [hspe] at hSp hNm hnl hrow
  obtain ⟨nm,hnme⟩:∃ z,nmT sp.1 sp.2.1 sp.2.2=z:=⟨_,rfl⟩
  rw [hnme] at hNm hnl hrow
  obtain ⟨io,hioe⟩:∃ z,Lib.itoa x.2.1=z:=⟨_,rfl⟩
  rw [hioe] at hIt hil hrow
  obtain ⟨cc,hcc⟩:∃ z,crsTs (cs.take k)=z:=⟨_,rfl⟩
  rw [hcc] at hrow hck ⊢
  have hcat1:(cc++nm).length≤722:=by rw [List.length_append];omega
  have hcat2:(cc++nm++[47]).length≤723:=by rw [List.length_append];simp only [List.length_cons,List.length_nil];omega
  have hcat3:(cc++nm++[47]++io).length≤743:=by rw [List.length_append];omega
  have hcat4:(cc++nm++[47]++io++[43]).length≤744:=by rw [List.length_append];simp only [List.length_cons,List.length_nil];omega
  rw [hx]
  refine WL.vl rfl (WV.call rfl (callF Tryz.func187 rfl rfl) rfl rfl hSp) ?_
  repeat (first|refine W.gob rfl ?_|refine WL.nil ?_|refine WL.e1 rfl ?_)
  refine (?_:WL _ _ _ _ _ _)
  dsimp only [St.put,Nat.reduceAdd]
  refine WL.vl rfl (WV.call rfl (callF Tryz.func188 rfl rfl) rfl rfl hNm) ?_
  repeat (first|refine W.gob rfl ?_|refine WL.nil ?_|refine WL.e1 rfl ?_|refine WL.idx rfl rfl (by omega) (by first|exact map_at (by omega)|exact map_atZ (by omega) (by omega)) ?_|refine WL.cat rfl rfl (by first|omega|(simp;done)|(simp;omega)) ?_)
  refine (?_:WL _ _ _ _ _ _)
  dsimp only [St.put,Nat.reduceAdd]
  rw [hx]
  refine WL.vl rfl (WV.call rfl (callF Tryz.func189 rfl rfl) rfl rfl hIt) ?_
  repeat (first|refine W.gob rfl ?_|refine WL.nil ?_|refine WL.e1 rfl ?_|refine WL.idx rfl rfl (by omega) (by first|exact map_at (by omega)|exact map_atZ (by omega) (by omega)) ?_|refine WL.cat rfl rfl (by first|omega|(simp;done)|(simp;omega)) ?_)
  refine (?_:W _ _ _ _ _)
  dsimp only [St.put,Nat.reduceAdd]
  rw [hx]
  (refine W.cond rfl (fun hif=>?_) (fun hif=>?_)<;>(try simp only [decide_eq_true_eq,decide_eq_false_iff_not,Int.not_lt,Int.not_le,Bool.not_eq_true',Bool.not_eq_false'] at hif))
  ·rw [hif,if_pos rfl] at hrow
   have hrow2:cc++nm++[47]++io++[43]++[32]=crsTs (cs.take (k+1)):=by rw [hrow];simp [List.append_assoc]
   repeat (first|refine W.gob rfl ?_|refine WL.nil ?_|refine WL.e1 rfl ?_|refine WL.ar rfl rfl (by unfold I64;omega) ?_|refine WL.cat rfl rfl (by first|omega|(simp;done)|(simp;omega)) ?_)
   dsimp only [St.put,Nat.reduceAdd]
   refine ⟨k+1,by omega,by omega,?_⟩
   rw [← hrow2]
   exact (Tr.ren (fun q=>q) (by repeat (first|exact trivial|refine ⟨⟨?_,?_⟩,?_⟩|rfl)) (by repeat (first|exact trivial|refine ⟨⟨?_,?_,?_⟩,?_⟩|rfl|exact congrArg (fun q=>some (AO.row _ _ q)) (by first|rfl|(simp;done)|(simp [eInt];done)|(simp [eLk];done)))) rfl)
  ·rw [hif] at hrow
   have hrow2:cc++nm++[47]++io++[32]=crsTs (cs.take (k+1)):=by rw [hrow];simp [List.append_assoc]
   repeat (first|refine W.gob rfl ?_|refine WL.nil ?_|refine WL.e1 rfl ?_|refine WL.ar rfl rfl (by unfold I64;omega) ?_|refine WL.cat rfl rfl (by first|omega|(simp;done)|(simp;omega)) ?_)
   dsimp only [St.put,Nat.reduceAdd]
   refine ⟨k+1,by omega,by omega,?_⟩
   rw [← hrow2]
   exact (Tr.ren (fun q=>q) (by repeat (first|exact trivial|refine ⟨⟨?_,?_⟩,?_⟩|rfl)) (by repeat (first|exact trivial|refine ⟨⟨?_,?_,?_⟩,?_⟩|rfl|exact congrArg (fun q=>some (AO.row _ _ q)) (by first|rfl|(simp;done)|(simp [eInt];done)|(simp [eLk];done)))) rfl)
 have hke:k=cs.length:=by omega
 have hck:=hcl cs.length
 rw [hke]
 rw [List.take_length] at hck ⊢
 obtain ⟨cc,hcc⟩:∃ z,crsTs cs=z:=⟨_,rfl⟩
 rw [hcc] at hck ⊢
 repeat (first|refine W.gob rfl ?_|refine WL.nil ?_|refine WL.bf rfl rfl rfl (by omega) ?_|refine WL.e1 rfl ?_|refine WL.len rfl rfl (by first|exact List.length_map _|exact List.length_replicate|rfl) ?_|refine WL.cat rfl rfl (by first|omega|(simp;done)|(simp;omega)) ?_|refine W.condF rfl ?_)
 refine (?_:W _ _ _ _ _)
 dsimp only [St.put,Nat.reduceAdd]
 obtain ⟨R,hR⟩:∃ z,cc++[58]++stpTs st=z:=⟨_,rfl⟩
 have hc0:cc++[58]=cc++[58]++stpTs (st.take 0):=(List.append_nil _).symm
 rw [hR,hc0]
 refine W.loop (fun j:Nat=>j≤st.length) (fun j=>⟨[(1,.pt 0 0 0),(5,.sc (.string (bs (cc++[58]++stpTs (st.take j))))),(11,.sc (.int .i64 j))],[(0,.box 25 (eIns cs st))],1⟩) (fun j=>st.length - j) 0 (by omega) (Tr.ren id (by repeat (first|exact trivial|refine ⟨⟨?_,?_⟩,?_⟩|rfl)) (by repeat (first|exact trivial|refine ⟨⟨?_,?_,?_⟩,?_⟩|rfl)) rfl) fun j hj=>?_
 by_cases hj2:j < st.length
 ·have hb:=stepsBad_bd (Int.le_refl 0) hz4 j hj2
  have hil:=itoa_len (n:=st[j]) (by omega)
  have hIt:=rDec_FS st[j] (by omega)
  have hsj:=hsl j
  have hrow:=stpTs_succ hj2
  unfold stpT at hrow
  obtain ⟨x,hx⟩:∃ x,st[j]=x:=⟨_,rfl⟩
  obtain ⟨io,hioe⟩:∃ z,Lib.itoa st[j]=z:=⟨_,rfl⟩
  rw [hioe] at hIt hil hrow
  have hrow2:cc++[58]++stpTs (st.take j)++[32]++io=cc++[58]++stpTs (st.take (j+1)):=by rw [hrow];simp [List.append_assoc]
  obtain ⟨ac,hac⟩:∃ z,cc++[58]++stpTs (st.take j)=z:=⟨_,rfl⟩
  have hal:ac.length≤1101:=by rw [← hac];simp only [List.length_append,List.length_cons,List.length_nil];omega
  have hal2:(ac++[32]).length≤1102:=by rw [List.length_append];simp only [List.length_cons,List.length_nil];omega
  rw [hac] at hrow2 ⊢
  repeat (first|refine W.gob rfl ?_|refine WL.nil ?_|refine WL.bt rfl rfl rfl (by omega) ?_|refine WL.e1 rfl ?_|refine WL.len rfl rfl (by first|exact List.length_map _|exact List.length_replicate|rfl) ?_|refine WL.idx rfl rfl (by omega) (by first|exact map_at (by omega)|exact map_atZ (by omega) (by omega)) ?_|refine WL.cat rfl rfl (by first|omega|(simp;done)|(simp;omega)) ?_|refine W.condT rfl ?_)
  refine (?_:WL _ _ _ _ _ _)
  dsimp only [St.put,Nat.reduceAdd]
  refine WL.vl rfl (WV.call rfl (callF Tryz.func189 rfl rfl) rfl rfl hIt) ?_
  repeat (first|refine W.gob rfl ?_|refine WL.nil ?_|refine WL.e1 rfl ?_|refine WL.ar rfl rfl (by unfold I64;omega) ?_|refine WL.cat rfl rfl (by first|omega|(simp;done)|(simp;omega)) ?_)
  dsimp only [St.put,Nat.reduceAdd]
  refine ⟨j+1,by omega,by omega,?_⟩
  rw [← hrow2]
  exact (Tr.ren (fun q=>q) (by repeat (first|exact trivial|refine ⟨⟨?_,?_⟩,?_⟩|rfl)) (by repeat (first|exact trivial|refine ⟨⟨?_,?_,?_⟩,?_⟩|rfl|exact congrArg (fun q=>some (AO.row _ _ q)) (by first|rfl|(simp;done)|(simp [eInt];done)|(simp [eLk];done)))) rfl)
 have hje:j=st.length:=by omega
 rw [hje,List.take_length,hR]
 repeat (first|refine W.gob rfl ?_|refine WL.nil ?_|refine WL.bf rfl rfl rfl (by omega) ?_|refine WL.e1 rfl ?_|refine WL.len rfl rfl (by first|exact List.length_map _|exact List.length_replicate|rfl) ?_|refine W.condF rfl ?_)
 refine (?_:W _ _ _ _ _)
 dsimp only [St.put,Nat.reduceAdd]
 exact W.ret (fin2 rfl rfl rfl rfl rfl rfl rfl)
end Go.Proofs.YtgelfflighgajaaGreatDoor
