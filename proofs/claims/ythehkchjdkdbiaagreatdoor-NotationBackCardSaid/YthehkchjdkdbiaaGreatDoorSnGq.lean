/- The text of an instrument: the program. BLD -/
import Derived.Test.YthehkchjdkdbiaaGreatDoorGXGq
set_option maxHeartbeats 4000000
set_option maxRecDepth 100000
set_option linter.unusedVariables false
set_option linter.unusedSimpArgs false
namespace Go.Proofs.YthehkchjdkdbiaaGreatDoor
open Go.RowKit
theorem crsE_bd {st:List Int}:∀ {cs:List (Int×Int×Bool)},crsE st cs=0→∀ k (h:k<cs.length),(0≤cs[k].1∧cs[k].1≤127)∧0≤cs[k].2.1∧cs[k].2.1≤st.length
 | [],_,k,h=>by simp at h
 | x::r,hc,k,h=>by
  unfold crsE at hc
  split at hc
  ·cases hc
  ·split at hc
   ·cases hc
   ·cases k with
    | zero=>simp only [List.getElem_cons_zero];omega
    | succ k=>simp only [List.getElem_cons_succ];exact crsE_bd hc k (by simpa using h)
theorem crsTs_len {cs:List (Int×Int×Bool)} {st:List Int} (h:insE cs st=0) (k:Nat):(crsTs (cs.take k)).length≤700:=by
 obtain ⟨h1,h2,h3,h4,h5⟩:=insE_len h
 have:=flatB_len (l:=cs.take k) (f:=crsT) (b:=46) fun x hx=>by
  obtain ⟨j,hj,rfl⟩:=List.getElem_of_mem (List.mem_of_mem_take hx)
  have:=crsE_bd h5 j hj
  exact crsT_len this.1 ⟨this.2.1,by omega⟩
 have hl:(cs.take k).length≤14:=by rw [List.length_take];omega
 have:46*(cs.take k).length≤46*14:=Nat.mul_le_mul_left 46 hl
 unfold crsTs;omega
theorem stpTs_len {cs:List (Int×Int×Bool)} {st:List Int} (h:insE cs st=0) (k:Nat):(stpTs (st.take k)).length≤400:=by
 obtain ⟨h1,h2,h3,h4,h5⟩:=insE_len h
 have:=flatB_len (l:=st.take k) (f:=stpT) (b:=21) fun x hx=>by
  obtain ⟨j,hj,rfl⟩:=List.getElem_of_mem (List.mem_of_mem_take hx)
  have:=stepsBad_bd (Int.le_refl 0) h4 j hj
  have:=itoa_len (n:=st[j]) zqo
  unfold stpT
  simp only [List.length_append,List.length_cons,List.length_nil];omega
 have hl:(st.take k).length≤18:=by rw [List.length_take];omega
 have:21*(st.take k).length≤21*18:=Nat.mul_le_mul_left 21 hl
 unfold stpTs;omega
def fmA (cs:List (Int×Int×Bool))(st:List Int):List UInt8:=if insE cs st=0 then fmT cs st else []
theorem nmA_of {l al o:Int} (h:sndOk l al o=true):nmA l al o=nmT l al o:=if_pos h
theorem pFormat_G (cs:List (Int×Int×Bool)) (st:List Int):Ctg tabB Tryz.prog 52 [.ag (eIns cs st)] (.tu [.sc (.string (bs (fmA cs st))),.sc (.int .i64 (insE cs st))]):=by
 refine Ctg.intro stabB Tryz.func52 rfl Tryz.ntmps52 (Nat.le_of_ble_eq_true rfl) (bd_all rfl) fun w0 F0 hB=>?_;dsimp only [St.init,number,Nat.reduceAdd]
 refine zqg59 ?_
 refine WL.vl rfl (WV.call rfl (callF Tryz.func103 rfl rfl) rfl rfl (pInsCheck_FS cs st)) ?_
 by_cases h0:insE cs st=0
 rotate_left
 ·have hA:fmA cs st=[]:=if_neg h0
  rw [hA]
  refine zqg60 ?_
  exact W.ret (fin2 rfl rfl rfl rfl rfl rfl rfl)
 have hA:fmA cs st=crsTs cs++[58]++stpTs st:=if_pos h0
 have hz:=insE_len h0
 obtain ⟨hz1,hz2,hz3,hz4,hz5⟩:=hz
 have hcl:=crsTs_len h0
 have hsl:=stpTs_len h0
 rw [h0,hA]
 clear hA
 refine zqg60 ?_
 first|refine W.tr (Tr.bld 1 5 rfl) ?_|refine WL.tr (Tr.bld 1 5 rfl) ?_
 dsimp only [St.upd]
 refine zqg60 ?_
 refine W.loop (fun k:Nat=>k≤cs.length) (fun k=>⟨[(1,.pt 0 0 0),(5,.pt 1 0 0),(19,.ls 3 (cs.map eCrs)),(20,.sc (.int .i64 cs.length)),(21,.sc (.int .i64 k))],[(0,.box 27 (eIns cs st)),(1,.bld 103 5 (crsTs (cs.take k)))],2⟩) (fun k=>cs.length - k) 0 zqo (zqt id) fun k hk=>?_
 by_cases hk2:k < cs.length
 ·have hb:=crsE_bd hz5 k hk2
  have hsp:=spV_ok hb.1
  have hSp:=pSpell_G cs[k].1 0
  have hNm:=pNameW_G (spV cs[k].1 0).1 (spV cs[k].1 0).2.1 (spV cs[k].1 0).2.2
  have hnl:=nmT_len hsp.2
  have hil:=itoa_len (n:=cs[k].2.1) zqo
  have hIt:=itoa_G cs[k].2.1 (by unfold I64;omega)
  have hrow:=crsTs_succ hk2
  have hck:=hcl k
  unfold crsT at hrow
  rw [hsp.1] at hSp
  rw [(snd_ok hsp.2).2,nmA_of hsp.2] at hNm
  obtain ⟨x,hx⟩:∃ x,cs[k]=x:=⟨_,rfl⟩
  refine zqg60 ?_
  rw [hx] at hb hSp hNm hnl hil hIt hrow hsp ⊢
  obtain ⟨sp,hspe⟩:∃ z,spV x.1 0=z:=⟨_,rfl⟩
  rw [hspe] at hSp hNm hnl hrow
  obtain ⟨nm,hnme⟩:∃ z,nmT sp.1 sp.2.1 sp.2.2=z:=⟨_,rfl⟩
  rw [hnme] at hNm hnl hrow
  obtain ⟨io,hioe⟩:∃ z,Lib.itoa x.2.1=z:=⟨_,rfl⟩
  rw [hioe] at hIt hil hrow
  obtain ⟨cc,hcc⟩:∃ z,crsTs (cs.take k)=z:=⟨_,rfl⟩
  rw [hcc] at hrow hck ⊢
  refine WL.vl rfl (WV.callG hB rfl (callF Tryz.func106 rfl rfl) rfl rfl hSp) ?_
  refine zqg60 ?_
  refine WL.vl rfl (WV.callG hB rfl (callF Tryz.func107 rfl rfl) rfl rfl hNm) ?_
  refine zqg60 ?_
  refine WL.vl rfl (WV.callG hB rfl (callF Tryz.func108 rfl rfl) rfl rfl hIt) ?_
  have hcat:(nm++[47]).length≤23:=by simp only [List.length_append,List.length_cons,List.length_nil];omega
  have hcat2:(nm++[47]++io).length≤43:=by rw [List.length_append];omega
  refine zqg60 ?_
  refine WL.bw rfl rfl rfl (callF Tryz.func53 rfl rfl) bldW_ok zqo rfl ?_
  have hcat3:(cc++(nm++[47]++io)).length≤743:=by rw [List.length_append];omega
  refine zqg60 ?_
  (refine W.cond rfl (fun hif=>?_) (fun hif=>?_)<;>(try simp only [decide_eq_true_eq,decide_eq_false_iff_not,Int.not_lt,Int.not_le,Bool.not_eq_true',Bool.not_eq_false'] at hif))
  ·rw [hif,if_pos rfl] at hrow
   have hrow2:cc++(nm++[47]++io)++[43]++[32]=crsTs (cs.take (k+1)):=by rw [hrow];simp [List.append_assoc]
   refine zqg60 ?_
   refine WL.bw rfl rfl rfl (callF Tryz.func53 rfl rfl) bldW_ok (by simp only [List.length_cons,List.length_nil];omega) rfl ?_
   refine zqg60 ?_
   refine WL.bw rfl rfl rfl (callF Tryz.func53 rfl rfl) bldW_ok (by simp only [List.length_append,List.length_cons,List.length_nil] at hcat3 ⊢;omega) hrow2 ?_
   refine zqg60 ?_
   refine ⟨k+1,by omega,by omega,?_⟩
   exact (zqu (fun q=>q) (by repeat (first|exact trivial|refine ⟨⟨?_,?_,?_⟩,?_⟩|rfl|exact congrArg (fun q=>some (AO.row _ _ q)) (by first|rfl|(simp;done)|(simp [eInt];done)|(simp [eLk];done)))) rfl)
  ·rw [hif] at hrow
   have hrow2:cc++(nm++[47]++io)++[32]=crsTs (cs.take (k+1)):=by rw [hrow];simp [List.append_assoc]
   refine zqg60 ?_
   refine WL.bw rfl rfl rfl (callF Tryz.func53 rfl rfl) bldW_ok (by simp only [List.length_cons,List.length_nil];omega) hrow2 ?_
   refine zqg60 ?_
   refine ⟨k+1,by omega,by omega,?_⟩
   exact (zqu (fun q=>q) (by repeat (first|exact trivial|refine ⟨⟨?_,?_,?_⟩,?_⟩|rfl|exact congrArg (fun q=>some (AO.row _ _ q)) (by first|rfl|(simp;done)|(simp [eInt];done)|(simp [eLk];done)))) rfl)
 have hke:k=cs.length:=by omega
 have hck:=hcl cs.length
 rw [hke]
 rw [List.take_length] at hck ⊢
 obtain ⟨cc,hcc⟩:∃ z,crsTs cs=z:=⟨_,rfl⟩
 rw [hcc] at hck ⊢
 refine zqg60 ?_
 refine WL.bw rfl rfl rfl (callF Tryz.func53 rfl rfl) bldW_ok (by simp only [List.length_cons,List.length_nil];omega) rfl ?_
 refine zqg60 ?_
 refine W.loop (fun j:Nat=>j≤st.length) (fun j=>⟨[(1,.pt 0 0 0),(5,.pt 1 0 0),(56,.ls 1 (st.map eInt)),(57,.sc (.int .i64 st.length)),(58,.sc (.int .i64 j))],[(0,.box 27 (eIns cs st)),(1,.bld 103 5 (cc++[58]++stpTs (st.take j)))],2⟩) (fun j=>st.length - j) 0 zqo (zqu (fun q=>q) (by repeat (first|exact trivial|refine ⟨⟨?_,?_,?_⟩,?_⟩|rfl|exact congrArg (fun q=>some (AO.row _ _ q)) (show cc++[58]=cc++[58]++stpTs (st.take 0) from (List.append_nil _).symm)|exact congrArg (fun q=>some (AO.bld _ _ q)) (show cc++[58]=cc++[58]++stpTs (st.take 0) from (List.append_nil _).symm))) rfl) fun j hj=>?_
 by_cases hj2:j < st.length
 ·have hb:=stepsBad_bd (Int.le_refl 0) hz4 j hj2
  have hil:=itoa_len (n:=st[j]) zqo
  have hIt:=itoa_G st[j] (by unfold I64;omega)
  have hsj:=hsl j
  have hrow:=stpTs_succ hj2
  unfold stpT at hrow
  obtain ⟨x,hx⟩:∃ x,st[j]=x:=⟨_,rfl⟩
  refine zqg60 ?_
  rw [hx] at hb hil hIt hrow ⊢
  obtain ⟨io,hioe⟩:∃ z,Lib.itoa x=z:=⟨_,rfl⟩
  rw [hioe] at hIt hil hrow
  have hrow2:cc++[58]++stpTs (st.take j)++([32]++io)=cc++[58]++stpTs (st.take (j+1)):=by rw [hrow];simp [List.append_assoc]
  refine WL.vl rfl (WV.callG hB rfl (callF Tryz.func108 rfl rfl) rfl rfl hIt) ?_
  refine zqg60 ?_
  refine WL.bw rfl rfl rfl (callF Tryz.func53 rfl rfl) bldW_ok (by simp only [List.length_append,List.length_cons,List.length_nil];omega) hrow2 ?_
  refine zqg60 ?_
  refine ⟨j+1,by omega,by omega,?_⟩
  exact (zqu (fun q=>q) (by repeat (first|exact trivial|refine ⟨⟨?_,?_,?_⟩,?_⟩|rfl|exact congrArg (fun q=>some (AO.row _ _ q)) (by first|rfl|(simp;done)|(simp [eInt];done)|(simp [eLk];done)))) rfl)
 have hje:j=st.length:=by omega
 rw [hje,List.take_length]
 refine zqg60 ?_
 refine WL.bs rfl rfl rfl (callF Tryz.func55 rfl rfl) bldS_ok (by simp) ?_
 refine zqg60 ?_
 exact W.ret (fin2 rfl rfl rfl rfl rfl rfl rfl)
end Go.Proofs.YthehkchjdkdbiaaGreatDoor
