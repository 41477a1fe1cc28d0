/- The reader of the reference: the holds. (RWN.) -/
import Derived.Test.YthehkchjdkdbiaaGreatDoorNrTHq
set_option maxHeartbeats 8000000
set_option maxRecDepth 100000
set_option linter.unusedVariables false
set_option linter.unusedSimpArgs false
namespace Go.Proofs.YthehkchjdkdbiaaGreatDoor
open Go.RowKit
def rf_U:N5→Int:=fun x=>(x.2.2.2.2:Int)
theorem rf_hK_set {s:Int} {E:List NC} {i k:Nat} {l:List N5} (h:k<l.length) {v:Int} (hv:v=nr_hV s E i l[k]):((nr_stK rf_U (nr_hV s E i) k l).map eStp).set k (putL 4 [.sc (.int .i64 v)] (eStp (nr_stp rf_U l[k])))=(nr_stK rf_U (nr_hV s E i) (k+1) l).map eStp:=by
 subst hv
 have e:putL 4 [.sc (.int .i64 (nr_hV s E i l[k]))] (eStp (nr_stp rf_U l[k]))=eStp (nr_stp (nr_hV s E i) l[k]):=rfl
 rw [e,← List.map_set,nr_stK_put h]
theorem rHolds_G (s:Int) (hs:1≤s∧s≤4) (cs:List Crs) (st:List Int) (E:List NC) (h1:cs.length≤64) (h2:st.length≤64) (hE:E.length≤420) (h20:∀ x∈E,x.l.length≤20) :
  Ctu truB 0 Tryz.prog 47 [.sc (.int .u8 s),.ag [.ls 3 (cs.map eCrs),.ls 1 (st.map eInt),.sl 0]] [(0,.rwn 90 6 ((E.map nr_rh).map eEvO))] 1
   (match nr_hB s E with
    | some i=>.ok (.tu [.sc (.int .i64 (i:Int)),.sc (.int .i64 24)]) [] 3
    | none=>.ok (.tu [.sc (.int .i64 0),.sc (.int .i64 0)]) [(0,.rwn 90 6 ((nr_fin s E).map eEvO))] 2):=by
 refine Ctu.intro truS Tryz.func47 rfl Tryz.ntmps47 (Nat.le_of_ble_eq_true rfl) rfl fun w0 F0 fp pg hB=>?_
 dsimp only [number,Nat.reduceAdd]
 refine zqg46 ?_
 refine W.loop (fun i:Nat=>i≤E.length∧(∀ j (h:j < E.length),j < i→E[j].l.any (nr_hE s E j)=false)) (fun i=>⟨[(0,.sc (.int .u8 s)),(3,.pt 1 0 0),(6,.sc (.int .i64 (i:Int)))],
  [(0,.rwn 90 6 ((nr_stN rf_U (nr_hV s E) E i 0).map eEvO)),(1,.box 30 [.ls 3 (cs.map eCrs),.ls 1 (st.map eInt),.sl 0])],2⟩) (fun i=>E.length - i) 0 ⟨by omega,fun j hj h2=>absurd h2 (by omega)⟩ (by rw [show E.map nr_rh=nr_stN rf_U (nr_hV s E) E 0 0 from (nr_stN_0 _ _ _).symm];exact (zqt id)) fun i hi=>?_
 obtain ⟨hi,hall⟩:=hi
 have hnl:((nr_stN rf_U (nr_hV s E) E i 0).map eEvO).length=E.length:=by rw [List.length_map,nr_stN_len]
 by_cases hlt:i < E.length
 rotate_left
 ·obtain rfl:i=E.length:=by omega
  rw [nr_hB_none fun j hj=>hall j hj hj,nr_stN_all]
  rw [nr_stN_all] at hnl
  obtain ⟨FE,hFE⟩:∃ z,(nr_fin s E).map eEvO=z:=⟨_,rfl⟩
  have hFE2:(E.mapIdx fun i x=>nr_evW x (nr_hV s E i)).map eEvO=FE:=hFE
  rw [hFE2] at hnl ⊢
  rw [hFE]
  dsimp only
  refine zqg46 ?_
  refine W.ret (?_:QFinM _ _ _ (.tu [.sc (.int .i64 0),.sc (.int .i64 0)]) [(0,.rwn 90 6 FE)] 2 _ _)
  exact finMs rfl rfl rfl ⟨rfl,trivial⟩ rfl
 have hat:((nr_stN rf_U (nr_hV s E) E i 0).map eEvO)[i]?=some (eEvO { nr_evW E[i] rf_U with stops:=nr_stK rf_U (nr_hV s E i) 0 E[i].l }):=by rw [List.getElem?_map,nr_stN_at hlt];rfl
 have hset0:∀ k,((nr_stN rf_U (nr_hV s E) E i 0).map eEvO).set i (eEvO { nr_evW E[i] rf_U with stops:=nr_stK rf_U (nr_hV s E i) k E[i].l })=(nr_stN rf_U (nr_hV s E) E i k).map eEvO:=fun k=>nr_stN_set hlt eEvO 0
 have hset1:∀ k,((nr_stN rf_U (nr_hV s E) E i 0).map eEv).set i (eEv { nr_evW E[i] rf_U with stops:=nr_stK rf_U (nr_hV s E i) k E[i].l })=(nr_stN rf_U (nr_hV s E) E i k).map eEv:=fun k=>nr_stN_set hlt eEv 0
 have hl20:=h20 _ (List.getElem_mem hlt)
 have hLC:=fun k c=>rLong_FS ⟨cs,st,nr_stN rf_U (nr_hV s E) E i k⟩ ⟨h1,h2,by show (nr_stN rf_U (nr_hV s E) E i k).length≤420;rw [nr_stN_len];exact hE,fun j hj=>by
  have hj2:j < E.length:=by rw [← nr_stN_len (U:=rf_U) (V:=nr_hV s E) (E:=E) (n:=i) (k:=k)];exact hj
  exact Nat.le_trans (Nat.le_of_eq (nr_stN_stops (U:=rf_U) (V:=nr_hV s E) (n:=i) (k:=k) hj2)) (h20 _ (List.getElem_mem hj2))⟩ i c
 obtain ⟨l,hl⟩:∃ z,E[i].l=z:=⟨_,rfl⟩
 rw [hl] at hl20
 refine zqg47 ?_
 refine W.tr (Tr.open_ 0 i 5 rfl hat rfl (eStp_own _) rfl) ?_
 dsimp only [St.upd,St.new,Nat.reduceAdd]
 rw [hl] at hat ⊢
 refine W.loop (fun k:Nat=>k≤l.length∧∀ j (h:j < l.length),j < k→nr_hE s E i l[j]=false) (fun k=>⟨[(0,.sc (.int .u8 s)),(3,.pt 1 0 0),(6,.sc (.int .i64 (i:Int))),(7,.sc (.int .i64 (k:Int)))],
  [(0,.rwo 90 6 ((nr_stN rf_U (nr_hV s E) E i 0).map eEvO) i 5 (.sl 2)),(1,.box 30 [.ls 3 (cs.map eCrs),.ls 1 (st.map eInt),.sl 0]),(2,.row 69 5 ((nr_stK rf_U (nr_hV s E i) k l).map eStp))],3⟩) (fun k=>l.length - k) 0 ⟨by omega,fun j h h2=>absurd h2 (by omega)⟩ (zqt id) fun k hk=>?_
 obtain ⟨hk,hno⟩:=hk
 have hSl:((nr_stK rf_U (nr_hV s E i) k l).map eStp).length=l.length:=by rw [List.length_map,nr_stK_len]
 by_cases hkt:k < l.length
 rotate_left
 ·obtain rfl:k=l.length:=by omega
  have hcl:((nr_stN rf_U (nr_hV s E) E i 0).map eEvO).set i ((eEvO { nr_evW E[i] rf_U with stops:=nr_stK rf_U (nr_hV s E i) 0 l }).set 5 (.ow 69 5 ((nr_stK rf_U (nr_hV s E i) l.length l).map eStp)))=(nr_stN rf_U (nr_hV s E) E (i+1) 0).map eEvO:=by
   have h:=hset0 l.length
   rw [hl] at h
   have h2:=nr_stN_next (U:=rf_U) (V:=nr_hV s E) hlt
   rw [hl] at h2
   rw [← h2,← h];rfl
  have hany:E[i].l.any (nr_hE s E i)=false:=by rw [hl];exact nr_any_s fun k hk=>hno k hk hk
  obtain ⟨SS,hSS⟩:∃ z,(nr_stK rf_U (nr_hV s E i) l.length l).map eStp=z:=⟨_,rfl⟩
  rw [hSS] at hSl hcl ⊢
  refine zqg46 ?_
  refine WL.ldQ rfl rfl rfl rfl hat (by show 5 < 6;omega) ?_
  refine zqg46 ?_
  refine ⟨i+1,⟨by omega,fun j hj hji=>?_⟩,by omega,?_⟩
  ·by_cases e:j=i
   ·subst e;exact hany
   ·exact hall j hj zqo
  refine Tr.trans (Tr.close_ 0 rfl rfl rfl hat (by show 5 < 6;omega) hcl) ?_
  exact (zqt id)
 have hSk:((nr_stK rf_U (nr_hV s E i) k l).map eStp)[k]?=some (eStp (nr_stp rf_U l[k])):=by rw [List.getElem?_map,nr_stK_get hkt];rfl
 have hset:=fun {v:Int} (h:v=nr_hV s E i l[k])=>rf_hK_set (s:=s) (E:=E) (i:=i) hkt h
 have hLk:=hLC k l[k].1
 have hle:(((nr_stN rf_U (nr_hV s E) E i 0).map eEvO).map fun r=>r.map (AV.fz 1)).set i (((eEvO { nr_evW E[i] rf_U with stops:=nr_stK rf_U (nr_hV s E i) 0 l }).map (AV.fz 1)).set 5 (.ls 5 ((nr_stK rf_U (nr_hV s E i) k l).map eStp)))=(nr_stN rf_U (nr_hV s E) E i k).map eEv:=by
  have h:=hset1 k
  rw [hl] at h
  rw [eEvO_rows,eEvO_fz,← h];rfl
 have hLC2:Ctr Tryz.prog 102 [.ag [.ls 3 (cs.map eCrs),.ls 1 (st.map eInt),.ls 6 ((nr_stN rf_U (nr_hV s E) E i k).map eEv)],.sc (.int .i64 i),.sc (.int .i64 l[k].1)] (.sc (.int .i64 (nr_lg E i l[k]))):=by
  have h:=hLk
  rw [show longestN (Pce.mk cs st (nr_stN rf_U (nr_hV s E) E i k)).evs i l[k].1=longestN (E.map nr_ev0) i l[k].1 from nr_stN_long _ _] at h
  exact h
 have hsame:=fun h=>nr_stK_same (U:=rf_U) (V:=nr_hV s E i) (k:=k) (l:=l) hkt h
 have hnx:nr_hE s E i l[k]=false→∀ j (h:j < l.length),j < k+1→nr_hE s E i l[j]=false:=fun h j hj hjk=>by
  by_cases e:j=k
  ·subst e;exact h
  ·exact hno j hj zqo
 have hbad:nr_hE s E i l[k]=true→nr_hB s E=some i:=fun h=>nr_hB_at hlt hall (by rw [hl];exact hkt) (by simpa [hl] using h)
 have hlg0:0≤nr_lg E i l[k]:=by unfold nr_lg;exact Int.natCast_nonneg _
 have hE1:nr_hE s E i l[k]=(decide (l[k].2.2.2.2≠0) && (decide (nr_lg E i l[k]=0)|| (decide (s=1) && decide (nr_lg E i l[k] < l[k].2.2.2.2)))):=rfl
 have hV1:nr_hV s E i l[k]=if l[k].2.2.2.2=0 then 0 else if s=1 then (l[k].2.2.2.2:Int) else nr_lg E i l[k]:=rfl
 have hU1:rf_U l[k]=(l[k].2.2.2.2:Int):=rfl
 have hSe:eStp (nr_stp rf_U l[k])=[.sc (.int .i64 l[k].1),.sc (.int .i64 l[k].2.1),.sc (.int .i64 l[k].2.2.1),.sc (.int .i64 l[k].2.2.2.1),.sc (.int .i64 l[k].2.2.2.2)]:=rfl
 rw [hSe] at hSk
 obtain ⟨⟨c,f,r,g,h⟩,hx⟩:∃ z,l[k]=z:=⟨_,rfl⟩
 rw [hx] at hSk hset hLC2 hsame hnx hbad hlg0 hE1 hV1 hU1
 obtain ⟨LG,hLG⟩:∃ z,nr_lg E i (c,f,r,g,h)=z:=⟨_,rfl⟩
 rw [hLG] at hLC2 hlg0 hE1 hV1
 dsimp only at hE1 hV1 hLC2 hU1 hSk
 have hh0:(0:Int)≤(h:Int):=Int.natCast_nonneg _
 obtain ⟨SS,hSS⟩:∃ z,(nr_stK rf_U (nr_hV s E i) k l).map eStp=z:=⟨_,rfl⟩
 rw [hSS] at hSl hSk hset hle ⊢
 clear hall hno hset0 hset1 hLC hLk hSe
 by_cases h0:h=0
 ·have hE2:=hnx (by rw [hE1,h0];simp)
  have hS2:=hsame (by rw [hV1,if_pos h0,hU1,h0];rfl)
  clear hset hbad
  refine zqg47 ?_
  refine WL.ldQ rfl rfl rfl rfl hat (by show 5 < 6;omega) ?_
  refine zqg47 ?_
  refine WL.ldQ rfl rfl rfl rfl hat (by show 5 < 6;omega) ?_
  refine zqg47 ?_
  refine WL.ldr rfl rfl hSk rfl rfl ?_
  refine zqg47 ?_
  refine ⟨k+1,⟨by omega,hE2⟩,by omega,?_⟩
  exact (zqu (fun q=>q) (by repeat (first|exact trivial|refine ⟨⟨?_,?_,?_⟩,?_⟩|rfl|exact congrArg (fun q=>some (AO.row _ _ q)) (by rw [hS2,hSS])|exact congrArg (fun q=>some (AO.rwn _ _ q)) (by rw [hS2,hSS]))) rfl)
 by_cases hz:LG=0
 ·rw [hbad (by rw [hE1,hz];simp [h0])]
  dsimp only
  clear hE1 hV1 hU1 hnx hsame hset hbad
  by_cases s1:s=1
  ·subst s1
   refine zqg47 ?_
   refine WL.ldQ rfl rfl rfl rfl hat (by show 5 < 6;omega) ?_
   refine zqg47 ?_
   refine WL.ldQ rfl rfl rfl rfl hat (by show 5 < 6;omega) ?_
   refine zqg47 ?_
   refine WL.ldr rfl rfl hSk rfl rfl ?_
   refine zqg47 ?_
   refine W.drawK zqk zqk ?_
   repeat (first|refine DK.vl rfl (WV.nch rfl rfl) ?_|refine DK.st rfl ?_|refine DK.ixs rfl rfl zqs ?_|refine DK.nil ?_)
   refine DK.vl rfl (ldqV_O rfl rfl rfl hat (by show 5 < 6;omega)) ?_
   repeat (first|refine DK.vl rfl (WV.nch rfl rfl) ?_|refine DK.st rfl ?_|refine DK.ixs rfl rfl zqs ?_|refine DK.nil ?_)
   refine DK.vl rfl (ldrV_of rfl hSk rfl rfl) ?_
   repeat (first|refine DK.vl rfl (WV.nch rfl rfl) ?_|refine DK.st rfl ?_|refine DK.ixs rfl rfl zqs ?_|refine DK.nil ?_)
   refine DK.vl rfl (WV.lendX (truH _) rfl (callF Tryz.func102 rfl rfl) rfl (.cons (Lent.ag (.cons (Lent.pu rfl) (.cons (Lent.pu rfl) (.cons (Lent.rwo 1 rfl (Lent.row rfl) (eEvO_shal _) hat (by show 5 < 6;omega) hle) .nil)))) (.cons (Lent.pu rfl) (.cons (Lent.pu rfl) .nil))) truST hLC2.g) ?_
   repeat (first|refine DK.vl rfl (WV.nch rfl rfl) ?_|refine DK.st rfl ?_|refine DK.ixs rfl rfl zqs ?_|refine DK.nil ?_)
   refine zqg47 ?_
   exact W.ret (finMs rfl rfl rfl trivial rfl)
  ·skip
   refine zqg47 ?_
   refine WL.ldQ rfl rfl rfl rfl hat (by show 5 < 6;omega) ?_
   refine zqg47 ?_
   refine WL.ldQ rfl rfl rfl rfl hat (by show 5 < 6;omega) ?_
   refine zqg47 ?_
   refine WL.ldr rfl rfl hSk rfl rfl ?_
   refine zqg47 ?_
   refine W.drawK zqk zqk ?_
   repeat (first|refine DK.vl rfl (WV.nch rfl rfl) ?_|refine DK.st rfl ?_|refine DK.ixs rfl rfl zqs ?_|refine DK.nil ?_)
   refine DK.vl rfl (ldqV_O rfl rfl rfl hat (by show 5 < 6;omega)) ?_
   repeat (first|refine DK.vl rfl (WV.nch rfl rfl) ?_|refine DK.st rfl ?_|refine DK.ixs rfl rfl zqs ?_|refine DK.nil ?_)
   refine DK.vl rfl (ldrV_of rfl hSk rfl rfl) ?_
   repeat (first|refine DK.vl rfl (WV.nch rfl rfl) ?_|refine DK.st rfl ?_|refine DK.ixs rfl rfl zqs ?_|refine DK.nil ?_)
   refine DK.vl rfl (WV.lendX (truH _) rfl (callF Tryz.func102 rfl rfl) rfl (.cons (Lent.ag (.cons (Lent.pu rfl) (.cons (Lent.pu rfl) (.cons (Lent.rwo 1 rfl (Lent.row rfl) (eEvO_shal _) hat (by show 5 < 6;omega) hle) .nil)))) (.cons (Lent.pu rfl) (.cons (Lent.pu rfl) .nil))) truST hLC2.g) ?_
   repeat (first|refine DK.vl rfl (WV.nch rfl rfl) ?_|refine DK.st rfl ?_|refine DK.ixs rfl rfl zqs ?_|refine DK.nil ?_)
   refine zqg47 ?_
   exact W.ret (finMs rfl rfl rfl trivial rfl)
 by_cases s1:s=1
 ·by_cases hg:LG < (h:Int)
  ·rw [hbad (by rw [hE1,decide_eq_true s1,decide_eq_true hg];simp [h0])]
   dsimp only
   clear hE1 hV1 hU1 hnx hsame hset hbad
   subst s1
   refine zqg47 ?_
   refine WL.ldQ rfl rfl rfl rfl hat (by show 5 < 6;omega) ?_
   refine zqg47 ?_
   refine WL.ldQ rfl rfl rfl rfl hat (by show 5 < 6;omega) ?_
   refine zqg47 ?_
   refine WL.ldr rfl rfl hSk rfl rfl ?_
   refine zqg47 ?_
   refine W.drawK zqk zqk ?_
   repeat (first|refine DK.vl rfl (WV.nch rfl rfl) ?_|refine DK.st rfl ?_|refine DK.ixs rfl rfl zqs ?_|refine DK.nil ?_)
   refine DK.vl rfl (ldqV_O rfl rfl rfl hat (by show 5 < 6;omega)) ?_
   repeat (first|refine DK.vl rfl (WV.nch rfl rfl) ?_|refine DK.st rfl ?_|refine DK.ixs rfl rfl zqs ?_|refine DK.nil ?_)
   refine DK.vl rfl (ldrV_of rfl hSk rfl rfl) ?_
   repeat (first|refine DK.vl rfl (WV.nch rfl rfl) ?_|refine DK.st rfl ?_|refine DK.ixs rfl rfl zqs ?_|refine DK.nil ?_)
   refine DK.vl rfl (WV.lendX (truH _) rfl (callF Tryz.func102 rfl rfl) rfl (.cons (Lent.ag (.cons (Lent.pu rfl) (.cons (Lent.pu rfl) (.cons (Lent.rwo 1 rfl (Lent.row rfl) (eEvO_shal _) hat (by show 5 < 6;omega) hle) .nil)))) (.cons (Lent.pu rfl) (.cons (Lent.pu rfl) .nil))) truST hLC2.g) ?_
   repeat (first|refine DK.vl rfl (WV.nch rfl rfl) ?_|refine DK.st rfl ?_|refine DK.ixs rfl rfl zqs ?_|refine DK.nil ?_)
   refine zqg47 ?_
   exact W.ret (finMs rfl rfl rfl trivial rfl)
  ·have hE2:=hnx (by rw [hE1,decide_eq_false hz,decide_eq_false hg];simp)
   have hS2:=hset (v:=(h:Int)) (by rw [hV1,if_neg h0,if_pos s1])
   clear hE1 hV1 hU1 hnx hsame hset hbad
   subst s1
   refine zqg47 ?_
   refine WL.ldQ rfl rfl rfl rfl hat (by show 5 < 6;omega) ?_
   refine zqg47 ?_
   refine WL.ldQ rfl rfl rfl rfl hat (by show 5 < 6;omega) ?_
   refine zqg47 ?_
   refine WL.ldr rfl rfl hSk rfl rfl ?_
   refine zqg47 ?_
   refine W.drawK zqk zqk ?_
   repeat (first|refine DK.vl rfl (WV.nch rfl rfl) ?_|refine DK.st rfl ?_|refine DK.ixs rfl rfl zqs ?_|refine DK.nil ?_)
   refine DK.vl rfl (ldqV_O rfl rfl rfl hat (by show 5 < 6;omega)) ?_
   repeat (first|refine DK.vl rfl (WV.nch rfl rfl) ?_|refine DK.st rfl ?_|refine DK.ixs rfl rfl zqs ?_|refine DK.nil ?_)
   refine DK.vl rfl (ldrV_of rfl hSk rfl rfl) ?_
   repeat (first|refine DK.vl rfl (WV.nch rfl rfl) ?_|refine DK.st rfl ?_|refine DK.ixs rfl rfl zqs ?_|refine DK.nil ?_)
   refine DK.vl rfl (WV.lendX (truH _) rfl (callF Tryz.func102 rfl rfl) rfl (.cons (Lent.ag (.cons (Lent.pu rfl) (.cons (Lent.pu rfl) (.cons (Lent.rwo 1 rfl (Lent.row rfl) (eEvO_shal _) hat (by show 5 < 6;omega) hle) .nil)))) (.cons (Lent.pu rfl) (.cons (Lent.pu rfl) .nil))) truST hLC2.g) ?_
   repeat (first|refine DK.vl rfl (WV.nch rfl rfl) ?_|refine DK.st rfl ?_|refine DK.ixs rfl rfl zqs ?_|refine DK.nil ?_)
   refine zqg47 ?_
   refine WL.ldQ rfl rfl rfl rfl hat (by show 5 < 6;omega) ?_
   refine zqg47 ?_
   refine WL.op rfl (WO.store rfl rfl rfl rfl rfl rfl rfl rfl rfl rfl (put_row hSk (by show 4+1≤5;omega) rfl)) ?_
   refine zqg47 ?_
   refine ⟨k+1,⟨by omega,hE2⟩,by omega,?_⟩
   exact (zqu (fun q=>q) (by repeat (first|exact trivial|refine ⟨⟨?_,?_,?_⟩,?_⟩|rfl|exact congrArg (fun q=>some (AO.row _ _ q)) hS2|exact congrArg (fun q=>some (AO.rwn _ _ q)) hS2)) rfl)
 ·have hE2:=hnx (by rw [hE1,decide_eq_false hz,decide_eq_false s1];simp)
  have hS2:=hset (v:=LG) (by rw [hV1,if_neg h0,if_neg s1])
  clear hE1 hV1 hU1 hnx hsame hset hbad
  refine zqg47 ?_
  refine WL.ldQ rfl rfl rfl rfl hat (by show 5 < 6;omega) ?_
  refine zqg47 ?_
  refine WL.ldQ rfl rfl rfl rfl hat (by show 5 < 6;omega) ?_
  refine zqg47 ?_
  refine WL.ldr rfl rfl hSk rfl rfl ?_
  refine zqg47 ?_
  refine W.drawK zqk zqk ?_
  repeat (first|refine DK.vl rfl (WV.nch rfl rfl) ?_|refine DK.st rfl ?_|refine DK.ixs rfl rfl zqs ?_|refine DK.nil ?_)
  refine DK.vl rfl (ldqV_O rfl rfl rfl hat (by show 5 < 6;omega)) ?_
  repeat (first|refine DK.vl rfl (WV.nch rfl rfl) ?_|refine DK.st rfl ?_|refine DK.ixs rfl rfl zqs ?_|refine DK.nil ?_)
  refine DK.vl rfl (ldrV_of rfl hSk rfl rfl) ?_
  repeat (first|refine DK.vl rfl (WV.nch rfl rfl) ?_|refine DK.st rfl ?_|refine DK.ixs rfl rfl zqs ?_|refine DK.nil ?_)
  refine DK.vl rfl (WV.lendX (truH _) rfl (callF Tryz.func102 rfl rfl) rfl (.cons (Lent.ag (.cons (Lent.pu rfl) (.cons (Lent.pu rfl) (.cons (Lent.rwo 1 rfl (Lent.row rfl) (eEvO_shal _) hat (by show 5 < 6;omega) hle) .nil)))) (.cons (Lent.pu rfl) (.cons (Lent.pu rfl) .nil))) truST hLC2.g) ?_
  repeat (first|refine DK.vl rfl (WV.nch rfl rfl) ?_|refine DK.st rfl ?_|refine DK.ixs rfl rfl zqs ?_|refine DK.nil ?_)
  refine zqg47 ?_
  refine WL.ldQ rfl rfl rfl rfl hat (by show 5 < 6;omega) ?_
  refine zqg47 ?_
  refine WL.op rfl (WO.store rfl rfl rfl rfl rfl rfl rfl rfl rfl rfl (put_row hSk (by show 4+1≤5;omega) rfl)) ?_
  refine zqg47 ?_
  refine ⟨k+1,⟨by omega,hE2⟩,by omega,?_⟩
  exact (zqu (fun q=>q) (by repeat (first|exact trivial|refine ⟨⟨?_,?_,?_⟩,?_⟩|rfl|exact congrArg (fun q=>some (AO.row _ _ q)) hS2|exact congrArg (fun q=>some (AO.rwn _ _ q)) hS2)) rfl)
end Go.Proofs.YthehkchjdkdbiaaGreatDoor
