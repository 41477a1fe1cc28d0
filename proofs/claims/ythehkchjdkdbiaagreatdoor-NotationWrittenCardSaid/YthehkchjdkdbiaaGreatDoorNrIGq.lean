/- The reader of the program: the holds. (RWN.) -/
import Derived.Test.YthehkchjdkdbiaaGreatDoorNrDGq
import Derived.Test.YthehkchjdkdbiaaGreatDoorGXGq
set_option maxHeartbeats 8000000
set_option maxRecDepth 100000
set_option linter.unusedVariables false
set_option linter.unusedSimpArgs false
namespace Go.Proofs.YthehkchjdkdbiaaGreatDoor
open Go.RowKit
def eNts (s:Int)(x:NC):List AV:=[.ls 6 (x.l.map (eWr s))]
def nr_U:N5→Int:=fun _=>0
theorem nr_hK_set {s:Int} {E:List NC} {i k:Nat} {l:List N5} (h:k<l.length) {v:Int} (hv:v=nr_hV s E i l[k]):((nr_stK nr_U (nr_hV s E i) k l).map eStp).set k (putL 4 [.sc (.int .i64 v)] (eStp (nr_stp nr_U l[k])))=(nr_stK nr_U (nr_hV s E i) (k+1) l).map eStp:=by
 subst hv
 have e:putL 4 [.sc (.int .i64 (nr_hV s E i l[k]))] (eStp (nr_stp nr_U l[k]))=eStp (nr_stp (nr_hV s E i) l[k]):=rfl
 rw [e,← List.map_set,nr_stK_put h]
theorem holds_G (s:Int) (hs:1≤s∧s≤4) (cs:List Crs) (st:List Int) (T:List (List AV)) (cl:Bool) (E:List NC) (h1:cs.length≤64) (h2:st.length≤64) (hE:E.length≤420) (h20:∀ x∈E,x.l.length≤20) :
  Ctu truB 0 Tryz.prog 43 [.pt 0 0 0] [(0,nr_rd (.int .u8 s) (sysV s) (cs.map eCrs) (st.map eInt) ((E.length:Int)+2) T cl),(1,.rwn 90 6 ((E.map nr_ev0).map eEvO)),(2,.row 153 1 (E.map (eNts s)))] 3
   (match nr_hB s E with
    | some i=>.er (nr_flt ((i:Int)+3) 24)
    | none=>.ok (.tu []) [(0,nr_rd (.int .u8 s) (sysV s) (cs.map eCrs) (st.map eInt) ((E.length:Int)+2) T cl),(1,.rwn 90 6 ((nr_fin s E).map eEvO)),(2,.row 153 1 (E.map (eNts s)))] 3):=by
 refine Ctu.intro truS Tryz.func43 rfl Tryz.ntmps43 (Nat.le_of_ble_eq_true rfl) rfl fun w0 F0 fp pg hB=>?_
 unfold nr_rd
 dsimp only [number,Nat.reduceAdd]
 have hNl:(E.map (eNts s)).length=E.length:=List.length_map _
 have hNat:∀ i (h:i < E.length),(E.map (eNts s))[((i:Nat):Int).toNat]?=some (eNts s E[i]):=fun i h=>by
  rw [Int.toNat_natCast,List.getElem?_map,List.getElem?_eq_getElem h];rfl
 obtain ⟨NN,hNN⟩:∃ z,E.map (eNts s)=z:=⟨_,rfl⟩
 rw [hNN] at hNl hNat ⊢
 refine zqg36 ?_
 refine W.loop (fun x:Nat×Int=>x.1≤E.length∧(∀ j (h:j < E.length),j < x.1→E[j].l.any (nr_hE s E j)=false)∧(x.1=0→x.2=(E.length:Int)+2)∧(0 < x.1→x.2=(x.1:Int)+2)) (fun x=>⟨[(0,.pt 0 0 0),(10,.sl 2),(11,.sc (.int .i64 (E.length:Int))),(12,.sc (.int .i64 (x.1:Int)))],
  [(0,.box 78 [.sc (.int .u8 s),.sc (sysV s),.ls 3 (cs.map eCrs),.ls 1 (st.map eInt),.sl 1,.sl 2,.sc (.int .i64 x.2),.ls 1 T,.sc (.bool cl)]),(1,.rwn 90 6 ((nr_stN nr_U (nr_hV s E) E x.1 0).map eEvO)),(2,.row 153 1 NN)],3⟩) (fun x=>E.length - x.1) (0,(E.length:Int)+2) ⟨by omega,fun j h h2=>absurd h2 (by omega),fun _=>rfl,fun h=>absurd h (by omega)⟩ (by rw [hNl];exact (zqu (fun q=>q) (by repeat (first|exact trivial|refine ⟨⟨?_,?_,?_⟩,?_⟩|rfl|exact congrArg (fun q=>some (AO.row _ _ q)) (by rw [nr_stN_0];rfl)|exact congrArg (fun q=>some (AO.rwn _ _ q)) (by rw [nr_stN_0];rfl))) rfl)) fun x hx=>?_
 obtain ⟨i,lv⟩:=x
 obtain ⟨hi,hall,hl0,hl1⟩:=hx
 dsimp only at hi hall hl0 hl1 ⊢
 by_cases hlt:i < E.length
 rotate_left
 ·obtain rfl:i=E.length:=by omega
  have hlv:lv=(E.length:Int)+2:=by
   by_cases e:E.length=0
   ·exact hl0 e
   ·exact hl1 zqo
  rw [nr_hB_none fun j hj=>hall j hj hj,hlv,nr_stN_all]
  refine zqg36 ?_
  exact finTrL (σ':=⟨[],[(0,.box 78 [.sc (.int .u8 s),.sc (sysV s),.ls 3 (cs.map eCrs),.ls 1 (st.map eInt),.sl 1,.sl 2,.sc (.int .i64 ((E.length:Int)+2)),.ls 1 T,.sc (.bool cl)]),(1,.rwn 90 6 ((nr_fin s E).map eEvO)),(2,.row 153 1 NN)],3⟩) (zqt id) (finMuL rfl rfl rfl rfl rfl)
 have hrow:=hNat i hlt
 have hat:((nr_stN nr_U (nr_hV s E) E i 0).map eEvO)[i]?=some (eEvO { nr_evW E[i] nr_U with stops:=nr_stK nr_U (nr_hV s E i) 0 E[i].l }):=by rw [List.getElem?_map,nr_stN_at hlt];rfl
 have hnl:((nr_stN nr_U (nr_hV s E) E i 0).map eEvO).length=E.length:=by rw [List.length_map,nr_stN_len]
 have hset0:∀ k,((nr_stN nr_U (nr_hV s E) E i 0).map eEvO).set i (eEvO { nr_evW E[i] nr_U with stops:=nr_stK nr_U (nr_hV s E i) k E[i].l })=(nr_stN nr_U (nr_hV s E) E i k).map eEvO:=fun k=>nr_stN_set hlt eEvO 0
 have hset1:∀ k,((nr_stN nr_U (nr_hV s E) E i 0).map eEv).set i (eEv { nr_evW E[i] nr_U with stops:=nr_stK nr_U (nr_hV s E i) k E[i].l })=(nr_stN nr_U (nr_hV s E) E i k).map eEv:=fun k=>nr_stN_set hlt eEv 0
 have hl20:=h20 _ (List.getElem_mem hlt)
 have hLC:=fun k c=>pLong_FS ⟨cs,st,nr_stN nr_U (nr_hV s E) E i k⟩ ⟨h1,h2,by show (nr_stN nr_U (nr_hV s E) E i k).length≤420;rw [nr_stN_len];exact hE,fun j hj=>by
  have hj2:j < E.length:=by rw [← nr_stN_len (U:=nr_U) (V:=nr_hV s E) (E:=E) (n:=i) (k:=k)];exact hj
  exact Nat.le_trans (Nat.le_of_eq (nr_stN_stops (U:=nr_U) (V:=nr_hV s E) (n:=i) (k:=k) hj2)) (h20 _ (List.getElem_mem hj2))⟩ i c
 obtain ⟨l,hl⟩:∃ z,E[i].l=z:=⟨_,rfl⟩
 rw [hl] at hl20
 have hev:eNts s E[i]=[.ls 6 (l.map (eWr s))]:=by unfold eNts;rw [hl]
 rw [hev] at hrow
 have hNLl:(l.map (eWr s)).length=l.length:=List.length_map _
 have hNLat:∀ k (h:k < l.length),(l.map (eWr s))[((k:Nat):Int).toNat]?=some (eWr s l[k]):=fun k h=>by
  rw [Int.toNat_natCast,List.getElem?_map,List.getElem?_eq_getElem h];rfl
 obtain ⟨NL,hNLe⟩:∃ z,l.map (eWr s)=z:=⟨_,rfl⟩
 rw [hNLe] at hrow hNLl hNLat
 refine zqg37 ?_
 refine WL.ldr rfl rfl hrow rfl rfl ?_
 refine zqg37 ?_
 refine W.tr (Tr.open_ 1 i 5 rfl hat rfl (eStp_own _) rfl) ?_
 dsimp only [St.upd,St.new,Nat.reduceAdd]
 rw [hl] at hat ⊢
 refine W.loop (fun k:Nat=>k≤l.length∧∀ j (h:j < l.length),j < k→nr_hE s E i l[j]=false) (fun k=>⟨[(0,.pt 0 0 0),(2,.sc (.int .i64 (i:Int))),(10,.sl 2),(11,.sc (.int .i64 (E.length:Int))),(12,.sc (.int .i64 (i:Int))),(22,.ls 6 NL),(23,.sc (.int .i64 (l.length:Int))),(24,.sc (.int .i64 (k:Int)))],
  [(0,.box 78 [.sc (.int .u8 s),.sc (sysV s),.ls 3 (cs.map eCrs),.ls 1 (st.map eInt),.sl 1,.sl 2,.sc (.int .i64 ((i:Int)+3)),.ls 1 T,.sc (.bool cl)]),(1,.rwo 90 6 ((nr_stN nr_U (nr_hV s E) E i 0).map eEvO) i 5 (.sl 3)),(2,.row 153 1 NN),(3,.row 69 5 ((nr_stK nr_U (nr_hV s E i) k l).map eStp))],4⟩) (fun k=>l.length - k) 0 ⟨by omega,fun j h h2=>absurd h2 (by omega)⟩ (by rw [hNLl];exact (zqt id)) fun k hk=>?_
 obtain ⟨hk,hno⟩:=hk
 have hSl:((nr_stK nr_U (nr_hV s E i) k l).map eStp).length=l.length:=by rw [List.length_map,nr_stK_len]
 by_cases hkt:k < l.length
 rotate_left
 ·obtain rfl:k=l.length:=by omega
  have hcl:((nr_stN nr_U (nr_hV s E) E i 0).map eEvO).set i ((eEvO { nr_evW E[i] nr_U with stops:=nr_stK nr_U (nr_hV s E i) 0 l }).set 5 (.ow 69 5 ((nr_stK nr_U (nr_hV s E i) l.length l).map eStp)))=(nr_stN nr_U (nr_hV s E) E (i+1) 0).map eEvO:=by
   have h:=hset0 l.length
   rw [hl] at h
   have h2:=nr_stN_next (U:=nr_U) (V:=nr_hV s E) hlt
   rw [hl] at h2
   rw [← h2,← h];rfl
  have hany:E[i].l.any (nr_hE s E i)=false:=by rw [hl];exact nr_any_s fun k hk=>hno k hk hk
  refine zqg36 ?_
  refine ⟨(i+1,(i:Int)+3),⟨by show i+1≤_;omega,fun j hj hji=>?_,fun h=>absurd h (by show ¬ i+1=0;omega),fun _=>by show (i:Int)+3=((i+1:Nat):Int)+2;omega⟩,by show E.length - (i+1) < E.length - i;omega,?_⟩
  ·by_cases e:j=i
   ·subst e;exact hany
   ·exact hall j hj (by have:j < i+1:=hji;omega)
  refine Tr.trans (Tr.close_ 1 rfl rfl rfl hat (by show 5 < 6;omega) hcl) ?_
  exact (zqt id)
 have hNk:=hNLat k hkt
 have hSk:((nr_stK nr_U (nr_hV s E i) k l).map eStp)[k]?=some (eStp (nr_stp nr_U l[k])):=by rw [List.getElem?_map,nr_stK_get hkt];rfl
 have hset:=fun {v:Int} (h:v=nr_hV s E i l[k])=>nr_hK_set (s:=s) (E:=E) (i:=i) hkt h
 have hLk:=hLC k l[k].1
 have hle:(((nr_stN nr_U (nr_hV s E) E i 0).map eEvO).map fun r=>r.map (AV.fz 1)).set i (((eEvO { nr_evW E[i] nr_U with stops:=nr_stK nr_U (nr_hV s E i) 0 l }).map (AV.fz 1)).set 5 (.ls 5 ((nr_stK nr_U (nr_hV s E i) k l).map eStp)))=(nr_stN nr_U (nr_hV s E) E i k).map eEv:=by
  have h:=hset1 k
  rw [hl] at h
  rw [eEvO_rows,eEvO_fz,← h];rfl
 have hLC2:Ctr Tryz.prog 95 [.ag [.ls 3 (cs.map eCrs),.ls 1 (st.map eInt),.ls 6 ((nr_stN nr_U (nr_hV s E) E i k).map eEv)],.sc (.int .i64 i),.sc (.int .i64 l[k].1)] (.sc (.int .i64 (nr_lg E i l[k]))):=by
  have h:=hLk
  rw [show longestN (Pce.mk cs st (nr_stN nr_U (nr_hV s E) E i k)).evs i l[k].1=longestN (E.map nr_ev0) i l[k].1 from nr_stN_long _ _] at h
  exact h
 have hsame:=fun h=>nr_stK_same (U:=nr_U) (V:=nr_hV s E i) (k:=k) (l:=l) hkt h
 have hnx:nr_hE s E i l[k]=false→∀ j (h:j < l.length),j < k+1→nr_hE s E i l[j]=false:=fun h j hj hjk=>by
  by_cases e:j=k
  ·subst e;exact h
  ·exact hno j hj zqo
 have hbad:nr_hE s E i l[k]=true→nr_hB s E=some i:=fun h=>nr_hB_at hlt hall (by rw [hl];exact hkt) (by simpa [hl] using h)
 have hlg0:0≤nr_lg E i l[k]:=by unfold nr_lg;exact Int.natCast_nonneg _
 have hE1:nr_hE s E i l[k]=(decide (l[k].2.2.2.2≠0) && (decide (nr_lg E i l[k]=0)|| (decide (s=1) && decide (nr_lg E i l[k] < l[k].2.2.2.2)))):=rfl
 have hV1:nr_hV s E i l[k]=if l[k].2.2.2.2=0 then 0 else if s=1 then (l[k].2.2.2.2:Int) else nr_lg E i l[k]:=rfl
 obtain ⟨⟨c,f,r,g,h⟩,hx⟩:∃ z,l[k]=z:=⟨_,rfl⟩
 rw [hx] at hNk hSk hset hLC2 hsame hnx hbad hlg0 hE1 hV1
 obtain ⟨LG,hLG⟩:∃ z,nr_lg E i (c,f,r,g,h)=z:=⟨_,rfl⟩
 rw [hLG] at hLC2 hlg0 hE1 hV1
 dsimp only at hE1 hV1 hLC2
 obtain ⟨H,hH⟩:∃ z,rm_hold s h=z:=⟨_,rfl⟩
 have hHe:H=if h=0 then 0 else if s=1 then (h:Int) else -1:=hH.symm
 unfold eWr at hNk
 dsimp only at hNk
 rw [hH] at hNk
 obtain ⟨SS,hSS⟩:∃ z,(nr_stK nr_U (nr_hV s E i) k l).map eStp=z:=⟨_,rfl⟩
 rw [hSS] at hSl hSk hset hle ⊢
 clear hall hno hset0 hset1 hLC hLk hNat hNLat hl0 hl1
 by_cases h0:h=0
 ·have hH0:H=0:=by rw [hHe,if_pos h0]
  have hE2:=hnx (by rw [hE1,h0];simp)
  have hS2:=hsame (by rw [hV1,if_pos h0];rfl)
  refine zqg37 ?_
  refine WL.idx rfl rfl zqo hNk ?_
  refine zqg37 ?_
  refine ⟨k+1,⟨by omega,hE2⟩,by omega,?_⟩
  rw [hS2,hSS]
  exact (zqt id)
 have hHn:H≠0:=by rw [hHe,if_neg h0];split<;>omega
 have hHp:s=1→H=(h:Int):=fun e=>by rw [hHe,if_neg h0,if_pos e]
 have hHm:s≠1→H=-1:=fun e=>by rw [hHe,if_neg h0,if_neg e]
 have hh0:(0:Int)≤(h:Int):=Int.natCast_nonneg _
 by_cases hz:LG=0
 ·rw [hbad (by rw [hE1,hz];simp [h0])]
  clear hHe hV1 hE1 hnx hsame hset hHp hHm
  refine zqg37 ?_
  refine WL.idx rfl rfl zqo hNk ?_
  refine zqg37 ?_
  refine W.drawK zqk zqk ?_
  repeat (first|refine DK.vl rfl (WV.nch rfl rfl) ?_|refine DK.st rfl ?_|refine DK.nil ?_)
  refine DK.vl rfl (WV.lendX (truH _) rfl (callF Tryz.func95 rfl rfl) rfl (.cons (Lent.ag (.cons (Lent.pu rfl) (.cons (Lent.pu rfl) (.cons (Lent.rwo 1 rfl (Lent.row rfl) (eEvO_shal _) hat (by show 5 < 6;omega) hle) .nil)))) (.cons (Lent.pu rfl) (.cons (Lent.pu rfl) .nil))) truST hLC2.g) ?_
  repeat (first|refine DK.vl rfl (WV.nch rfl rfl) ?_|refine DK.st rfl ?_|refine DK.nil ?_)
  refine zqg37 ?_
  refine WL.ctp (truH _) [0,1,2] rfl rfl (callF Tryz.func40 rfl rfl) (fail_G _ _ _ _ _ _ _ _) rfl rfl rfl ⟨⟨rfl,rfl,rfl⟩,trivial⟩ ?_
  rfl
 by_cases hg:LG < H
 ·have s1:s=1:=by
   by_cases e:s=1
   ·exact e
   ·have:=hHm e;omega
  have hHh:=hHp s1
  rw [hbad (by rw [hE1,decide_eq_true s1,decide_eq_true (show LG < (h:Int) by omega)];simp [h0])]
  clear hHe hV1 hE1 hnx hsame hset hHp hHm
  refine zqg37 ?_
  refine WL.idx rfl rfl zqo hNk ?_
  refine zqg37 ?_
  refine W.drawK zqk zqk ?_
  repeat (first|refine DK.vl rfl (WV.nch rfl rfl) ?_|refine DK.st rfl ?_|refine DK.nil ?_)
  refine DK.vl rfl (WV.lendX (truH _) rfl (callF Tryz.func95 rfl rfl) rfl (.cons (Lent.ag (.cons (Lent.pu rfl) (.cons (Lent.pu rfl) (.cons (Lent.rwo 1 rfl (Lent.row rfl) (eEvO_shal _) hat (by show 5 < 6;omega) hle) .nil)))) (.cons (Lent.pu rfl) (.cons (Lent.pu rfl) .nil))) truST hLC2.g) ?_
  repeat (first|refine DK.vl rfl (WV.nch rfl rfl) ?_|refine DK.st rfl ?_|refine DK.nil ?_)
  refine zqg37 ?_
  refine WL.ctp (truH _) [0,1,2] rfl rfl (callF Tryz.func40 rfl rfl) (fail_G _ _ _ _ _ _ _ _) rfl rfl rfl ⟨⟨rfl,rfl,rfl⟩,trivial⟩ ?_
  rfl
 have hE2:=hnx (by
  rw [hE1,decide_eq_false hz]
  by_cases e:s=1
  ·rw [decide_eq_false (show ¬ LG < (h:Int) by have:=hHp e;omega)];simp
  ·rw [decide_eq_false e];simp)
 by_cases hn:H < 0
 ·have s1:s≠1:=fun e=>by have:=hHp e;omega
  have hS2:=hset (v:=LG) (by rw [hV1,if_neg h0,if_neg s1])
  clear hHe hV1 hE1 hnx hsame hset hHp hHm hbad
  refine zqg37 ?_
  refine WL.idx rfl rfl zqo hNk ?_
  refine zqg37 ?_
  refine W.drawK zqk zqk ?_
  repeat (first|refine DK.vl rfl (WV.nch rfl rfl) ?_|refine DK.st rfl ?_|refine DK.nil ?_)
  refine DK.vl rfl (WV.lendX (truH _) rfl (callF Tryz.func95 rfl rfl) rfl (.cons (Lent.ag (.cons (Lent.pu rfl) (.cons (Lent.pu rfl) (.cons (Lent.rwo 1 rfl (Lent.row rfl) (eEvO_shal _) hat (by show 5 < 6;omega) hle) .nil)))) (.cons (Lent.pu rfl) (.cons (Lent.pu rfl) .nil))) truST hLC2.g) ?_
  repeat (first|refine DK.vl rfl (WV.nch rfl rfl) ?_|refine DK.st rfl ?_|refine DK.nil ?_)
  refine zqg37 ?_
  refine W.of_wa zqk ?_
  refine WA.dt [false,false,false,false,false,false,false,false,false,false,false,false,false,false,true] [0,4] [0,4,1,3] 14 zqk zqk zqk ⟨rfl,rfl,trivial⟩ ⟨rfl,rfl,rfl,rfl,trivial⟩ ?_
  refine DTK.st rfl zqk rfl ?_
  refine DTK.vl rfl zqk (WV.nch rfl rfl) ?_
  refine DTK.st rfl zqk rfl ?_
  refine DTK.st rfl zqk rfl ?_
  refine DTK.st rfl zqk rfl ?_
  refine DTK.st rfl zqk rfl ?_
  refine DTK.ixs rfl zqk rfl ⟨by omega,by omega⟩ ?_
  refine DTK.st rfl zqk rfl ?_
  refine DTK.ldQ rfl zqk rfl rfl rfl hat (by show 5 < 6;omega) ?_
  refine DTK.st rfl zqk rfl ?_
  refine DTK.st rfl zqk rfl ?_
  refine DTK.st rfl zqk rfl ?_
  refine DTK.ixs rfl zqk rfl ⟨by omega,by omega⟩ ?_
  refine DTK.st rfl zqk rfl ?_
  refine DTK.sto rfl rfl rfl rfl rfl rfl rfl rfl rfl rfl rfl rfl (put_row hSk (by show 4+1≤5;omega) rfl) rfl ⟨rfl,rfl,trivial⟩ (fun h=>by cases h) ?_
  refine DTK.nil ?_
  refine zqg37 ?_
  refine ⟨k+1,⟨by omega,hE2⟩,by omega,?_⟩
  exact (zqu (fun q=>q) (by repeat (first|exact trivial|refine ⟨⟨?_,?_,?_⟩,?_⟩|rfl|exact congrArg (fun q=>some (AO.row _ _ q)) hS2|exact congrArg (fun q=>some (AO.rwn _ _ q)) hS2)) rfl)
 ·have s1:s=1:=by
   by_cases e:s=1
   ·exact e
   ·have:=hHm e;omega
  have hS2:=hset (v:=H) (by rw [hV1,if_neg h0,if_pos s1];exact hHp s1)
  clear hHe hV1 hE1 hnx hsame hset hHp hHm hbad
  refine zqg37 ?_
  refine WL.idx rfl rfl zqo hNk ?_
  refine zqg37 ?_
  refine W.drawK zqk zqk ?_
  repeat (first|refine DK.vl rfl (WV.nch rfl rfl) ?_|refine DK.st rfl ?_|refine DK.nil ?_)
  refine DK.vl rfl (WV.lendX (truH _) rfl (callF Tryz.func95 rfl rfl) rfl (.cons (Lent.ag (.cons (Lent.pu rfl) (.cons (Lent.pu rfl) (.cons (Lent.rwo 1 rfl (Lent.row rfl) (eEvO_shal _) hat (by show 5 < 6;omega) hle) .nil)))) (.cons (Lent.pu rfl) (.cons (Lent.pu rfl) .nil))) truST hLC2.g) ?_
  repeat (first|refine DK.vl rfl (WV.nch rfl rfl) ?_|refine DK.st rfl ?_|refine DK.nil ?_)
  refine zqg37 ?_
  refine W.of_wa zqk ?_
  refine WA.dt [false,false,false,false,false,false,false,false,false,false,false,false,false,false,true] [0,4] [0,4,1,3] 14 zqk zqk zqk ⟨rfl,rfl,trivial⟩ ⟨rfl,rfl,rfl,rfl,trivial⟩ ?_
  refine DTK.st rfl zqk rfl ?_
  refine DTK.vl rfl zqk (WV.nch rfl rfl) ?_
  refine DTK.st rfl zqk rfl ?_
  refine DTK.st rfl zqk rfl ?_
  refine DTK.st rfl zqk rfl ?_
  refine DTK.st rfl zqk rfl ?_
  refine DTK.ixs rfl zqk rfl ⟨by omega,by omega⟩ ?_
  refine DTK.st rfl zqk rfl ?_
  refine DTK.ldQ rfl zqk rfl rfl rfl hat (by show 5 < 6;omega) ?_
  refine DTK.st rfl zqk rfl ?_
  refine DTK.st rfl zqk rfl ?_
  refine DTK.st rfl zqk rfl ?_
  refine DTK.ixs rfl zqk rfl ⟨by omega,by omega⟩ ?_
  refine DTK.st rfl zqk rfl ?_
  refine DTK.sto rfl rfl rfl rfl rfl rfl rfl rfl rfl rfl rfl rfl (put_row hSk (by show 4+1≤5;omega) rfl) rfl ⟨rfl,rfl,trivial⟩ (fun h=>by cases h) ?_
  refine DTK.nil ?_
  refine zqg37 ?_
  refine ⟨k+1,⟨by omega,hE2⟩,by omega,?_⟩
  exact (zqu (fun q=>q) (by repeat (first|exact trivial|refine ⟨⟨?_,?_,?_⟩,?_⟩|rfl|exact congrArg (fun q=>some (AO.row _ _ q)) hS2|exact congrArg (fun q=>some (AO.rwn _ _ q)) hS2)) rfl)
end Go.Proofs.YthehkchjdkdbiaaGreatDoor
