/- The reader of the program: a column. (RWN.) -/
import Derived.Test.YthehkchjdkdbiaaGreatDoorNrFGq
import Derived.Test.YthehkchjdkdbiaaGreatDoorK2Gq
import Derived.Test.YthehkchjdkdbiaaGreatDoorNrIGq
import Derived.Test.YthehkchjdkdbiaaGreatDoorPt1Gq
import Derived.Test.YthehkchjdkdbiaaGreatDoorPt2Gq
import Derived.Test.YthehkchjdkdbiaaGreatDoorPt3Gq
import Derived.Test.YthehkchjdkdbiaaGreatDoorPt4Gq
set_option maxHeartbeats 16000000
set_option maxRecDepth 100000
set_option linter.unusedVariables false
set_option linter.unusedSimpArgs false
namespace Go.Proofs.YthehkchjdkdbiaaGreatDoor
section
open Go.RowKit
def nr_chU (s n:Int)(M:List (Nat×AO))(nk:Nat):Option (List N5)→UR
 | some l=>.ok (.ls 6 (l.map (eWr s))) M nk
 | none=>.er (nr_flt n 4)
theorem nr_rev_len (s:Int)(words:List (List UInt8)):(nr_rev s words).length=words.length:=by unfold nr_rev;split<;>simp
theorem nr_rev_mem {s:Int} {words:List (List UInt8)} {w:List UInt8}:w∈nr_rev s words↔w∈words:=by unfold nr_rev;split<;>simp
theorem nr_staff_bd(s:Int)(cs:List Crs):nr_staff s cs≤6∧(s=4→nr_staff s cs=0):=by
 unfold nr_staff
 split
 ·exact⟨by omega,fun _=>rfl⟩
 ·rename_i h;exact⟨by omega,fun e=>absurd e h⟩
theorem spot_on {s:Int} (hs:1≤s∧s≤4) {k:Nat} (h:k<6)(h4:s≠4):spotErr s ((k:Int)+1)=0:=by
 unfold spotErr
 rw [if_neg (by omega),if_neg (by omega)]
theorem spot_out {s:Int} (hs:1≤s∧s≤4):spotErr s 0=0:=by
 unfold spotErr
 rw [if_neg (by omega),if_neg (by omega)]
def nr_O (s:Int)(n:Nat)(W:List (List UInt8)):List (List AV):=if s=2 then (W.take n).reverse.map eTx else (W.take n).map eTx
theorem nr_O_len {s:Int} {n:Nat} {W:List (List UInt8)} (h:n≤W.length):(nr_O s n W).length=n:=by unfold nr_O;split<;>simp<;>omega
theorem nr_O_at {s:Int} {n:Nat} {W:List (List UInt8)} (hs:1≤s∧s≤4)(h4:s=4→n=0)(hn:n≤W.length) {k:Nat} (h:k<W.length)(hk:k<n):(nr_O s n W)[(lineV s ((k:Int)+1) n-1).toNat]?=some (eTx W[k]):=by
 have h4':s≠4:=fun e=>by have:=h4 e;omega
 unfold nr_O lineV
 rw [if_neg h4']
 by_cases h2:s=2
 ·rw [if_pos h2,if_pos h2,show ((n:Int)+1-((k:Int)+1)-1).toNat=n-1-k by omega]
  have hl:(W.take n).length=n:=by rw [List.length_take];omega
  rw [List.getElem?_map,List.getElem?_reverse (by omega),hl,show n-1-(n-1-k)=k by omega,List.getElem?_take_of_lt hk,List.getElem?_eq_getElem h]
  rfl
 ·rw [if_neg h2,if_neg h2,show ((k:Int)+1-1).toNat=k by omega,List.getElem?_map,List.getElem?_take_of_lt hk,List.getElem?_eq_getElem h]
  rfl
theorem nr_prt_lo {L:List (List UInt8)} {n:Nat}:prt (L.map eTx) 0 (n:Int)=(L.take n).map eTx:=by
 unfold prt;simp [List.map_take]
theorem nr_prt_hi {L:List (List UInt8)} {n m:Nat} (h:m=L.length):prt (L.map eTx) (n:Int) (m:Int)=(L.drop n).map eTx:=by
 subst h
 unfold prt
 rw [Int.toNat_natCast,Int.toNat_natCast,List.take_of_length_le (by simp),List.map_drop]
theorem nr_L_len (s:Int) (n:Nat) (W:List (List UInt8)):∀ k,(nr_L s n W k).length≤k
 | 0=>by rw [nr_L_0];simp
 | k+1=>by
  have:=nr_L_len s n W k
  have:=nr_x_one (s:=s) (n:=n) (W:=W) k
  rw [nr_L_s,List.length_append];omega
theorem nr_ch_no_asc {s:Int} {n:Nat} {W:List (List UInt8)} {k:Nat} (hk:k≤W.length)(h:¬ nr_asc (nr_L s n W k)):nr_chW s n W=none :=
 nr_ch_asc fun h2=>h (nr_asc_pre (nr_L_pre s n W hk) h2)
theorem chord_G (s:Int) (hs:1≤s∧s≤4) (cs:List Crs) (st:List Int) (ln:Int) (T:List (List AV)) (cl:Bool) (words:List (List UInt8)) (hw:words.length≤400000) (hwl:∀ w∈words,w.length≤400000) (hcs:cs.length≤64) :
  Ctu tabN gloN Tryz.prog 93 [.pt 0 0 0,.ls 1 (words.map eTx)] [(0,nr_rd (.int .u8 s) (sysV s) (cs.map eCrs) (st.map eInt) ln T cl)] 3
   (nr_chU s ln [(0,nr_rd (.int .u8 s) (sysV s) (cs.map eCrs) (st.map eInt) ln T cl)] 4 (nr_ch s (nr_staff s cs) words)):=by
 obtain ⟨n6,n4⟩:=nr_staff_bd s cs
 have hstf:=pstaff_FS cs st hcs
 have hmin:s≠4→((min cs.length 6:Nat):Int)=(nr_staff s cs:Int):=fun h=>by unfold nr_staff;rw [if_neg h]
 unfold nr_ch
 obtain ⟨n,hn⟩:∃ z,nr_staff s cs=z:=⟨_,rfl⟩
 rw [hn] at n6 n4 hmin ⊢
 have hWl:=nr_rev_len s words
 have hml:(words.map eTx).length=words.length:=List.length_map _
 refine Ctu.intro stabN Tryz.func93 rfl Tryz.ntmps93 (Nat.le_of_ble_eq_true rfl) rfl fun w0 F0 fp pg hB=>?_
 unfold nr_rd
 dsimp only [number,Nat.reduceAdd]
 refine zqg41 ?_
 refine W.meet ⟨[(0,.pt 0 0 0),(1,.ls 1 (words.map eTx)),(5,.sc (.int .i64 (n:Int)))],[(0,.box 78 [.sc (.int .u8 s),.sc (sysV s),.ls 3 (cs.map eCrs),.ls 1 (st.map eInt),.sl 1,.sl 2,.sc (.int .i64 ln),.ls 1 T,.sc (.bool cl)])],3⟩ ?_ ?_
 ·by_cases s4:s=4
  ·rw [decide_eq_true s4]
   have:=n4 s4
   subst this
   refine zqg41 ?_
   refine (?_:Tr _ _ _)
   exact (zqt id)
  ·rw [decide_eq_false s4]
   refine zqg41 ?_
   refine WL.vl rfl (zqc Tryz.func112 hstf) ?_
   rw [hmin s4]
   refine zqg41 ?_
   refine (?_:Tr _ _ _)
   exact (zqt id)
 obtain ⟨L,hL⟩:∃ z,words.map eTx=z:=⟨_,rfl⟩
 by_cases hsh:words.length < n
 ·rw [nr_ch_short (by omega)]
  rw [hL] at hml ⊢
  refine zqg41 ?_
  refine WL.ctp (truH _) [0,1,2] rfl rfl (callF Tryz.func40 rfl rfl) (fail_G _ _ _ _ _ _ _ _) rfl rfl rfl ⟨⟨rfl,rfl,rfl⟩,trivial⟩ ?_
  rfl
 obtain ⟨W0,hW0⟩:∃ z,nr_rev s words=z:=⟨_,rfl⟩
 have hWm:∀ w∈W0,w.length≤400000:=fun w h=>hwl w (nr_rev_mem.1 (hW0 ▸ h))
 rw [hW0]
 have hWl0:W0.length=words.length:=hW0 ▸ hWl
 have hlo:prt L 0 (n:Int)=(words.take n).map eTx:=by rw [← hL];exact nr_prt_lo
 have hhi:prt L (n:Int) (words.length:Int)=(words.drop n).map eTx:=by rw [← hL];exact nr_prt_hi rfl
 have hLl:L.length=words.length:=by rw [← hL];exact hml
 have hbe:=behind_FS s hs
 rw [hL]
 refine zqg41 ?_
 refine W.drawK zqk zqk ?_
 repeat (first|refine DK.st rfl ?_|refine DK.nil ?_)
 refine DK.part_ rfl rfl ⟨by omega,by omega,by omega⟩ hlo ?_
 repeat (first|refine DK.st rfl ?_|refine DK.nil ?_)
 refine DK.part_ rfl rfl ⟨by omega,by omega,by omega⟩ (show prt L (n:Int) (L.length:Int)=(words.drop n).map eTx by rw [hLl];exact hhi) ?_
 repeat (first|refine DK.st rfl ?_|refine DK.nil ?_)
 refine zqg41 ?_
 refine WL.vl rfl (WV.sys hs behindF rfl rfl (fun vs w=>by kernel_rfl) (fun vs w=>by kernel_rfl) (fun vs w=>by kernel_rfl) (fun vs w=>by kernel_rfl) rfl rfl hbe) ?_
 refine zqg41 ?_
 refine W.meet ⟨[(0,.pt 0 0 0),(5,.sc (.int .i64 (n:Int))),(6,.ls 1 (nr_O s n W0)),(7,.ls 1 ((W0.drop n).map eTx))],[(0,.box 78 [.sc (.int .u8 s),.sc (sysV s),.ls 3 (cs.map eCrs),.ls 1 (st.map eInt),.sl 1,.sl 2,.sc (.int .i64 ln),.ls 1 T,.sc (.bool cl)])],3⟩ ?_ ?_
 ·by_cases s2:s=2
  ·rw [decide_eq_true s2]
   have e:W0=words.reverse:=by rw [← hW0];exact if_pos s2
   have eO:nr_O s n W0=(words.drop (words.length - n)).map eTx:=by
    rw [e,show nr_O s n words.reverse=(words.reverse.take n).reverse.map eTx from if_pos s2,List.reverse_take,List.reverse_reverse,List.length_reverse]
   have eU:((words.take (words.length - n)).reverse).map eTx=(W0.drop n).map eTx:=by
    rw [e,List.reverse_take,show words.length - (words.length - n)=n by omega]
   have hc1:=cloneTx_G (words.take (words.length - n)) (by rw [List.length_take];omega)
   have hr1:=reverse_G (words.take (words.length - n)) (by rw [List.length_take];omega)
   rw [eU] at hr1
   have hm:((words.length - n:Nat):Int)=(words.length:Int) - (n:Int):=by omega
   have hlo2:prt L 0 ((L.length:Int) - (n:Int))=(words.take (words.length - n)).map eTx:=by rw [hLl,← hm,← hL];exact nr_prt_lo
   have hhi2:prt L ((L.length:Int) - (n:Int)) (L.length:Int)=nr_O s n W0:=by rw [hLl,← hm,← hL,eO];exact nr_prt_hi rfl
   refine zqg41 ?_
   refine W.of_wa zqk ?_
   refine WA.dt [false,false,false,false,false,false,true,false,false,false,false,false,false,true,false] [0] [0] 13 zqk zqk zqk ⟨rfl,trivial⟩ ⟨rfl,trivial⟩ ?_
   refine DTK.v0 rfl (stepV_of rfl rfl) ?_
   refine DTK.v0 rfl (stepV_of rfl rfl) ?_
   refine DTK.v0 rfl (lenV_of rfl) ?_
   refine DTK.v0 rfl (stepV_of rfl rfl) ?_
   refine DTK.v0 rfl (sideV_of rfl (by unfold I64;omega)) ?_
   refine DTK.v0 rfl (partV_of rfl ⟨by omega,by omega,by omega⟩) ?_
   rw [hlo2]
   refine DTK.ct (truH _) [] rfl rfl (callF Tryz.func161 rfl rfl) hc1 rfl rfl rfl trivial rfl rfl rfl rfl ⟨rfl,trivial⟩ (fun _=>⟨rfl,trivial⟩) ?_
   refine DTK.v0 rfl (stepV_of rfl rfl) ?_
   refine DTK.v0 rfl (stepV_of rfl rfl) ?_
   refine DTK.v0 rfl (lenV_of rfl) ?_
   refine DTK.v0 rfl (stepV_of rfl rfl) ?_
   refine DTK.v0 rfl (sideV_of rfl (by unfold I64;omega)) ?_
   refine DTK.v0 rfl (partV_of rfl ⟨by omega,by omega,by omega⟩) ?_
   rw [hhi2]
   refine DTK.mv rfl rfl rfl rfl rfl rfl ⟨rfl,trivial⟩ (fun h=>by cases h) ?_
   refine DTK.v0 rfl (stepV_of rfl rfl) ?_
   refine DTK.nil ?_
   refine zqg41 ?_
   refine WL.cto (truH _) [3] rfl rfl (callF Tryz.func162 rfl rfl) hr1 rfl rfl rfl ⟨⟨rfl,rfl,rfl⟩,trivial⟩ rfl rfl rfl rfl ?_
   refine WL.tr (Tr.freeze 3 rfl) ?_
   refine zqg41 ?_
   refine (?_:Tr _ _ _)
   exact (zqt id)
  ·rw [decide_eq_false s2]
   have e:W0=words:=by rw [← hW0];exact if_neg s2
   have eO:nr_O s n W0=(words.take n).map eTx:=by rw [e];exact if_neg s2
   rw [eO,e]
   refine zqg41 ?_
   refine (?_:Tr _ _ _)
   exact (zqt id)
 have hnW:n≤W0.length:=by omega
 have hOl:=nr_O_len (s:=s) hnW
 have hOat:=fun {k:Nat} (h:k < W0.length) (hk:k < n)=>nr_O_at hs n4 hnW h hk
 obtain ⟨O,hO⟩:∃ z,nr_O s n W0=z:=⟨_,rfl⟩
 have hOUl:((W0.drop n).map eTx).length=W0.length - n:=by rw [List.length_map,List.length_drop]
 have hOUat:∀ j (h:n+j < W0.length),((W0.drop n).map eTx)[((j:Nat):Int).toNat]?=some (eTx W0[n+j]):=fun j h=>by
  rw [Int.toNat_natCast,List.getElem?_map,List.getElem?_drop,List.getElem?_eq_getElem h];rfl
 obtain ⟨OU,hOU⟩:∃ z,(W0.drop n).map eTx=z:=⟨_,rfl⟩
 rw [hO] at hOl hOat ⊢
 rw [hOU] at hOUl hOUat ⊢
 clear hlo hhi hO hOU hL hLl hml hW0 hWl hstf hmin hbe
 refine zqg41 ?_
 refine W.tr (Tr.nil (t:=8) 157 6 rfl rfl) ?_
 refine W.loop (fun k:Nat=>k≤n∧∀ i (h:i < W0.length),i < k→(nr_wd s n i W0[i]).isSome=true) (fun k=>⟨[(0,.pt 0 0 0),(5,.sc (.int .i64 (n:Int))),(6,.ls 1 O),(7,.ls 1 OU),(8,.sl 3),(9,.sc (.int .i64 ((k:Int)+1)))],[(0,.box 78 [.sc (.int .u8 s),.sc (sysV s),.ls 3 (cs.map eCrs),.ls 1 (st.map eInt),.sl 1,.sl 2,.sc (.int .i64 ln),.ls 1 T,.sc (.bool cl)]),(3,.row 157 6 ((nr_L s n W0 k).map (eWr s)))],4⟩) (fun k=>n - k) 0 ⟨by omega,fun i h h2=>absurd h2 zqo⟩ (zqt id) fun k hk=>?_
 obtain ⟨hk,hall⟩:=hk
 have hRl:((nr_L s n W0 k).map (eWr s)).length≤400000:=by
  have:=nr_L_len s n W0 k
  rw [List.length_map];omega
 by_cases hlt:k < n
 ·have hkW:k < W0.length:=by omega
  have h4:s≠4:=fun e=>by have:=n4 e;omega
  have hat:=hOat hkW hlt
  have hln:=line_FS s hs ((k:Int)+1) n ⟨by omega,by omega⟩ ⟨by omega,by omega⟩
  have hlv:1≤lineV s ((k:Int)+1) n∧lineV s ((k:Int)+1) n≤10:=by
   unfold lineV
   rw [if_neg h4]
   split<;>omega
  obtain ⟨LV,hLV⟩:∃ z,lineV s ((k:Int)+1) n=z:=⟨_,rfl⟩
  rw [hLV] at hat hln hlv
  have hcell:=cellR_G s hs (cs.map eCrs) (st.map eInt) ln T cl ((k:Int)+1) W0[k] (hWm _ (List.getElem_mem hkW)) (spot_on hs (by omega) h4)
  have hrs:=nr_L_s s n W0 k
  have hnx:(nr_wd s n k W0[k]).isSome=true→∀ i (h:i < W0.length),i < k+1→(nr_wd s n i W0[i]).isSome=true:=fun h i hi hik=>by
   by_cases e:i=k
   ·subst e;exact h
   ·exact hall i hi zqo
  by_cases hd:W0[k]=[45]
  ·have hwd:nr_wd s n k W0[k]=some none:=by unfold nr_wd;rw [if_pos hlt,if_pos hd]
   rw [nr_x_dash hkW hwd,List.append_nil] at hrs
   have hn2:=hnx (by rw [hwd];rfl)
   have hb:(W0[k] == ([45]:List UInt8))=true:=by rw [hd];rfl
   obtain ⟨wk,hwk⟩:∃ z,W0[k]=z:=⟨_,rfl⟩
   rw [hwk] at hat hb
   obtain ⟨R,hR⟩:∃ z,(nr_L s n W0 k).map (eWr s)=z:=⟨_,rfl⟩
   have hR2:(nr_L s n W0 (k+1)).map (eWr s)=R:=by rw [hrs];exact hR
   rw [hR] at hRl ⊢
   clear hall hOat hOUat hcell
   refine zqg42 ?_
   refine WL.vl rfl (WV.sys hs lineF rfl rfl (fun vs w=>by kernel_rfl) (fun vs w=>by kernel_rfl) (fun vs w=>by kernel_rfl) (fun vs w=>by kernel_rfl) rfl rfl hln) ?_
   refine zqg42 ?_
   refine WL.idx rfl rfl zqo hat ?_
   refine zqg42 ?_
   rw [hb]
   refine zqg42 ?_
   refine ⟨k+1,⟨by omega,hn2⟩,by omega,?_⟩
   rw [hR2]
   exact (zqt id)
  ·have hb:(W0[k] == ([45]:List UInt8))=false:=by simpa using hd
   have hwd:nr_wd s n k W0[k]=(nr_cl s ((k:Int)+1) W0[k]).map some:=by unfold nr_wd;rw [if_pos hlt,if_neg hd]
   cases hcl:nr_cl s ((k:Int)+1) W0[k] with
   | none =>
    rw [nr_ch_word hkW (by rw [hwd,hcl];rfl)]
    have hcc:=hcell.er_ (by rw [hcl];rfl)
    obtain ⟨wk,hwk⟩:∃ z,W0[k]=z:=⟨_,rfl⟩
    rw [hwk] at hat hb hcc
    obtain ⟨R,hR⟩:∃ z,(nr_L s n W0 k).map (eWr s)=z:=⟨_,rfl⟩
    rw [hR] at hRl ⊢
    clear hall hOat hOUat hcell
    refine zqg42 ?_
    refine WL.vl rfl (WV.sys hs lineF rfl rfl (fun vs w=>by kernel_rfl) (fun vs w=>by kernel_rfl) (fun vs w=>by kernel_rfl) (fun vs w=>by kernel_rfl) rfl rfl hln) ?_
    refine zqg42 ?_
    refine WL.idx rfl rfl zqo hat ?_
    refine zqg42 ?_
    rw [hb]
    refine zqg42 ?_
    refine WL.ctp hB [0,1,2] rfl rfl (callF Tryz.func163 rfl rfl) hcc rfl rfl rfl ⟨⟨rfl,rfl,rfl⟩,trivial⟩ ?_
    rfl
   | some x =>
    have hws:nr_wd s n k W0[k]=some (some x):=by rw [hwd,hcl];rfl
    rw [nr_x_note hkW hws] at hrs
    have hn2:=hnx (by rw [hws];rfl)
    have hcc:=hcell.ok_ (by rw [hcl];rfl)
    obtain ⟨wk,hwk⟩:∃ z,W0[k]=z:=⟨_,rfl⟩
    rw [hwk] at hat hb hcc
    obtain ⟨R,hR⟩:∃ z,(nr_L s n W0 k).map (eWr s)=z:=⟨_,rfl⟩
    have hR2:R++[eWr s x]=(nr_L s n W0 (k+1)).map (eWr s):=by rw [hrs,List.map_append,hR];rfl
    rw [hR] at hRl ⊢
    clear hall hOat hOUat hcell
    refine zqg42 ?_
    refine WL.vl rfl (WV.sys hs lineF rfl rfl (fun vs w=>by kernel_rfl) (fun vs w=>by kernel_rfl) (fun vs w=>by kernel_rfl) (fun vs w=>by kernel_rfl) rfl rfl hln) ?_
    refine zqg42 ?_
    refine WL.idx rfl rfl zqo hat ?_
    refine zqg42 ?_
    rw [hb]
    refine zqg42 ?_
    refine WL.cto hB [0,1,2] rfl rfl (callF Tryz.func163 rfl rfl) hcc rfl rfl rfl ⟨⟨rfl,rfl,rfl⟩,trivial⟩ rfl rfl rfl rfl ?_
    refine zqg42 ?_
    refine ⟨k+1,⟨by omega,hn2⟩,by omega,?_⟩
    exact (zqu (fun q=>bif Nat.beq q 3 then 9 else q) (by repeat (first|exact trivial|refine ⟨⟨?_,?_,?_⟩,?_⟩|rfl|exact congrArg (fun q=>some (AO.row _ _ q)) hR2)) rfl)
 obtain rfl:k=n:=by omega
 have hasc0:nr_asc (nr_L s k W0 k):=nr_L_on (Nat.le_refl _)
 clear hOat hlt hk hRl
 refine zqg42 ?_
 have hl0:nr_last s k W0 (k+0)=0:=nr_last_0 (Nat.le_refl _)
 refine W.loop (fun j:Nat=>k+j≤W0.length∧(∀ i (h:i < W0.length),i < k+j→(nr_wd s k i W0[i]).isSome=true)∧nr_asc (nr_L s k W0 (k+j))) (fun j=>⟨[(0,.pt 0 0 0),(8,.sl 3),(11,.sc (.int .i64 (nr_last s k W0 (k+j):Nat))),(84,.ls 1 OU),(85,.sc (.int .i64 ((W0.length - k:Nat):Int))),(86,.sc (.int .i64 (j:Int)))],[(0,.box 78 [.sc (.int .u8 s),.sc (sysV s),.ls 3 (cs.map eCrs),.ls 1 (st.map eInt),.sl 1,.sl 2,.sc (.int .i64 ln),.ls 1 T,.sc (.bool cl)]),(3,.row 157 6 ((nr_L s k W0 (k+j)).map (eWr s)))],4⟩) (fun j=>W0.length - k - j) 0 ⟨by omega,fun i h h2=>hall i h (by omega),hasc0⟩ (by rw [hl0,hOUl];exact (zqt id)) fun j hj=>?_
 obtain ⟨hj,hok,hasc⟩:=hj
 clear hall hasc0 hl0
 have hRl:((nr_L s k W0 (k+j)).map (eWr s)).length≤400000:=by
  have:=nr_L_len s k W0 (k+j)
  rw [List.length_map];omega
 by_cases hlt:k+j < W0.length
 rotate_left
 ·have e:k+j=W0.length:=by omega
  rw [e] at hok hasc ⊢
  by_cases hnil:nr_L s k W0 W0.length=[]
  ·rw [nr_ch_nil hnil,hnil]
   refine zqg42 ?_
   refine WL.ctp (truH _) [0,1,2] rfl rfl (callF Tryz.func40 rfl rfl) (fail_G _ _ _ _ _ _ _ _) rfl rfl rfl ⟨⟨rfl,rfl,rfl⟩,trivial⟩ ?_
   rfl
  ·rw [nr_ch_yes hnW (fun i h=>hok i h h) hasc hnil]
   have hpos:0 < (nr_L s k W0 W0.length).length:=List.length_pos_iff.2 hnil
   obtain ⟨LL,hLL⟩:∃ z,nr_L s k W0 W0.length=z:=⟨_,rfl⟩
   rw [hLL] at hpos ⊢
   have hml3:(LL.map (eWr s)).length=LL.length:=List.length_map _
   refine zqg41 ?_
   refine W.tr (Tr.freeze 3 rfl) ?_
   exact W.ret (finMs rfl rfl rfl ⟨rfl,trivial⟩ rfl)
 have hat:=hOUat j hlt
 have hcell:=cellR_G s hs (cs.map eCrs) (st.map eInt) ln T cl 0 W0[k+j] (hWm _ (List.getElem_mem hlt)) (spot_out hs)
 have hrs:=nr_L_s s k W0 (k+j)
 have hwd:nr_wd s k (k+j) W0[k+j]=(nr_cl s 0 W0[k+j]).map some:=by unfold nr_wd;rw [if_neg (by omega)]
 cases hcl:nr_cl s 0 W0[k+j] with
 | none =>
  rw [nr_ch_word hlt (by rw [hwd,hcl];rfl)]
  have hcc:=hcell.er_ (by rw [hcl];rfl)
  obtain ⟨wk,hwk⟩:∃ z,W0[k+j]=z:=⟨_,rfl⟩
  rw [hwk] at hat hcc
  obtain ⟨R,hR⟩:∃ z,(nr_L s k W0 (k+j)).map (eWr s)=z:=⟨_,rfl⟩
  rw [hR] at hRl ⊢
  clear hok hOUat hcell
  refine zqg42 ?_
  refine WL.idx rfl rfl zqo hat ?_
  refine zqg42 ?_
  refine WL.ctp hB [0,1,2] rfl rfl (callF Tryz.func163 rfl rfl) hcc rfl rfl rfl ⟨⟨rfl,rfl,rfl⟩,trivial⟩ ?_
  rfl
 | some x =>
  have hws:nr_wd s k (k+j) W0[k+j]=some (some x):=by rw [hwd,hcl];rfl
  have hxn:=nr_x_note hlt hws
  have hstep:=nr_L_step n6 n4 zqo hok zqo hasc hxn
  have hlast:=nr_last_s (s:=s) (n:=k) (W:=W0) (k:=k+j) zqo hxn
  rw [hxn] at hrs
  have hxb:=nr_wd_bd hws
  have hcc:=hcell.ok_ (by rw [hcl];rfl)
  have hok2:∀ i (h:i < W0.length),i < k+(j+1)→(nr_wd s k i W0[i]).isSome=true:=fun i hi hik=>by
   by_cases e:i=k+j
   ·subst e;rw [hws];rfl
   ·exact hok i hi zqo
  obtain ⟨wk,hwk⟩:∃ z,W0[k+j]=z:=⟨_,rfl⟩
  rw [hwk] at hat hcc
  obtain ⟨R,hR⟩:∃ z,(nr_L s k W0 (k+j)).map (eWr s)=z:=⟨_,rfl⟩
  have hR2:R++[eWr s x]=(nr_L s k W0 (k+(j+1))).map (eWr s):=by rw [show k+(j+1)=k+j+1 by omega,hrs,List.map_append,hR];rfl
  rw [hR] at hRl ⊢
  obtain ⟨la,hla⟩:∃ z,nr_last s k W0 (k+j)=z:=⟨_,rfl⟩
  rw [hla] at hstep ⊢
  clear hok hOUat hcell
  obtain ⟨xc,xf,xr,xg,xh⟩:=x
  dsimp only at hstep hlast hxb
  unfold eWr at hcc
  dsimp only at hcc
  by_cases hle:xc≤la
  ·rw [nr_ch_no_asc (k:=k+j+1) (by omega) (fun h=>by have:=hstep.1 h;omega)]
   refine zqg42 ?_
   refine WL.idx rfl rfl zqo hat ?_
   refine zqg42 ?_
   refine WL.cto hB [0,1,2] rfl rfl (callF Tryz.func163 rfl rfl) hcc rfl rfl rfl ⟨⟨rfl,rfl,rfl⟩,trivial⟩ rfl rfl rfl rfl ?_
   refine zqg42 ?_
   refine WL.ctp (truH _) [0,1,2] rfl rfl (callF Tryz.func40 rfl rfl) (fail_G _ _ _ _ _ _ _ _) rfl rfl rfl ⟨⟨rfl,rfl,rfl⟩,trivial⟩ ?_
   rfl
  ·have hasc2:=hstep.2 zqo
   refine zqg42 ?_
   refine WL.idx rfl rfl zqo hat ?_
   refine zqg42 ?_
   refine WL.cto hB [0,1,2] rfl rfl (callF Tryz.func163 rfl rfl) hcc rfl rfl rfl ⟨⟨rfl,rfl,rfl⟩,trivial⟩ rfl rfl rfl rfl ?_
   refine zqg42 ?_
   refine ⟨j+1,⟨by omega,hok2,hasc2⟩,by omega,?_⟩
   rw [show k+(j+1)=k+j+1 by omega] at hR2
   rw [show k+(j+1)=k+j+1 by omega,hlast]
   exact (zqu (fun q=>bif Nat.beq q 3 then 10 else q) (by repeat (first|exact trivial|refine ⟨⟨?_,?_,?_⟩,?_⟩|rfl|exact congrArg (fun q=>some (AO.row _ _ q)) hR2)) rfl)
end
section
open Go.RowKit
theorem WL.meetT {P:Program} {C:Cx} {σ:St} {ops:Array Oper} {l:List Oper} {Q1 Q2:Exit→St→Prop} {y:Code} (σm:St)(h:WL P C ops l σ (QThen (fun s=>Tr C s σm) Q1))(k:W P C y σm Q2):WL P C ops l σ (QThen (fun s=>W P C y s Q2) Q1) :=
 WL.mono h (QThen.mono (fun s q=>W.tr q k) fun _ _ q=>q)
def ptT:Option (Nat×Nat)→AV
 | some (v,i)=>.tu [.ag [.sc (.int .i64 (v:Int)),.sc (.bool (sgD i)),.sc (.bool (sgT i))],.sc (.int .i64 0)]
 | none=>.tu [.ag [.sc (.int .i64 0),.sc (.bool false),.sc (.bool false)],.sc (.int .i64 4)]
theorem ptT_rp (o:Option (Nat×Nat)) (F:View):RP F (ptT o) (ptV o):=by
 cases o with
 | none=>exact rp_plT rfl
 | some x=>obtain ⟨v,i⟩:=x;exact rp_plT rfl
theorem ptm_FS (s:Int)(hs:1≤s∧s≤4)(l:List UInt8):Ctr Tryz.prog 92 [.sc (.int .u8 s),.sc (.string (bs l))] (ptT (scanT (tmM s l) 0 8)):=by
 rcases sys_cases hs with rfl|rfl|rfl|rfl
 ·exact Ctr.of_sc (v:=ptV (scanT (tmM 1 l) 0 8)) rfl (fun F=>ptT_rp _ F) fun w=>pparseTime_1 l w
 ·exact Ctr.of_sc (v:=ptV (scanT (tmM 2 l) 0 8)) rfl (fun F=>ptT_rp _ F) fun w=>pparseTime_2 l w
 ·exact Ctr.of_sc (v:=ptV (scanT (tmM 3 l) 0 8)) rfl (fun F=>ptT_rp _ F) fun w=>pparseTime_3 l w
 ·exact Ctr.of_sc (v:=ptV (scanT (tmM 4 l) 0 8)) rfl (fun F=>ptT_rp _ F) fun w=>pparseTime_4 l w
theorem nr_ch_bd {s:Int} {n:Nat} {W:List (List UInt8)} {l:List N5} (h:nr_chW s n W=some l):(∀ x∈l,1≤x.1∧x.1≤14∧x.2.1≤18)∧l.length≤14∧l≠[]∧nr_asc l:=by
 unfold nr_chW at h
 split at h
 ·rename_i k
  cases h
  have hb:∀ x∈nr_L s n W W.length,1≤x.1∧x.1≤14∧x.2.1≤18:=fun x hx=>by have:=nr_L_bd hx;omega
  refine⟨hb,?_,k.2.2.2,k.2.2.1⟩
  rcases nr_asc_len (a:=0) k.2.2.1 (fun x hx=>by have:=hb x hx;omega) with q|q
  ·omega
  ·exact absurd q k.2.2.2
 ·cases h
theorem nr_notes_at {cs:List Crs}:∀ {l:List N5} {k:Nat} (hk:k<l.length),(∀ j (h:j<l.length),j<k→nr_note cs l[j]=0)→nr_note cs l[k]≠0→nr_notes cs l=nr_note cs l[k]
 | x::r,0,_,_,h=>by
  unfold nr_notes
  have h:nr_note cs x≠0:=h
  rw [if_pos h];rfl
 | x::r,k+1,hk,h0,h=>by
  have:=h0 0 (by simp) (by omega)
  simp only [List.getElem_cons_zero] at this
  unfold nr_notes
  rw [if_neg (by rw [this];decide),nr_notes_at (k:=k) (by simpa using hk) (fun j hj hjk=>h0 (j+1) (by simpa using hj) (by omega)) h]
  rfl
theorem nr_notes_no {cs:List Crs}:∀ {l:List N5},(∀ j (h:j<l.length),nr_note cs l[j]=0)→nr_notes cs l=0
 | [],_=>rfl
 | x::r,h=>by
  have:=h 0 (by simp)
  simp only [List.getElem_cons_zero]at this
  unfold nr_notes
  rw [if_neg (by rw [this];decide)]
  exact nr_notes_no fun j hj=>h (j+1) (by simpa using hj)
theorem nr_body_ch {s:Int} {n:Nat} {bar:Bool} {v i:Nat} {ws:List (List UInt8)} (h1:¬ (ws=[[126]]∧s≠4))(h2:¬ (ws=[[37]]∧s≠3)):nr_body s n bar v i ws=(nr_ch s n ws).map fun l=>⟨bar,v,i,false,l⟩:=by
 unfold nr_body;rw [if_neg h1,if_neg h2]
theorem nr_body_bd {s:Int} {n:Nat} {bar:Bool} {v i:Nat} {ws:List (List UInt8)} {X:NC} (h:nr_body s n bar v i ws=some X):X.bar=bar∧X.v=v∧X.i=i∧(∀ x∈X.l,1≤x.1∧x.1≤14∧x.2.1≤18)∧X.l.length≤14:=by
 unfold nr_body at h
 split at h
 ·cases h;exact⟨rfl,rfl,rfl,fun x hx=>(List.not_mem_nil hx).elim,by simp⟩
 ·split at h
  ·cases h;exact⟨rfl,rfl,rfl,fun x hx=>(List.not_mem_nil hx).elim,by simp⟩
  ·obtain⟨l,hl,e⟩:=Option.map_eq_some_iff.1 h
   subst e
   have hb:=nr_ch_bd (show nr_chW s n (nr_rev s ws)=some l from hl)
   exact⟨rfl,rfl,rfl,hb.1,hb.2.1⟩
def nr_coU (s:Int)(cs:List Crs)(st:List Int)(ln:Int)(T:List (List AV))(cl:Bool)(E:List NC):Option NC→UR
 | none=>.er (nr_flt ln 4)
 | some x=>if nr_chk cs (E.length == 0) x≠0 then .er (nr_flt ln (nr_chk cs (E.length == 0) x)) else
  .ok (.tu []) [(0,.box 78 [.sc (.int .u8 s),.sc (sysV s),.ls 3 (cs.map eCrs),.ls 1 (st.map eInt),.sl 3,.sl 4,.sc (.int .i64 ln),.ls 1 T,.sc (.bool cl)]),(3,.rwn 90 6 (((E++[x]).map nr_ev0).map eEvO)),(4,.row 153 1 ((E++[x]).map (eNts s)))] 5
theorem column_G (s:Int) (hs:1≤s∧s≤4) (cs:List Crs) (st:List Int) (ln:Int) (T:List (List AV)) (cl:Bool) (E:List NC) (t:List UInt8) (ht:t.length≤300000) (hcs:cs.length≤64) (hcb:∀ c∈cs,0≤c.2.1∧c.2.1≤1000) (hE:E.length≤400000) :
  Ctu tabN gloN Tryz.prog 41 [.pt 0 0 0,.sc (.string (bs t))] [(0,nr_rd (.int .u8 s) (sysV s) (cs.map eCrs) (st.map eInt) ln T cl),(1,.rwn 90 6 ((E.map nr_ev0).map eEvO)),(2,.row 153 1 (E.map (eNts s)))] 3
   (nr_coU s cs st ln T cl E (nr_form s (nr_staff s cs) t)):=by
 have hW:=splitN_G 32 t zqo
 have hwb:=rq_wds_bytes 32 t
 have hwl:(rq_wds 32 t).length≤300001:=by
  rw [rq_wds_len,Lib.count_one]
  have:=List.count_le_length (a:=(32:UInt8)) (l:=t)
  omega
 have hEl:((E.map nr_ev0).map eEvO).length=E.length:=by simp
 have hNl:(E.map (eNts s)).length=E.length:=List.length_map _
 have hEx:∀ x:NC,((E++[x]).map nr_ev0).map eEvO=(E.map nr_ev0).map eEvO++[eEvO (nr_ev0 x)]:=fun x=>by simp
 have hNx:∀ x:NC,(E++[x]).map (eNts s)=E.map (eNts s)++[eNts s x]:=fun x=>by simp
 unfold nr_form
 obtain ⟨ws,hws⟩:∃ z,rq_wds 32 t=z:=⟨_,rfl⟩
 rw [hws] at hW hwb hwl ⊢
 have hne:ws≠[]:=by rw [← hws];unfold rq_wds;simp
 obtain ⟨w,r,rfl⟩:∃ w r,ws=w::r:=by
  cases ws with
  | nil=>exact absurd rfl hne
  | cons w r=>exact ⟨w,r,rfl⟩
 clear hne hws
 refine Ctu.intro stabN Tryz.func41 rfl Tryz.ntmps41 (Nat.le_of_ble_eq_true rfl) rfl fun w0 F0 fp pg hB=>?_
 unfold nr_rd
 dsimp only [number,Nat.reduceAdd]
 obtain ⟨EV,hEV⟩:∃ z,(E.map nr_ev0).map eEvO=z:=⟨_,rfl⟩
 obtain ⟨NT,hNT⟩:∃ z,E.map (eNts s)=z:=⟨_,rfl⟩
 rw [hEV] at hEl hEx ⊢
 rw [hNT] at hNl hNx ⊢
 have hrl:r.length≤300000:=by simp at hwl;omega
 have hml:((w::r).map eTx).length=r.length+1:=by simp
 refine zqg43 ?_
 refine WL.vl rfl (WV.callG hB rfl (callF Tryz.func38 rfl rfl) rfl rfl hW) ?_
 refine zqg43 ?_
 refine WL.idx rfl rfl zqo (show ((w::r).map eTx)[Int.toNat 0]?=some (eTx w) from rfl) ?_
 refine zqg43 ?_
 obtain ⟨bB,W1,hbW,hform⟩:∃ bB W1,(w=[124]∧bB=true∧W1=r∨w≠[124]∧bB=false∧W1=w::r)∧(if w=[124] then nr_time s (nr_staff s cs) true r else nr_time s (nr_staff s cs) false (w::r))=nr_time s (nr_staff s cs) bB W1:=by
  by_cases e:w=[124]
  ·exact ⟨true,r,.inl ⟨e,rfl,rfl⟩,if_pos e⟩
  ·exact ⟨false,w::r,.inr ⟨e,rfl,rfl⟩,if_neg e⟩
 rw [hform]
 have hW1b:∀ x∈W1,x.length≤300000:=fun x hx=>by
  rcases hbW with ⟨_,_,e⟩|⟨_,_,e⟩
  ·have:=hwb x (by rw [e] at hx;simp [hx]);omega
  ·have:=hwb x (by rw [e] at hx;exact hx);omega
 have hW1l:W1.length≤300001:=by
  rcases hbW with ⟨_,_,e⟩|⟨_,_,e⟩
  ·rw [e];omega
  ·rw [e];simp;omega
 refine W.meet ⟨[(0,.pt 0 0 0),(4,.ls 1 (W1.map eTx)),(5,.pt 3 0 0)],[(0,.box 78 [.sc (.int .u8 s),.sc (sysV s),.ls 3 (cs.map eCrs),.ls 1 (st.map eInt),.sl 1,.sl 2,.sc (.int .i64 ln),.ls 1 T,.sc (.bool cl)]),(1,.rwn 90 6 EV),(2,.row 153 1 NT),(3,.box 90 [.sc (.bool bB),.sc (.int .i64 0),.sc (.bool false),.sc (.bool false),.sc (.bool false),.sc (.slice none 0 0)])],4⟩ ?_ ?_
 ·rcases hbW with ⟨e,rfl,rfl⟩|⟨e,rfl,rfl⟩
  ·have hb:(w == ([124]:List UInt8))=true:=by rw [e];rfl
   have hp:prt ((w::W1).map eTx) 1 (((w::W1).map eTx).length:Int)=W1.map eTx:=by
    unfold prt
    rw [Int.toNat_natCast,List.take_length];rfl
   rw [hb]
   refine zqg43 ?_
   refine W.drawT 4 zqk zqk zqk ?_
   refine WA.dt [false,false,false,true] [] [] 3 zqk zqk zqk trivial trivial ?_
   refine DTK.v0 rfl (stepV_of rfl rfl) ?_
   refine DTK.v0 rfl (partV_of rfl ⟨by omega,by rw [hml];omega,by omega⟩) ?_
   rw [hp]
   refine DTK.v0 rfl (stepV_of rfl rfl) ?_
   refine DTK.sto rfl rfl rfl rfl rfl rfl rfl rfl rfl rfl rfl rfl rfl rfl trivial (fun h=>by cases h) ?_
   refine DTK.nil ?_
   refine ⟨rfl,?_⟩
   refine (?_:WL _ _ _ _ _ _)
   refine zqg43 ?_
   refine (?_:Tr _ _ _)
   exact (zqt id)
  ·have hb:(w == ([124]:List UInt8))=false:=by simpa using e
   rw [hb]
   refine zqg43 ?_
   refine (?_:Tr _ _ _)
   exact (zqt id)
 clear hbW hwb hwl hml hform hW
 match W1,hW1b,hW1l with
 | [],_,_ =>
  refine zqg43 ?_
  refine WL.ctp (truH _) [0,1,2] rfl rfl (callF Tryz.func40 rfl rfl) (fail_G _ _ _ _ _ _ _ _) rfl rfl rfl ⟨⟨rfl,rfl,rfl⟩,trivial⟩ ?_
  rfl
 | [x],_,_ =>
  have hml:(([x]:List (List UInt8)).map eTx).length=1:=rfl
  refine zqg43 ?_
  refine WL.ctp (truH _) [0,1,2] rfl rfl (callF Tryz.func40 rfl rfl) (fail_G _ _ _ _ _ _ _ _) rfl rfl rfl ⟨⟨rfl,rfl,rfl⟩,trivial⟩ ?_
  rfl
 | sg::w1::r1,hW1b,hW1l =>
 have hml:((sg::w1::r1).map eTx).length=r1.length+2:=by simp
 have hr1l:r1.length≤300000:=by simp at hW1l;omega
 have hpt:=ptm_FS s hs sg
 have hat0:((sg::w1::r1).map eTx)[Int.toNat 0]?=some (eTx sg):=rfl
 cases hsc:scanT (tmM s sg) 0 8 with
 | none =>
  have hnt:nr_time s (nr_staff s cs) bB (sg::w1::r1)=none:=by show (scanT (tmM s sg) 0 8).bind _=_;rw [hsc];rfl
  rw [hnt]
  rw [hsc] at hpt
  unfold ptT at hpt
  refine zqg43 ?_
  refine W.of_wa zqk ?_
  refine WA.dt [false,false,false,false,false,false,false,false,false,false,false,true,true,false] [0] [0] 12 zqk zqk zqk ⟨rfl,trivial⟩ ⟨rfl,trivial⟩ ?_
  refine DTK.v0 rfl (stepV_of rfl rfl) ?_
  refine DTK.v0 rfl (WV.nch rfl rfl) ?_
  refine DTK.v0 rfl (stepV_of rfl rfl) ?_
  refine DTK.v0 rfl (stepV_of rfl rfl) ?_
  refine DTK.v0 rfl (stepV_of rfl rfl) ?_
  refine DTK.v0 rfl (idxV_of rfl zqo hat0) ?_
  refine DTK.v0 rfl (stepV_of rfl rfl) ?_
  refine DTK.v0 rfl (zqc Tryz.func92 hpt) ?_
  refine DTK.v0 rfl (stepV_of rfl rfl) ?_
  refine DTK.v0 rfl (stepV_of rfl rfl) ?_
  refine DTK.v0 rfl (stepV_of rfl rfl) ?_
  refine DTK.al rfl rfl rfl rfl ⟨rfl,trivial⟩ (fun _=>⟨rfl,trivial⟩) ?_
  refine DTK.sto rfl rfl rfl rfl rfl rfl rfl rfl rfl rfl rfl rfl rfl rfl ⟨rfl,trivial⟩ (fun h=>by cases h) ?_
  refine DTK.v0 rfl (stepV_of rfl rfl) ?_
  refine DTK.nil ?_
  refine zqg43 ?_
  refine WL.ctp (truH _) [0,1,2] rfl rfl (callF Tryz.func40 rfl rfl) (fail_G _ _ _ _ _ _ _ _) rfl rfl rfl ⟨⟨rfl,rfl,rfl⟩,trivial⟩ ?_
  rfl
 | some vi =>
 obtain ⟨v,i⟩:=vi
 have hnt:nr_time s (nr_staff s cs) bB (sg::w1::r1)=nr_body s (nr_staff s cs) bB v i (w1::r1):=by show (scanT (tmM s sg) 0 8).bind _=_;rw [hsc];rfl
 rw [hnt]
 rw [hsc] at hpt
 unfold ptT at hpt
 dsimp only at hpt
 have hp9:prt ((sg::w1::r1).map eTx) 1 (((sg::w1::r1).map eTx).length:Int)=(w1::r1).map eTx:=by
  unfold prt
  rw [Int.toNat_natCast,List.take_length];rfl
 obtain ⟨sD,hsD⟩:∃ z,sgD i=z:=⟨_,rfl⟩
 obtain ⟨sT,hsT⟩:∃ z,sgT i=z:=⟨_,rfl⟩
 rw [hsD,hsT] at hpt
 refine zqg43 ?_
 refine W.of_wa zqk ?_
 refine WA.dt [false,false,false,false,false,false,false,false,false,false,false,true,true,false] [0] [0] 12 zqk zqk zqk ⟨rfl,trivial⟩ ⟨rfl,trivial⟩ ?_
 refine DTK.v0 rfl (stepV_of rfl rfl) ?_
 refine DTK.v0 rfl (WV.nch rfl rfl) ?_
 refine DTK.v0 rfl (stepV_of rfl rfl) ?_
 refine DTK.v0 rfl (stepV_of rfl rfl) ?_
 refine DTK.v0 rfl (stepV_of rfl rfl) ?_
 refine DTK.v0 rfl (idxV_of rfl zqo hat0) ?_
 refine DTK.v0 rfl (stepV_of rfl rfl) ?_
 refine DTK.v0 rfl (zqc Tryz.func92 hpt) ?_
 refine DTK.v0 rfl (stepV_of rfl rfl) ?_
 refine DTK.v0 rfl (stepV_of rfl rfl) ?_
 refine DTK.v0 rfl (stepV_of rfl rfl) ?_
 refine DTK.al rfl rfl rfl rfl ⟨rfl,trivial⟩ (fun _=>⟨rfl,trivial⟩) ?_
 refine DTK.sto rfl rfl rfl rfl rfl rfl rfl rfl rfl rfl rfl rfl rfl rfl ⟨rfl,trivial⟩ (fun h=>by cases h) ?_
 refine DTK.v0 rfl (stepV_of rfl rfl) ?_
 refine DTK.nil ?_
 refine zqg43 ?_
 refine W.drawT 5 zqk zqk zqk ?_
 refine WA.dt [false,false,false,false,true] [4] [4] 4 zqk zqk zqk ⟨rfl,trivial⟩ ⟨rfl,trivial⟩ ?_
 refine DTK.v0 rfl (stepV_of rfl rfl) ?_
 refine DTK.v0 rfl (stepV_of rfl rfl) ?_
 refine DTK.v0 rfl (partV_of rfl ⟨by omega,by rw [hml];omega,by omega⟩) ?_
 rw [hp9]
 refine DTK.v0 rfl (stepV_of rfl rfl) ?_
 refine DTK.sto rfl rfl rfl rfl rfl rfl rfl rfl rfl rfl rfl rfl rfl rfl ⟨rfl,trivial⟩ (fun h=>by cases h) ?_
 refine DTK.nil ?_
 refine ⟨rfl,?_⟩
 refine (?_:WL _ _ _ _ _ _)
 clear hpt hat0 hp9 hsc hnt
 have hch:=chord_G s hs cs st ln T cl (w1::r1) (by simp;omega) (fun x hx=>by have:=hW1b x (List.mem_cons_of_mem _ hx);omega) hcs
 obtain ⟨b1,hb1⟩:∃ b,decide (w1::r1=[[126]]∧s≠4)=b:=⟨_,rfl⟩
 obtain ⟨b2,hb2⟩:∃ b,decide (w1::r1=[[37]]∧s≠3)=b:=⟨_,rfl⟩
 have hat1:((w1::r1).map eTx)[Int.toNat 0]?=some (eTx w1):=rfl
 have hl1:((w1::r1).map eTx).length=r1.length+1:=by simp
 have hd1:r1≠[]→decide ((r1.length:Int)+1=1)=false:=fun h=>by
  have:0 < r1.length:=by cases r1 with
   | nil=>exact absurd rfl h
   | cons=>simp
  exact decide_eq_false zqo
 have hd2:r1=[]→decide ((r1.length:Int)+1=1)=true:=fun h=>by rw [h];rfl
 have hB1:b1=(decide (r1=[]) && (w1 == [126]) && hasS s 7):=by
  rw [← hb1]
  have e7:hasS s 7=decide (s≠4):=by rcases sys_cases hs with rfl|rfl|rfl|rfl<;>rfl
  rw [e7,Bool.eq_iff_iff];simp [and_assoc,and_comm,and_left_comm]
 have hB2:b2=(decide (r1=[]) && (w1 == [37]) && hasS s 8):=by
  rw [← hb2]
  have e8:hasS s 8=decide (s≠3):=by rcases sys_cases hs with rfl|rfl|rfl|rfl<;>rfl
  rw [e8,Bool.eq_iff_iff];simp [and_assoc,and_comm,and_left_comm]
 obtain ⟨R1,hR1⟩:∃ z,(w1::r1).map eTx=z:=⟨_,rfl⟩
 rw [hR1] at hat1 hl1 hch ⊢
 refine WL.meetT ⟨[(0,.pt 0 0 0),(4,.ls 1 R1),(5,.pt 3 0 0)],[(0,.box 78 [.sc (.int .u8 s),.sc (sysV s),.ls 3 (cs.map eCrs),.ls 1 (st.map eInt),.sl 1,.sl 2,.sc (.int .i64 ln),.ls 1 T,.sc (.bool cl)]),(1,.rwn 90 6 EV),(2,.row 153 1 NT),(3,.box 90 [.sc (.bool bB),.sc (.int .i64 v),.sc (.bool sD),.sc (.bool sT),.sc (.bool false),.sc (.slice none 0 0)])],5⟩ ?_ ?_
 ·refine zqg43 ?_
  refine (?_:Tr _ _ _)
  exact (zqt id)
 refine zqg43 ?_
 refine WL.meetT ⟨[(0,.pt 0 0 0),(4,.ls 1 R1),(5,.pt 3 0 0),(8,.sc (.slice none 0 0)),(48,.sc (.bool b1))],[(0,.box 78 [.sc (.int .u8 s),.sc (sysV s),.ls 3 (cs.map eCrs),.ls 1 (st.map eInt),.sl 1,.sl 2,.sc (.int .i64 ln),.ls 1 T,.sc (.bool cl)]),(1,.rwn 90 6 EV),(2,.row 153 1 NT),(3,.box 90 [.sc (.bool bB),.sc (.int .i64 v),.sc (.bool sD),.sc (.bool sT),.sc (.bool false),.sc (.slice none 0 0)])],5⟩ ?_ ?_
 ·rw [hl1,Int.natCast_add,Int.natCast_one,hB1]
  clear hB1 hB2 hb1 hb2 hch
  by_cases hr:r1=[]
  ·rw [hd2 hr,decide_eq_true hr]
   refine zqg43 ?_
   refine WL.idx rfl rfl zqo hat1 ?_
   refine zqg43 ?_
   by_cases e:(w1 == ([126]:List UInt8))=true
   ·rw [e]
    refine zqg43 ?_
    refine WL.vl rfl (WV.sys hs hasF rfl rfl (fun vs w=>by kernel_rfl) (fun vs w=>by kernel_rfl) (fun vs w=>by kernel_rfl) (fun vs w=>by kernel_rfl) rfl rfl (has_FS s hs 7)) ?_
    refine zqg43 ?_
    refine (?_:Tr _ _ _)
    exact (zqt id)
   ·rw [Bool.eq_false_iff.2 e]
    refine zqg43 ?_
    refine (?_:Tr _ _ _)
    exact (zqt id)
  ·rw [hd1 hr,decide_eq_false hr]
   refine zqg43 ?_
   refine (?_:Tr _ _ _)
   exact (zqt id)
 cases hX:nr_body s (nr_staff s cs) bB v i (w1::r1) with
 | none =>
  have n1:b1=false:=by
   rw [← hb1];refine decide_eq_false fun h=>?_
   unfold nr_body at hX;rw [if_pos h] at hX;cases hX
  have n2:b2=false:=by
   rw [← hb2];refine decide_eq_false fun h=>?_
   unfold nr_body at hX;rw [if_neg (of_decide_eq_false (hb1.trans n1)),if_pos h] at hX;cases hX
  have hn:nr_ch s (nr_staff s cs) (w1::r1)=none:=by
   rw [nr_body_ch (of_decide_eq_false (hb1.trans n1)) (of_decide_eq_false (hb2.trans n2))] at hX
   simpa using hX
  rw [hn] at hch
  have hF:Ctp tabN gloN Tryz.prog _ _ _ _ _:=(hch.er_ rfl).frame (X:=[(1,.rwn 90 6 EV),(2,.row 153 1 NT)])
  rw [n1]
  rw [n2] at hB2
  refine zqg43 ?_
  refine WL.meetT ⟨[(0,.pt 0 0 0),(4,.ls 1 R1),(5,.pt 3 0 0),(66,.sc (.bool false))],[(0,.box 78 [.sc (.int .u8 s),.sc (sysV s),.ls 3 (cs.map eCrs),.ls 1 (st.map eInt),.sl 1,.sl 2,.sc (.int .i64 ln),.ls 1 T,.sc (.bool cl)]),(1,.rwn 90 6 EV),(2,.row 153 1 NT),(3,.box 90 [.sc (.bool bB),.sc (.int .i64 v),.sc (.bool sD),.sc (.bool sT),.sc (.bool false),.sc (.slice none 0 0)])],5⟩ ?_ ?_
  ·rw [hl1,Int.natCast_add,Int.natCast_one,hB2]
   clear hB1 hB2 hb1 hb2 hch hF
   by_cases hr:r1=[]
   ·rw [hd2 hr,decide_eq_true hr]
    refine zqg43 ?_
    refine WL.idx rfl rfl zqo hat1 ?_
    refine zqg43 ?_
    by_cases e:(w1 == ([37]:List UInt8))=true
    ·rw [e]
     refine zqg43 ?_
     refine WL.vl rfl (WV.sys hs hasF rfl rfl (fun vs w=>by kernel_rfl) (fun vs w=>by kernel_rfl) (fun vs w=>by kernel_rfl) (fun vs w=>by kernel_rfl) rfl rfl (has_FS s hs 8)) ?_
     refine zqg43 ?_
     refine (?_:Tr _ _ _)
     exact (zqt id)
    ·rw [Bool.eq_false_iff.2 e]
     refine zqg43 ?_
     refine (?_:Tr _ _ _)
     exact (zqt id)
   ·rw [hd1 hr,decide_eq_false hr]
    refine zqg43 ?_
    refine (?_:Tr _ _ _)
    exact (zqt id)
  refine zqg43 ?_
  refine WL.ctp hB [0,1,2] rfl rfl (callF Tryz.func93 rfl rfl) hF rfl rfl rfl ⟨⟨rfl,rfl,rfl⟩,⟨rfl,rfl,rfl⟩,⟨rfl,rfl,rfl⟩,trivial⟩ ?_
  rfl
 | some X =>
 have hXb:=nr_body_bd hX
 refine W.meetB ⟨[(0,.pt 0 0 0),(5,.pt 3 0 0),(8,.ls 6 (X.l.map (eWr s)))],[(0,.box 78 [.sc (.int .u8 s),.sc (sysV s),.ls 3 (cs.map eCrs),.ls 1 (st.map eInt),.sl 1,.sl 2,.sc (.int .i64 ln),.ls 1 T,.sc (.bool cl)]),(1,.rwn 90 6 EV),(2,.row 153 1 NT),(3,.box 90 [.sc (.bool bB),.sc (.int .i64 v),.sc (.bool sD),.sc (.bool sT),.sc (.bool X.tie),.sc (.slice none 0 0)])],6⟩ ?_ ?_
 ·cases b1 with
  | true =>
   have h1:=of_decide_eq_true hb1
   have e:X=⟨bB,v,i,true,[]⟩:=by
    unfold nr_body at hX;rw [if_pos h1] at hX;exact (Option.some.inj hX).symm
   subst e
   clear hB1 hB2 hb1 hb2 hch hX
   refine zqg43 ?_
   refine (?_:Tr _ _ _)
   refine Tr.trans (Tr.nilR (t:=8) 6 rfl) ?_
   exact (zqt id)
  | false =>
   have n1:=of_decide_eq_false hb1
   refine zqg43 ?_
   refine WL.meetT ⟨[(0,.pt 0 0 0),(4,.ls 1 R1),(5,.pt 3 0 0),(8,.sc (.slice none 0 0)),(66,.sc (.bool b2))],[(0,.box 78 [.sc (.int .u8 s),.sc (sysV s),.ls 3 (cs.map eCrs),.ls 1 (st.map eInt),.sl 1,.sl 2,.sc (.int .i64 ln),.ls 1 T,.sc (.bool cl)]),(1,.rwn 90 6 EV),(2,.row 153 1 NT),(3,.box 90 [.sc (.bool bB),.sc (.int .i64 v),.sc (.bool sD),.sc (.bool sT),.sc (.bool false),.sc (.slice none 0 0)])],5⟩ ?_ ?_
   ·rw [hl1,Int.natCast_add,Int.natCast_one,hB2]
    clear hB1 hB2 hb1 hb2 hch
    by_cases hr:r1=[]
    ·rw [hd2 hr,decide_eq_true hr]
     refine zqg43 ?_
     refine WL.idx rfl rfl zqo hat1 ?_
     refine zqg43 ?_
     by_cases e:(w1 == ([37]:List UInt8))=true
     ·rw [e]
      refine zqg43 ?_
      refine WL.vl rfl (WV.sys hs hasF rfl rfl (fun vs w=>by kernel_rfl) (fun vs w=>by kernel_rfl) (fun vs w=>by kernel_rfl) (fun vs w=>by kernel_rfl) rfl rfl (has_FS s hs 8)) ?_
      refine zqg43 ?_
      refine (?_:Tr _ _ _)
      exact (zqt id)
     ·rw [Bool.eq_false_iff.2 e]
      refine zqg43 ?_
      refine (?_:Tr _ _ _)
      exact (zqt id)
    ·rw [hd1 hr,decide_eq_false hr]
     refine zqg43 ?_
     refine (?_:Tr _ _ _)
     exact (zqt id)
   cases b2 with
   | true =>
    have h2:=of_decide_eq_true hb2
    have e:X=⟨bB,v,i,false,[]⟩:=by
     unfold nr_body at hX;rw [if_neg n1,if_pos h2] at hX;exact (Option.some.inj hX).symm
    subst e
    clear hB1 hB2 hb1 hb2 hch hX
    refine zqg43 ?_
    refine (?_:Tr _ _ _)
    refine Tr.trans (Tr.nilR (t:=8) 6 rfl) ?_
    exact (zqt id)
   | false =>
    have n2:=of_decide_eq_false hb2
    rw [nr_body_ch n1 n2] at hX
    obtain ⟨l,hl,e⟩:=Option.map_eq_some_iff.1 hX
    subst e
    rw [hl] at hch
    have hF:Cto tabN gloN Tryz.prog _ _ _ _ _ _ _:=(hch.ok_ rfl).fr2 (a:=.rwn 90 6 EV) (b:=.row 153 1 NT)
    clear hB1 hB2 hb1 hb2 hch hX
    refine zqg43 ?_
    refine WL.cto hB [0,1,2] rfl rfl (callF Tryz.func93 rfl rfl) hF rfl rfl rfl ⟨⟨rfl,rfl,rfl⟩,⟨rfl,rfl,rfl⟩,⟨rfl,rfl,rfl⟩,trivial⟩ rfl rfl rfl rfl ?_
    refine zqg43 ?_
    refine (?_:Tr _ _ _)
    exact (zqt id)
 obtain ⟨xb1,xv1,xi1,hXl,hXn⟩:=hXb
 have hev:eEvO (nr_ev0 X)=[.sc (.bool bB),.sc (.int .i64 v),.sc (.bool sD),.sc (.bool sT),.sc (.bool X.tie),.ow 69 5 ((X.l.map (nr_stp nr_U)).map eStp)]:=by
  show ([.sc (.bool X.bar),.sc (.int .i64 X.v),.sc (.bool (sgD X.i)),.sc (.bool (sgT X.i)),.sc (.bool X.tie),.ow 69 5 ((X.l.map (nr_stp nr_U)).map eStp)]:List AV)=_
  rw [xb1,xv1,xi1,hsD,hsT]
 have hE1:=hEx X
 have hN1:=hNx X
 have hXv:X.v=v:=xv1
 rw [hev] at hE1
 clear hEx hNx hX hch hB1 hB2 hb1 hb2 xb1 xv1 xi1 hev hat1 hl1 hd1 hd2
 have hcode:nr_coU s cs st ln T cl E (some X)=if nr_chk cs (E.length == 0) X≠0 then .er (nr_flt ln (nr_chk cs (E.length == 0) X)) else .ok (.tu []) [(0,.box 78 [.sc (.int .u8 s),.sc (sysV s),.ls 3 (cs.map eCrs),.ls 1 (st.map eInt),.sl 3,.sl 4,.sc (.int .i64 ln),.ls 1 T,.sc (.bool cl)]),(3,.rwn 90 6 (((E++[X]).map nr_ev0).map eEvO)),(4,.row 153 1 ((E++[X]).map (eNts s)))] 5:=rfl
 rw [hcode,hE1,hN1]
 clear hcode hE1 hN1
 have hfb:(E.length == 0)=decide ((EV.length:Int)=0):=by rw [hEl,Bool.eq_iff_iff];simp
 rw [hfb]
 obtain ⟨fb,hfbe⟩:∃ z,decide ((EV.length:Int)=0)=z:=⟨_,rfl⟩
 have hc20:fb=true→v=0→nr_chk cs fb X=20:=fun h1 h2=>by unfold nr_chk;rw [if_pos ⟨h1,hXv.trans h2⟩]
 have hc21:¬ (fb=true∧v=0)→(fb && X.tie)=true→nr_chk cs fb X=21:=fun h1 h2=>by unfold nr_chk;rw [if_neg (by rw [hXv];exact h1),if_pos h2]
 have hcn:¬ (fb=true∧v=0)→¬ (fb && X.tie)=true→nr_chk cs fb X=nr_notes cs X.l:=fun h1 h2=>by unfold nr_chk;rw [if_neg (by rw [hXv];exact h1),if_neg h2]
 obtain ⟨tie,htie⟩:∃ z,X.tie=z:=⟨_,rfl⟩
 rw [htie] at hc21 hcn ⊢
 obtain ⟨CK,hCK⟩:∃ z,nr_chk cs (decide ((EV.length:Int)=0)) X=z:=⟨_,rfl⟩
 rw [hCK]
 rw [hfbe] at hCK
 rw [hCK] at hc20 hc21 hcn
 refine zqg43 ?_
 rw [hfbe]
 refine WL.meetT ⟨[(0,.pt 0 0 0),(5,.pt 3 0 0),(8,.ls 6 (X.l.map (eWr s))),(9,.sc (.bool fb)),(96,.sc (.bool (fb && decide ((v:Int)=0))))],[(0,.box 78 [.sc (.int .u8 s),.sc (sysV s),.ls 3 (cs.map eCrs),.ls 1 (st.map eInt),.sl 1,.sl 2,.sc (.int .i64 ln),.ls 1 T,.sc (.bool cl)]),(1,.rwn 90 6 EV),(2,.row 153 1 NT),(3,.box 90 [.sc (.bool bB),.sc (.int .i64 v),.sc (.bool sD),.sc (.bool sT),.sc (.bool tie),.sc (.slice none 0 0)])],6⟩ ?_ ?_
 ·cases fb with
  | true =>
   refine zqg43 ?_
   refine (?_:Tr _ _ _)
   exact (zqt id)
  | false =>
   refine zqg43 ?_
   refine (?_:Tr _ _ _)
   exact (zqt id)
 by_cases h20:fb=true∧v=0
 ·have e:(fb && decide ((v:Int)=0))=true:=by rw [h20.1,h20.2];rfl
  rw [e]
  rw [hc20 h20.1 h20.2,if_pos (by decide)]
  refine zqg43 ?_
  refine WL.ctp (truH _) [0,1,2] rfl rfl (callF Tryz.func40 rfl rfl) (fail_G _ _ _ _ _ _ _ _) rfl rfl rfl ⟨⟨rfl,rfl,rfl⟩,trivial⟩ ?_
  rfl
 have e:(fb && decide ((v:Int)=0))=false:=by
  cases fb with
  | false=>rfl
  | true=>simpa using h20
 rw [e]
 refine zqg43 ?_
 refine WL.meetT ⟨[(0,.pt 0 0 0),(5,.pt 3 0 0),(8,.ls 6 (X.l.map (eWr s))),(9,.sc (.bool fb)),(103,.sc (.bool (fb && tie)))],[(0,.box 78 [.sc (.int .u8 s),.sc (sysV s),.ls 3 (cs.map eCrs),.ls 1 (st.map eInt),.sl 1,.sl 2,.sc (.int .i64 ln),.ls 1 T,.sc (.bool cl)]),(1,.rwn 90 6 EV),(2,.row 153 1 NT),(3,.box 90 [.sc (.bool bB),.sc (.int .i64 v),.sc (.bool sD),.sc (.bool sT),.sc (.bool tie),.sc (.slice none 0 0)])],6⟩ ?_ ?_
 ·cases fb with
  | true =>
   refine zqg43 ?_
   refine (?_:Tr _ _ _)
   exact (zqt id)
  | false =>
   refine zqg43 ?_
   refine (?_:Tr _ _ _)
   exact (zqt id)
 by_cases h21:(fb && tie)=true
 ·rw [h21]
  rw [hc21 h20 h21,if_pos (by decide)]
  refine zqg43 ?_
  refine WL.ctp (truH _) [0,1,2] rfl rfl (callF Tryz.func40 rfl rfl) (fail_G _ _ _ _ _ _ _ _) rfl rfl rfl ⟨⟨rfl,rfl,rfl⟩,trivial⟩ ?_
  rfl
 rw [Bool.eq_false_iff.2 h21]
 have hcn:=hcn h20 h21
 clear hc20 hc21 h20 h21 e hCK hfb hfbe
 have hNLl:(X.l.map (eWr s)).length=X.l.length:=List.length_map _
 have hNLat:∀ k (h:k < X.l.length),(X.l.map (eWr s))[((k:Nat):Int).toNat]?=some (eWr s X.l[k]):=fun k h=>by
  rw [Int.toNat_natCast,List.getElem?_map,List.getElem?_eq_getElem h];rfl
 obtain ⟨l,hl⟩:∃ z,X.l=z:=⟨_,rfl⟩
 have hNe:eNts s X=[.ls 6 (X.l.map (eWr s))]:=rfl
 rw [hNe]
 rw [hl] at hcn hNLl hXl hXn ⊢
 have hNLat:∀ k (h:k < l.length),(l.map (eWr s))[((k:Nat):Int).toNat]?=some (eWr s l[k]):=by subst hl;exact hNLat
 obtain ⟨NL,hNLe⟩:∃ z,l.map (eWr s)=z:=⟨_,rfl⟩
 rw [hNLe] at hNLl hNLat ⊢
 refine zqg43 ?_
 refine W.tr (Tr.nilBox (k:=3) (j:=5) 69 5 rfl rfl rfl rfl) ?_
 dsimp only [St.upd,St.new,St.put,Nat.reduceAdd]
 refine W.loop (fun k:Nat=>k≤l.length∧∀ j (h:j < l.length),j < k→nr_note cs l[j]=0) (fun k=>⟨[(0,.pt 0 0 0),(5,.pt 3 0 0),(8,.ls 6 NL),(106,.ls 6 NL),(107,.sc (.int .i64 (l.length:Int))),(108,.sc (.int .i64 (k:Int)))],
  [(0,.box 78 [.sc (.int .u8 s),.sc (sysV s),.ls 3 (cs.map eCrs),.ls 1 (st.map eInt),.sl 1,.sl 2,.sc (.int .i64 ln),.ls 1 T,.sc (.bool cl)]),(1,.rwn 90 6 EV),(2,.row 153 1 NT),(3,.box 90 [.sc (.bool bB),.sc (.int .i64 v),.sc (.bool sD),.sc (.bool sT),.sc (.bool tie),.sl 6]),(6,.row 69 5 (((l.take k).map (nr_stp nr_U)).map eStp))],7⟩) (fun k=>l.length - k) 0 ⟨by omega,fun j hj h=>absurd h (by omega)⟩ (by rw [← hNLl];exact (zqt id)) fun k hk=>?_
 obtain ⟨hk,hall⟩:=hk
 by_cases hlt:k < l.length
 ·have hNk:=hNLat k hlt
  have hck:=check_G s (.int .u8 s) (sysV s) cs (st.map eInt) ln T cl l[k] ⟨(hXl _ (List.getElem_mem hlt)).1,by have:=(hXl _ (List.getElem_mem hlt)).2.1;omega⟩ (by have:=(hXl _ (List.getElem_mem hlt)).2.2;omega) (by omega) hcb
  have hbad:=fun h=>nr_notes_at hlt hall h
  have hnx:nr_note cs l[k]=0→∀ j (hj:j < l.length),j < k+1→nr_note cs l[j]=0:=fun h j hj hjk=>by
   by_cases e:j=k
   ·subst e;exact h
   ·exact hall j hj zqo
  have hrow:((l.take (k+1)).map (nr_stp nr_U)).map eStp=((l.take k).map (nr_stp nr_U)).map eStp++[eStp (nr_stp nr_U l[k])]:=by
   rw [List.take_succ_eq_append_getElem hlt,List.map_append,List.map_append];rfl
  obtain ⟨R,hR⟩:∃ z,((l.take k).map (nr_stp nr_U)).map eStp=z:=⟨_,rfl⟩
  have hRl:R.length≤500000:=by rw [← hR,List.length_map,List.length_map,List.length_take];omega
  rw [hR] at hrow ⊢
  obtain ⟨⟨c,f,r,g,h⟩,hx⟩:∃ z,l[k]=z:=⟨_,rfl⟩
  rw [hx] at hNk hck hbad hnx hrow
  unfold nr_rd eWr at hck
  unfold eWr at hNk
  have hrow:((l.take (k+1)).map (nr_stp nr_U)).map eStp=R++[[.sc (.int .i64 c),.sc (.int .i64 f),.sc (.int .i64 r),.sc (.int .i64 g),.sc (.int .i64 0)]]:=hrow
  dsimp only at hNk hck
  obtain ⟨H,hH⟩:∃ z,rm_hold s h=z:=⟨_,rfl⟩
  rw [hH] at hNk hck
  obtain ⟨NO,hNO⟩:∃ z,nr_note cs (c,f,r,g,h)=z:=⟨_,rfl⟩
  rw [hNO] at hck hbad hnx
  clear hall
  by_cases h0:NO=0
  rotate_left
  ·rw [if_neg h0] at hck
   have hF:Ctp truB 0 Tryz.prog _ _ _ _ _:=(hck.er_ rfl).frame (X:=[(1,.rwn 90 6 EV),(2,.row 153 1 NT)])
   rw [hcn,hbad h0,if_pos h0]
   refine zqg43 ?_
   refine WL.idx rfl rfl zqo hNk ?_
   refine zqg43 ?_
   refine WL.ctp (truH _) [0,1,2] rfl rfl (callF Tryz.func94 rfl rfl) hF rfl rfl rfl ⟨⟨rfl,rfl,rfl⟩,⟨rfl,rfl,rfl⟩,⟨rfl,rfl,rfl⟩,trivial⟩ ?_
   rfl
  ·rw [if_pos h0] at hck
   have hF:Cto truB 0 Tryz.prog _ _ _ _ _ _ _:=(hck.ok_ rfl).fr2 (a:=.rwn 90 6 EV) (b:=.row 153 1 NT)
   refine zqg43 ?_
   refine WL.idx rfl rfl zqo hNk ?_
   refine zqg43 ?_
   refine WL.cto (truH _) [0,1,2] rfl rfl (callF Tryz.func94 rfl rfl) hF rfl rfl rfl ⟨⟨rfl,rfl,rfl⟩,⟨rfl,rfl,rfl⟩,⟨rfl,rfl,rfl⟩,trivial⟩ rfl rfl rfl rfl ?_
   refine zqg43 ?_
   refine ⟨k+1,⟨by omega,hnx h0⟩,by omega,?_⟩
   rw [hrow]
   exact (zqu (fun q=>bif Nat.beq q 6 then 9 else q) (by repeat (first|exact trivial|refine ⟨⟨?_,?_,?_⟩,?_⟩|rfl|exact congrArg (fun q=>some (AO.row _ _ q)) (by first|rfl|(simp;done)|(simp [eInt];done)|(simp [eLk];done)))) rfl)
 obtain rfl:k=l.length:=by omega
 have hno:=nr_notes_no fun j hj=>hall j hj hj
 rw [List.take_length,hcn,hno,if_neg (by decide)]
 obtain ⟨SS,hSS⟩:∃ z,(l.map (nr_stp nr_U)).map eStp=z:=⟨_,rfl⟩
 rw [hSS]
 clear hcn hno hall hk hlt hXl hXn hNLat
 refine zqg43 ?_
 refine W.drawT 9 zqk zqk zqk ?_
 refine WA.dt [false,false,false,false,false,false,false,true,true] [0,3] [0,3] 8 zqk zqk zqk ⟨rfl,rfl,trivial⟩ ⟨rfl,rfl,trivial⟩ ?_
 refine DTK.v0 rfl (stepV_of rfl rfl) ?_
 refine DTK.v0 rfl (stepV_of rfl rfl) ?_
 refine DTK.v0 rfl (WV.nch rfl rfl) ?_
 refine DTK.v0 rfl (stepV_of rfl rfl) ?_
 refine DTK.v0 rfl (stepV_of rfl rfl) ?_
 refine DTK.v0 rfl (stepV_of rfl rfl) ?_
 refine DTK.v0 rfl (stepV_of rfl rfl) ?_
 refine DTK.bdC (q:=6) (j0:=5) (rows2:=[[.sc (.bool bB),.sc (.int .i64 v),.sc (.bool sD),.sc (.bool sT),.sc (.bool tie),.ow 69 5 SS]]) (M':=[(0,.box 78 [.sc (.int .u8 s),.sc (sysV s),.ls 3 (cs.map eCrs),.ls 1 (st.map eInt),.sl 1,.sl 2,.sc (.int .i64 ln),.ls 1 T,.sc (.bool cl)]),(1,.rwn 90 6 EV),(2,.row 153 1 NT),(3,.box 90 [.sc (.bool bB),.sc (.int .i64 v),.sc (.bool sD),.sc (.bool sT),.sc (.bool tie),.sl 6]),(7,.rwn 90 6 [[.sc (.bool bB),.sc (.int .i64 v),.sc (.bool sD),.sc (.bool sT),.sc (.bool tie),.ow 69 5 SS]])]) rfl rfl rfl rfl rfl rfl rfl rfl rfl rfl rfl rfl rfl rfl rfl rfl rfl rfl rfl ⟨rfl,rfl,rfl,rfl,rfl,trivial⟩ ⟨rfl,rfl,trivial⟩ (fun _=>⟨rfl,rfl,trivial⟩) ?_
 refine DTK.apM (q1:=1) (q2:=7) (M':=[(0,.box 78 [.sc (.int .u8 s),.sc (sysV s),.ls 3 (cs.map eCrs),.ls 1 (st.map eInt),.sl 1,.sl 2,.sc (.int .i64 ln),.ls 1 T,.sc (.bool cl)]),(2,.row 153 1 NT),(3,.box 90 [.sc (.bool bB),.sc (.int .i64 v),.sc (.bool sD),.sc (.bool sT),.sc (.bool tie),.sl 6]),(8,.rwn 90 6 (EV++[[.sc (.bool bB),.sc (.int .i64 v),.sc (.bool sD),.sc (.bool sT),.sc (.bool tie),.ow 69 5 SS]]))]) rfl rfl rfl rfl rfl rfl rfl rfl rfl rfl rfl rfl rfl rfl rfl rfl rfl (by simp;omega) rfl rfl ⟨rfl,rfl,rfl,rfl,trivial⟩ ⟨rfl,rfl,trivial⟩ (fun h=>by cases h) ?_
 refine DTK.nil ?_
 refine ⟨rfl,?_⟩
 refine (?_:WL _ _ _ _ _ _)
 refine zqg43 ?_
 exact finTrL (σ':=⟨[],[(0,.box 78 [.sc (.int .u8 s),.sc (sysV s),.ls 3 (cs.map eCrs),.ls 1 (st.map eInt),.sl 3,.sl 4,.sc (.int .i64 ln),.ls 1 T,.sc (.bool cl)]),(3,.rwn 90 6 (EV++[[.sc (.bool bB),.sc (.int .i64 v),.sc (.bool sD),.sc (.bool sT),.sc (.bool tie),.ow 69 5 SS]])),(4,.row 153 1 (NT++[[.ls 6 NL]]))],5⟩) (zqu (fun q=>bif Nat.beq q 3 then 8 else bif Nat.beq q 4 then 10 else q) (by repeat (first|exact trivial|refine ⟨⟨?_,?_,?_⟩,?_⟩|rfl|exact congrArg (fun q=>some (AO.row _ _ q)) rfl|exact congrArg (fun q=>some (AO.rwn _ _ q)) rfl|exact congrArg (fun q=>some (AO.row _ _ q)) rfl|exact congrArg (fun q=>some (AO.rwn _ _ q)) rfl)) rfl) (finMuL rfl rfl rfl rfl rfl)
end
end Go.Proofs.YthehkchjdkdbiaaGreatDoor
