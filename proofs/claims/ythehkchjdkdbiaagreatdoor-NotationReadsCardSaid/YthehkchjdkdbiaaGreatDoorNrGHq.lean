/- The reader of the program: a chord. -/
import Derived.Test.YthehkchjdkdbiaaGreatDoorNrEHq
import Derived.Test.YthehkchjdkdbiaaGreatDoorRTmHq
set_option maxHeartbeats 8000000
set_option maxRecDepth 100000
set_option linter.unusedVariables false
set_option linter.unusedSimpArgs false
namespace Go.Proofs.YthehkchjdkdbiaaGreatDoor
section
open Go.RowKit
theorem tabN_st:∀ w F F',View.le F F'→tabN w F→tabN w F':=fun w F F' h⟨h1,h2⟩=>⟨fun i v x=>h _ _ (h1 i v x),h2⟩
theorem rm_out_yes {s c f R G H:Int} {t:List UInt8} (h:rm_mk s (decide (0<f)) t=some (R,G,H)):rm_out s c f t=.tu [.ag [.sc (.int .i64 c),.sc (.int .i64 f),.sc (.int .i64 R),.sc (.int .i64 G),.sc (.int .i64 0),.sc (.int .i64 H)],.sc (.bool true)]:=by
 unfold rm_mk at h
 obtain⟨y,hy,e⟩:=Option.map_eq_some_iff.1 h
 simp only [Prod.mk.injEq] at e
 obtain⟨rfl,rfl,rfl⟩:=e
 unfold rm_out
 rw [hy]
theorem rm_out_no {s c f:Int} {t:List UInt8} (h:rm_mk s (decide (0<f)) t=none):∃ R G,rm_out s c f t=.tu [.ag [.sc (.int .i64 c),.sc (.int .i64 f),.sc (.int .i64 R),.sc (.int .i64 G),.sc (.int .i64 0),.sc (.int .i64 0)],.sc (.bool false)]:=by
 unfold rm_mk at h
 have hy:=Option.map_eq_none_iff.1 h
 unfold rm_out
 rw [hy]
 exact⟨_,_,rfl⟩
theorem place_FS (s crs:Int)(l:List UInt8):Ctr Tryz.prog 35 [.sc (.int .u8 s),.sc (.int .i64 crs),.sc (.string (bs l))] (.tu [.ag [.sc (.int .i64 (placeOf s crs l).1),.sc (.int .i64 (placeOf s crs l).2.1)],.sc (.int .i64 (placeOf s crs l).2.2)]) :=
 Ctr.of_sc (v:=placeV s crs l) rfl (fun _=>rp_plT rfl) fun w=>place_any s crs l w
theorem nr_onB {s:Int} (hs:1≤s∧s≤4):∀ x∈[AV.sc (.int .u8 s),.sc (sysV s)],onB x=true:=fun x hx=>by
 rcases List.mem_cons.1 hx with rfl|hx
 ·rfl
 ·obtain rfl:=List.mem_singleton.1 hx
  rcases sys_cases hs with rfl|rfl|rfl|rfl<;>rfl
theorem nr_two2 {a b:AV} {r:List AV}:∀ (j:Nat)x,[a,b][j]?=some x→(a::b::r)[j]?=some x
 | 0,x,h=>h
 | 1,x,h=>h
 | j+2,x,h=>by simp at h
def nr_clU (s n:Int)(M:List (Nat×AO))(nk:Nat):Option N5→UR
 | some x=>.ok (.ag (eWr s x)) M nk
 | none=>.er (nr_flt n 4)
theorem cellR_G (s:Int) (hs:1≤s∧s≤4) (CS ST:List (List AV)) (n:Int) (T:List (List AV)) (cl:Bool) (crs:Int) (w:List UInt8) (hw:w.length≤400000) (hsp:spotErr s crs=0) :
  Ctu tabN gloN Tryz.prog 163 [.pt 0 0 0,.sc (.int .i64 crs),.sc (.string (bs w))] [(0,nr_rd (.int .u8 s) (sysV s) CS ST n T cl)] 3 (nr_clU s n [(0,nr_rd (.int .u8 s) (sysV s) CS ST n T cl)] 7 (nr_cl s crs w)):=by
 refine Ctu.intro stabN Tryz.func163 rfl Tryz.ntmps163 (Nat.le_of_ble_eq_true rfl) rfl fun w0 F0 fp pg hB=>?_
 unfold nr_rd
 dsimp only [number,Nat.reduceAdd]
 have hTl:(w++[32]).length=w.length+1:=by simp
 refine zqg22 ?_
 refine WL.rgs rfl rfl rfl rfl ?_
 refine zqg22 ?_
 refine W.loop (fun pos:Nat=>nr_NoP s crs w pos) (fun pos=>⟨[(0,.pt 0 0 0),(1,.sc (.int .i64 crs)),(2,.sc (.string (bs w))),(6,.pt 3 0 0),(14,.sl 4)],
  [(0,.box 78 [.sc (.int .u8 s),.sc (sysV s),.ls 3 CS,.ls 1 ST,.sl 1,.sl 2,.sc (.int .i64 n),.ls 1 T,.sc (.bool cl)]),(3,.box 157 [.sc (.int .i64 0),.sc (.int .i64 0),.sc (.int .i64 0),.sc (.int .i64 0),.sc (.int .i64 0),.sc (.int .i64 0)]),(4,.opq (itQ (w++[32]) pos))],5⟩) (fun pos=>w.length+1 - pos) 0 (nr_NoP_0 s crs w) (zqt id) fun pos hN=>?_
 by_cases hlt:pos < w.length+1
 rotate_left
 ·rw [nr_NoP_end hsp (by omega) hN]
  have hle:(w++[32]).length≤pos:=by omega
  refine W.seq ?_
  refine W.region ?_
  refine WL.vl rfl (WV.nxe rfl rfl rfl hle) ?_
  refine zqg22 ?_
  refine WL.ctp (truH _) [0,1,2] rfl rfl (callF Tryz.func40 rfl rfl) (fail_G _ _ _ _ _ _ _ _) rfl rfl rfl ⟨⟨rfl,rfl,rfl⟩,trivial⟩ ?_
  rfl
 have hlt2:pos < (w++[32]).length:=by omega
 have hstep:=fun h=>nr_NoP_s hsp hlt hN h
 have hwid:1≤(Utf8.decode (bs (w++[32])) pos).2:=Lib.width_pos _ _
 obtain ⟨nx,hnx⟩:∃ z,pos+(Utf8.decode (bs (w++[32])) pos).2=z:=⟨_,rfl⟩
 obtain ⟨ru,hru⟩:∃ z,(Utf8.decode (bs (w++[32])) pos).1=z:=⟨_,rfl⟩
 refine W.seq ?_
 refine W.region ?_
 refine WL.nxs rfl rfl rfl rfl rfl hlt2 ?_
 rw [hnx] at hstep ⊢
 rw [hru]
 have hlow:pos < nx:=by omega
 by_cases h0:pos=0
 ·have hN2:=hstep (.inl h0)
  refine zqg22 ?_
  refine ⟨nx,hN2,by omega,?_⟩
  exact (zqt id)
 have hP:=place_FS s crs (w.take pos)
 have hcb:0≤(0:Int)∧(0:Int)≤(pos:Int)∧(pos:Int)≤(w.length:Int):=by omega
 have hcc:cut w 0 (pos:Int)=w.take pos:=by unfold cut;simp
 have hcb2:0≤(pos:Int)∧(pos:Int)≤(w.length:Int)∧(w.length:Int)≤(w.length:Int):=by omega
 have hcc2:=nr_cut_end w pos
 have hdl:(w.drop pos).length≤1000000:=by rw [List.length_drop];omega
 rcases placeOf_cases (w.take pos) hsp with ⟨c,f,hpl,_⟩|hpl
 rotate_left
 ·have hN2:=hstep (.inr fun c f h=>by rw [hpl] at h;simp at h)
  rw [hpl] at hP
  refine zqg22 ?_
  refine W.of_wa zqk ?_
  refine WA.dt [false,false,false,false,false,false,false,false,false,false,false,false,true,true,false] [0] [0] 13 zqk zqk zqk ⟨rfl,trivial⟩ ⟨rfl,trivial⟩ ?_
  refine DTK.v0 rfl (stepV_of rfl rfl) ?_
  refine DTK.v0 rfl (WV.nch rfl rfl) ?_
  refine DTK.v0 rfl (stepV_of rfl rfl) ?_
  refine DTK.v0 rfl (stepV_of rfl rfl) ?_
  refine DTK.v0 rfl (stepV_of rfl rfl) ?_
  refine DTK.v0 rfl (stepV_of rfl rfl) ?_
  refine DTK.v0 rfl (stepV_of rfl rfl) ?_
  refine DTK.v0 rfl (cutV_of rfl hcb) ?_
  rw [hcc]
  refine DTK.v0 rfl (zqc Tryz.func35 hP) ?_
  refine DTK.v0 rfl (stepV_of rfl rfl) ?_
  refine DTK.v0 rfl (stepV_of rfl rfl) ?_
  refine DTK.v0 rfl (stepV_of rfl rfl) ?_
  refine DTK.al rfl rfl rfl rfl ⟨rfl,trivial⟩ (fun _=>⟨rfl,trivial⟩) ?_
  refine DTK.sto rfl rfl rfl rfl rfl rfl rfl rfl rfl rfl rfl rfl rfl rfl ⟨rfl,trivial⟩ (fun h=>by cases h) ?_
  refine DTK.v0 rfl (stepV_of rfl rfl) ?_
  refine DTK.nil ?_
  refine zqg22 ?_
  refine ⟨nx,hN2,by omega,?_⟩
  exact (zqt id)
 rw [hpl] at hP
 dsimp only at hP
 cases hmk:rm_mk s (decide (0 < (f:Int))) (w.drop pos) with
 | none =>
  have hN2:=hstep (.inr fun c' f' h=>by
   rw [hpl] at h
   have h1:=(Prod.mk.inj h).2
   have h2:=(Prod.mk.inj h1).1
   have:f=f':=by omega
   subst this
   exact hmk)
  obtain ⟨R,G,ho⟩:=rm_out_no (c:=(c:Int)) hmk
  have hM:=marks_G s hs (c:Int) (f:Int) (w.drop pos) hdl
  rw [ho] at hM
  refine zqg22 ?_
  refine W.of_wa zqk ?_
  refine WA.dt [false,false,false,false,false,false,false,false,false,false,false,false,true,true,false] [0] [0] 13 zqk zqk zqk ⟨rfl,trivial⟩ ⟨rfl,trivial⟩ ?_
  refine DTK.v0 rfl (stepV_of rfl rfl) ?_
  refine DTK.v0 rfl (WV.nch rfl rfl) ?_
  refine DTK.v0 rfl (stepV_of rfl rfl) ?_
  refine DTK.v0 rfl (stepV_of rfl rfl) ?_
  refine DTK.v0 rfl (stepV_of rfl rfl) ?_
  refine DTK.v0 rfl (stepV_of rfl rfl) ?_
  refine DTK.v0 rfl (stepV_of rfl rfl) ?_
  refine DTK.v0 rfl (cutV_of rfl hcb) ?_
  rw [hcc]
  refine DTK.v0 rfl (zqc Tryz.func35 hP) ?_
  refine DTK.v0 rfl (stepV_of rfl rfl) ?_
  refine DTK.v0 rfl (stepV_of rfl rfl) ?_
  refine DTK.v0 rfl (stepV_of rfl rfl) ?_
  refine DTK.al rfl rfl rfl rfl ⟨rfl,trivial⟩ (fun _=>⟨rfl,trivial⟩) ?_
  refine DTK.sto rfl rfl rfl rfl rfl rfl rfl rfl rfl rfl rfl rfl rfl rfl ⟨rfl,trivial⟩ (fun h=>by cases h) ?_
  refine DTK.v0 rfl (stepV_of rfl rfl) ?_
  refine DTK.nil ?_
  refine zqg22 ?_
  refine W.of_wa zqk ?_
  refine WA.dt [false,false,false,false,false,false,false,false,false,true,true,false] [0,5] [0,5] 10 zqk zqk zqk ⟨rfl,rfl,trivial⟩ ⟨rfl,rfl,trivial⟩ ?_
  refine DTK.v0 rfl (stepV_of rfl rfl) ?_
  refine DTK.v0 rfl (stepV_of rfl rfl) ?_
  refine DTK.v0 rfl (stepV_of rfl rfl) ?_
  refine DTK.v0 rfl (stepV_of rfl rfl) ?_
  refine DTK.v0 rfl (cutV_of rfl hcb2) ?_
  rw [hcc2]
  refine DTK.v0 rfl (WV.lendT hB rfl (callF Tryz.func221 rfl rfl) rfl (.cons (Lent.prs rfl nr_two2 (nr_onB hs)) (.cons (Lent.pu rfl) (.cons (Lent.pu rfl) .nil))) tabN_st rfl hM) ?_
  refine DTK.v0 rfl (stepV_of rfl rfl) ?_
  refine DTK.v0 rfl (stepV_of rfl rfl) ?_
  refine DTK.v0 rfl (stepV_of rfl rfl) ?_
  refine DTK.al rfl rfl rfl rfl ⟨rfl,rfl,trivial⟩ (fun _=>⟨rfl,rfl,trivial⟩) ?_
  refine DTK.sto rfl rfl rfl rfl rfl rfl rfl rfl rfl rfl rfl rfl rfl rfl ⟨rfl,rfl,trivial⟩ (fun h=>by cases h) ?_
  refine DTK.v0 rfl (stepV_of rfl rfl) ?_
  refine DTK.nil ?_
  refine zqg22 ?_
  refine ⟨nx,hN2,by omega,?_⟩
  exact (zqt id)
 | some x =>
  obtain ⟨R,G,H⟩:=x
  obtain ⟨⟨c',f',r',g',h'⟩,hcl,q1,q2,q3,q4,q5⟩:=nr_hit hsp zqo zqo hpl hmk
  have ho:=rm_out_yes (c:=(c:Int)) hmk
  have hM:=marks_G s hs (c:Int) (f:Int) (w.drop pos) hdl
  rw [ho] at hM
  dsimp only at q1 q2 q3 q4 q5
  obtain rfl:c=c':=by omega
  obtain rfl:f=f':=by omega
  subst q3 q4 q5
  rw [hcl]
  unfold nr_clU eWr
  dsimp only
  refine zqg22 ?_
  refine W.of_wa zqk ?_
  refine WA.dt [false,false,false,false,false,false,false,false,false,false,false,false,true,true,false] [0] [0] 13 zqk zqk zqk ⟨rfl,trivial⟩ ⟨rfl,trivial⟩ ?_
  refine DTK.v0 rfl (stepV_of rfl rfl) ?_
  refine DTK.v0 rfl (WV.nch rfl rfl) ?_
  refine DTK.v0 rfl (stepV_of rfl rfl) ?_
  refine DTK.v0 rfl (stepV_of rfl rfl) ?_
  refine DTK.v0 rfl (stepV_of rfl rfl) ?_
  refine DTK.v0 rfl (stepV_of rfl rfl) ?_
  refine DTK.v0 rfl (stepV_of rfl rfl) ?_
  refine DTK.v0 rfl (cutV_of rfl hcb) ?_
  rw [hcc]
  refine DTK.v0 rfl (zqc Tryz.func35 hP) ?_
  refine DTK.v0 rfl (stepV_of rfl rfl) ?_
  refine DTK.v0 rfl (stepV_of rfl rfl) ?_
  refine DTK.v0 rfl (stepV_of rfl rfl) ?_
  refine DTK.al rfl rfl rfl rfl ⟨rfl,trivial⟩ (fun _=>⟨rfl,trivial⟩) ?_
  refine DTK.sto rfl rfl rfl rfl rfl rfl rfl rfl rfl rfl rfl rfl rfl rfl ⟨rfl,trivial⟩ (fun h=>by cases h) ?_
  refine DTK.v0 rfl (stepV_of rfl rfl) ?_
  refine DTK.nil ?_
  refine zqg22 ?_
  refine W.of_wa zqk ?_
  refine WA.dt [false,false,false,false,false,false,false,false,false,true,true,false] [0,5] [0,5] 10 zqk zqk zqk ⟨rfl,rfl,trivial⟩ ⟨rfl,rfl,trivial⟩ ?_
  refine DTK.v0 rfl (stepV_of rfl rfl) ?_
  refine DTK.v0 rfl (stepV_of rfl rfl) ?_
  refine DTK.v0 rfl (stepV_of rfl rfl) ?_
  refine DTK.v0 rfl (stepV_of rfl rfl) ?_
  refine DTK.v0 rfl (cutV_of rfl hcb2) ?_
  rw [hcc2]
  refine DTK.v0 rfl (WV.lendT hB rfl (callF Tryz.func221 rfl rfl) rfl (.cons (Lent.prs rfl nr_two2 (nr_onB hs)) (.cons (Lent.pu rfl) (.cons (Lent.pu rfl) .nil))) tabN_st rfl hM) ?_
  refine DTK.v0 rfl (stepV_of rfl rfl) ?_
  refine DTK.v0 rfl (stepV_of rfl rfl) ?_
  refine DTK.v0 rfl (stepV_of rfl rfl) ?_
  refine DTK.al rfl rfl rfl rfl ⟨rfl,rfl,trivial⟩ (fun _=>⟨rfl,rfl,trivial⟩) ?_
  refine DTK.sto rfl rfl rfl rfl rfl rfl rfl rfl rfl rfl rfl rfl rfl rfl ⟨rfl,rfl,trivial⟩ (fun h=>by cases h) ?_
  refine DTK.v0 rfl (stepV_of rfl rfl) ?_
  refine DTK.nil ?_
  refine zqg22 ?_
  exact W.ret (finMs rfl rfl rfl ⟨rfl,trivial⟩ rfl)
end
section
open Go.RowKit
def nr_chU (s n:Int)(M:List (Nat×AO))(nk:Nat):Option (List N5)→UR
 | some l=>.ok (.ls 6 (l.map (eWr s))) M nk
 | none=>.er (nr_flt n 4)
theorem nr_rev_len (s:Int)(words:List (List UInt8)):(nr_rev s words).length=words.length:=by unfold nr_rev;split<;>simp
theorem nr_rev_mem {s:Int} {words:List (List UInt8)} {w:List UInt8}:w∈nr_rev s words↔w∈words:=by unfold nr_rev;split<;>simp
theorem nr_staff_bd(s:Int)(cs:List Crs):nr_staff s cs≤6∧(s=4→nr_staff s cs=0):=by
 unfold nr_staff
 split
 ·exact⟨by omega,fun _=>rfl⟩
 ·rename_i h;exact⟨by omega,fun e=>absurd e h⟩
theorem spot_on {s:Int} (hs:1≤s∧s≤4) {k:Nat} (h:k<6)(h4:s≠4):spotErr s ((k:Int)+1)=0:=by
 unfold spotErr
 rw [if_neg (by omega),if_neg (by omega)]
theorem spot_out {s:Int} (hs:1≤s∧s≤4):spotErr s 0=0:=by
 unfold spotErr
 rw [if_neg (by omega),if_neg (by omega)]
def nr_O (s:Int)(n:Nat)(W:List (List UInt8)):List (List AV):=if s=2 then (W.take n).reverse.map eTx else (W.take n).map eTx
theorem nr_O_len {s:Int} {n:Nat} {W:List (List UInt8)} (h:n≤W.length):(nr_O s n W).length=n:=by unfold nr_O;split<;>simp<;>omega
theorem nr_O_at {s:Int} {n:Nat} {W:List (List UInt8)} (hs:1≤s∧s≤4)(h4:s=4→n=0)(hn:n≤W.length) {k:Nat} (h:k<W.length)(hk:k<n):(nr_O s n W)[(lineV s ((k:Int)+1) n-1).toNat]?=some (eTx W[k]):=by
 have h4':s≠4:=fun e=>by have:=h4 e;omega
 unfold nr_O lineV
 rw [if_neg h4']
 by_cases h2:s=2
 ·rw [if_pos h2,if_pos h2,show ((n:Int)+1-((k:Int)+1)-1).toNat=n-1-k by omega]
  have hl:(W.take n).length=n:=by rw [List.length_take];omega
  rw [List.getElem?_map,List.getElem?_reverse (by omega),hl,show n-1-(n-1-k)=k by omega,List.getElem?_take_of_lt hk,List.getElem?_eq_getElem h]
  rfl
 ·rw [if_neg h2,if_neg h2,show ((k:Int)+1-1).toNat=k by omega,List.getElem?_map,List.getElem?_take_of_lt hk,List.getElem?_eq_getElem h]
  rfl
theorem nr_prt_lo {L:List (List UInt8)} {n:Nat}:prt (L.map eTx) 0 (n:Int)=(L.take n).map eTx:=by
 unfold prt;simp [List.map_take]
theorem nr_prt_hi {L:List (List UInt8)} {n m:Nat} (h:m=L.length):prt (L.map eTx) (n:Int) (m:Int)=(L.drop n).map eTx:=by
 subst h
 unfold prt
 rw [Int.toNat_natCast,Int.toNat_natCast,List.take_of_length_le (by simp),List.map_drop]
theorem nr_L_len (s:Int) (n:Nat) (W:List (List UInt8)):∀ k,(nr_L s n W k).length≤k
 | 0=>by rw [nr_L_0];simp
 | k+1=>by
  have:=nr_L_len s n W k
  have:=nr_x_one (s:=s) (n:=n) (W:=W) k
  rw [nr_L_s,List.length_append];omega
theorem nr_ch_no_asc {s:Int} {n:Nat} {W:List (List UInt8)} {k:Nat} (hk:k≤W.length)(h:¬ nr_asc (nr_L s n W k)):nr_chW s n W=none :=
 nr_ch_asc fun h2=>h (nr_asc_pre (nr_L_pre s n W hk) h2)
theorem chord_G (s:Int) (hs:1≤s∧s≤4) (cs:List Crs) (st:List Int) (ln:Int) (T:List (List AV)) (cl:Bool) (words:List (List UInt8)) (hw:words.length≤400000) (hwl:∀ w∈words,w.length≤400000) (hcs:cs.length≤64) :
  Ctu tabN gloN Tryz.prog 93 [.pt 0 0 0,.ls 1 (words.map eTx)] [(0,nr_rd (.int .u8 s) (sysV s) (cs.map eCrs) (st.map eInt) ln T cl)] 3
   (nr_chU s ln [(0,nr_rd (.int .u8 s) (sysV s) (cs.map eCrs) (st.map eInt) ln T cl)] 4 (nr_ch s (nr_staff s cs) words)):=by
 obtain ⟨n6,n4⟩:=nr_staff_bd s cs
 have hstf:=pstaff_FS cs st hcs
 have hmin:s≠4→((min cs.length 6:Nat):Int)=(nr_staff s cs:Int):=fun h=>by unfold nr_staff;rw [if_neg h]
 unfold nr_ch
 obtain ⟨n,hn⟩:∃ z,nr_staff s cs=z:=⟨_,rfl⟩
 rw [hn] at n6 n4 hmin ⊢
 have hWl:=nr_rev_len s words
 have hml:(words.map eTx).length=words.length:=List.length_map _
 refine Ctu.intro stabN Tryz.func93 rfl Tryz.ntmps93 (Nat.le_of_ble_eq_true rfl) rfl fun w0 F0 fp pg hB=>?_
 unfold nr_rd
 dsimp only [number,Nat.reduceAdd]
 refine zqg23 ?_
 refine W.meet ⟨[(0,.pt 0 0 0),(1,.ls 1 (words.map eTx)),(5,.sc (.int .i64 (n:Int)))],[(0,.box 78 [.sc (.int .u8 s),.sc (sysV s),.ls 3 (cs.map eCrs),.ls 1 (st.map eInt),.sl 1,.sl 2,.sc (.int .i64 ln),.ls 1 T,.sc (.bool cl)])],3⟩ ?_ ?_
 ·by_cases s4:s=4
  ·rw [decide_eq_true s4]
   have:=n4 s4
   subst this
   refine zqg23 ?_
   refine (?_:Tr _ _ _)
   exact (zqt id)
  ·rw [decide_eq_false s4]
   refine zqg23 ?_
   refine WL.vl rfl (zqc Tryz.func112 hstf) ?_
   rw [hmin s4]
   refine zqg23 ?_
   refine (?_:Tr _ _ _)
   exact (zqt id)
 obtain ⟨L,hL⟩:∃ z,words.map eTx=z:=⟨_,rfl⟩
 by_cases hsh:words.length < n
 ·rw [nr_ch_short (by omega)]
  rw [hL] at hml ⊢
  refine zqg23 ?_
  refine WL.ctp (truH _) [0,1,2] rfl rfl (callF Tryz.func40 rfl rfl) (fail_G _ _ _ _ _ _ _ _) rfl rfl rfl ⟨⟨rfl,rfl,rfl⟩,trivial⟩ ?_
  rfl
 obtain ⟨W0,hW0⟩:∃ z,nr_rev s words=z:=⟨_,rfl⟩
 have hWm:∀ w∈W0,w.length≤400000:=fun w h=>hwl w (nr_rev_mem.1 (hW0 ▸ h))
 rw [hW0]
 have hWl0:W0.length=words.length:=hW0 ▸ hWl
 have hlo:prt L 0 (n:Int)=(words.take n).map eTx:=by rw [← hL];exact nr_prt_lo
 have hhi:prt L (n:Int) (words.length:Int)=(words.drop n).map eTx:=by rw [← hL];exact nr_prt_hi rfl
 have hLl:L.length=words.length:=by rw [← hL];exact hml
 have hbe:=behind_FS s hs
 rw [hL]
 refine zqg23 ?_
 refine W.drawK zqk zqk ?_
 repeat (first|refine DK.st rfl ?_|refine DK.nil ?_)
 refine DK.part_ rfl rfl ⟨by omega,by omega,by omega⟩ hlo ?_
 repeat (first|refine DK.st rfl ?_|refine DK.nil ?_)
 refine DK.part_ rfl rfl ⟨by omega,by omega,by omega⟩ (show prt L (n:Int) (L.length:Int)=(words.drop n).map eTx by rw [hLl];exact hhi) ?_
 repeat (first|refine DK.st rfl ?_|refine DK.nil ?_)
 refine zqg23 ?_
 refine WL.vl rfl (WV.sys hs behindF rfl rfl (fun vs w=>by kernel_rfl) (fun vs w=>by kernel_rfl) (fun vs w=>by kernel_rfl) (fun vs w=>by kernel_rfl) rfl rfl hbe) ?_
 refine zqg23 ?_
 refine W.meet ⟨[(0,.pt 0 0 0),(5,.sc (.int .i64 (n:Int))),(6,.ls 1 (nr_O s n W0)),(7,.ls 1 ((W0.drop n).map eTx))],[(0,.box 78 [.sc (.int .u8 s),.sc (sysV s),.ls 3 (cs.map eCrs),.ls 1 (st.map eInt),.sl 1,.sl 2,.sc (.int .i64 ln),.ls 1 T,.sc (.bool cl)])],3⟩ ?_ ?_
 ·by_cases s2:s=2
  ·rw [decide_eq_true s2]
   have e:W0=words.reverse:=by rw [← hW0];exact if_pos s2
   have eO:nr_O s n W0=(words.drop (words.length - n)).map eTx:=by
    rw [e,show nr_O s n words.reverse=(words.reverse.take n).reverse.map eTx from if_pos s2,List.reverse_take,List.reverse_reverse,List.length_reverse]
   have eU:((words.take (words.length - n)).reverse).map eTx=(W0.drop n).map eTx:=by
    rw [e,List.reverse_take,show words.length - (words.length - n)=n by omega]
   have hc1:=cloneTx_G (words.take (words.length - n)) (by rw [List.length_take];omega)
   have hr1:=reverse_G (words.take (words.length - n)) (by rw [List.length_take];omega)
   rw [eU] at hr1
   have hm:((words.length - n:Nat):Int)=(words.length:Int) - (n:Int):=by omega
   have hlo2:prt L 0 ((L.length:Int) - (n:Int))=(words.take (words.length - n)).map eTx:=by rw [hLl,← hm,← hL];exact nr_prt_lo
   have hhi2:prt L ((L.length:Int) - (n:Int)) (L.length:Int)=nr_O s n W0:=by rw [hLl,← hm,← hL,eO];exact nr_prt_hi rfl
   refine zqg23 ?_
   refine W.of_wa zqk ?_
   refine WA.dt [false,false,false,false,false,false,true,false,false,false,false,false,false,true,false] [0] [0] 13 zqk zqk zqk ⟨rfl,trivial⟩ ⟨rfl,trivial⟩ ?_
   refine DTK.v0 rfl (stepV_of rfl rfl) ?_
   refine DTK.v0 rfl (stepV_of rfl rfl) ?_
   refine DTK.v0 rfl (lenV_of rfl) ?_
   refine DTK.v0 rfl (stepV_of rfl rfl) ?_
   refine DTK.v0 rfl (sideV_of rfl (by unfold I64;omega)) ?_
   refine DTK.v0 rfl (partV_of rfl ⟨by omega,by omega,by omega⟩) ?_
   rw [hlo2]
   refine DTK.ct (truH _) [] rfl rfl (callF Tryz.func161 rfl rfl) hc1 rfl rfl rfl trivial rfl rfl rfl rfl ⟨rfl,trivial⟩ (fun _=>⟨rfl,trivial⟩) ?_
   refine DTK.v0 rfl (stepV_of rfl rfl) ?_
   refine DTK.v0 rfl (stepV_of rfl rfl) ?_
   refine DTK.v0 rfl (lenV_of rfl) ?_
   refine DTK.v0 rfl (stepV_of rfl rfl) ?_
   refine DTK.v0 rfl (sideV_of rfl (by unfold I64;omega)) ?_
   refine DTK.v0 rfl (partV_of rfl ⟨by omega,by omega,by omega⟩) ?_
   rw [hhi2]
   refine DTK.mv rfl rfl rfl rfl rfl rfl ⟨rfl,trivial⟩ (fun h=>by cases h) ?_
   refine DTK.v0 rfl (stepV_of rfl rfl) ?_
   refine DTK.nil ?_
   refine zqg23 ?_
   refine WL.cto (truH _) [3] rfl rfl (callF Tryz.func162 rfl rfl) hr1 rfl rfl rfl ⟨⟨rfl,rfl,rfl⟩,trivial⟩ rfl rfl rfl rfl ?_
   refine WL.tr (Tr.freeze 3 rfl) ?_
   refine zqg23 ?_
   refine (?_:Tr _ _ _)
   exact (zqt id)
  ·rw [decide_eq_false s2]
   have e:W0=words:=by rw [← hW0];exact if_neg s2
   have eO:nr_O s n W0=(words.take n).map eTx:=by rw [e];exact if_neg s2
   rw [eO,e]
   refine zqg23 ?_
   refine (?_:Tr _ _ _)
   exact (zqt id)
 have hnW:n≤W0.length:=by omega
 have hOl:=nr_O_len (s:=s) hnW
 have hOat:=fun {k:Nat} (h:k < W0.length) (hk:k < n)=>nr_O_at hs n4 hnW h hk
 obtain ⟨O,hO⟩:∃ z,nr_O s n W0=z:=⟨_,rfl⟩
 have hOUl:((W0.drop n).map eTx).length=W0.length - n:=by rw [List.length_map,List.length_drop]
 have hOUat:∀ j (h:n+j < W0.length),((W0.drop n).map eTx)[((j:Nat):Int).toNat]?=some (eTx W0[n+j]):=fun j h=>by
  rw [Int.toNat_natCast,List.getElem?_map,List.getElem?_drop,List.getElem?_eq_getElem h];rfl
 obtain ⟨OU,hOU⟩:∃ z,(W0.drop n).map eTx=z:=⟨_,rfl⟩
 rw [hO] at hOl hOat ⊢
 rw [hOU] at hOUl hOUat ⊢
 clear hlo hhi hO hOU hL hLl hml hW0 hWl hstf hmin hbe
 refine zqg23 ?_
 refine W.tr (Tr.nil (t:=8) 157 6 rfl rfl) ?_
 refine W.loop (fun k:Nat=>k≤n∧∀ i (h:i < W0.length),i < k→(nr_wd s n i W0[i]).isSome=true) (fun k=>⟨[(0,.pt 0 0 0),(5,.sc (.int .i64 (n:Int))),(6,.ls 1 O),(7,.ls 1 OU),(8,.sl 3),(9,.sc (.int .i64 ((k:Int)+1)))],[(0,.box 78 [.sc (.int .u8 s),.sc (sysV s),.ls 3 (cs.map eCrs),.ls 1 (st.map eInt),.sl 1,.sl 2,.sc (.int .i64 ln),.ls 1 T,.sc (.bool cl)]),(3,.row 157 6 ((nr_L s n W0 k).map (eWr s)))],4⟩) (fun k=>n - k) 0 ⟨by omega,fun i h h2=>absurd h2 zqo⟩ (zqt id) fun k hk=>?_
 obtain ⟨hk,hall⟩:=hk
 have hRl:((nr_L s n W0 k).map (eWr s)).length≤400000:=by
  have:=nr_L_len s n W0 k
  rw [List.length_map];omega
 by_cases hlt:k < n
 ·have hkW:k < W0.length:=by omega
  have h4:s≠4:=fun e=>by have:=n4 e;omega
  have hat:=hOat hkW hlt
  have hln:=line_FS s hs ((k:Int)+1) n ⟨by omega,by omega⟩ ⟨by omega,by omega⟩
  have hlv:1≤lineV s ((k:Int)+1) n∧lineV s ((k:Int)+1) n≤10:=by
   unfold lineV
   rw [if_neg h4]
   split<;>omega
  obtain ⟨LV,hLV⟩:∃ z,lineV s ((k:Int)+1) n=z:=⟨_,rfl⟩
  rw [hLV] at hat hln hlv
  have hcell:=cellR_G s hs (cs.map eCrs) (st.map eInt) ln T cl ((k:Int)+1) W0[k] (hWm _ (List.getElem_mem hkW)) (spot_on hs (by omega) h4)
  have hrs:=nr_L_s s n W0 k
  have hnx:(nr_wd s n k W0[k]).isSome=true→∀ i (h:i < W0.length),i < k+1→(nr_wd s n i W0[i]).isSome=true:=fun h i hi hik=>by
   by_cases e:i=k
   ·subst e;exact h
   ·exact hall i hi zqo
  by_cases hd:W0[k]=[45]
  ·have hwd:nr_wd s n k W0[k]=some none:=by unfold nr_wd;rw [if_pos hlt,if_pos hd]
   rw [nr_x_dash hkW hwd,List.append_nil] at hrs
   have hn2:=hnx (by rw [hwd];rfl)
   have hb:(W0[k] == ([45]:List UInt8))=true:=by rw [hd];rfl
   obtain ⟨wk,hwk⟩:∃ z,W0[k]=z:=⟨_,rfl⟩
   rw [hwk] at hat hb
   obtain ⟨R,hR⟩:∃ z,(nr_L s n W0 k).map (eWr s)=z:=⟨_,rfl⟩
   have hR2:(nr_L s n W0 (k+1)).map (eWr s)=R:=by rw [hrs];exact hR
   rw [hR] at hRl ⊢
   clear hall hOat hOUat hcell
   refine zqg24 ?_
   refine WL.vl rfl (WV.sys hs lineF rfl rfl (fun vs w=>by kernel_rfl) (fun vs w=>by kernel_rfl) (fun vs w=>by kernel_rfl) (fun vs w=>by kernel_rfl) rfl rfl hln) ?_
   refine zqg24 ?_
   refine WL.idx rfl rfl zqo hat ?_
   refine zqg24 ?_
   rw [hb]
   refine zqg24 ?_
   refine ⟨k+1,⟨by omega,hn2⟩,by omega,?_⟩
   rw [hR2]
   exact (zqt id)
  ·have hb:(W0[k] == ([45]:List UInt8))=false:=by simpa using hd
   have hwd:nr_wd s n k W0[k]=(nr_cl s ((k:Int)+1) W0[k]).map some:=by unfold nr_wd;rw [if_pos hlt,if_neg hd]
   cases hcl:nr_cl s ((k:Int)+1) W0[k] with
   | none =>
    rw [nr_ch_word hkW (by rw [hwd,hcl];rfl)]
    have hcc:=hcell.er_ (by rw [hcl];rfl)
    obtain ⟨wk,hwk⟩:∃ z,W0[k]=z:=⟨_,rfl⟩
    rw [hwk] at hat hb hcc
    obtain ⟨R,hR⟩:∃ z,(nr_L s n W0 k).map (eWr s)=z:=⟨_,rfl⟩
    rw [hR] at hRl ⊢
    clear hall hOat hOUat hcell
    refine zqg24 ?_
    refine WL.vl rfl (WV.sys hs lineF rfl rfl (fun vs w=>by kernel_rfl) (fun vs w=>by kernel_rfl) (fun vs w=>by kernel_rfl) (fun vs w=>by kernel_rfl) rfl rfl hln) ?_
    refine zqg24 ?_
    refine WL.idx rfl rfl zqo hat ?_
    refine zqg24 ?_
    rw [hb]
    refine zqg24 ?_
    refine WL.ctp hB [0,1,2] rfl rfl (callF Tryz.func163 rfl rfl) hcc rfl rfl rfl ⟨⟨rfl,rfl,rfl⟩,trivial⟩ ?_
    rfl
   | some x =>
    have hws:nr_wd s n k W0[k]=some (some x):=by rw [hwd,hcl];rfl
    rw [nr_x_note hkW hws] at hrs
    have hn2:=hnx (by rw [hws];rfl)
    have hcc:=hcell.ok_ (by rw [hcl];rfl)
    obtain ⟨wk,hwk⟩:∃ z,W0[k]=z:=⟨_,rfl⟩
    rw [hwk] at hat hb hcc
    obtain ⟨R,hR⟩:∃ z,(nr_L s n W0 k).map (eWr s)=z:=⟨_,rfl⟩
    have hR2:R++[eWr s x]=(nr_L s n W0 (k+1)).map (eWr s):=by rw [hrs,List.map_append,hR];rfl
    rw [hR] at hRl ⊢
    clear hall hOat hOUat hcell
    refine zqg24 ?_
    refine WL.vl rfl (WV.sys hs lineF rfl rfl (fun vs w=>by kernel_rfl) (fun vs w=>by kernel_rfl) (fun vs w=>by kernel_rfl) (fun vs w=>by kernel_rfl) rfl rfl hln) ?_
    refine zqg24 ?_
    refine WL.idx rfl rfl zqo hat ?_
    refine zqg24 ?_
    rw [hb]
    refine zqg24 ?_
    refine WL.cto hB [0,1,2] rfl rfl (callF Tryz.func163 rfl rfl) hcc rfl rfl rfl ⟨⟨rfl,rfl,rfl⟩,trivial⟩ rfl rfl rfl rfl ?_
    refine zqg24 ?_
    refine ⟨k+1,⟨by omega,hn2⟩,by omega,?_⟩
    exact (zqu (fun q=>bif Nat.beq q 3 then 9 else q) (by repeat (first|exact trivial|refine ⟨⟨?_,?_,?_⟩,?_⟩|rfl|exact congrArg (fun q=>some (AO.row _ _ q)) hR2)) rfl)
 obtain rfl:k=n:=by omega
 have hasc0:nr_asc (nr_L s k W0 k):=nr_L_on (Nat.le_refl _)
 clear hOat hlt hk hRl
 refine zqg24 ?_
 have hl0:nr_last s k W0 (k+0)=0:=nr_last_0 (Nat.le_refl _)
 refine W.loop (fun j:Nat=>k+j≤W0.length∧(∀ i (h:i < W0.length),i < k+j→(nr_wd s k i W0[i]).isSome=true)∧nr_asc (nr_L s k W0 (k+j))) (fun j=>⟨[(0,.pt 0 0 0),(8,.sl 3),(11,.sc (.int .i64 (nr_last s k W0 (k+j):Nat))),(84,.ls 1 OU),(85,.sc (.int .i64 ((W0.length - k:Nat):Int))),(86,.sc (.int .i64 (j:Int)))],[(0,.box 78 [.sc (.int .u8 s),.sc (sysV s),.ls 3 (cs.map eCrs),.ls 1 (st.map eInt),.sl 1,.sl 2,.sc (.int .i64 ln),.ls 1 T,.sc (.bool cl)]),(3,.row 157 6 ((nr_L s k W0 (k+j)).map (eWr s)))],4⟩) (fun j=>W0.length - k - j) 0 ⟨by omega,fun i h h2=>hall i h (by omega),hasc0⟩ (by rw [hl0,hOUl];exact (zqt id)) fun j hj=>?_
 obtain ⟨hj,hok,hasc⟩:=hj
 clear hall hasc0 hl0
 have hRl:((nr_L s k W0 (k+j)).map (eWr s)).length≤400000:=by
  have:=nr_L_len s k W0 (k+j)
  rw [List.length_map];omega
 by_cases hlt:k+j < W0.length
 rotate_left
 ·have e:k+j=W0.length:=by omega
  rw [e] at hok hasc ⊢
  by_cases hnil:nr_L s k W0 W0.length=[]
  ·rw [nr_ch_nil hnil,hnil]
   refine zqg24 ?_
   refine WL.ctp (truH _) [0,1,2] rfl rfl (callF Tryz.func40 rfl rfl) (fail_G _ _ _ _ _ _ _ _) rfl rfl rfl ⟨⟨rfl,rfl,rfl⟩,trivial⟩ ?_
   rfl
  ·rw [nr_ch_yes hnW (fun i h=>hok i h h) hasc hnil]
   have hpos:0 < (nr_L s k W0 W0.length).length:=List.length_pos_iff.2 hnil
   obtain ⟨LL,hLL⟩:∃ z,nr_L s k W0 W0.length=z:=⟨_,rfl⟩
   rw [hLL] at hpos ⊢
   have hml3:(LL.map (eWr s)).length=LL.length:=List.length_map _
   refine zqg23 ?_
   refine W.tr (Tr.freeze 3 rfl) ?_
   exact W.ret (finMs rfl rfl rfl ⟨rfl,trivial⟩ rfl)
 have hat:=hOUat j hlt
 have hcell:=cellR_G s hs (cs.map eCrs) (st.map eInt) ln T cl 0 W0[k+j] (hWm _ (List.getElem_mem hlt)) (spot_out hs)
 have hrs:=nr_L_s s k W0 (k+j)
 have hwd:nr_wd s k (k+j) W0[k+j]=(nr_cl s 0 W0[k+j]).map some:=by unfold nr_wd;rw [if_neg (by omega)]
 cases hcl:nr_cl s 0 W0[k+j] with
 | none =>
  rw [nr_ch_word hlt (by rw [hwd,hcl];rfl)]
  have hcc:=hcell.er_ (by rw [hcl];rfl)
  obtain ⟨wk,hwk⟩:∃ z,W0[k+j]=z:=⟨_,rfl⟩
  rw [hwk] at hat hcc
  obtain ⟨R,hR⟩:∃ z,(nr_L s k W0 (k+j)).map (eWr s)=z:=⟨_,rfl⟩
  rw [hR] at hRl ⊢
  clear hok hOUat hcell
  refine zqg24 ?_
  refine WL.idx rfl rfl zqo hat ?_
  refine zqg24 ?_
  refine WL.ctp hB [0,1,2] rfl rfl (callF Tryz.func163 rfl rfl) hcc rfl rfl rfl ⟨⟨rfl,rfl,rfl⟩,trivial⟩ ?_
  rfl
 | some x =>
  have hws:nr_wd s k (k+j) W0[k+j]=some (some x):=by rw [hwd,hcl];rfl
  have hxn:=nr_x_note hlt hws
  have hstep:=nr_L_step n6 n4 zqo hok zqo hasc hxn
  have hlast:=nr_last_s (s:=s) (n:=k) (W:=W0) (k:=k+j) zqo hxn
  rw [hxn] at hrs
  have hxb:=nr_wd_bd hws
  have hcc:=hcell.ok_ (by rw [hcl];rfl)
  have hok2:∀ i (h:i < W0.length),i < k+(j+1)→(nr_wd s k i W0[i]).isSome=true:=fun i hi hik=>by
   by_cases e:i=k+j
   ·subst e;rw [hws];rfl
   ·exact hok i hi zqo
  obtain ⟨wk,hwk⟩:∃ z,W0[k+j]=z:=⟨_,rfl⟩
  rw [hwk] at hat hcc
  obtain ⟨R,hR⟩:∃ z,(nr_L s k W0 (k+j)).map (eWr s)=z:=⟨_,rfl⟩
  have hR2:R++[eWr s x]=(nr_L s k W0 (k+(j+1))).map (eWr s):=by rw [show k+(j+1)=k+j+1 by omega,hrs,List.map_append,hR];rfl
  rw [hR] at hRl ⊢
  obtain ⟨la,hla⟩:∃ z,nr_last s k W0 (k+j)=z:=⟨_,rfl⟩
  rw [hla] at hstep ⊢
  clear hok hOUat hcell
  obtain ⟨xc,xf,xr,xg,xh⟩:=x
  dsimp only at hstep hlast hxb
  unfold eWr at hcc
  dsimp only at hcc
  by_cases hle:xc≤la
  ·rw [nr_ch_no_asc (k:=k+j+1) (by omega) (fun h=>by have:=hstep.1 h;omega)]
   refine zqg24 ?_
   refine WL.idx rfl rfl zqo hat ?_
   refine zqg24 ?_
   refine WL.cto hB [0,1,2] rfl rfl (callF Tryz.func163 rfl rfl) hcc rfl rfl rfl ⟨⟨rfl,rfl,rfl⟩,trivial⟩ rfl rfl rfl rfl ?_
   refine zqg24 ?_
   refine WL.ctp (truH _) [0,1,2] rfl rfl (callF Tryz.func40 rfl rfl) (fail_G _ _ _ _ _ _ _ _) rfl rfl rfl ⟨⟨rfl,rfl,rfl⟩,trivial⟩ ?_
   rfl
  ·have hasc2:=hstep.2 zqo
   refine zqg24 ?_
   refine WL.idx rfl rfl zqo hat ?_
   refine zqg24 ?_
   refine WL.cto hB [0,1,2] rfl rfl (callF Tryz.func163 rfl rfl) hcc rfl rfl rfl ⟨⟨rfl,rfl,rfl⟩,trivial⟩ rfl rfl rfl rfl ?_
   refine zqg24 ?_
   refine ⟨j+1,⟨by omega,hok2,hasc2⟩,by omega,?_⟩
   rw [show k+(j+1)=k+j+1 by omega] at hR2
   rw [show k+(j+1)=k+j+1 by omega,hlast]
   exact (zqu (fun q=>bif Nat.beq q 3 then 10 else q) (by repeat (first|exact trivial|refine ⟨⟨?_,?_,?_⟩,?_⟩|rfl|exact congrArg (fun q=>some (AO.row _ _ q)) hR2)) rfl)
end
end Go.Proofs.YthehkchjdkdbiaaGreatDoor
