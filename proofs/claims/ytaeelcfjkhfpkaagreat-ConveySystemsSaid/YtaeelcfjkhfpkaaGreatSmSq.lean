/- Names of notes, the text of an instrument: the program. -/
import Derived.Test.YtaeelcfjkhfpkaaGreatSpSq
import Derived.Test.YtaeelcfjkhfpkaaGreatMk4Sq
set_option maxHeartbeats 4000000
set_option maxRecDepth 100000
set_option linter.unusedVariables false
set_option linter.unusedSimpArgs false
namespace Go.Proofs.YtaeelcfjkhfpkaaGreat
section
open Go.RowKit
attribute [local go_sem]mk_bs bs_size bs_toList bs_append bs_extract
attribute [local simp]run_cut run_cut_to run_cut_from run_add_bs
theorem phas_2 (n:Int)(w:World):Calls Tryz.prog 220 #[.agg #[],.int .i64 n] w (Ret (.bool (if (2:Int)=3 then n != 8 else if (2:Int)=4 then n == 8 else true)) w):=by
 go_enter Tryz.func220,Tryz.ntmps220
 go_wp2
 go_ret
 exact Ret.mk' rfl zqb
end
section
open Go.RowKit
attribute [local go_sem]mk_bs bs_size bs_toList bs_append bs_extract
attribute [local simp]run_cut run_cut_to run_cut_from run_add_bs
theorem phas_3 (n:Int)(w:World):Calls Tryz.prog 227 #[.agg #[],.int .i64 n] w (Ret (.bool (if (3:Int)=3 then n != 8 else if (3:Int)=4 then n == 8 else true)) w):=by
 go_enter Tryz.func227,Tryz.ntmps227
 go_wp2
 go_ret
 exact Ret.mk' rfl zqb
end
section
open Go.RowKit
attribute [local go_sem]mk_bs bs_size bs_toList bs_append bs_extract
attribute [local simp]run_cut run_cut_to run_cut_from run_add_bs
theorem pright_1 (n:Int)(w:World)(h:0≤n∧n≤3) :
  Calls Tryz.prog 187 #[.agg #[],.int .i64 n] w (Ret (.tuple #[.string (bs (rR 1 n)),.bool (okR 1 n)]) w):=by
 have h4:n=0∨n=1∨n=2∨n=3:=by omega
 clear h
 rcases h4 with rfl|rfl|rfl|rfl
 all_goals
  go_enter Tryz.func187,Tryz.ntmps187
  go_wp2
  go_ret2
  exact Ret.mk' rfl zqb
theorem pgrace_1 (n:Int)(w:World)(h:0≤n∧n≤4) :
  Calls Tryz.prog 181 #[.agg #[],.int .i64 n] w (Ret (.tuple #[.string (bs (rG 1 n)),.bool (okG 1 n)]) w):=by
 have h4:n=0∨n=1∨n=2∨n=3∨n=4:=by omega
 clear h
 rcases h4 with rfl|rfl|rfl|rfl|rfl
 all_goals
  go_enter Tryz.func181,Tryz.ntmps181
  go_wp2
  go_ret2
  exact Ret.mk' rfl zqb
theorem phold_1 (n L:Int)(w:World)(h:0≤n∧n≤15) :
  Calls Tryz.prog 183 #[.agg #[],.int .i64 n,.int .i64 L] w (Ret (.tuple #[.string (bs (pH 1 n L)),.bool (okH 1 n L)]) w):=by
 obtain⟨hn0,hn1⟩:=h
 by_cases h0:n=0
 ·subst h0
  go_enter Tryz.func183,Tryz.ntmps183
  go_wp2
  go_ret2
  exact Ret.mk' rfl zqb
 ·have hb:(n == 0)=false:=by simp;exact h0
  have e0:pH 1 n L=rH 1 n L:=if_neg h0
  have e1:okH 1 n L=!(rH 1 n L).isEmpty:=by unfold okH;rw [hb];rfl
  rw [e0,e1]
  have e2:rH 1 n L=95::dig2 n.toNat:=if_pos rfl
  have hl:([95]:List UInt8).length+(dig2 n.toNat).length≤9223372036854775807:=by have:=dig2_len n.toNat;simp;omega
  have hl':1+(dig2 n.toNat).length≤9223372036854775807:=by have:=dig2_len n.toNat;omega
  rw [e2]
  clear e0 e1 e2
  go_enter Tryz.func183,Tryz.ntmps183
  go_wp2_with (go_at_call 190;refine (itoa_any _ _ hn0 (by omega)).mono ?_;rintro e w'⟨rfl,hw⟩;rw [hw];clear hw)
  go_ret2
  exact Ret.mk' rfl zqb
theorem pcell_1 (c f r g h L:Int) (w:World) (hc:1≤c∧c≤14) (hf:0≤f∧f≤18) (hr:0≤r∧r≤3) (hg:0≤g∧g≤4) (hh:0≤h∧h≤15) :
  Calls Tryz.prog 105 #[(.iface 167 (.agg #[])),.agg #[.int .i64 c,.int .i64 f,.int .i64 r,.int .i64 g,.int .i64 h],.int .i64 L] w
   (Ret (.tuple #[.string (bs (cellS 1 c f r g h L)),.bool (cellOk 1 c f r g h L)]) w):=by
 have a1:=(pS_len 1 c f (by decide) hc hf).1
 have a2:=rR_len 1 r
 have a3:=rG_len 1 g
 have a4:=pH_len 1 h L
 have b1:(pS 1 c f).length+(rR 1 r).length≤9223372036854775807:=by omega
 have b2:(pS 1 c f).length+(rR 1 r).length+(rG 1 g).length≤9223372036854775807:=by omega
 have b2':(pS 1 c f).length+((rR 1 r).length+(rG 1 g).length)≤9223372036854775807:=by omega
 have b3:(pS 1 c f).length+(rR 1 r).length+(rG 1 g).length+(pH 1 h L).length≤9223372036854775807:=by omega
 have b3':(pS 1 c f).length+((rR 1 r).length+((rG 1 g).length+(pH 1 h L).length))≤9223372036854775807:=by omega
 have b3c:(pS 1 c f).length+((rR 1 r).length+(rG 1 g).length)+(pH 1 h L).length≤9223372036854775807:=by omega
 clear a1 a2 a3 a4
 unfold cellS cellOk
 go_enter Tryz.func105,Tryz.ntmps105
 go_wp2_with (first
  | (go_at_call 188;refine (psym_1 _ _ _ hc hf).mono ?_;rintro e w1 ⟨rfl,hb1⟩;have k1:=(Blk.new _ _ _).after hb1;have x1:w1.cell? ⟨w.heap.size,2,none⟩=some (.int .i64 r):=k1.cell 2;have K1:=Lib.hid k1;clear k1)
  | (go_at_call 187;refine (pright_1 _ _ hr).mono ?_;rintro e w2 ⟨rfl,hb2⟩;have k2:=K1.out.after hb2;have x2:w2.cell? ⟨w.heap.size,3,none⟩=some (.int .i64 g):=k2.cell 3;have K2:=Lib.hid k2;clear k2)
  | (go_at_call 181;refine (pgrace_1 _ _ hg).mono ?_;rintro e w3 ⟨rfl,hb3⟩;have k3:=K2.out.after hb3;have x3:w3.cell? ⟨w.heap.size,4,none⟩=some (.int .i64 h):=k3.cell 4;have K3:=Lib.hid k3;clear k3)
  | (go_at_call 183;refine (phold_1 _ _ _ hh).mono ?_;rintro e w4 ⟨rfl,hb4⟩))
 all_goals go_ret2
 all_goals exact Ret.mk' (by simp [*]) zqb
end
section
open Go.RowKit
theorem topOf_fret {st:List Int} {p:Int} {k:Nat} {o:Bool} (hk:k<st.length):topOf st (p,(k:Int)+1,o)=p+st[k]+if o then 12 else 0:=by
 unfold topOf
 have h0:(0:Int)<(k:Int)+1:=by omega
 have:((k:Int)+1).toNat-1=k:=by omega
 simp only [if_pos h0]
 rw [this,List.getD_eq_getElem?_getD,List.getElem?_eq_getElem hk];rfl
theorem topOf_open {st:List Int} {p:Int} {o:Bool}:topOf st (p,0,o)=p+if o then 12 else 0:=by unfold topOf;simp
theorem rInsCheck (A1 A2:Option Addr) (cs:List (Int×Int×Bool)) (st:List Int) (n1 n2 c1 c2:Nat) (w:World) (hI:InsAt w w.heap.size A1 A2 cs st) (hn1:n1=cs.length) (hn2:n2=st.length) :
    Calls Tryz.prog 69 #[.agg #[.slice A1 n1 c1,.slice A2 n2 c2]] w (Ret (.int .i64 (insE cs st)) w):=by
  by_cases hm1:14 < n1
  · rw [insE_many (.inl (by omega))]
    clear hn1 hn2 hI
    go_enter Tryz.func69,Tryz.ntmps69
    go_wp2
    go_ret
    exact Ret.mk' rfl zqb
  · by_cases hm2:18 < n2
    · rw [insE_many (.inr (by omega))]
      clear hn1 hn2 hI
      go_enter Tryz.func69,Tryz.ntmps69
      go_wp2
      go_ret
      exact Ret.mk' rfl zqb
    · by_cases hz:n1=0
      · rw [insE_none (by omega) (by omega)]
        subst hz
        clear hn1 hn2 hI
        go_enter Tryz.func69,Tryz.ntmps69
        go_wp2
        go_ret
        exact Ret.mk' rfl zqb
      · have hnz:0 < n1:=by omega
        have HI:=Lib.hid hI
        have HN1:=Lib.hid hn1
        have HN2:=Lib.hid hn2
        have HE1:=Lib.hid (fun h=>insE_steps (cs:=cs) (st:=st) zqo h)
        have HE2:=Lib.hid (fun h=>insE_crs (cs:=cs) (st:=st) zqo zqo h)
        have h18:st.length≤18:=by omega
        have hi1:n2≤18:=by omega
        have hi2:n1≤14:=by omega
        clear hI hn1 hn2 hz hm1 hm2
        go_enter Tryz.func69,Tryz.ntmps69
        go_wp2
        go_loop [3,4] (fun last i=>∃ (k:Nat) (x:Int),k≤n2∧i=.int .i64 k∧last=.int .i64 x∧stepsBad 0 st=stepsBad x (st.drop k)) (fun _ i=>n2 - (intOf i).toNat)
        case atStart=>exact ⟨0,0,Nat.zero_le _,rfl,rfl,rfl⟩
        case round =>
          obtain ⟨k,x,hk,rfl,rfl,hs⟩:=hrel
          have HS:=Lib.hid hs
          clear hs
          by_cases hlt:k < n2
          · have hk2:k < st.length:=by have:=HN2.out;omega
            obtain ⟨ad,hA,hb,hc⟩:=HI.out.step hk2
            subst hA
            have hs2:=HS.out.trans (stepsBad_at hk2)
            obtain ⟨y,hy⟩:∃ y,st[k]=y:=⟨_,rfl⟩
            rw [hy] at hc hs2
            have hc2:∀ o:Obj,(w.alloc o).cell? (ad.add k)=some (.int .i64 y):=fun o=>by
              rw [World.cell?_alloc_lt _ _ _ (by rw [block_of_add];omega),hc]
            clear hc hy
            by_cases hb1:y≤x
            · have HE:=Lib.hid (HE1.out (hs2.trans (by simp [hb1])))
              clear hs2
              go_wp2
              go_ret
              exact Ret.mk' (by rw [HE.out];rfl) zqb
            · by_cases hb2:127 < y
              · have HE:=Lib.hid (HE1.out (hs2.trans (by simp [hb2])))
                clear hs2
                go_wp2
                go_ret
                exact Ret.mk' (by rw [HE.out];rfl) zqb
              · have HS3:=Lib.hid (hs2.trans (show _=stepsBad y (st.drop (k+1)) by simp [hb1,hb2]))
                clear hs2
                go_wp2
                go_round
                case rel=>exact ⟨k+1,y,by omega,by go_num,rfl,HS3.out⟩
                case measure=>simp [intOf];omega
          · have hsF:stepsBad 0 st=false:=by
              have h:=HS.out
              rw [h,List.drop_eq_nil_of_le (by have:=HN2.out;omega)];rfl
            have HE:=Lib.hid (HE2.out hsF)
            have HBD:=Lib.hid (stepsBad_bd zqo hsF)
            clear hsF
            go_wp2
            go_loopw [5] (fun i wr=>∃ k:Nat,k≤n1∧i=.int .i64 k∧crsE st cs=crsE st (cs.drop k)∧Below w.heap.size w wr∧Blk wr w.heap.size 26 #[.slice A1 n1 c1,.slice A2 n2 c2]) (fun i _=>n1 - (intOf i).toNat)
            case atStart=>exact ⟨0,Nat.zero_le _,rfl,rfl,zqb,Blk.new _ _ _⟩
            case round =>
              obtain ⟨j,hj,rfl,hs,hbel,hblk⟩:=hrel
              have HC:=Lib.hid hs
              have HB:=Lib.hid hblk
              have hlt3:w.heap.size < wr.heap.size:=hblk.lt
              have q0:wr.cell? ⟨w.heap.size,0,none⟩=some (.slice A1 n1 c1):=hblk.cell 0
              have q1:wr.cell? ⟨w.heap.size,1,none⟩=some (.slice A2 n2 c2):=hblk.cell 1
              clear hs hblk
              by_cases hlt2:j < n1
              · have hj2:j < cs.length:=by have:=HN1.out;omega
                have HI2:=Lib.hid (HI.out.below hbel)
                obtain ⟨ad,hA,hb,hc0,hc1,hc2⟩:=HI2.out.crs hj2
                subst hA
                have hs2:=HC.out.trans (crsE_at hj2)
                obtain ⟨⟨p,f,o⟩,hx⟩:∃ x,cs[j]=x:=⟨_,rfl⟩
                rw [hx] at hc0 hc1 hc2 hs2
                simp only at hc0 hc1 hc2 hs2
                have HI3:=Lib.hid (fun o=>HI2.out.alloc (hbel.size) o)
                have hbel4:∀ o:Obj,Below w.heap.size w (wr.alloc o):=fun o=>hbel.alloc hbel.size o
                have HB4:=Lib.hid (fun o=>HB.out.alloc o)
                have hn3:(st.length:Int)=n2:=by have:=HN2.out;omega
                by_cases b1:f < 0
                · have HE3:=Lib.hid (HE.out.trans (hs2.trans (if_pos (.inl b1))))
                  clear hs2
                  go_wp2
                  go_ret
                  exact Ret.mk' (by rw [HE3.out];rfl) zqb
                · by_cases b2:(n2:Int) < f
                  · have HE3:=Lib.hid (HE.out.trans (hs2.trans (if_pos (.inr zqo))))
                    clear hs2 hn3
                    go_wp2
                    go_ret
                    exact Ret.mk' (by rw [HE3.out];rfl) zqb
                  · rw [if_neg (by omega)] at hs2
                    by_cases b3:p < 0
                    · have HE3:=Lib.hid (HE.out.trans (hs2.trans (if_pos (.inl (.inl b3)))))
                      clear hs2 hn3
                      go_wp2
                      go_ret
                      exact Ret.mk' (by rw [HE3.out];rfl) zqb
                    · by_cases b4:127 < p
                      · have HE3:=Lib.hid (HE.out.trans (hs2.trans (if_pos (.inl (.inr b4)))))
                        clear hs2 hn3
                        go_wp2
                        go_ret
                        exact Ret.mk' (by rw [HE3.out];rfl) zqb
                      · have hsz:=hbel.size
                        by_cases b6:0 < f
                        · obtain ⟨i,hi⟩:∃ i:Nat,f=(i:Int)+1:=⟨f.toNat - 1,by omega⟩
                          subst hi
                          have hi2:i < st.length:=by omega
                          obtain ⟨ad2,hA,hb3,hc3⟩:=HI2.out.step hi2
                          subst hA
                          have hbd:=HBD.out i hi2
                          rw [topOf_fret hi2] at hs2
                          have hi3:i < n2:=by omega
                          obtain ⟨y,hy⟩:∃ y,st[i]=y:=⟨_,rfl⟩
                          rw [hy] at hc3 hs2 hbd
                          have hc4:∀ o:Obj,(wr.alloc o).cell? (ad2.add i)=some (.int .i64 y):=fun o=>by
                            rw [World.cell?_alloc_lt _ _ _ (by rw [block_of_add];omega),hc3]
                          clear hc3 hy hn3
                          by_cases b5:127 < p+y+if o then 12 else 0
                          · have HE3:=Lib.hid (HE.out.trans (hs2.trans (if_pos (.inr b5))))
                            clear hs2
                            cases o
                            all_goals
                              simp only [if_true,Bool.false_eq_true,if_false] at b5
                              go_wp2
                              go_ret
                              exact Ret.mk' (by rw [HE3.out];rfl) zqb
                          · rw [if_neg (by omega)] at hs2
                            have HS4:=Lib.hid hs2
                            clear hs2
                            cases o
                            all_goals
                              simp only [if_true,Bool.false_eq_true,if_false] at b5
                              go_wp2
                              go_roundw
                              case rel=>exact ⟨j+1,by omega,by go_num,HS4.out,zqb,HB4.out _⟩
                              case measure=>simp [intOf];omega
                        · have hi:f=0:=by omega
                          subst hi
                          rw [topOf_open] at hs2
                          clear hn3
                          by_cases b5:127 < p+if o then 12 else 0
                          · have HE3:=Lib.hid (HE.out.trans (hs2.trans (if_pos (.inr b5))))
                            clear hs2
                            cases o
                            all_goals
                              simp only [if_true,Bool.false_eq_true,if_false] at b5
                              first
                              | omega
                              | (go_wp2
                                 go_ret
                                 exact Ret.mk' (by rw [HE3.out];rfl) zqb)
                          · rw [if_neg (by omega)] at hs2
                            have HS4:=Lib.hid hs2
                            clear hs2
                            cases o
                            all_goals
                              simp only [if_true,Bool.false_eq_true,if_false] at b5
                              go_wp2
                              go_roundw
                              case rel=>exact ⟨j+1,by omega,by go_num,HS4.out,zqb,HB4.out _⟩
                              case measure=>simp [intOf];omega
              · have HE3:=Lib.hid (HE.out.trans (HC.out.trans (show crsE st (cs.drop j)=0 from by rw [List.drop_eq_nil_of_le (by have:=HN1.out;omega)];rfl)))
                go_wp2
                go_ret
                exact Ret.mk' (by rw [HE3.out];rfl) zqb
end
section
open Go.RowKit
theorem Ctr.of_ins {P:Program} {f:FuncId} {cs:List (Int×Int×Bool)} {st:List Int} {post:List AV} {ys:List Value} {res:AV} {v:Value} (hs2:scs post=some ys) (hv:∀ F,RP F res v)
  (h:∀ w A1 A2 c1 c2,InsAt w w.heap.size A1 A2 cs st→Calls P f (.agg #[.slice A1 cs.length c1,.slice A2 st.length c2]::ys).toArray w (Ret v w)):Ctr P f (.ag (eIns cs st)::post) res:=by
 intro w F vs hF hR
 match vs,hR.1,hR.2 with
 | u::us,hlen,hR2 =>
  have r:=hR2 0 _ u rfl rfl
  obtain ⟨xs,rfl,q1,q2⟩:∃ xs:Array Value,u=.agg xs∧xs.size=2∧∀ (i:Nat) av u,(eIns cs st)[i]?=some av→xs[i]?=some u→RP F av u:=by
   cases r with|ag l cs a b=>exact ⟨cs,rfl,a,b⟩
  have g:∀ i (h:i<2),xs[i]?=some (xs[i]'(by omega)):=fun i h=>Array.getElem?_eq_getElem (by omega)
  obtain ⟨A1,c1,A2,c2,e1,e2,hI⟩:=ins_of_rp hF (q2 0 _ _ rfl (g 0 zqo)) (q2 1 _ _ rfl (g 1 zqo))
  have ex:xs=#[.slice A1 cs.length c1,.slice A2 st.length c2]:=by
   apply Array.ext (by simp [q1])
   intro i hi hi2
   match i,(show i<2 by omega) with
   | 0,_=>exact e1
   | 1,_=>exact e2
  have ey:us=ys:=scs_of (G:=⟨F,fun _=>0,fun _=>0,fun _=>undef,fun _ _=>False⟩) hs2 (by simpa using hlen) fun i av u a b=>.pu _ _ (hR2 (i+1) av u (by simpa using a) (by simpa using b))
  subst ex ey
  exact (h w A1 A2 c1 c2 hI).mono fun e w' ⟨he,hb⟩=>⟨v,F,he,hb,fun _ _ h=>h,fun p u x=>by rw [hb.cell (cell_block (hF p u x))];exact hF p u x,fun _ _ h=>.inl h,hv F⟩
theorem rInsCheck_FS (cs:List (Int×Int×Bool))(st:List Int):Ctr Tryz.prog 69 [.ag (eIns cs st)] (.sc (.int .i64 (insE cs st))) :=
 Ctr.of_ins (post:=[]) rfl (fun _=>.sc _) fun w A1 A2 c1 c2 hI=>rInsCheck A1 A2 cs st cs.length st.length c1 c2 w hI rfl rfl
end
end Go.Proofs.YtaeelcfjkhfpkaaGreat
