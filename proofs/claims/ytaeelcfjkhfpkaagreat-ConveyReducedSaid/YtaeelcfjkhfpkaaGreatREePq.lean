/- Check of a piece: the reference, over trees. -/
import Derived.Test.YtaeelcfjkhfpkaaGreatInsPq
import Derived.Test.YtaeelcfjkhfpkaaGreatLngPq
set_option maxHeartbeats 8000000
set_option maxRecDepth 100000
set_option linter.unusedVariables false
set_option linter.unusedSimpArgs false
namespace Go.Proofs.YtaeelcfjkhfpkaaGreat
section
open Go.RowKit
theorem z34i {z:Int} (h:I64 z:=by unfold I64;omega):I64 z:=h
def sndIn(l al o:Int):Prop:=(0≤l∧l≤6)∧(-1≤al∧al≤1)∧-1≤o∧o≤9
instance (l al o:Int):Decidable (sndIn l al o):=by unfold sndIn;exact inferInstance
end
section
open Go.RowKit
theorem topOf_fret {st:List Int} {p:Int} {k:Nat} {o:Bool} (hk:k<st.length):topOf st (p,(k:Int)+1,o)=p+st[k]+if o then 12 else 0:=by
 unfold topOf
 have h0:(0:Int)<(k:Int)+1:=by omega
 have:((k:Int)+1).toNat-1=k:=by omega
 simp only [if_pos h0]
 rw [this,List.getD_eq_getElem?_getD,List.getElem?_eq_getElem hk];rfl
theorem topOf_open {st:List Int} {p:Int} {o:Bool}:topOf st (p,0,o)=p+if o then 12 else 0:=by unfold topOf;simp
theorem rInsCheck (A1 A2:Option Addr) (cs:List (Int×Int×Bool)) (st:List Int) (n1 n2 c1 c2:Nat) (w:World) (hI:InsAt w w.heap.size A1 A2 cs st) (hn1:n1=cs.length) (hn2:n2=st.length) :
    Calls Tryz.prog 69 #[.agg #[.slice A1 n1 c1,.slice A2 n2 c2]] w (Ret (.int .i64 (insE cs st)) w):=by
  by_cases hm1:14 < n1
  · rw [insE_many (.inl (by omega))]
    clear hn1 hn2 hI
    go_enter Tryz.func69,Tryz.ntmps69
    go_wp2
    go_ret
    exact Ret.mk' rfl zqb
  · by_cases hm2:18 < n2
    · rw [insE_many (.inr (by omega))]
      clear hn1 hn2 hI
      go_enter Tryz.func69,Tryz.ntmps69
      go_wp2
      go_ret
      exact Ret.mk' rfl zqb
    · by_cases hz:n1=0
      · rw [insE_none (by omega) (by omega)]
        subst hz
        clear hn1 hn2 hI
        go_enter Tryz.func69,Tryz.ntmps69
        go_wp2
        go_ret
        exact Ret.mk' rfl zqb
      · have hnz:0 < n1:=by omega
        have HI:=Lib.hid hI
        have HN1:=Lib.hid hn1
        have HN2:=Lib.hid hn2
        have HE1:=Lib.hid (fun h=>insE_steps (cs:=cs) (st:=st) zqo h)
        have HE2:=Lib.hid (fun h=>insE_crs (cs:=cs) (st:=st) zqo zqo h)
        have h18:st.length≤18:=by omega
        have hi1:n2≤18:=by omega
        have hi2:n1≤14:=by omega
        clear hI hn1 hn2 hz hm1 hm2
        go_enter Tryz.func69,Tryz.ntmps69
        go_wp2
        go_loop [3,4] (fun last i=>∃ (k:Nat) (x:Int),k≤n2∧i=.int .i64 k∧last=.int .i64 x∧stepsBad 0 st=stepsBad x (st.drop k)) (fun _ i=>n2 - (intOf i).toNat)
        case atStart=>exact ⟨0,0,Nat.zero_le _,rfl,rfl,rfl⟩
        case round =>
          obtain ⟨k,x,hk,rfl,rfl,hs⟩:=hrel
          have HS:=Lib.hid hs
          clear hs
          by_cases hlt:k < n2
          · have hk2:k < st.length:=by have:=HN2.out;omega
            obtain ⟨ad,hA,hb,hc⟩:=HI.out.step hk2
            subst hA
            have hs2:=HS.out.trans (stepsBad_at hk2)
            obtain ⟨y,hy⟩:∃ y,st[k]=y:=⟨_,rfl⟩
            rw [hy] at hc hs2
            have hc2:∀ o:Obj,(w.alloc o).cell? (ad.add k)=some (.int .i64 y):=fun o=>by
              rw [World.cell?_alloc_lt _ _ _ (by rw [block_of_add];omega),hc]
            clear hc hy
            by_cases hb1:y≤x
            · have HE:=Lib.hid (HE1.out (hs2.trans (by simp [hb1])))
              clear hs2
              go_wp2
              go_ret
              exact Ret.mk' (by rw [HE.out];rfl) zqb
            · by_cases hb2:127 < y
              · have HE:=Lib.hid (HE1.out (hs2.trans (by simp [hb2])))
                clear hs2
                go_wp2
                go_ret
                exact Ret.mk' (by rw [HE.out];rfl) zqb
              · have HS3:=Lib.hid (hs2.trans (show _=stepsBad y (st.drop (k+1)) by simp [hb1,hb2]))
                clear hs2
                go_wp2
                go_round
                case rel=>exact ⟨k+1,y,by omega,by go_num,rfl,HS3.out⟩
                case measure=>simp [intOf];omega
          · have hsF:stepsBad 0 st=false:=by
              have h:=HS.out
              rw [h,List.drop_eq_nil_of_le (by have:=HN2.out;omega)];rfl
            have HE:=Lib.hid (HE2.out hsF)
            have HBD:=Lib.hid (stepsBad_bd zqo hsF)
            clear hsF
            go_wp2
            go_loopw [5] (fun i wr=>∃ k:Nat,k≤n1∧i=.int .i64 k∧crsE st cs=crsE st (cs.drop k)∧Below w.heap.size w wr∧Blk wr w.heap.size 26 #[.slice A1 n1 c1,.slice A2 n2 c2]) (fun i _=>n1 - (intOf i).toNat)
            case atStart=>exact ⟨0,Nat.zero_le _,rfl,rfl,zqb,Blk.new _ _ _⟩
            case round =>
              obtain ⟨j,hj,rfl,hs,hbel,hblk⟩:=hrel
              have HC:=Lib.hid hs
              have HB:=Lib.hid hblk
              have hlt3:w.heap.size < wr.heap.size:=hblk.lt
              have q0:wr.cell? ⟨w.heap.size,0,none⟩=some (.slice A1 n1 c1):=hblk.cell 0
              have q1:wr.cell? ⟨w.heap.size,1,none⟩=some (.slice A2 n2 c2):=hblk.cell 1
              clear hs hblk
              by_cases hlt2:j < n1
              · have hj2:j < cs.length:=by have:=HN1.out;omega
                have HI2:=Lib.hid (HI.out.below hbel)
                obtain ⟨ad,hA,hb,hc0,hc1,hc2⟩:=HI2.out.crs hj2
                subst hA
                have hs2:=HC.out.trans (crsE_at hj2)
                obtain ⟨⟨p,f,o⟩,hx⟩:∃ x,cs[j]=x:=⟨_,rfl⟩
                rw [hx] at hc0 hc1 hc2 hs2
                simp only at hc0 hc1 hc2 hs2
                have HI3:=Lib.hid (fun o=>HI2.out.alloc (hbel.size) o)
                have hbel4:∀ o:Obj,Below w.heap.size w (wr.alloc o):=fun o=>hbel.alloc hbel.size o
                have HB4:=Lib.hid (fun o=>HB.out.alloc o)
                have hn3:(st.length:Int)=n2:=by have:=HN2.out;omega
                by_cases b1:f < 0
                · have HE3:=Lib.hid (HE.out.trans (hs2.trans (if_pos (.inl b1))))
                  clear hs2
                  go_wp2
                  go_ret
                  exact Ret.mk' (by rw [HE3.out];rfl) zqb
                · by_cases b2:(n2:Int) < f
                  · have HE3:=Lib.hid (HE.out.trans (hs2.trans (if_pos (.inr zqo))))
                    clear hs2 hn3
                    go_wp2
                    go_ret
                    exact Ret.mk' (by rw [HE3.out];rfl) zqb
                  · rw [if_neg (by omega)] at hs2
                    by_cases b3:p < 0
                    · have HE3:=Lib.hid (HE.out.trans (hs2.trans (if_pos (.inl (.inl b3)))))
                      clear hs2 hn3
                      go_wp2
                      go_ret
                      exact Ret.mk' (by rw [HE3.out];rfl) zqb
                    · by_cases b4:127 < p
                      · have HE3:=Lib.hid (HE.out.trans (hs2.trans (if_pos (.inl (.inr b4)))))
                        clear hs2 hn3
                        go_wp2
                        go_ret
                        exact Ret.mk' (by rw [HE3.out];rfl) zqb
                      · have hsz:=hbel.size
                        by_cases b6:0 < f
                        · obtain ⟨i,hi⟩:∃ i:Nat,f=(i:Int)+1:=⟨f.toNat - 1,by omega⟩
                          subst hi
                          have hi2:i < st.length:=by omega
                          obtain ⟨ad2,hA,hb3,hc3⟩:=HI2.out.step hi2
                          subst hA
                          have hbd:=HBD.out i hi2
                          rw [topOf_fret hi2] at hs2
                          have hi3:i < n2:=by omega
                          obtain ⟨y,hy⟩:∃ y,st[i]=y:=⟨_,rfl⟩
                          rw [hy] at hc3 hs2 hbd
                          have hc4:∀ o:Obj,(wr.alloc o).cell? (ad2.add i)=some (.int .i64 y):=fun o=>by
                            rw [World.cell?_alloc_lt _ _ _ (by rw [block_of_add];omega),hc3]
                          clear hc3 hy hn3
                          by_cases b5:127 < p+y+if o then 12 else 0
                          · have HE3:=Lib.hid (HE.out.trans (hs2.trans (if_pos (.inr b5))))
                            clear hs2
                            cases o
                            all_goals
                              simp only [if_true,Bool.false_eq_true,if_false] at b5
                              go_wp2
                              go_ret
                              exact Ret.mk' (by rw [HE3.out];rfl) zqb
                          · rw [if_neg (by omega)] at hs2
                            have HS4:=Lib.hid hs2
                            clear hs2
                            cases o
                            all_goals
                              simp only [if_true,Bool.false_eq_true,if_false] at b5
                              go_wp2
                              go_roundw
                              case rel=>exact ⟨j+1,by omega,by go_num,HS4.out,zqb,HB4.out _⟩
                              case measure=>simp [intOf];omega
                        · have hi:f=0:=by omega
                          subst hi
                          rw [topOf_open] at hs2
                          clear hn3
                          by_cases b5:127 < p+if o then 12 else 0
                          · have HE3:=Lib.hid (HE.out.trans (hs2.trans (if_pos (.inr b5))))
                            clear hs2
                            cases o
                            all_goals
                              simp only [if_true,Bool.false_eq_true,if_false] at b5
                              first
                              | omega
                              | (go_wp2
                                 go_ret
                                 exact Ret.mk' (by rw [HE3.out];rfl) zqb)
                          · rw [if_neg (by omega)] at hs2
                            have HS4:=Lib.hid hs2
                            clear hs2
                            cases o
                            all_goals
                              simp only [if_true,Bool.false_eq_true,if_false] at b5
                              go_wp2
                              go_roundw
                              case rel=>exact ⟨j+1,by omega,by go_num,HS4.out,zqb,HB4.out _⟩
                              case measure=>simp [intOf];omega
              · have HE3:=Lib.hid (HE.out.trans (HC.out.trans (show crsE st (cs.drop j)=0 from by rw [List.drop_eq_nil_of_le (by have:=HN1.out;omega)];rfl)))
                go_wp2
                go_ret
                exact Ret.mk' (by rw [HE3.out];rfl) zqb
end
section
open Go.RowKit
theorem Ctr.of_ins {P:Program} {f:FuncId} {cs:List (Int×Int×Bool)} {st:List Int} {post:List AV} {ys:List Value} {res:AV} {v:Value} (hs2:scs post=some ys) (hv:∀ F,RP F res v)
  (h:∀ w A1 A2 c1 c2,InsAt w w.heap.size A1 A2 cs st→Calls P f (.agg #[.slice A1 cs.length c1,.slice A2 st.length c2]::ys).toArray w (Ret v w)):Ctr P f (.ag (eIns cs st)::post) res:=by
 intro w F vs hF hR
 match vs,hR.1,hR.2 with
 | u::us,hlen,hR2 =>
  have r:=hR2 0 _ u rfl rfl
  obtain ⟨xs,rfl,q1,q2⟩:∃ xs:Array Value,u=.agg xs∧xs.size=2∧∀ (i:Nat) av u,(eIns cs st)[i]?=some av→xs[i]?=some u→RP F av u:=by
   cases r with|ag l cs a b=>exact ⟨cs,rfl,a,b⟩
  have g:∀ i (h:i<2),xs[i]?=some (xs[i]'(by omega)):=fun i h=>Array.getElem?_eq_getElem (by omega)
  obtain ⟨A1,c1,A2,c2,e1,e2,hI⟩:=ins_of_rp hF (q2 0 _ _ rfl (g 0 zqo)) (q2 1 _ _ rfl (g 1 zqo))
  have ex:xs=#[.slice A1 cs.length c1,.slice A2 st.length c2]:=by
   apply Array.ext (by simp [q1])
   intro i hi hi2
   match i,(show i<2 by omega) with
   | 0,_=>exact e1
   | 1,_=>exact e2
  have ey:us=ys:=scs_of (G:=⟨F,fun _=>0,fun _=>0,fun _=>undef,fun _ _=>False⟩) hs2 (by simpa using hlen) fun i av u a b=>.pu _ _ (hR2 (i+1) av u (by simpa using a) (by simpa using b))
  subst ex ey
  exact (h w A1 A2 c1 c2 hI).mono fun e w' ⟨he,hb⟩=>⟨v,F,he,hb,fun _ _ h=>h,fun p u x=>by rw [hb.cell (cell_block (hF p u x))];exact hF p u x,fun _ _ h=>.inl h,hv F⟩
theorem rInsCheck_FS (cs:List (Int×Int×Bool))(st:List Int):Ctr Tryz.prog 69 [.ag (eIns cs st)] (.sc (.int .i64 (insE cs st))) :=
 Ctr.of_ins (post:=[]) rfl (fun _=>.sc _) fun w A1 A2 c1 c2 hI=>rInsCheck A1 A2 cs st cs.length st.length c1 c2 w hI rfl rfl
end
section
open Go.RowKit
def lastOf (l:List Stp) (k:Nat):Int:=if k=0 then 0 else (l.getD (k-1) (0,0,0,0,0)).1
theorem lastOf_succ {l:List Stp} {k:Nat} (h:k<l.length):lastOf l (k+1)=l[k].1:=by
 unfold lastOf
 rw [if_neg (by omega),Nat.add_sub_cancel,List.getD_eq_getElem?_getD,List.getElem?_eq_getElem h];rfl
theorem evE_sign' {p:Pce} {i:Int} {e:Ev} (h:sgOk e.val e.dot e.three=false∨(i=0∧e.val=0)):evE p i e=20:=if_pos h
theorem evE_tie' {p:Pce} {i:Int} {e:Ev} (h:¬ (sgOk e.val e.dot e.three=false∨(i=0∧e.val=0)))(h1:e.tie=true∧(0<e.stops.length∨i=0)):evE p i e=21:=by unfold evE;rw [if_neg h,if_pos h1]
theorem evE_stops' {p:Pce} {i:Int} {e:Ev} (h:¬ (sgOk e.val e.dot e.three=false∨(i=0∧e.val=0)))(h1:¬ (e.tie=true∧(0<e.stops.length∨i=0))):evE p i e=stopsE p i 0 e.stops:=by unfold evE;rw [if_neg h,if_neg h1]
theorem rEvent_FS (p:Pce) (i:Nat) (hi:i < p.evs.length) (hO:PcOk p):Ctr Tryz.prog 70 [ePce p,.sc (.int .i64 i)] (.sc (.int .i64 (evE p i p.evs[i]))):=by
 have h20:=hO.n4 i hi
 have hn3:=hO.n3
 have hn1:=hO.n1
 have hR:=rRight2_FS p.evs[i].val p.evs[i].dot p.evs[i].three
 by_cases hA:sgOk p.evs[i].val p.evs[i].dot p.evs[i].three=false∨((i:Int)=0∧p.evs[i].val=0)
 ·rw [evE_sign' hA]
  by_cases hs:sgOk p.evs[i].val p.evs[i].dot p.evs[i].three=false
  ·rw [hs] at hR
   refine zqe Tryz.func70 Tryz.ntmps70 fun w0 F0=>?_;dsimp only [St.init,number,Nat.reduceAdd]
   repeat (first|refine W.gob rfl ?_|refine WL.nil ?_|refine WL.e1 rfl ?_|refine WL.idx rfl rfl zqo zqm ?_)
   refine (?_:WL _ _ _ _ _ _)
   refine WL.vl rfl (zqc Tryz.func116 hR) ?_
   repeat (first|refine W.gob rfl ?_|refine WL.nil ?_|refine WL.e1 rfl ?_|refine WL.opno rfl rfl rfl rfl rfl rfl rfl ?_|refine W.condT rfl ?_)
   refine (?_:W _ _ _ _ _)
   exact W.ret zqr
  ·obtain ⟨h1,h2⟩:=hA.resolve_left hs
   rw [show sgOk p.evs[i].val p.evs[i].dot p.evs[i].three=true by simpa using hs] at hR
   refine zqe Tryz.func70 Tryz.ntmps70 fun w0 F0=>?_;dsimp only [St.init,number,Nat.reduceAdd]
   repeat (first|refine W.gob rfl ?_|refine WL.nil ?_|refine WL.e1 rfl ?_|refine WL.idx rfl rfl zqo zqm ?_)
   refine (?_:WL _ _ _ _ _ _)
   refine WL.vl rfl (zqc Tryz.func116 hR) ?_
   repeat (first|refine W.gob rfl ?_|refine WL.nil ?_|refine WL.bt rfl rfl rfl zqo ?_|refine WL.e1 rfl ?_|refine WL.gyes rfl rfl rfl rfl ?_|refine W.condT rfl ?_)
   refine (?_:W _ _ _ _ _)
   exact W.ret zqr
 have hs:sgOk p.evs[i].val p.evs[i].dot p.evs[i].three=true:=by
  cases h:sgOk p.evs[i].val p.evs[i].dot p.evs[i].three with
  | true=>rfl
  | false=>exact absurd (.inl h) hA
 rw [hs] at hR
 refine zqe Tryz.func70 Tryz.ntmps70 fun w0 F0=>?_;dsimp only [St.init,number,Nat.reduceAdd]
 repeat (first|refine W.gob rfl ?_|refine WL.nil ?_|refine WL.e1 rfl ?_|refine WL.idx rfl rfl zqo zqm ?_)
 refine (?_:WL _ _ _ _ _ _)
 refine WL.meet2 ⟨[(1,.sc (.int .i64 i)),(2,.pt 0 0 0),(5,.pt 1 0 0)],[(0,.box 29 (ePce p).cells),(1,.box 45 (eEv p.evs[i]))],2⟩ ?_ ?_
 ·refine WL.vl rfl (zqc Tryz.func116 hR) ?_
  by_cases h1:(i:Int)=0
  ·have h2:¬ p.evs[i].val=0:=fun h=>hA (.inr ⟨h1,h⟩)
   repeat (first|refine W.gob rfl ?_|refine WL.nil ?_|refine WL.bt rfl rfl rfl zqo ?_|refine WL.bf rfl rfl rfl zqo ?_|refine WL.e1 rfl ?_|refine WL.gyes rfl rfl rfl rfl ?_|refine W.condF rfl ?_)
   refine (?_:Tr _ _ _)
   exact (zqt id)
  ·repeat (first|refine W.gob rfl ?_|refine WL.nil ?_|refine WL.bf rfl rfl rfl zqo ?_|refine WL.e1 rfl ?_|refine WL.gyes rfl rfl rfl rfl ?_|refine WL.opno rfl rfl rfl rfl rfl rfl rfl ?_|refine W.condF rfl ?_)
   refine (?_:Tr _ _ _)
   exact (zqt id)
 by_cases hB:p.evs[i].tie=true∧(0 < p.evs[i].stops.length∨(i:Int)=0)
 ·rw [evE_tie' hA hB]
  obtain ⟨h1,h2⟩:=hB
  repeat (first|refine W.gob rfl ?_|refine WL.e1 rfl ?_)
  refine (?_:WL _ _ _ _ _ _)
  rw [h1]
  by_cases h3:0 < p.evs[i].stops.length
  ·repeat (first|refine W.gob rfl ?_|refine WL.nil ?_|refine WL.bt rfl rfl rfl zqo ?_|refine WL.e1 rfl ?_|refine WL.gyes rfl rfl rfl rfl ?_|refine WL.opno rfl rfl rfl rfl rfl rfl rfl ?_|refine WL.len rfl rfl zql ?_|refine W.condT rfl ?_)
   refine (?_:W _ _ _ _ _)
   exact W.ret zqr
  ·have h4:=h2.resolve_left h3
   repeat (first|refine W.gob rfl ?_|refine WL.nil ?_|refine WL.bt rfl rfl rfl zqo ?_|refine WL.bf rfl rfl rfl zqo ?_|refine WL.e1 rfl ?_|refine WL.gyes rfl rfl rfl rfl ?_|refine WL.len rfl rfl zql ?_|refine W.condT rfl ?_)
   refine (?_:W _ _ _ _ _)
   exact W.ret zqr
 rw [evE_stops' hA hB]
 repeat (first|refine W.gob rfl ?_|refine WL.e1 rfl ?_)
 refine (?_:WL _ _ _ _ _ _)
 refine WL.meet2 ⟨[(1,.sc (.int .i64 i)),(2,.pt 0 0 0),(5,.pt 1 0 0)],[(0,.box 29 (ePce p).cells),(1,.box 45 (eEv p.evs[i]))],2⟩ ?_ ?_
 ·cases h1:p.evs[i].tie with
  | true =>
   have h2:¬ 0 < p.evs[i].stops.length:=fun h=>hB ⟨h1,.inl h⟩
   have h3:¬ (i:Int)=0:=fun h=>hB ⟨h1,.inr h⟩
   repeat (first|refine W.gob rfl ?_|refine WL.nil ?_|refine WL.bf rfl rfl rfl zqo ?_|refine WL.e1 rfl ?_|refine WL.gyes rfl rfl rfl rfl ?_|refine WL.len rfl rfl zql ?_|refine W.condF rfl ?_)
   refine (?_:Tr _ _ _)
   exact (zqt id)
  | false =>
   repeat (first|refine W.gob rfl ?_|refine WL.nil ?_|refine WL.e1 rfl ?_|refine WL.opno rfl rfl rfl rfl rfl rfl rfl ?_|refine W.condF rfl ?_)
   refine (?_:Tr _ _ _)
   exact (zqt id)
 obtain ⟨l,hl⟩:∃ l,p.evs[i].stops=l:=⟨_,rfl⟩
 have hev:eEv p.evs[i]=[.sc (.bool p.evs[i].bar),.sc (.int .i64 p.evs[i].val),.sc (.bool p.evs[i].dot),.sc (.bool p.evs[i].three),.sc (.bool p.evs[i].tie),.ls 5 (l.map eStp)]:=by rw [← hl];rfl
 rw [hl] at h20
 rw [hev,hl]
 repeat (first|refine W.gob rfl ?_|refine WL.nil ?_|refine WL.e1 rfl ?_)
 refine (?_:W _ _ _ _ _)
 refine W.loop (fun k:Nat=>k≤l.length∧stopsE p i 0 l=stopsE p i (lastOf l k) (l.drop k)) (fun k=>⟨[(1,.sc (.int .i64 i)),(2,.pt 0 0 0),(5,.pt 1 0 0),(6,.sc (.int .i64 k))],[(0,.box 29 (ePce p).cells),(1,.box 45 [.sc (.bool p.evs[i].bar),.sc (.int .i64 p.evs[i].val),.sc (.bool p.evs[i].dot),.sc (.bool p.evs[i].three),.sc (.bool p.evs[i].tie),.ls 5 (l.map eStp)])],2⟩) (fun k=>l.length - k) 0 ⟨by omega,rfl⟩ (zqt id) fun k hk=>?_
 obtain ⟨hk,hE⟩:=hk
 by_cases hlt:k < l.length
 rotate_left
 ·obtain rfl:k=l.length:=by omega
  rw [List.drop_length] at hE
  rw [show stopsE p i 0 l=0 from hE]
  repeat (first|refine W.gob rfl ?_|refine WL.nil ?_|refine WL.bf rfl rfl rfl zqo ?_|refine WL.e1 rfl ?_|refine WL.len rfl rfl zql ?_|refine W.condF rfl ?_)
  refine (?_:W _ _ _ _ _)
  exact W.ret zqr
 rw [stopsE_at hlt] at hE
 have hls:=lastOf_succ hlt
 have hLo:=rLong_FS p hO i l[k].1
 have hprev:∀ h:0 < k,lastOf l k=(l[k - 1]' zqo).1:=fun h=>by
  unfold lastOf
  rw [if_neg (by omega),List.getD_eq_getElem?_getD,List.getElem?_eq_getElem (by omega)];rfl
 have hlast0:k=0→lastOf l k=0:=fun h=>if_pos h
 by_cases c1:l[k].1 < 1∨(p.cs.length:Int) < l[k].1
 ·rw [stopE_crs c1,if_pos (by decide)] at hE
  rw [hE]
  by_cases c:l[k].1 < 1
  ·repeat (first|refine W.gob rfl ?_|refine WL.nil ?_|refine WL.bt rfl rfl rfl zqo ?_|refine WL.e1 rfl ?_|refine WL.opno rfl rfl rfl rfl rfl rfl rfl ?_|refine WL.len rfl rfl zql ?_|refine WL.idx rfl rfl zqo zqm ?_|refine W.condT rfl ?_)
   refine (?_:W _ _ _ _ _)
   exact W.ret zqr
  ·have c':l[k].1 > (p.cs.length:Int):=by omega
   repeat (first|refine W.gob rfl ?_|refine WL.nil ?_|refine WL.bt rfl rfl rfl zqo ?_|refine WL.bf rfl rfl rfl zqo ?_|refine WL.e1 rfl ?_|refine WL.gyes rfl rfl rfl rfl ?_|refine WL.len rfl rfl zql ?_|refine WL.idx rfl rfl zqo zqm ?_|refine W.condT rfl ?_)
   refine (?_:W _ _ _ _ _)
   exact W.ret zqr
 have c1a:¬ l[k].1 < 1:=by omega
 have c1b:¬ l[k].1 > (p.cs.length:Int):=by omega
 have hck:(l[k].1 - 1).toNat < p.cs.length:=by omega
 have hfe:fretsOf p.cs l[k].1=p.cs[(l[k].1 - 1).toNat].2.1:=by
  have:=fretsOf_at hck
  rw [← this];congr 1;omega
 repeat (first|refine W.gob rfl ?_|refine WL.nil ?_|refine WL.bt rfl rfl rfl zqo ?_|refine WL.bf rfl rfl rfl zqo ?_|refine WL.e1 rfl ?_|refine WL.gyes rfl rfl rfl rfl ?_|refine WL.len rfl rfl zql ?_|refine WL.idx rfl rfl zqo zqm ?_|refine W.condT rfl ?_|refine W.condF rfl ?_)
 refine (?_:W _ _ _ _ _)
 by_cases c2:l[k].2.1 < 0∨fretsOf p.cs l[k].1 < l[k].2.1
 ·rw [stopE_fret c1 c2,if_pos (by decide)] at hE
  rw [hE]
  rw [hfe] at c2
  by_cases c:l[k].2.1 < 0
  ·refine W.drawK zqk zqk ?_
   repeat (first|refine DK.bt rfl rfl (by omega) ?_|refine DK.tt rfl (by first|(simp;done)|fail) ?_|refine DK.st rfl ?_|refine DK.nil ?_)
   repeat (first|refine W.gob rfl ?_|refine WL.nil ?_|refine WL.e1 rfl ?_|refine W.condT rfl ?_)
   refine (?_:W _ _ _ _ _)
   exact W.ret zqr
  ·have c':l[k].2.1 > p.cs[(l[k].1 - 1).toNat].2.1:=by omega
   refine W.drawK zqk zqk ?_
   repeat (first|refine DK.bt rfl rfl (by omega) ?_|refine DK.bf rfl rfl (by omega) ?_|refine DK.tt rfl (by first|(simp;done)|fail) ?_|refine DK.ff rfl (by first|(simp;done)|fail) ?_|refine DK.st rfl ?_|refine DK.ar rfl rfl z34i ?_|refine DK.idx rfl rfl (by omega) zqm ?_|refine DK.nil ?_)
   repeat (first|refine W.gob rfl ?_|refine WL.nil ?_|refine WL.e1 rfl ?_|refine W.condT rfl ?_)
   refine (?_:W _ _ _ _ _)
   exact W.ret zqr
 have c2a:¬ l[k].2.1 < 0:=by omega
 have c2b:¬ l[k].2.1 > p.cs[(l[k].1 - 1).toNat].2.1:=by rw [← hfe];omega
 refine W.drawK zqk zqk ?_
 repeat (first|refine DK.bf rfl rfl (by omega) ?_|refine DK.ff rfl (by first|(simp;done)|fail) ?_|refine DK.st rfl ?_|refine DK.ar rfl rfl z34i ?_|refine DK.idx rfl rfl (by omega) zqm ?_|refine DK.nil ?_)
 repeat (first|refine W.gob rfl ?_|refine W.condF rfl ?_)
 refine (?_:W _ _ _ _ _)
 refine W.meet ⟨[(1,.sc (.int .i64 i)),(2,.pt 0 0 0),(5,.pt 1 0 0),(6,.sc (.int .i64 k)),(7,.pt 2 0 0),(93,.sc (.bool (decide (l[k].1≤lastOf l k))))],[(0,.box 29 (ePce p).cells),(1,.box 45 [.sc (.bool p.evs[i].bar),.sc (.int .i64 p.evs[i].val),.sc (.bool p.evs[i].dot),.sc (.bool p.evs[i].three),.sc (.bool p.evs[i].tie),.ls 5 (l.map eStp)]),(2,.box 48 (eStp l[k]))],3⟩ ?_ ?_
 ·by_cases h0:k=0
  ·rw [hlast0 h0,decide_eq_false (by omega)]
   have h0':¬ (k:Int) > 0:=by omega
   refine W.drawK zqk zqk ?_
   repeat (first|refine DK.bf rfl rfl (by omega) ?_|refine DK.ff rfl (by first|(simp;done)|fail) ?_|refine DK.st rfl ?_|refine DK.nil ?_)
   refine (?_:Tr _ _ _)
   exact (zqt id)
  ·rw [hprev (by omega)]
   have h0':(k:Int) > 0:=by omega
   have ek:((k:Int) - 1).toNat=k - 1:=by omega
   refine W.drawK zqk zqk ?_
   repeat (first|refine DK.bt rfl rfl (by omega) ?_|refine DK.tt rfl (by first|(simp;done)|fail) ?_|refine DK.st rfl ?_|refine DK.ar rfl rfl z34i ?_|refine DK.idx rfl rfl (by omega) zqm ?_|refine DK.nil ?_)
   simp only [ek]
   refine (?_:Tr _ _ _)
   exact (zqt id)
 by_cases c3:l[k].1≤lastOf l k
 ·rw [stopE_order c1 c2 c3,if_pos (by decide)] at hE
  rw [hE,decide_eq_true c3]
  repeat (first|refine W.gob rfl ?_|refine WL.nil ?_|refine WL.e1 rfl ?_|refine W.condT rfl ?_)
  refine (?_:W _ _ _ _ _)
  exact W.ret zqr
 rw [decide_eq_false c3]
 by_cases c4:(l[k].2.2.1 < 0∨3 < l[k].2.2.1)∨(l[k].2.2.2.1 < 0∨4 < l[k].2.2.2.1)
 ·rw [stopE_mark c1 c2 c3 c4,if_pos (by decide)] at hE
  rw [hE]
  by_cases d1:l[k].2.2.1 < 0
  ·repeat (first|refine W.gob rfl ?_|refine WL.nil ?_|refine WL.bt rfl rfl rfl zqo ?_|refine WL.e1 rfl ?_|refine WL.opno rfl rfl rfl rfl rfl rfl rfl ?_|refine W.condT rfl ?_|refine W.condF rfl ?_)
   refine (?_:W _ _ _ _ _)
   exact W.ret zqr
  by_cases d2:l[k].2.2.1 > 3
  ·repeat (first|refine W.gob rfl ?_|refine WL.nil ?_|refine WL.bt rfl rfl rfl zqo ?_|refine WL.bf rfl rfl rfl zqo ?_|refine WL.e1 rfl ?_|refine WL.gyes rfl rfl rfl rfl ?_|refine WL.opno rfl rfl rfl rfl rfl rfl rfl ?_|refine W.condT rfl ?_|refine W.condF rfl ?_)
   refine (?_:W _ _ _ _ _)
   exact W.ret zqr
  by_cases d3:l[k].2.2.2.1 < 0
  ·repeat (first|refine W.gob rfl ?_|refine WL.nil ?_|refine WL.bt rfl rfl rfl zqo ?_|refine WL.bf rfl rfl rfl zqo ?_|refine WL.e1 rfl ?_|refine WL.gyes rfl rfl rfl rfl ?_|refine WL.opno rfl rfl rfl rfl rfl rfl rfl ?_|refine W.condT rfl ?_|refine W.condF rfl ?_)
   refine (?_:W _ _ _ _ _)
   exact W.ret zqr
  ·have d4:l[k].2.2.2.1 > 4:=by omega
   repeat (first|refine W.gob rfl ?_|refine WL.nil ?_|refine WL.bt rfl rfl rfl zqo ?_|refine WL.bf rfl rfl rfl zqo ?_|refine WL.e1 rfl ?_|refine WL.gyes rfl rfl rfl rfl ?_|refine W.condT rfl ?_|refine W.condF rfl ?_)
   refine (?_:W _ _ _ _ _)
   exact W.ret zqr
 have d1:¬ l[k].2.2.1 < 0:=by omega
 have d2:¬ l[k].2.2.1 > 3:=by omega
 have d3:¬ l[k].2.2.2.1 < 0:=by omega
 have d4:¬ l[k].2.2.2.1 > 4:=by omega
 repeat (first|refine W.gob rfl ?_|refine WL.nil ?_|refine WL.bf rfl rfl rfl zqo ?_|refine WL.e1 rfl ?_|refine WL.gyes rfl rfl rfl rfl ?_|refine W.condF rfl ?_)
 refine (?_:W _ _ _ _ _)
 obtain ⟨z,hz⟩:∃ z:Int,(longestN p.evs i l[k].1:Int)=z:=⟨_,rfl⟩
 rw [hz] at hLo
 by_cases c5:(l[k].2.2.2.2 < 0∨(longestN p.evs i l[k].1:Int) < l[k].2.2.2.2)∨(0 < l[k].2.2.2.2∧l[k].2.1=0)
 ·rw [stopE_hold c1 c2 c3 c4 c5,if_pos (by decide)] at hE
  rw [hE]
  rw [hz] at c5
  by_cases e1:l[k].2.2.2.2 < 0
  ·refine W.drawK zqk zqk ?_
   repeat (first|refine DK.bt rfl rfl (by omega) ?_|refine DK.tt rfl (by first|(simp;done)|fail) ?_|refine DK.st rfl ?_|refine DK.nil ?_)
   repeat (first|refine W.gob rfl ?_|refine WL.nil ?_|refine WL.e1 rfl ?_|refine W.condT rfl ?_)
   refine (?_:W _ _ _ _ _)
   exact W.ret zqr
  by_cases e2:l[k].2.2.2.2 > z
  ·refine W.drawK zqk zqk ?_
   repeat (first|refine DK.bf rfl rfl (by omega) ?_|refine DK.ff rfl (by first|(simp;done)|fail) ?_|refine DK.st rfl ?_)
   refine DK.vl rfl (zqc Tryz.func66 hLo) ?_
   repeat (first|refine DK.bt rfl rfl (by omega) ?_|refine DK.tt rfl (by first|(simp;done)|fail) ?_|refine DK.st rfl ?_|refine DK.nil ?_)
   repeat (first|refine W.gob rfl ?_|refine WL.nil ?_|refine WL.e1 rfl ?_|refine W.condT rfl ?_)
   refine (?_:W _ _ _ _ _)
   exact W.ret zqr
  ·have e3:l[k].2.2.2.2 > 0:=by omega
   have e4:l[k].2.1=0:=by omega
   refine W.drawK zqk zqk ?_
   repeat (first|refine DK.bf rfl rfl (by omega) ?_|refine DK.ff rfl (by first|(simp;done)|fail) ?_|refine DK.st rfl ?_)
   refine DK.vl rfl (zqc Tryz.func66 hLo) ?_
   repeat (first|refine DK.bt rfl rfl (by omega) ?_|refine DK.bf rfl rfl (by omega) ?_|refine DK.tt rfl (by first|(simp;done)|fail) ?_|refine DK.ff rfl (by first|(simp;done)|fail) ?_|refine DK.st rfl ?_|refine DK.nil ?_)
   repeat (first|refine W.gob rfl ?_|refine WL.nil ?_|refine WL.e1 rfl ?_|refine W.condT rfl ?_)
   refine (?_:W _ _ _ _ _)
   exact W.ret zqr
 have hok:stopE p i l[k] (lastOf l k)=0:=stopE_ok c1 c2 c3 c4 c5
 rw [hok,if_neg (by decide),← hls] at hE
 rw [hz] at c5
 have e1:¬ l[k].2.2.2.2 < 0:=by omega
 have e2:¬ l[k].2.2.2.2 > z:=by omega
 by_cases e3:l[k].2.2.2.2 > 0
 ·have e4:¬ l[k].2.1=0:=by omega
  refine W.drawK zqk zqk ?_
  repeat (first|refine DK.bf rfl rfl (by omega) ?_|refine DK.ff rfl (by first|(simp;done)|fail) ?_|refine DK.st rfl ?_)
  refine DK.vl rfl (zqc Tryz.func66 hLo) ?_
  repeat (first|refine DK.bt rfl rfl (by omega) ?_|refine DK.bf rfl rfl (by omega) ?_|refine DK.tt rfl (by first|(simp;done)|fail) ?_|refine DK.ff rfl (by first|(simp;done)|fail) ?_|refine DK.st rfl ?_|refine DK.nil ?_)
  repeat (first|refine W.gob rfl ?_|refine WL.nil ?_|refine WL.e1 rfl ?_|refine WL.ar rfl rfl z34i ?_|refine W.condF rfl ?_)
  exact ⟨k+1,⟨by omega,hE⟩,by omega,(zqt id)⟩
 ·refine W.drawK zqk zqk ?_
  repeat (first|refine DK.bf rfl rfl (by omega) ?_|refine DK.ff rfl (by first|(simp;done)|fail) ?_|refine DK.st rfl ?_)
  refine DK.vl rfl (zqc Tryz.func66 hLo) ?_
  repeat (first|refine DK.bf rfl rfl (by omega) ?_|refine DK.ff rfl (by first|(simp;done)|fail) ?_|refine DK.st rfl ?_|refine DK.nil ?_)
  repeat (first|refine W.gob rfl ?_|refine WL.nil ?_|refine WL.e1 rfl ?_|refine WL.ar rfl rfl z34i ?_|refine W.condF rfl ?_)
  exact ⟨k+1,⟨by omega,hE⟩,by omega,(zqt id)⟩
theorem rCheck_FS (p:Pce) (hO:PcOk p):Ctr Tryz.prog 20 [ePce p] (.sc (.int .i64 (pceE p))):=by
 have hn3:=hO.n3
 have hI:=rInsCheck_FS p.cs p.st
 by_cases h0:insE p.cs p.st=0
 rotate_left
 ·rw [pceE_ins h0]
  obtain ⟨E,hE⟩:∃ E,insE p.cs p.st=E:=⟨_,rfl⟩
  rw [hE] at hI h0 ⊢
  refine zqe Tryz.func20 Tryz.ntmps20 fun w0 F0=>?_;dsimp only [St.init,number,Nat.reduceAdd]
  repeat (first|refine W.gob rfl ?_|refine WL.nil ?_|refine WL.e1 rfl ?_)
  refine (?_:WL _ _ _ _ _ _)
  refine WL.vl rfl (zqc Tryz.func69 hI) ?_
  repeat (first|refine W.gob rfl ?_|refine WL.nil ?_|refine WL.nt rfl rfl rfl zqo ?_|refine WL.e1 rfl ?_|refine W.condT rfl ?_)
  refine (?_:W _ _ _ _ _)
  exact W.ret zqr
 rw [h0] at hI
 by_cases h4:400 < p.evs.length
 ·rw [pceE_many (by omega) h4]
  have h4':(p.evs.length:Int) > 400:=by omega
  refine zqe Tryz.func20 Tryz.ntmps20 fun w0 F0=>?_;dsimp only [St.init,number,Nat.reduceAdd]
  repeat (first|refine W.gob rfl ?_|refine WL.nil ?_|refine WL.e1 rfl ?_)
  refine (?_:WL _ _ _ _ _ _)
  refine WL.vl rfl (zqc Tryz.func69 hI) ?_
  repeat (first|refine W.gob rfl ?_|refine WL.nil ?_|refine WL.bt rfl rfl rfl zqo ?_|refine WL.nf rfl rfl rfl zqo ?_|refine WL.e1 rfl ?_|refine WL.len rfl rfl zql ?_|refine W.condT rfl ?_|refine W.condF rfl ?_)
  refine (?_:W _ _ _ _ _)
  exact W.ret zqr
 rw [pceE_evs (by omega) h4]
 refine zqe Tryz.func20 Tryz.ntmps20 fun w0 F0=>?_;dsimp only [St.init,number,Nat.reduceAdd]
 repeat (first|refine W.gob rfl ?_|refine WL.nil ?_|refine WL.e1 rfl ?_)
 refine (?_:WL _ _ _ _ _ _)
 refine WL.vl rfl (zqc Tryz.func69 hI) ?_
 repeat (first|refine W.gob rfl ?_|refine WL.nil ?_|refine WL.bf rfl rfl rfl zqo ?_|refine WL.nf rfl rfl rfl zqo ?_|refine WL.e1 rfl ?_|refine WL.len rfl rfl zql ?_|refine W.condF rfl ?_)
 refine (?_:W _ _ _ _ _)
 refine W.loop (fun k:Nat=>k≤p.evs.length∧evsE p 0 p.evs=evsE p k (p.evs.drop k)) (fun k=>⟨[(1,.pt 0 0 0),(4,.sc (.int .i64 k))],[(0,.box 29 (ePce p).cells)],1⟩) (fun k=>p.evs.length - k) 0 ⟨by omega,rfl⟩ (zqt id) fun k hk=>?_
 obtain ⟨hk,hE⟩:=hk
 by_cases hlt:k < p.evs.length
 rotate_left
 ·obtain rfl:k=p.evs.length:=by omega
  rw [List.drop_length] at hE
  rw [show evsE p 0 p.evs=0 from hE]
  repeat (first|refine W.gob rfl ?_|refine WL.nil ?_|refine WL.bf rfl rfl rfl zqo ?_|refine WL.e1 rfl ?_|refine WL.len rfl rfl zql ?_|refine W.condF rfl ?_)
  refine (?_:W _ _ _ _ _)
  exact W.ret zqr
 rw [evsE_at hlt] at hE
 have hEv:=rEvent_FS p k hlt hO
 obtain ⟨z,hz⟩:∃ z,evE p k p.evs[k]=z:=⟨_,rfl⟩
 rw [hz] at hE hEv
 repeat (first|refine W.gob rfl ?_|refine WL.nil ?_|refine WL.bt rfl rfl rfl zqo ?_|refine WL.e1 rfl ?_|refine WL.len rfl rfl zql ?_|refine W.condT rfl ?_)
 refine (?_:WL _ _ _ _ _ _)
 refine WL.vl rfl (zqc Tryz.func70 hEv) ?_
 by_cases hz0:z=0
 ·rw [if_neg (by omega)] at hE
  repeat (first|refine W.gob rfl ?_|refine WL.nil ?_|refine WL.nf rfl rfl rfl zqo ?_|refine WL.e1 rfl ?_|refine WL.ar rfl rfl z34i ?_|refine W.condF rfl ?_)
  exact ⟨k+1,⟨by omega,hE⟩,by omega,(zqt id)⟩
 ·rw [if_pos hz0] at hE
  rw [hE]
  repeat (first|refine W.gob rfl ?_|refine WL.nil ?_|refine WL.nt rfl rfl rfl zqo ?_|refine WL.e1 rfl ?_|refine W.condT rfl ?_)
  refine (?_:W _ _ _ _ _)
  exact W.ret zqr
end
end Go.Proofs.YtaeelcfjkhfpkaaGreat
