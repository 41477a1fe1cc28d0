/- Check of an instrument: the reference. -/
import Derived.Test.YthehkchjdkdbiaaGreatDoorNr4Kq
import Derived.Test.YthehkchjdkdbiaaGreatDoorProg
set_option maxHeartbeats 1600000
set_option maxRecDepth 100000
set_option linter.unusedVariables false
set_option linter.unusedSimpArgs false
namespace Go.Proofs.YthehkchjdkdbiaaGreatDoor
section
variable {p:Prop}
theorem alZ(h:p:=by
 have HE3:=Lib.hid (HE.out.trans (hs2.trans (if_pos (.inr au))))
 exact aaS):p:=h
theorem alY(h:p:=by
 have HE3:=Lib.hid (HE.out.trans (hs2.trans (if_pos (.inl (.inl b3)))))
 exact aaS):p:=h
theorem alX(h:p:=by
 have HE3:=Lib.hid (HE.out.trans (hs2.trans (if_pos (.inl (.inr b4)))))
 exact aaS):p:=h
theorem alG(h:p:=by
 have HE:=Lib.hid (HE1.out (hs2.trans (by simp [hb1])))
 clear hs2
 exact BM):p:=h
theorem alE(h:p:=by
 have HE:=Lib.hid (HE1.out (hs2.trans (by simp [hb2])))
 clear hs2
 exact BM):p:=h
theorem alC(h:p:=by
 have HE3:=Lib.hid (HE.out.trans (hs2.trans (if_pos (.inl b1))))
 clear hs2
 exact alH):p:=h
theorem alB(h:p:=by
 have HE3:=Lib.hid (HE.out.trans (HC.out.trans (show yJ st (cs.drop j)=0 from by rw [wU (by have:=HN1.out;omega)];rfl)))
 exact alH):p:=h
theorem aaS(h:p:=by
 clear hs2 hn3
 exact alH):p:=h
theorem akz(h:p:=by
 have h:=HS.out
 rw [h,wU (by have:=HN2.out;omega)];rfl):p:=h
theorem akd(h:p:=by
 rw [World.cell?_alloc_lt _ _ _ (by rw [bW];simp;omega),World.cell?_alloc_lt _ _ _ (by rw [bW];omega),hc]):p:=h
theorem amb(h:p:=by
 clear hn1 hn2 hI
 go_enter Tryz.func103,Tryz.ntmps103
 go_wp2
 go_ret
 exact eG.mk' rfl jT):p:=h
theorem al9(h:p:=by
 clear hn1 hn2 hI
 go_enter Tryz.func56,Tryz.ntmps56
 go_wp2
 go_ret
 exact eG.mk' rfl jT):p:=h
theorem aq3(h:p:=by
 have HS3:=Lib.hid (hs2.trans (show _=iq y (st.drop (k+1)) by simp [hb1,hb2]))
 clear hs2
 go_wp2
 go_round
 case rel=>exact ⟨k+1,y,by omega,by go_num,rfl,HS3.out⟩
 case measure=>simp [intOf];omega):p:=h
theorem alH(h:p:=by
 go_wp2
 go_ret
 exact eG.mk' (by rw [HE3.out];rfl) jT):p:=h
theorem aqP(h:p:=by
 · rw [if_neg (by omega)] at hs2
   have HS4:=Lib.hid hs2
   clear hs2
   cases o
   all_goals
     simp only [if_true,Eo,BA] at b5
     go_wp2
     go_roundw
     case rel=>exact ⟨j+1,by omega,by go_num,HS4.out,jT,HB4.out _⟩
     case measure=>simp [intOf];omega):p:=h
end
section
open Go.RowKit
theorem U4 (A1 A2:Option Addr) (cs:List (Int×Int×Bool)) (st:List Int) (n1 n2 c1 c2 B:Nat) (p f:Int) (o:Bool) (w:World) (hI:jq w B A1 A2 cs st) (hB:B≤w.heap.size)
  (hn2:n2=st.length) (hp:0≤p∧p≤127) (hf:0≤f∧f≤st.length) (hl:st.length≤18) (hst:∀ k (h:k < st.length),1≤st[k]∧st[k]≤127) :
  Calls Tryz.prog 171 #[.agg #[.slice A1 n1 c1,.slice A2 n2 c2],.agg #[.int .i64 p,.int .i64 f,.bool o]] w (eG (.int .i64 (rJ st (p,f,o))) w):=by
 by_cases hz:0 < f
 ·obtain ⟨k,rfl⟩:∃ k:Nat,f=(k:Int)+1:=⟨f.toNat - 1,by omega⟩
  have hk:k < st.length:=by omega
  obtain ⟨ad,rfl,hb,hc⟩:=hI.step hk
  have hbd:=hst k hk
  obtain ⟨x,hx⟩:∃ x,st[k]=x:=⟨_,rfl⟩
  rw [hx] at hc hbd
  have hc2:∀ o o':Obj,((w.alloc o).alloc o').cell? (ad.add k)=some (.int .i64 x):=fun o o'=>by
   exact akd
  clear hc
  have e:rJ st (p,(k:Int)+1,o)=p+x+if o then 12 else 0:=by
   unfold rJ
   simp only [if_pos hz]
   have:((k:Int)+1).toNat - 1=k:=by omega
   rw [this,oP,aI hk,hx];rfl
  rw [e]
  have hk2:k < n2:=by omega
  clear e hx hst hI hn2 hf
  cases o
  all_goals
   go_enter Tryz.func171,Tryz.ntmps171
   go_wp2
   go_ret
   exact eG.mk' (by simp) jT
 ·obtain rfl:f=0:=by omega
  have e:rJ st (p,0,o)=p+if o then 12 else 0:=by unfold rJ;simp
  rw [e]
  clear e hst hI hn2 hf
  cases o
  all_goals
   go_enter Tryz.func171,Tryz.ntmps171
   go_wp2
   go_ret
   exact eG.mk' (by simp) jT
theorem Ag {cs:List (Int×Int×Bool)} {st:List Int} (h:14<cs.length∨18<st.length):fU cs st=2:=if_pos h
theorem OX {cs:List (Int×Int×Bool)} {st:List Int} (h:¬ (14<cs.length∨18<st.length))(h1:cs.length=0):fU cs st=11:=by unfold fU;rw [if_neg h,if_pos h1]
theorem JJ {cs:List (Int×Int×Bool)} {st:List Int} (h:¬ (14<cs.length∨18<st.length))(h1:iq 0 st=true):fU cs st=11:=by unfold fU;rw [if_neg h,h1];simp
theorem U8 {cs:List (Int×Int×Bool)} {st:List Int} (h:¬ (14<cs.length∨18<st.length))(h1:¬ cs.length=0)(h2:iq 0 st=false):fU cs st=yJ st cs:=by unfold fU;rw [if_neg h,if_neg h1,h2];simp
theorem JI (A1 A2:Option Addr) (cs:List (Int×Int×Bool)) (st:List Int) (n1 n2 c1 c2:Nat) (w:World) (hI:jq w w.heap.size A1 A2 cs st) (hn1:n1=cs.length) (hn2:n2=st.length) :
  Calls Tryz.prog 103 #[.agg #[.slice A1 n1 c1,.slice A2 n2 c2]] w (eG (.int .i64 (fU cs st)) w):=by
 by_cases hm1:14 < n1
 ·rw [Ag (.inl (by omega))]
  exact amb
 ·by_cases hm2:18 < n2
  ·rw [Ag (.inr (by omega))]
   exact amb
  ·by_cases hz:n1=0
   ·rw [OX (by omega) (by omega)]
    subst hz
    exact amb
   ·have hnz:0 < n1:=by omega
    have HI:=Lib.hid hI
    have HN1:=Lib.hid hn1
    have HN2:=Lib.hid hn2
    have HE1:=Lib.hid (fun h=>JJ (cs:=cs) (st:=st) au h)
    have HE2:=Lib.hid (fun h=>U8 (cs:=cs) (st:=st) au au h)
    have h18:st.length≤18:=by omega
    have hi1:n2≤18:=by omega
    have hi2:n1≤14:=by omega
    clear hI hn1 hn2 hz hm1 hm2
    go_enter Tryz.func103,Tryz.ntmps103
    go_wp2
    go_loop [3,25] (fun last i=>∃ (k:Nat) (x:Int),k≤n2∧i=.int .i64 k∧last=.int .i64 x∧iq 0 st=iq x (st.drop k)) (fun _ i=>n2 - (intOf i).toNat)
    case atStart=>exact ⟨0,0,gU _,rfl,rfl,rfl⟩
    case round =>
     obtain ⟨k,x,hk,rfl,rfl,hs⟩:=hrel
     have HS:=Lib.hid hs
     clear hs
     by_cases hlt:k < n2
     ·have hk2:k < st.length:=by have:=HN2.out;omega
      obtain ⟨ad,hA,hb,hc⟩:=HI.out.step hk2
      subst hA
      have hs2:=HS.out.trans (Hw hk2)
      obtain ⟨y,hy⟩:∃ y,st[k]=y:=⟨_,rfl⟩
      rw [hy] at hc hs2
      have hc2:∀ o:Obj,(w.alloc o).cell? (ad.add k)=some (.int .i64 y):=fun o=>by
       exact adb
      clear hc hy
      by_cases hb1:y≤x
      ·exact alG
      ·by_cases hb2:127 < y
       ·exact alE
       ·exact aq3
     ·have hsF:iq 0 st=false:=by
       exact akz
      have HE:=Lib.hid (HE2.out hsF)
      have HBD:=Lib.hid (lF au hsF)
      clear hsF
      go_wp2
      go_loopw [41] (fun i wr=>∃ k:Nat,k≤n1∧i=.int .i64 k∧yJ st cs=yJ st (cs.drop k)∧Below w.heap.size w wr∧nN wr w.heap.size 27 #[.slice A1 n1 c1,.slice A2 n2 c2]) (fun i _=>n1 - (intOf i).toNat)
      case atStart=>exact ⟨0,gU _,rfl,rfl,jT,nN.new _ _ _⟩
      case round =>
       obtain ⟨j,hj,rfl,hs,hbel,hblk⟩:=hrel
       have HC:=Lib.hid hs
       have HB:=Lib.hid hblk
       have hlt3:w.heap.size < wr.heap.size:=hblk.lt
       have q0:wr.cell? ⟨w.heap.size,0,none⟩=some (.slice A1 n1 c1):=hblk.cell 0
       have q1:wr.cell? ⟨w.heap.size,1,none⟩=some (.slice A2 n2 c2):=hblk.cell 1
       clear hs hblk
       by_cases hlt2:j < n1
       ·have hj2:j < cs.length:=by have:=HN1.out;omega
        have HI2:=Lib.hid (HI.out.below hbel)
        obtain ⟨ad,hA,hb,hc0,hc1,hc2⟩:=HI2.out.aT hj2
        subst hA
        have hs2:=HC.out.trans (abb hj2)
        obtain ⟨⟨p,f,o⟩,hx⟩:∃ x,cs[j]=x:=⟨_,rfl⟩
        rw [hx] at hc0 hc1 hc2 hs2
        simp only at hc0 hc1 hc2 hs2
        have HI3:=Lib.hid (fun o=>HI2.out.alloc (hbel.size) o)
        have avy:∀ o:Obj,Below w.heap.size w (wr.alloc o):=fun o=>hbel.alloc hbel.size o
        have HB4:=Lib.hid (fun o=>HB.out.alloc o)
        have hn3:(st.length:Int)=n2:=by have:=HN2.out;omega
        by_cases b1:f < 0
        ·exact alC
        ·by_cases b2:(n2:Int) < f
         ·exact alZ
         ·rw [if_neg (by omega)] at hs2
          by_cases b3:p < 0
          ·exact alY
          ·by_cases b4:127 < p
           ·exact alX
           ·have HT:=fun (w':World) (hI:jq w' w.heap.size (some ad) A2 cs st) (hB:w.heap.size≤w'.heap.size)=>U4 (some ad) A2 cs st n1 n2 c1 c2 w.heap.size p f o w' hI hB HN2.out au au h18 HBD.out
            have hsz:=hbel.size
            by_cases b5:127 < rJ st (p,f,o)
            ·have HE3:=Lib.hid (HE.out.trans (hs2.trans (if_pos (.inr b5))))
             clear hs2 hn3
             generalize rJ st (p,f,o)=T at *
             have HTT:=Lib.hid HT
             clear HT
             go_wp2_with (go_at_call 171;refine (HTT.out _ (HI3.out _) (by simp;omega)).mono ?_;rintro e w2 ⟨rfl,hb2⟩)
             go_ret
             exact eG.mk' (by rw [HE3.out];rfl) jT
            ·rw [if_neg (by omega)] at hs2
             have HS4:=Lib.hid hs2
             clear hs2 hn3
             generalize rJ st (p,f,o)=T at *
             have HTT:=Lib.hid HT
             clear HT
             go_wp2_with (go_at_call 171;refine (HTT.out _ (HI3.out _) (by simp;omega)).mono ?_;rintro e w2 ⟨rfl,hb2⟩;have K1:=Lib.hid ((HB4.out _).after hb2))
             go_roundw
             case rel=>exact ⟨j+1,by omega,by go_num,HS4.out,jT,K1.out⟩
             case measure=>simp [intOf];omega
       ·exact alB
theorem aaj {st:List Int} {p:Int} {k:Nat} {o:Bool} (hk:k<st.length):rJ st (p,(k:Int)+1,o)=p+st[k]+if o then 12 else 0:=by
 unfold rJ
 have h0:(0:Int)<(k:Int)+1:=by omega
 have:((k:Int)+1).toNat-1=k:=by omega
 simp only [if_pos h0]
 rw [this,oP,aI hk];rfl
theorem aak {st:List Int} {p:Int} {o:Bool}:rJ st (p,0,o)=p+if o then 12 else 0:=by unfold rJ;simp
theorem ae5 (A1 A2:Option Addr) (cs:List (Int×Int×Bool)) (st:List Int) (n1 n2 c1 c2:Nat) (w:World) (hI:jq w w.heap.size A1 A2 cs st) (hn1:n1=cs.length) (hn2:n2=st.length) :
    Calls Tryz.prog 56 #[.agg #[.slice A1 n1 c1,.slice A2 n2 c2]] w (eG (.int .i64 (fU cs st)) w):=by
  by_cases hm1:14 < n1
  · rw [Ag (.inl (by omega))]
    exact al9
  · by_cases hm2:18 < n2
    · rw [Ag (.inr (by omega))]
      exact al9
    · by_cases hz:n1=0
      · rw [OX (by omega) (by omega)]
        subst hz
        exact al9
      · have hnz:0 < n1:=by omega
        have HI:=Lib.hid hI
        have HN1:=Lib.hid hn1
        have HN2:=Lib.hid hn2
        have HE1:=Lib.hid (fun h=>JJ (cs:=cs) (st:=st) au h)
        have HE2:=Lib.hid (fun h=>U8 (cs:=cs) (st:=st) au au h)
        have h18:st.length≤18:=by omega
        have hi1:n2≤18:=by omega
        have hi2:n1≤14:=by omega
        clear hI hn1 hn2 hz hm1 hm2
        go_enter Tryz.func56,Tryz.ntmps56
        go_wp2
        go_loop [3,4] (fun last i=>∃ (k:Nat) (x:Int),k≤n2∧i=.int .i64 k∧last=.int .i64 x∧iq 0 st=iq x (st.drop k)) (fun _ i=>n2 - (intOf i).toNat)
        case atStart=>exact ⟨0,0,gU _,rfl,rfl,rfl⟩
        case round =>
          obtain ⟨k,x,hk,rfl,rfl,hs⟩:=hrel
          have HS:=Lib.hid hs
          clear hs
          by_cases hlt:k < n2
          · have hk2:k < st.length:=by have:=HN2.out;omega
            obtain ⟨ad,hA,hb,hc⟩:=HI.out.step hk2
            subst hA
            have hs2:=HS.out.trans (Hw hk2)
            obtain ⟨y,hy⟩:∃ y,st[k]=y:=⟨_,rfl⟩
            rw [hy] at hc hs2
            have hc2:∀ o:Obj,(w.alloc o).cell? (ad.add k)=some (.int .i64 y):=fun o=>by
              exact adb
            clear hc hy
            by_cases hb1:y≤x
            · exact alG
            · by_cases hb2:127 < y
              · exact alE
              · exact aq3
          · have hsF:iq 0 st=false:=by
              exact akz
            have HE:=Lib.hid (HE2.out hsF)
            have HBD:=Lib.hid (lF au hsF)
            clear hsF
            go_wp2
            go_loopw [5] (fun i wr=>∃ k:Nat,k≤n1∧i=.int .i64 k∧yJ st cs=yJ st (cs.drop k)∧Below w.heap.size w wr∧nN wr w.heap.size 27 #[.slice A1 n1 c1,.slice A2 n2 c2]) (fun i _=>n1 - (intOf i).toNat)
            case atStart=>exact ⟨0,gU _,rfl,rfl,jT,nN.new _ _ _⟩
            case round =>
              obtain ⟨j,hj,rfl,hs,hbel,hblk⟩:=hrel
              have HC:=Lib.hid hs
              have HB:=Lib.hid hblk
              have hlt3:w.heap.size < wr.heap.size:=hblk.lt
              have q0:wr.cell? ⟨w.heap.size,0,none⟩=some (.slice A1 n1 c1):=hblk.cell 0
              have q1:wr.cell? ⟨w.heap.size,1,none⟩=some (.slice A2 n2 c2):=hblk.cell 1
              clear hs hblk
              by_cases hlt2:j < n1
              · have hj2:j < cs.length:=by have:=HN1.out;omega
                have HI2:=Lib.hid (HI.out.below hbel)
                obtain ⟨ad,hA,hb,hc0,hc1,hc2⟩:=HI2.out.aT hj2
                subst hA
                have hs2:=HC.out.trans (abb hj2)
                obtain ⟨⟨p,f,o⟩,hx⟩:∃ x,cs[j]=x:=⟨_,rfl⟩
                rw [hx] at hc0 hc1 hc2 hs2
                simp only at hc0 hc1 hc2 hs2
                have HI3:=Lib.hid (fun o=>HI2.out.alloc (hbel.size) o)
                have avy:∀ o:Obj,Below w.heap.size w (wr.alloc o):=fun o=>hbel.alloc hbel.size o
                have HB4:=Lib.hid (fun o=>HB.out.alloc o)
                have hn3:(st.length:Int)=n2:=by have:=HN2.out;omega
                by_cases b1:f < 0
                · exact alC
                · by_cases b2:(n2:Int) < f
                  · exact alZ
                  · rw [if_neg (by omega)] at hs2
                    by_cases b3:p < 0
                    · exact alY
                    · by_cases b4:127 < p
                      · exact alX
                      · have hsz:=hbel.size
                        by_cases b6:0 < f
                        · obtain ⟨i,hi⟩:∃ i:Nat,f=(i:Int)+1:=⟨f.toNat - 1,by omega⟩
                          subst hi
                          have hi2:i < st.length:=by omega
                          obtain ⟨ad2,hA,hb3,hc3⟩:=HI2.out.step hi2
                          subst hA
                          have hbd:=HBD.out i hi2
                          rw [aaj hi2] at hs2
                          have hi3:i < n2:=by omega
                          obtain ⟨y,hy⟩:∃ y,st[i]=y:=⟨_,rfl⟩
                          rw [hy] at hc3 hs2 hbd
                          have hc4:∀ o:Obj,(wr.alloc o).cell? (ad2.add i)=some (.int .i64 y):=fun o=>by
                            rw [World.cell?_alloc_lt _ _ _ (by rw [bW];omega),hc3]
                          clear hc3 hy hn3
                          by_cases b5:127 < p+y+if o then 12 else 0
                          · have HE3:=Lib.hid (HE.out.trans (hs2.trans (if_pos (.inr b5))))
                            clear hs2
                            cases o
                            all_goals
                              simp only [if_true,Eo,BA] at b5
                              go_wp2
                              go_ret
                              exact eG.mk' (by rw [HE3.out];rfl) jT
                          exact aqP
                        · have hi:f=0:=by omega
                          subst hi
                          rw [aak] at hs2
                          clear hn3
                          by_cases b5:127 < p+if o then 12 else 0
                          · have HE3:=Lib.hid (HE.out.trans (hs2.trans (if_pos (.inr b5))))
                            clear hs2
                            cases o
                            all_goals
                              simp only [if_true,Eo,BA] at b5
                              first
                              | omega
                              | (go_wp2
                                 go_ret
                                 exact eG.mk' (by rw [HE3.out];rfl) jT)
                          exact aqP
              · exact alB
end
end Go.Proofs.YthehkchjdkdbiaaGreatDoor
