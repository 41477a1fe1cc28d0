/- Closed facts of the program that each card asks, each in a declaration of its own. -/
import Derived.Test.YthohlofpphjofaaGreatDoorLApartGq
import Derived.Test.YthohlofpphjofaaGreatDoorCards
import Derived.SevenTiedAt
set_option maxHeartbeats 8000000
set_option maxRecDepth 100000
set_option linter.unusedVariables false
set_option linter.unusedSimpArgs false
namespace Go.Proofs.YthohlofpphjofaaGreatDoor
theorem aiy {p:Prop}(h:p:=by show ¬ ((h < 0∨((ah evs i ((q:Int)+1):Nat):Int) < h)∨(0 < h∧f=0));rw [XL];omega):p:=h
theorem FQ {p:Prop}(h:p:=by
 clear hn1 XL hfr g1 g2 hq
 exact aec):p:=h
theorem aeI {p:Prop}(h:p:=by
 have d12:decide (0 < h)=true:=fQ b12
 clear hn1 XL hfr g1 g2 g3 hq b13
 exact ak3):p:=h
theorem adw {p:Prop}(h:p:=by
 clear hn1 XL
 go_enter Tryz.func105,Tryz.ntmps105
 go_wp2
 go_ret
 exact Ret.mk' rfl jD):p:=h
theorem aec {p:Prop}(h:p:=by
 go_enter Tryz.func105,Tryz.ntmps105
 go_wp2
 go_quiet (fail)
 go_wp2
 go_ret
 exact Ret.mk' rfl jD):p:=h
theorem ak3 {p:Prop}(h:p:=by
 go_enter Tryz.func105,Tryz.ntmps105
 go_wp2
 go_quiet (fail)
 go_wp2
 refine amP ?_
 repeat
   first
   | go_big_quiet_skip
   | (go_big_quiet_want
      apply aae
      focus
        intro w' hw'
        obtain ⟨bc,bp⟩:=Xn hw'
        go_simp
        first|done|rfl|exact rfl
      (try simp only [Act.put,List.setIfInBounds_toArray,Uc,Ug])
      go_big_quiet_on)
   | (go_big_quiet_want
      apply QD (f:=95)
      focus
        intro w' hw'
        go_simp
        first|done|rfl|exact rfl
      focus
        intro w' hw'
        have hw2:Below _ _ w':=hw'
        exact HL.out w' jD
      (try simp only [Act.put,List.setIfInBounds_toArray,Uc,Ug])
      go_big_quiet_on)
 refine wpQuiet_nil ?_
 intro w1 hw1
 have hw2:Below _ _ w1:=hw1
 clear hw1
 go_wp2
 go_ret
 exact Ret.mk' rfl jD):p:=h
theorem amP {p q:Prop}(k:q)(h:aS q→p:=by
 intro hq
 refine Es _ aK aK (bel_drewN (Below.refl _ _) _) ?_
 exact hq.k):p:=h ⟨k⟩
section
open Go.RowKit
def dS (cs:List (Int×Int×Bool)) (c:Int):Int:=(cs.getD (c.toNat-1) (0,0,false)).2.1
def gY(p:aN)(i:Int)(s:Stp)(last:Int):Int :=
 if s.1<1∨(p.cs.length:Int)<s.1 then 12
 else if s.2.1<0∨dS p.cs s.1<s.2.1 then 13
 else if s.1≤last then 22
 else if(s.2.2.1<0∨3<s.2.2.1)∨(s.2.2.2.1<0∨4<s.2.2.2.1)then 23
 else if(s.2.2.2.2<0∨(ah p.evs i s.1:Int)<s.2.2.2.2)∨(0<s.2.2.2.2∧s.2.1=0)then 24
 else 0
def iW(p:aN)(i:Int):Int→List Stp→Int
 | _,[]=>0
 | last,s::r=>if gY p i s last≠0 then gY p i s last else iW p i s.1 r
def MX(p:aN)(i:Int)(e:Ev):Int :=
 if jo e.val e.dot e.three=false∨(i=0∧e.val=0)then 20
 else if e.tie=true∧(0<e.stops.length∨i=0)then 21
 else iW p i 0 e.stops
def Bv (p:aN):Nat→List Ev→Int
 | _,[]=>0
 | i,e::r=>if MX p i e≠0 then MX p i e else Bv p (i+1) r
def aO(p:aN):Int:=if gB p.cs p.st≠0 then gB p.cs p.st else if 400<p.evs.length then 2 else Bv p 0 p.evs
theorem Zv {p:aN} {i last:Int} {l:List Stp} {k:Nat} (h:k<l.length):iW p i last (l.drop k)=if gY p i l[k] last≠0 then gY p i l[k] last else iW p i l[k].1 (l.drop (k+1)):=by
 exact FN
theorem af4 {p:aN} {l:List Ev} {k:Nat} (h:k<l.length):Bv p k (l.drop k)=if MX p k l[k]≠0 then MX p k l[k]else Bv p (k+1) (l.drop (k+1)):=by
 exact FN
section
variable {p:aN} {i last:Int} {s:Stp}
theorem IK(h:s.1<1∨(p.cs.length:Int)<s.1):gY p i s last=12:=if_pos h
theorem Eh(h:¬ (s.1<1∨(p.cs.length:Int)<s.1))(h1:s.2.1<0∨dS p.cs s.1<s.2.1):gY p i s last=13:=by unfold gY;rw [if_neg h,if_pos h1]
theorem P8(h:¬ (s.1<1∨(p.cs.length:Int)<s.1))(h1:¬ (s.2.1<0∨dS p.cs s.1<s.2.1))(h2:s.1≤last):gY p i s last=22:=by unfold gY;rw [if_neg h,if_neg h1,if_pos h2]
theorem sF(h:¬ (s.1<1∨(p.cs.length:Int)<s.1))(h1:¬ (s.2.1<0∨dS p.cs s.1<s.2.1))(h2:¬ s.1≤last)(h3:(s.2.2.1<0∨3<s.2.2.1)∨(s.2.2.2.1<0∨4<s.2.2.2.1)):gY p i s last=23:=by unfold gY;rw [if_neg h,if_neg h1,if_neg h2,if_pos h3]
theorem xC(h:¬ (s.1<1∨(p.cs.length:Int)<s.1))(h1:¬ (s.2.1<0∨dS p.cs s.1<s.2.1))(h2:¬ s.1≤last)(h3:¬ ((s.2.2.1<0∨3<s.2.2.1)∨(s.2.2.2.1<0∨4<s.2.2.2.1)))
  (h4:(s.2.2.2.2<0∨(ah p.evs i s.1:Int)<s.2.2.2.2)∨(0<s.2.2.2.2∧s.2.1=0)):gY p i s last=24:=by unfold gY;rw [if_neg h,if_neg h1,if_neg h2,if_neg h3,if_pos h4]
theorem Ei(h:¬ (s.1<1∨(p.cs.length:Int)<s.1))(h1:¬ (s.2.1<0∨dS p.cs s.1<s.2.1))(h2:¬ s.1≤last)(h3:¬ ((s.2.2.1<0∨3<s.2.2.1)∨(s.2.2.2.1<0∨4<s.2.2.2.1)))
  (h4:¬ ((s.2.2.2.2<0∨(ah p.evs i s.1:Int)<s.2.2.2.2)∨(0<s.2.2.2.2∧s.2.1=0))):gY p i s last=0:=by unfold gY;rw [if_neg h,if_neg h1,if_neg h2,if_neg h3,if_neg h4]
end
theorem CO {cs:List (Int×Int×Bool)} {q:Nat} (h:q<cs.length):dS cs ((q:Int)+1)=cs[q].2.1:=by
 unfold dS
 have:((q:Int)+1).toNat-1=q:=by omega
 rw [this,dI,aB h];rfl
def Calm(W w:World):Prop:=Below W.heap.size W w
theorem Es {P:Program} {id:Nat} {Q:Exit→Act→World→Prop} {a:Act} {w:World} {l:List Oper} (W:World) (hm:P.follows .mixedOrders=true) (hB:Region.lexB .any l.toArray=true) (hW:Below W.heap.size W w)
  (h:wpQuiet P l.toArray (Calm W) (fun a'=>∀ w',Calm W w'→Q .normal a' w') l a):(Code.region id l.toArray true).wp P Q a w :=
 wp_region_quiet (C:=Calm W) hm hB (show Below W.heap.size W _ from ⟨hW.os,hW.tape,hW.output,hW.size,hW.block⟩) uT
theorem aae {P:Program} {W:World} {o:Oper} {a:Act} {K:Act→Prop} {v:Value} (h:∀ w',Calm W w'→(execOp a.eval o).run P w'=.ok (.value v) w')(hk:K (a.put o.dst v)):o.quiet P a (Calm W) K:=by
 refine⟨v,fun w' hw'=>?_,hk⟩
 unfold Oper.quietAt
 rw [h w' hw']
 exact⟨rfl,rfl⟩
theorem QD {P:Program} {W:World} {o:Oper} {a:Act} {K:Act→Prop} {v:Value} {f:FuncId} {args:Array Value} (h:∀ w',Calm W w'→(execOp a.eval o).run P w'=.ok (.enter f args) w')(hc:∀ w',Calm W w'→Calls P f args w' (Ret v w'))(hk:K (a.put o.dst v)) :
  o.quiet P a (Calm W) K:=by
 refine⟨v,fun w' hw'=>?_,hk⟩
 unfold Oper.quietAt
 rw [h w' hw']
 exact⟨rfl,(hc w' hw').mono fun e w''⟨he,hb⟩=>⟨he,show Below W.heap.size W w'' from Below.trans hw' (hb.mono (Below.size hw'))⟩⟩
theorem Xn {W w':World} (h:Calm W w'):(∀ b o,b<W.heap.size→w'.cell? ⟨b,o,none⟩=W.cell? ⟨b,o,none⟩)∧(∀ p:Addr,p.block<W.heap.size→w'.cell? p=W.cell? p) :=
 ⟨fun b o h'=>Below.cell (p:=⟨b,o,none⟩) h h',fun p h'=>Below.cell (p:=p) h h'⟩
theorem YW (M:PM) (p:aN) (i:Int) (s:Stp) (last:Int) (w:World) (hP:oI w w.heap.size M p) (hO:fH p) :
    Calls Tryz.prog 105 #[dL M p,.int .i64 i,TM s,.int .i64 last] w (Ret (.int .i64 (gY p i s last)) w):=by
  obtain ⟨A1,A2,A3,c1,c2,c3⟩:=M
  obtain ⟨c,f,r,g,h⟩:=s
  have HL:=Lib.hid (fun (w':World) (hb:Below w.heap.size w w')=>rP ⟨A1,A2,A3,c1,c2,c3⟩ p i c w' (hP.after hb) hO)
  have HI:=Lib.hid hP.1
  obtain ⟨cs,st,evs⟩:=p
  unfold dL TM at *
  have anQ:=hO.n1
  simp only at *
  generalize XL:ah evs i c=Lg at *
  obtain ⟨n1,hn1⟩:∃ n,cs.length=n:=⟨_,rfl⟩
  generalize st.length=n2 at *
  generalize evs.length=n3 at *
  rw [hn1] at HL anQ ⊢
  have HN:=Lib.hid hn1
  have HLG:=Lib.hid XL
  clear hP hO
  by_cases b1:c < 1
  · rw [IK (.inl b1)]
    exact adw
  · by_cases b2:(n1:Int) < c
    · rw [IK (.inr (by show (cs.length:Int) < c;omega))]
      exact adw
    · obtain ⟨q,rfl⟩:∃ q:Nat,c=(q:Int)+1:=⟨c.toNat - 1,by omega⟩
      have hq:q < cs.length:=by omega
      obtain ⟨ad,hA,hb,hc⟩:∃ ad,A1=some ad∧ad.block < w.heap.size∧w.cell? ⟨(ad.add (q*3)).block,(ad.add (q*3)).off+1,none⟩=some (.int .i64 cs[q].2.1):=by
        obtain ⟨ad,x,y,_,z,_⟩:=HI.out.aQ hq
        exact ⟨ad,x,y,z⟩
      subst hA
      have hfr:=CO hq
      have g1:¬ ((q:Int)+1 < 1∨(cs.length:Int) < (q:Int)+1):=by omega
      obtain ⟨F,hF⟩:∃ F,cs[q].2.1=F:=⟨_,rfl⟩
      rw [hF] at hc hfr
      have hc2:∀ o o':Obj,((w.alloc o).alloc o').cell? ⟨(ad.add (q*3)).block,(ad.add (q*3)).off+1,none⟩=some (.int .i64 F):=fun o o'=>by
        exact ads
      have hq2:q < n1:=by omega
      have anE:ad.block < w.heap.size:=hb
      clear hc hF
      by_cases b3:f < 0
      · rw [Eh g1 (.inl b3)]
        clear hn1 XL hfr g1 hq
        exact aec
      · have d3:decide (f < 0)=false:=dW b3
        by_cases b4:F < f
        · rw [Eh g1 (.inr (by show dS cs ((q:Int)+1) < f;rw [hfr];exact b4))]
          clear hn1 XL hfr g1 hq
          exact aec
        · have g2:¬ (f < 0∨dS cs ((q:Int)+1) < f):=by rw [hfr];omega
          have d4:decide (F < f)=false:=dW b4
          by_cases b5:(q:Int)+1≤last
          · rw [P8 g1 g2 b5]
            exact FQ
          · by_cases b6:r < 0
            · rw [sF g1 g2 b5 (.inl (.inl b6))]
              exact FQ
            · by_cases b7:3 < r
              · rw [sF g1 g2 b5 (.inl (.inr b7))]
                exact FQ
              · by_cases b8:g < 0
                · rw [sF g1 g2 b5 (.inr (.inl b8))]
                  exact FQ
                · by_cases b9:4 < g
                  · rw [sF g1 g2 b5 (.inr (.inr b9))]
                    exact FQ
                  · have g3:¬ ((r < 0∨3 < r)∨(g < 0∨4 < g)):=by omega
                    by_cases b10:h < 0
                    · rw [xC g1 g2 b5 g3 (.inl (.inl b10))]
                      clear hn1 XL hfr g1 g2 g3 hq
                      go_enter Tryz.func105,Tryz.ntmps105
                      go_wp2
                      go_quiet (fail)
                      go_wp2
                      go_quiet (fail)
                      exact xE
                    · have d10:decide (h < 0)=false:=dW b10
                      by_cases b11:(Lg:Int) < h
                      · rw [xC g1 g2 b5 g3 (.inl (.inr (by show ((ah evs i ((q:Int)+1):Nat):Int) < h;rw [XL];exact b11)))]
                        have d11:decide ((Lg:Int) < h)=true:=fQ b11
                        clear hn1 XL hfr g1 g2 g3 hq
                        exact ak3
                      · have d11:decide ((Lg:Int) < h)=false:=dW b11
                        by_cases b12:0 < h
                        · by_cases b13:f=0
                          · rw [xC g1 g2 b5 g3 (.inr ⟨b12,b13⟩)]
                            have d13:(f == 0)=true:=by simpa using b13
                            exact aeI
                          · rw [Ei g1 g2 b5 g3 aiy]
                            have d13:(f == 0)=false:=by simpa using b13
                            exact aeI
                        · have hh0:h=0:=by omega
                          rw [Ei g1 g2 b5 g3 aiy]
                          have d14:decide ((Lg:Int) < 0)=false:=dW aj
                          clear hn1 XL hfr g1 g2 g3 hq d10 d11 b10 b11 b12
                          subst hh0
                          exact ak3
theorem abW {p:aN} (h:gB p.cs p.st≠0):aO p=gB p.cs p.st:=if_pos h
theorem Y3 {p:aN} (h:¬ gB p.cs p.st≠0)(h1:400<p.evs.length):aO p=2:=by simp_all[aO]
theorem abV {p:aN} (h:¬ gB p.cs p.st≠0)(h1:¬ 400<p.evs.length):aO p=Bv p 0 p.evs:=by simp_all[aO,if_neg]
def stM (s c f:Int)(l:List UInt8)(L:Int)(r g h:Nat):Bool:=decide (r≤3∧g≤4∧(h:Int)≤L∧(0<h→f≠0)) && (dZ s c f r g h L && cellS s c f r g h L == l)
theorem su {s c f:Int} {l:List UInt8} {L:Int} {r g h:Nat} (x:stM s c f l L r g h=true):(r≤3∧g≤4∧(h:Int)≤L∧(0<h→f≠0))∧dZ s c f r g h L=true∧cellS s c f r g h L=l:=by
 grind[stM]
theorem akV {s c f:Int} {l:List UInt8} {L:Int} {r g h:Nat} (a:r≤3∧g≤4∧(h:Int)≤L∧(0<h→f≠0))(b:dZ s c f r g h L=true)(d:cellS s c f r g h L=l):stM s c f l L r g h=true:=by
 simp_all[stM]
end
section
open Go
theorem akj:true=Tryz.pinned.checked.prog.looks []:=by kernel_rfl
theorem amb:Tryz.pinned.checked.prog.mainIs=some (Rows.notationReadsCard.stood.harness.1,Rows.notationReadsCard.stood.harness.2.toList):=by kernel_rfl
end
end Go.Proofs.YthohlofpphjofaaGreatDoor
