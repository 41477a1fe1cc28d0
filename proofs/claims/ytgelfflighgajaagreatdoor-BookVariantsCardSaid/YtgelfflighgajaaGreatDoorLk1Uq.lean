/- What a system lacks of an event: the program, in one system. -/
import Derived.Test.YtgelfflighgajaaGreatDoorTkUq
import Derived.Test.YtgelfflighgajaaGreatDoorMk1Uq
import Derived.Test.YtgelfflighgajaaGreatDoorPLgUq
set_option maxHeartbeats 8000000
set_option maxRecDepth 100000
set_option linter.unusedVariables false
set_option linter.unusedSimpArgs false
namespace Go.Proofs.YtgelfflighgajaaGreatDoor
open Go.RowKit
attribute [local go_sem]mk_bs bs_size bs_toList bs_append bs_extract
attribute [local simp]run_cut run_cut_to run_cut_from run_add_bs
theorem phas_1 (n:Int)(w:World):Calls Tryz.prog 274 #[.agg #[],.int .i64 n] w (Ret (.bool (if (1:Int)=3 then n != 8 else if (1:Int)=4 then n == 8 else true)) w):=by
 go_enter Tryz.func274,Tryz.ntmps274
 go_wp2
 go_ret
 exact Ret.mk' rfl (by repeat (first|exact Below.refl _ _|assumption|refine bel_drewN ?_ _|refine Below.drew ?_|refine bel_alloc ?_ _|refine Below.setCell ?_ (by first|omega|(simp;done)|(simp;omega)) _|refine bel_step ?_ (by assumption)))
theorem ptw3_1 (v:Int) (w:World) (hv:1≤v∧v≤7) :
  Calls Tryz.prog 182 #[(.iface 253 (.agg #[])),.agg #[.int .i64 v,.bool false,.bool true]] w (Ret (.tuple #[.string (bs (tW v 2)),.bool (tOk 1 v 2)]) w):=by
 obtain ⟨hv1,hv7⟩:=hv
 have e1:tW v 2=cut [66,83,77,67,81,88,68] (v - 1) v++[51]:=by unfold tW;rw [if_neg (by omega)];rfl
 have e2:tOk 1 v 2=decide ((1:Int)≠4):=by unfold tOk;rw [if_neg (by omega)];rfl
 have H5:=Lib.hid (phas_1 5)
 rw [e1,e2]
 have hb1:(v == 0)=false:=by simp;omega
 have g0:0≤v - 1:=by omega
 have g1:v - 1≤v:=by omega
 have gl:(cut [66,83,77,67,81,88,68] (v - 1) v).length+1≤9223372036854775807:=by
  have:=cut_length [66,83,77,67,81,88,68] (v - 1) v
  simp at this;omega
 have w1:IntKind.i64.wrap (v - 1)=v - 1:=IntWalk.i64_in _ (by omega)
 clear e1 e2
 go_enter Tryz.func182,Tryz.ntmps182
 go_wp2_with fail
 go_region_held3 (fun w'=>w'.cell? ⟨w.heap.size,0,none⟩=some (.int .i64 v))
  (first|(simp [bc];done)|go_keep)
  ((go_at_call 274;refine (H5.out _).mono ?_;rintro e w' ⟨rfl,hb⟩;obtain ⟨bc,bf⟩:=bcell hb))
 go_wp2_with fail
 go_ret2
 exact Ret.mk' (by simp) (by repeat (first|exact Below.refl _ _|assumption|refine bel_drewN ?_ _|refine Below.drew ?_|refine bel_alloc ?_ _|refine Below.setCell ?_ (by first|omega|(simp;done)|(simp;omega)) _|refine bel_step ?_ (by assumption)))
theorem ptw_1 (v:Int) (i:Nat) (w:World) (hv:0≤v∧v≤7) (hi:i≤2) (hz:v=0→i=0) :
    Calls Tryz.prog 182 #[(.iface 253 (.agg #[])),.agg #[.int .i64 v,.bool (sgD i),.bool (sgT i)]] w (Ret (.tuple #[.string (bs (tW v i)),.bool (tOk 1 v i)]) w):=by
  have h3:i=0∨i=1∨i=2:=by omega
  have h8:v=0∨v=1∨v=2∨v=3∨v=4∨v=5∨v=6∨v=7:=by omega
  have H6:=Lib.hid (phas_1 6)
  have HV:=Lib.hid hv
  clear hi hv
  rcases h3 with rfl|rfl|rfl
  · rcases h8 with rfl|rfl|rfl|rfl|rfl|rfl|rfl|rfl
    all_goals
      clear hz
      simp only [sgD,sgT]
      go_enter Tryz.func182,Tryz.ntmps182
      go_wp2_with (go_at_call 274;refine (H6.out _).mono ?_;rintro e w' ⟨rfl,hb⟩)
      go_ret2
      exact Ret.mk' rfl (by repeat (first|exact Below.refl _ _|assumption|refine bel_drewN ?_ _|refine Below.drew ?_|refine bel_alloc ?_ _|refine Below.setCell ?_ (by first|omega|(simp;done)|(simp;omega)) _|refine bel_step ?_ (by assumption)))
  · rcases h8 with rfl|rfl|rfl|rfl|rfl|rfl|rfl|rfl
    all_goals first
      | (exfalso;revert hz;decide)
      | (clear hz
         simp only [sgD,sgT]
         go_enter Tryz.func182,Tryz.ntmps182
         go_wp2_with fail
         go_ret2
         exact Ret.mk' rfl (by repeat (first|exact Below.refl _ _|assumption|refine bel_drewN ?_ _|refine Below.drew ?_|refine bel_alloc ?_ _|refine Below.setCell ?_ (by first|omega|(simp;done)|(simp;omega)) _|refine bel_step ?_ (by assumption))))
  · exact ptw3_1 v w ⟨by have:=HV.out;by_cases h0:v=0<;>omega,HV.out.2⟩
end Go.Proofs.YtgelfflighgajaaGreatDoor
namespace Go.Proofs.YtgelfflighgajaaGreatDoor
open Go.RowKit
attribute [local go_sem]mk_bs bs_size bs_toList bs_append bs_extract
theorem hasS_1 (n:Int)(w:World):Calls Tryz.prog 274 #[.agg #[],.int .i64 n] w (Ret (.bool (hasS 1 n)) w):=phas_1 n w
theorem aheadH_1 (n:Nat)(w:World):Sem.run Tryz.prog (nilAhead (n+1) 253 (.agg #[]) "theorbo/notation.hold") w=.ok (some false) w:=by
 kernel_rfl
theorem plack_1 (M:PM) (p:Pce) (i:Nat) (hi:i < p.evs.length) (w:World) (hP:PcAt w w.heap.size M p) (hO:PcOk p)
    (hv:StopsIn p.evs[i]) :
    Calls Tryz.prog 175 #[(.iface 253 (.agg #[])),pcValue M p,.int .i64 i] w (LkPost (lackE 1 p i p.evs[i]) w):=by
  obtain ⟨A1,A2,A3,c1,c2,c3⟩:=M
  have hLL:=fun (x:Int) (w':World) (hb:Below w.heap.size w w')=>pLongest_any ⟨A1,A2,A3,c1,c2,c3⟩ p i x w' (hP.after hb) hO
  have H20:=hO.n4 i hi
  have hn3:=hO.n3
  obtain ⟨n1,hn1⟩:∃ n,p.cs.length=n:=⟨_,rfl⟩
  obtain ⟨n2,hn2⟩:∃ n,p.st.length=n:=⟨_,rfl⟩
  obtain ⟨n3,hnn⟩:∃ n,p.evs.length=n:=⟨_,rfl⟩
  unfold pcValue at *
  simp only at *
  rw [hn1,hn2,hnn] at hLL
  rw [hnn] at hn3
  rw [hn1,hn2,hnn]
  have HL:=Lib.hid hLL
  have hi2:i < n3:=by omega
  obtain ⟨ad,S,c,hA,hb,e0,e1,e2,e3,e4,e5,hS⟩:=hP.2.1.ev hi
  simp only at hA
  subst hA
  have HS:=Lib.hid hS
  obtain ⟨e,he⟩:∃ e,p.evs[i]=e:=⟨_,rfl⟩
  rw [he] at hv
  rw [he] at e0 e1 e2 e3 e4 e5 H20 ⊢
  rw [he] at HS
  have HV:=Lib.hid hv
  obtain ⟨m,hm⟩:∃ m,e.stops.length=m:=⟨_,rfl⟩
  rw [hm] at e5 H20
  have HM:=Lib.hid hm
  have hal:∀ (o:Obj) (x:Addr),x.block < w.heap.size→(w.alloc o).cell? x=w.cell? x:=fun o x h=>World.cell?_alloc_lt w o x h
  clear hLL hP hO hn1 hn2 hnn hS he hv
  have hk:∀ (o o' o'':Obj) (x:Addr),x.block < w.heap.size→(((w.alloc o).alloc o').alloc o'').cell? x=w.cell? x:=fun o o' o'' x h=>by
    rw [World.cell?_alloc_lt _ _ _ (by simp;omega),World.cell?_alloc_lt _ _ _ (by simp;omega),World.cell?_alloc_lt _ _ _ h]
  have f0:∀ o o' o'':Obj,(((w.alloc o).alloc o').alloc o'').cell? (ad.add (i*6))=some (.bool e.bar):=fun o o' o''=>by rw [hk _ _ _ _ (by rw [block_of_add];exact hb),e0]
  have f1:∀ o o' o'':Obj,(((w.alloc o).alloc o').alloc o'').cell? ⟨(ad.add (i*6)).block,(ad.add (i*6)).off+1,none⟩=some (.int .i64 e.val):=fun o o' o''=>by rw [hk _ _ _ _ (by rw [block_of_add];exact hb),e1]
  have f2:∀ o o' o'':Obj,(((w.alloc o).alloc o').alloc o'').cell? ⟨(ad.add (i*6)).block,(ad.add (i*6)).off+2,none⟩=some (.bool e.dot):=fun o o' o''=>by rw [hk _ _ _ _ (by rw [block_of_add];exact hb),e2]
  have f3:∀ o o' o'':Obj,(((w.alloc o).alloc o').alloc o'').cell? ⟨(ad.add (i*6)).block,(ad.add (i*6)).off+3,none⟩=some (.bool e.three):=fun o o' o''=>by rw [hk _ _ _ _ (by rw [block_of_add];exact hb),e3]
  have f4:∀ o o' o'':Obj,(((w.alloc o).alloc o').alloc o'').cell? ⟨(ad.add (i*6)).block,(ad.add (i*6)).off+4,none⟩=some (.bool e.tie):=fun o o' o''=>by rw [hk _ _ _ _ (by rw [block_of_add];exact hb),e4]
  have f5:∀ o o' o'':Obj,(((w.alloc o).alloc o').alloc o'').cell? ⟨(ad.add (i*6)).block,(ad.add (i*6)).off+5,none⟩=some (.slice S m c):=fun o o' o''=>by rw [hk _ _ _ _ (by rw [block_of_add];exact hb),e5]
  clear hk hal e0 e1 e2 e3 e4 e5
  go_enter Tryz.func175,Tryz.ntmps175
  go_upto_region 4 with fail
  obtain ⟨ba,va,dt,th,ti,ss⟩:=e
  simp only at HS HV HM hm
  rw [lackE_eq]
  simp only
  rw [hm]
  obtain ⟨P,hPP⟩:∃ P:Array Value,P=#[.slice A1 n1 c1,.slice A2 n2 c2,.slice (some ad) n3 c3]:=⟨_,rfl⟩
  obtain ⟨E,hEE⟩:∃ E:Array Value,E=#[.bool ba,.int .i64 va,.bool dt,.bool th,.bool ti,.slice S m c]:=⟨_,rfl⟩
  obtain ⟨wA,hwA⟩:∃ x:World,x=lkW w P E i:=⟨_,rfl⟩
  have S0:Hid (LkSt w P E i [] wA):=Lib.hid (hwA ▸ LkSt.start w P E i)
  unfold lkW at hwA
  rw [hPP,hEE] at hwA
  rw [← hwA]
  obtain ⟨X1,hX1⟩:∃ X,lk1 1 i va=X:=⟨_,rfl⟩
  obtain ⟨X2,hX2⟩:∃ X,lk2 1 i th=X:=⟨_,rfl⟩
  obtain ⟨X3,hX3⟩:∃ X,lk3 1 i ti m=X:=⟨_,rfl⟩
  have LEN:Hid (X1.length≤1∧X2.length≤1∧X3.length≤1):=Lib.hid (hX1 ▸ hX2 ▸ hX3 ▸ ⟨lk1_len _ _ _,lk2_len _ _ _,lk3_len _ _ _ _⟩)
  rw [hX1,hX2,hX3]
  obtain ⟨H,hH⟩:∃ H,X1++(X2++X3)=H:=⟨_,rfl⟩
  rw [hH]
  have HH:=Lib.hid hH
  have LH:Hid (H.length≤3):=Lib.hid (by have:=LEN.out;rw [← hH];simp;omega)
  obtain ⟨Fl,hFl⟩:∃ Fl,lackStop 1 i (fun c=>longestN p.evs i c)=Fl:=⟨_,rfl⟩
  rw [hFl]
  have HFL:=Lib.hid hFl
  have HLE:Hid (lackE 1 p i ⟨ba,va,dt,th,ti,ss⟩=H++ss.flatMap Fl):=Lib.hid (by rw [lackE_eq];simp only;rw [hm,hX1,hX2,hX3,hH,hFl])
  clear hH hFl
  have HX1:=Lib.hid hX1
  have HX2:=Lib.hid hX2
  have HX3:=Lib.hid hX3
  have x1:wA.cell? ⟨w.heap.size+1+1+1,1,none⟩=some (.int .i64 va):=by have:=S0.out.be.cell 1;rw [hEE] at this;exact this
  have HPP:=Lib.hid hPP
  have HEE:=Lib.hid hEE
  clear hwA hX1 hX2 hX3 f0 f1 f2 f3 f4 f5 hm hPP hEE
  go_upto_if 29 with fail
  go_cut [] (fun wx=>LkSt w P E i X1 wx)
  case first =>
    by_cases h0:va=0
    · subst h0
      go_wp2_with (first|(go_at_call 274;refine (hasS_1 _ _).mono ?_;rintro e' w1 ⟨rfl,hb1⟩;have S1:=Lib.hid (S0.out.after hb1))|(go_at_call 214;refine (S1.out.ask _ _ _ (by have:=LEN.out;first|(simp;done)|(simp;omega))).mono ?_;rintro e' w2 hp;obtain rfl:=hp.1;have S2:=Lib.hid (S1.out.said hp);clear hp))
      go_meet
      rw [← HX1.out]
      exact S2.out
    · have d1:(va == 0)=false:=by simpa using h0
      clear h0
      go_wp2_with fail
      go_meet
      rw [← HX1.out]
      unfold lk1
      rw [if_neg (by simpa using d1)]
      exact S0.out
  case rest =>
  obtain ⟨wB,hwB⟩:∃ x:World,x=wc:=⟨_,rfl⟩
  subst hwB
  clear S0 x1
  have S0:=Lib.hid hcut
  clear hcut
  have x3:wB.cell? ⟨w.heap.size+1+1+1,3,none⟩=some (.bool th):=by have:=S0.out.be.cell 3;rw [HEE.out] at this;exact this
  go_upto_if 36 with fail
  go_cut [] (fun wx=>LkSt w P E i (X1++X2) wx)
  case first =>
    cases th
    · go_wp2_with fail
      go_meet
      rw [← HX2.out]
      have:X1++lk2 1 i false=X1:=by simp [lk2]
      rw [this]
      exact S0.out
    · go_wp2_with (first|(go_at_call 274;refine (hasS_1 _ _).mono ?_;rintro e' w1 ⟨rfl,hb1⟩;have S1:=Lib.hid (S0.out.after hb1))|(go_at_call 214;refine (S1.out.ask _ _ _ (by have:=LEN.out;first|(simp;done)|(simp;omega))).mono ?_;rintro e' w2 hp;obtain rfl:=hp.1;have S2:=Lib.hid (S1.out.said hp);clear hp))
      go_meet
      rw [← HX2.out]
      exact S2.out
  case rest =>
  obtain ⟨wC,hwC⟩:∃ x:World,x=wc:=⟨_,rfl⟩
  subst hwC
  clear S0 x3
  have S0:=Lib.hid hcut
  clear hcut
  have x4:wC.cell? ⟨w.heap.size+1+1+1,4,none⟩=some (.bool ti):=by have:=S0.out.be.cell 4;rw [HEE.out] at this;exact this
  have x5:wC.cell? ⟨w.heap.size+1+1+1,5,none⟩=some (.slice S m c):=by have:=S0.out.be.cell 5;rw [HEE.out] at this;exact this
  go_upto_if 42 with fail
  go_cut [] (fun wx=>LkSt w P E i (X1++X2++X3) wx)
  case first =>
    cases ti
    · cases m
      · go_wp2_with (first|(go_at_call 274;refine (hasS_1 _ _).mono ?_;rintro e' w1 ⟨rfl,hb1⟩;have S1:=Lib.hid (S0.out.after hb1))|(go_at_call 214;refine (S1.out.ask _ _ _ (by have:=LEN.out;first|(simp;done)|(simp;omega))).mono ?_;rintro e' w2 hp;obtain rfl:=hp.1;have S2:=Lib.hid (S1.out.said hp);clear hp))
        go_meet
        rw [← HX3.out]
        exact S2.out
      · rename_i m'
        have d1:(((m':Int)+1) == 0)=false:=by simp;omega
        have d2:(((m'+1:Nat):Int) == 0)=false:=by simp;omega
        go_wp2_with fail
        go_meet
        rw [← HX3.out]
        have:X1++X2++lk3 1 i false (m'+1)=X1++X2:=by simp [lk3]
        rw [this]
        exact S0.out
    · go_wp2_with (first|(go_at_call 274;refine (hasS_1 _ _).mono ?_;rintro e' w1 ⟨rfl,hb1⟩;have S1:=Lib.hid (S0.out.after hb1))|(go_at_call 214;refine (S1.out.ask _ _ _ (by have:=LEN.out;first|(simp;done)|(simp;omega))).mono ?_;rintro e' w2 hp;obtain rfl:=hp.1;have S2:=Lib.hid (S1.out.said hp);clear hp))
      go_meet
      rw [← HX3.out]
      exact S2.out
  case rest =>
  obtain ⟨wD,hwD⟩:∃ x:World,x=wc:=⟨_,rfl⟩
  subst hwD
  clear S0 x4 x5
  have S0:=Lib.hid hcut
  clear hcut
  have x5:wD.cell? ⟨w.heap.size+1+1+1,5,none⟩=some (.slice S m c):=by have:=S0.out.be.cell 5;rw [HEE.out] at this;exact this
  rw [List.append_assoc,HH.out] at S0
  clear LEN HX1 HX2 HX3
  go_wp2_with fail
  go_loopw [58] (fun u wr=>∃ k:Nat,k≤m∧u=.int .i64 k∧LkSt w P E i (H++(ss.take k).flatMap Fl) wr) (fun u _=>m - (intOf u).toNat)
  case atStart=>exact ⟨0,Nat.zero_le _,rfl,by simpa using S0.out⟩
  case round =>
    clear x5 S0
    obtain ⟨k,hk,rfl,hst⟩:=hrel
    have S0:=Lib.hid hst
    have hbw:w.heap.size+3 < wr.heap.size:=hst.be.lt
    have x5:wr.cell? ⟨w.heap.size+1+1+1,5,none⟩=some (.slice S m c):=by have:=hst.be.cell 5;rw [HEE.out] at this;exact this
    clear hst
    by_cases hlt:k < m
    · have hk2:k < ss.length:=by have:=HM.out;omega
      have LL:Hid ((H++(ss.take k).flatMap Fl).length≤200):=Lib.hid (by
        have a:=LH.out
        have b:((ss.take k).flatMap Fl).length≤3*(ss.take k).length:=by rw [← HFL.out];exact flat_len _ _ _ _
        have c:(ss.take k).length=k:=by simp;omega
        simp only [List.length_append];omega)
      obtain ⟨ad2,hA2,hb2,y0,y1,y2,y3,y4⟩:=(HS.out.below S0.out.bel).stp hk2
      have hsn:=flat_snoc 1 i (fun c=>longestN p.evs i c) ss k hk2
      rw [HFL.out] at hsn
      have hvs:=HV.out k hk2
      simp only at hvs
      obtain ⟨⟨q0,q1,q2,q3,q4⟩,hsj⟩:∃ s,ss[k]=s:=⟨_,rfl⟩
      rw [hsj] at hsn y0 y1 y2 y3 y4 hvs
      simp only at y0 y1 y2 y3 y4 hvs
      have KSN:=Lib.hid hsn
      obtain ⟨v1,v2,v3,v4,v5⟩:=hvs
      have KRI:=Lib.hid (fun w'=>pright_1 q2 w' v3)
      have KGR:=Lib.hid (fun w'=>pgrace_1 q3 w' v4)
      have KHO:=Lib.hid (fun L w'=>phold_1 q4 L w' v5)
      have KSY:=Lib.hid (fun w'=>psym_1 q0 q1 w' v1 v2)
      clear hsn hsj v1 v2 v3 v4 v5 hk2
      subst hA2
      obtain ⟨L0,hL0⟩:∃ L,H++(ss.take k).flatMap Fl=L:=⟨_,rfl⟩
      rw [hL0] at S0 LL
      have HL0:=Lib.hid hL0
      clear hL0
      have z0:∀ o,(wr.alloc o).cell? (ad2.add (k*5))=some (.int .i64 q0):=fun o=>by rw [World.cell?_alloc_lt _ _ _ (by rw [block_of_add];omega),y0]
      have z1:∀ o,(wr.alloc o).cell? ⟨(ad2.add (k*5)).block,(ad2.add (k*5)).off+1,none⟩=some (.int .i64 q1):=fun o=>by rw [World.cell?_alloc_lt _ _ _ (by rw [block_of_add];omega),y1]
      have T0:=Lib.hid (Blk.new wr 100 #[.int .i64 q0,.int .i64 q1,.int .i64 q2,.int .i64 q3,.int .i64 q4])
      have S0:=Lib.hid (S0.out.after (bel_alloc (Below.refl _ _) (.cells #[.int .i64 q0,.int .i64 q1,.int .i64 q2,.int .i64 q3,.int .i64 q4] 100)))
      cases hp:pOk 1 q0 q1 with
      | false =>
        rw [hp] at KSY
        go_wp2_with (first|(go_at_call 280;refine (KSY.out _).mono ?_;rintro e' w1 ⟨rfl,hb1⟩;have S0:=Lib.hid (S0.out.after hb1);have T0:=Lib.hid (T0.out.after hb1);clear hb1;have x0:w1.cell? ⟨wr.heap.size,0,none⟩=some (.int .i64 q0):=T0.out.cell 0;have x1:w1.cell? ⟨wr.heap.size,1,none⟩=some (.int .i64 q1):=T0.out.cell 1;have x2:w1.cell? ⟨wr.heap.size,2,none⟩=some (.int .i64 q2):=T0.out.cell 2;have x3:w1.cell? ⟨wr.heap.size,3,none⟩=some (.int .i64 q3):=T0.out.cell 3;have x4:w1.cell? ⟨wr.heap.size,4,none⟩=some (.int .i64 q4):=T0.out.cell 4)|(go_at_call 279;refine (KRI.out _).mono ?_;rintro e' w1 ⟨rfl,hb1⟩;have S0:=Lib.hid (S0.out.after hb1);have T0:=Lib.hid (T0.out.after hb1);clear hb1;have x0:w1.cell? ⟨wr.heap.size,0,none⟩=some (.int .i64 q0):=T0.out.cell 0;have x1:w1.cell? ⟨wr.heap.size,1,none⟩=some (.int .i64 q1):=T0.out.cell 1;have x2:w1.cell? ⟨wr.heap.size,2,none⟩=some (.int .i64 q2):=T0.out.cell 2;have x3:w1.cell? ⟨wr.heap.size,3,none⟩=some (.int .i64 q3):=T0.out.cell 3;have x4:w1.cell? ⟨wr.heap.size,4,none⟩=some (.int .i64 q4):=T0.out.cell 4)|(go_at_call 273;refine (KGR.out _).mono ?_;rintro e' w1 ⟨rfl,hb1⟩;have S0:=Lib.hid (S0.out.after hb1);have T0:=Lib.hid (T0.out.after hb1);clear hb1;have x0:w1.cell? ⟨wr.heap.size,0,none⟩=some (.int .i64 q0):=T0.out.cell 0;have x1:w1.cell? ⟨wr.heap.size,1,none⟩=some (.int .i64 q1):=T0.out.cell 1;have x2:w1.cell? ⟨wr.heap.size,2,none⟩=some (.int .i64 q2):=T0.out.cell 2;have x3:w1.cell? ⟨wr.heap.size,3,none⟩=some (.int .i64 q3):=T0.out.cell 3;have x4:w1.cell? ⟨wr.heap.size,4,none⟩=some (.int .i64 q4):=T0.out.cell 4)|(go_at_call 214;refine (S0.out.ask _ _ _ (by have:=LL.out;first|(simp;done)|(simp;omega)|(simp [lkIf];done)|(simp [lkIf];omega)|(have:=lkIf_len (okR 1 q2) i q0 2;have:=lkIf_len (okG 1 q3) i q0 3;simp;omega))).mono ?_;rintro e' w1 hp;obtain rfl:=hp.1;have T0:=Lib.hid (hp.2.2.2.2 _ _ _ T0.out (by omega) (by decide));have S0:=Lib.hid (S0.out.said hp);clear hp;have x0:w1.cell? ⟨wr.heap.size,0,none⟩=some (.int .i64 q0):=T0.out.cell 0;have x1:w1.cell? ⟨wr.heap.size,1,none⟩=some (.int .i64 q1):=T0.out.cell 1;have x2:w1.cell? ⟨wr.heap.size,2,none⟩=some (.int .i64 q2):=T0.out.cell 2;have x3:w1.cell? ⟨wr.heap.size,3,none⟩=some (.int .i64 q3):=T0.out.cell 3;have x4:w1.cell? ⟨wr.heap.size,4,none⟩=some (.int .i64 q4):=T0.out.cell 4))
        go_roundw
        case rel=>
          refine ⟨k+1,by omega,by go_num,?_⟩
          rw [KSN.out,← List.append_assoc,HL0.out,← HFL.out]
          have:lackStop 1 i (fun c=>longestN p.evs i c) (q0,q1,q2,q3,q4)=lkIf false i q0 1:=by unfold lackStop;rw [if_pos (by simpa using hp)];rfl
          rw [this]
          exact S0.out
        case measure=>simp [intOf];omega
      | true =>
        rw [hp] at KSY
        go_upto_region 22 with (first|(go_at_call 280;refine (KSY.out _).mono ?_;rintro e' w1 ⟨rfl,hb1⟩;have S0:=Lib.hid (S0.out.after hb1);have T0:=Lib.hid (T0.out.after hb1);clear hb1;have x0:w1.cell? ⟨wr.heap.size,0,none⟩=some (.int .i64 q0):=T0.out.cell 0;have x1:w1.cell? ⟨wr.heap.size,1,none⟩=some (.int .i64 q1):=T0.out.cell 1;have x2:w1.cell? ⟨wr.heap.size,2,none⟩=some (.int .i64 q2):=T0.out.cell 2;have x3:w1.cell? ⟨wr.heap.size,3,none⟩=some (.int .i64 q3):=T0.out.cell 3;have x4:w1.cell? ⟨wr.heap.size,4,none⟩=some (.int .i64 q4):=T0.out.cell 4)|(go_at_call 279;refine (KRI.out _).mono ?_;rintro e' w1 ⟨rfl,hb1⟩;have S0:=Lib.hid (S0.out.after hb1);have T0:=Lib.hid (T0.out.after hb1);clear hb1;have x0:w1.cell? ⟨wr.heap.size,0,none⟩=some (.int .i64 q0):=T0.out.cell 0;have x1:w1.cell? ⟨wr.heap.size,1,none⟩=some (.int .i64 q1):=T0.out.cell 1;have x2:w1.cell? ⟨wr.heap.size,2,none⟩=some (.int .i64 q2):=T0.out.cell 2;have x3:w1.cell? ⟨wr.heap.size,3,none⟩=some (.int .i64 q3):=T0.out.cell 3;have x4:w1.cell? ⟨wr.heap.size,4,none⟩=some (.int .i64 q4):=T0.out.cell 4)|(go_at_call 273;refine (KGR.out _).mono ?_;rintro e' w1 ⟨rfl,hb1⟩;have S0:=Lib.hid (S0.out.after hb1);have T0:=Lib.hid (T0.out.after hb1);clear hb1;have x0:w1.cell? ⟨wr.heap.size,0,none⟩=some (.int .i64 q0):=T0.out.cell 0;have x1:w1.cell? ⟨wr.heap.size,1,none⟩=some (.int .i64 q1):=T0.out.cell 1;have x2:w1.cell? ⟨wr.heap.size,2,none⟩=some (.int .i64 q2):=T0.out.cell 2;have x3:w1.cell? ⟨wr.heap.size,3,none⟩=some (.int .i64 q3):=T0.out.cell 3;have x4:w1.cell? ⟨wr.heap.size,4,none⟩=some (.int .i64 q4):=T0.out.cell 4)|(go_at_call 214;refine (S0.out.ask _ _ _ (by have:=LL.out;first|(simp;done)|(simp;omega)|(simp [lkIf];done)|(simp [lkIf];omega)|(have:=lkIf_len (okR 1 q2) i q0 2;have:=lkIf_len (okG 1 q3) i q0 3;simp;omega))).mono ?_;rintro e' w1 hp;obtain rfl:=hp.1;have T0:=Lib.hid (hp.2.2.2.2 _ _ _ T0.out (by omega) (by decide));have S0:=Lib.hid (S0.out.said hp);clear hp;have x0:w1.cell? ⟨wr.heap.size,0,none⟩=some (.int .i64 q0):=T0.out.cell 0;have x1:w1.cell? ⟨wr.heap.size,1,none⟩=some (.int .i64 q1):=T0.out.cell 1;have x2:w1.cell? ⟨wr.heap.size,2,none⟩=some (.int .i64 q2):=T0.out.cell 2;have x3:w1.cell? ⟨wr.heap.size,3,none⟩=some (.int .i64 q3):=T0.out.cell 3;have x4:w1.cell? ⟨wr.heap.size,4,none⟩=some (.int .i64 q4):=T0.out.cell 4))
        have p0:=S0.out.bp.cell 0
        have p1:=S0.out.bp.cell 1
        have p2:=S0.out.bp.cell 2
        rw [HPP.out] at p0 p1 p2
        have i0:=S0.out.bi.cell 0
        have hs0:w.heap.size+3 < w1.heap.size:=S0.out.be.lt
        have ht0:wr.heap.size < w1.heap.size:=T0.out.lt
        have hs1:w.heap.size < w1.heap.size:=by omega
        have hs2:w.heap.size+1 < w1.heap.size:=by omega
        have HA:=aheadH_1
        obtain ⟨p0,p1,p2,i0⟩:w1.cell? ⟨w.heap.size,0,none⟩=some (.slice A1 n1 c1)∧w1.cell? ⟨w.heap.size,1,none⟩=some (.slice A2 n2 c2)∧w1.cell? ⟨w.heap.size,2,none⟩=some (.slice (some ad) n3 c3)∧w1.cell? ⟨w.heap.size+1,0,none⟩=some (.int .i64 i):=⟨p0,p1,p2,i0⟩
        refine wp_region_calm w1 (by kernel_rfl) (by kernel_rfl) (Below.refl _ _) ?_
        repeat
          first
          | go_big_quiet_skip
          | (go_big_quiet_want
             apply calm_enter (f:=144)
             focus
               intro w' hw'
               go_simp
               first|done|rfl|exact rfl
             focus
               intro w' hw'
               have hw2:Below _ _ w':=hw'
               exact HL.out _ w' (S0.out.after hw2).bel
             (try simp only [Act.put,List.setIfInBounds_toArray,List.set_cons_zero,List.set_cons_succ])
             go_big_quiet_on)
          | (go_big_quiet_want
             apply calm_enter (f:=275)
             focus
               intro w' hw'
               go_simp
               first|done|rfl|exact rfl
             focus
               intro w' hw'
               have hw2:Below _ _ w':=hw'
               exact KHO.out _ w'
             (try simp only [Act.put,List.setIfInBounds_toArray,List.set_cons_zero,List.set_cons_succ])
             go_big_quiet_on)
          | (go_big_quiet_want
             apply calm_val
             focus
               intro w' hw'
               obtain ⟨bc,bp⟩:=calm_cell hw'
               go_simp
               first|done|rfl|exact rfl
             (try simp only [Act.put,List.setIfInBounds_toArray,List.set_cons_zero,List.set_cons_succ])
             go_big_quiet_on)
        refine wpQuiet_nil ?_
        intro w4 hw4
        have hw5:Below _ _ w4:=hw4
        have S0:=Lib.hid (S0.out.after hw5)
        have T0:=Lib.hid (T0.out.after hw5)
        have x0:w4.cell? ⟨wr.heap.size,0,none⟩=some (.int .i64 q0):=T0.out.cell 0
        clear hw4 hw5 p0 p1 p2 i0
        go_wp2_with (go_at_call 214;refine (S0.out.ask _ _ _ (by have:=LL.out;first|(simp;done)|(simp;omega)|(simp [lkIf];done)|(simp [lkIf];omega)|(have:=lkIf_len (okR 1 q2) i q0 2;have:=lkIf_len (okG 1 q3) i q0 3;simp;omega))).mono ?_;rintro e' w1 hp;obtain rfl:=hp.1;have T0:=Lib.hid (hp.2.2.2.2 _ _ _ T0.out (by omega) (by decide));have S0:=Lib.hid (S0.out.said hp);clear hp;have x0:w1.cell? ⟨wr.heap.size,0,none⟩=some (.int .i64 q0):=T0.out.cell 0;have x1:w1.cell? ⟨wr.heap.size,1,none⟩=some (.int .i64 q1):=T0.out.cell 1;have x2:w1.cell? ⟨wr.heap.size,2,none⟩=some (.int .i64 q2):=T0.out.cell 2;have x3:w1.cell? ⟨wr.heap.size,3,none⟩=some (.int .i64 q3):=T0.out.cell 3;have x4:w1.cell? ⟨wr.heap.size,4,none⟩=some (.int .i64 q4):=T0.out.cell 4)
        go_roundw
        case rel =>
          refine ⟨k+1,by omega,by go_num,?_⟩
          rw [KSN.out,← List.append_assoc,HL0.out,← HFL.out]
          have:lackStop 1 i (fun c=>longestN p.evs i c) (q0,q1,q2,q3,q4)=lkIf (okR 1 q2) i q0 2++(lkIf (okG 1 q3) i q0 3++lkIf (okH 1 q4 (longestN p.evs i q0)) i q0 4):=by unfold lackStop;rw [if_neg (by simpa using hp)]
          rw [this,← List.append_assoc,← List.append_assoc]
          exact S0.out
        case measure=>simp [intOf];omega
    · have HE4:(ss.take k)=ss:=List.take_of_length_le (by have:=HM.out;omega)
      rw [HE4] at S0
      obtain ⟨Q,d,hQ,hown⟩:=S0.out.say
      have z0:wr.cell? ⟨w.heap.size+1+1,0,none⟩=some (.slice Q (H++ss.flatMap Fl).length d):=hQ.cell 0
      have HOW:=Lib.hid hown
      obtain ⟨N,hN⟩:∃ N,(H++ss.flatMap Fl).length=N:=⟨_,rfl⟩
      rw [hN] at z0
      have HNN:=Lib.hid hN
      clear hQ hown hN
      go_wp2_with fail
      go_ret
      obtain ⟨A',c',hv,hrd,hat,hcap⟩:=rd_of_own (l:=(H++ss.flatMap Fl).map lckCells) HOW.out (lck_len _) rfl (by simp)
      injection hv with hv1 hv2 hv3
      subst hv1
      rw [HLE.out]
      exact ⟨Q,d,by rw [HNN.out];rfl,S0.out.bel,hrd,fun ad e=>by have:=(hat ad e).2;omega,by rw [hv3];exact hcap⟩
end Go.Proofs.YtgelfflighgajaaGreatDoor
