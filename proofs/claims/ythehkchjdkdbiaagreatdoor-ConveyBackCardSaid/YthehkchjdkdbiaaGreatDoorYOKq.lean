/- What becomes of an event (the program's one), Reduce. -/
import Derived.Test.YthehkchjdkdbiaaGreatDoorYLKq
import Derived.Test.YthehkchjdkdbiaaGreatDoorYTKq
set_option maxHeartbeats 8000000
set_option maxRecDepth 100000
set_option linter.unusedVariables false
set_option linter.unusedSimpArgs false
namespace Go.Proofs.YthehkchjdkdbiaaGreatDoor
open Go.RowKit
theorem atq (s:Int) (cs:List (Int×Int×Bool)) (st:List Int) (i:Nat) (e:Ev) (h0:e.stops=[]) :
  jI jE 0 Tryz.prog 185 [.ag [.ls 3 (cs.map aF),.ls 1 (st.map eInt),.sc (.bool (!aO s 7)),.fn 120 [.pr [.sc (.bool (aO s 7))],.pr [.sc (.bool (aO s 8))]],.fn 119 [.pr [.sc (.int .u8 s)]],.fn 121 [.pr [.sc (.int .u8 s)]],.fn 122 [.pr [.sc (.int .u8 s)]]],.pt 0 0 0,.sc (.bool (decide (i=0)))] [(0,.box 90 (dI e))] 1 (.ag (NR (AZ (aB s) i e) (yS (aB s) e.stops) (yR (aB s) e.stops)))
   [(0,.box 90 (UF (yQ (aB s) i e) 1)),(1,.row 69 5 ((l9 (aB s) e.stops).map aC)),(2,.box 276 (NR (AZ (aB s) i e) (yS (aB s) e.stops) (yR (aB s) e.stops)))] 3:=by
 obtain ⟨b1,v,d3,t3,t,l⟩:=e
 dsimp only at h0
 subst h0
 have h2:=aom b1 v d3 t3 t (aO s 7) (aO s 8) (.sc (.slice none 0 0)) 0 [] (.inr rfl)
 have e1:AZ (aB s) i ⟨b1,v,d3,t3,t,[]⟩=(if t=true∧aO s 7=false then 7 else if t=false∧aO s 8=false then 8 else 0):=by
  unfold AZ aB
  dsimp only
  rw [if_pos (show ([]:List Stp).length=0 from rfl)]
  cases t<;>cases aO s 7<;>cases aO s 8<;>rfl
 have e2:yQ (aB s) i ⟨b1,v,d3,t3,t,[]⟩=⟨b1,v,d3,t3,(if t=true∧aO s 7=false then false else if t=false∧aO s 8=false then true else t),[]⟩:=rfl
 rw [e1,e2]
 obtain ⟨Z,hZ⟩:∃ z,(if t=true∧aO s 7=false then 7 else if t=false∧aO s 8=false then 8 else 0:Int)=z:=⟨_,rfl⟩
 obtain ⟨T,hT⟩:∃ z,(if t=true∧aO s 7=false then false else if t=false∧aO s 8=false then true else t)=z:=⟨_,rfl⟩
 rw [hZ,hT] at h2
 rw [hZ,hT]
 refine jI.intro kV Tryz.func185 rfl Tryz.ntmps185 (bU rfl) rfl fun w0 F0 fp pg hB=>?_
 refine gB ?_
 refine ajz ?_
 refine WL.vl rfl (Ad rfl) ?_
 refine ajz ?_
 refine WL.qo (dL _) [0] rfl rfl (ak Tryz.func120 rfl rfl) h2 rfl rfl rfl ⟨⟨rfl,rfl,rfl⟩,trivial⟩ rfl rfl rfl rfl ?_
 refine ajz ?_
 refine aqy ?_
 refine W.tr (σ':=⟨[(6,.pt 2 0 0)],[(0,.box 90 [.sc (.bool b1),.sc (.int .i64 v),.sc (.bool d3),.sc (.bool t3),.sc (.bool T),.sl 1]),(1,.row 69 5 []),(2,.box 276 [.sc (.int .i64 Z),.ls 8 [],.ls 1 []])],3⟩) (kL (fun q=>bif Nat.beq q 1 then 4 else q) qc rfl) ?_
 exact W.ret (Au rfl rfl rfl rfl rfl)
theorem atr (s:Int) (hs:1≤s∧s≤4) (cs:List (Int×Int×Bool)) (st:List Int) (i:Nat) (e:Ev) (h0:e.stops≠[]) (ha:e.stops.Pairwise fun x y=>x.1 < y.1) (h14:e.stops.length≤14) (hb:∀ k (h:k < e.stops.length),(1≤e.stops[k].1∧e.stops[k].1≤14)∧(0≤e.stops[k].2.1∧e.stops[k].2.1≤18)∧(0≤e.stops[k].2.2.1∧e.stops[k].2.2.1≤3)∧(0≤e.stops[k].2.2.2.1∧e.stops[k].2.2.2.1≤4)) :
  jI jE 0 Tryz.prog 185 [.ag [.ls 3 (cs.map aF),.ls 1 (st.map eInt),.sc (.bool (!aO s 7)),.fn 120 [.pr [.sc (.bool (aO s 7))],.pr [.sc (.bool (aO s 8))]],.fn 119 [.pr [.sc (.int .u8 s)]],.fn 121 [.pr [.sc (.int .u8 s)]],.fn 122 [.pr [.sc (.int .u8 s)]]],.pt 0 0 0,.sc (.bool (decide (i=0)))] [(0,.box 90 (dI e))] 1 (.ag (NR (AZ (aB s) i e) (yS (aB s) e.stops) (yR (aB s) e.stops)))
   [(0,.box 90 (UF (yQ (aB s) i e) 1)),(1,.row 69 5 ((l9 (aB s) e.stops).map aC)),(2,.box 276 (NR (AZ (aB s) i e) (yS (aB s) e.stops) (yR (aB s) e.stops)))] 3:=by
 have hch:=aol s hs e.stops au fun k h=>⟨(hb k h).1,(hb k h).2.1⟩
 have h1:(aB s).bare i=(!decide (i=0) && aO s 7):=by
  show (decide (0 < i) && aO s 7)=_
  cases i<;>simp
 have hl0:¬ e.stops.length=0:=fun h=>h0 (oN h)
 have e1:AZ (aB s) i e=0:=if_neg hl0
 have hnl:=xM (aB s) e.stops
 have hsort:=acO (l9 (aB s) e.stops) (Ak zq ha) au
 have hSl:(e.stops.map aC).length=e.stops.length:=aH _
 have hKl:((e.stops.map (aB s).ch).map Iw).length=e.stops.length:=by rw [aH,aH]
 have hKa:∀ k (h:k < e.stops.length),((e.stops.map (aB s).ch).map Iw)[((k:Nat):Int).toNat]?=some (Iw ((aB s).ch e.stops[k])):=fun k h=>by rw [fO,bT,bT,aI h];rfl
 have hSa:∀ k (h:k < e.stops.length),(e.stops.map aC)[((k:Nat):Int).toNat]?=some (aC e.stops[k]):=fun k h=>y7 h
 have e2:VQ (aB s) i e=(if (l9 (aB s) e.stops).length=0 then (aB s).bare i else e.tie):=if_neg hl0
 have e3:UF (yQ (aB s) i e) 1=[.sc (.bool e.bar),.sc (.int .i64 e.val),.sc (.bool e.dot),.sc (.bool e.three),.sc (.bool (if (l9 (aB s) e.stops).length=0 then (aB s).bare i else e.tie)),.sl 1]:=by rw [← e2];rfl
 rw [e1,e3,h1]
 have e4:dI e=[.sc (.bool e.bar),.sc (.int .i64 e.val),.sc (.bool e.dot),.sc (.bool e.three),.sc (.bool e.tie),.ls 5 (e.stops.map aC)]:=rfl
 rw [e4]
 obtain ⟨SS,hSS⟩:∃ z,e.stops.map aC=z:=⟨_,rfl⟩
 obtain ⟨KK,hKK⟩:∃ z,(e.stops.map (aB s).ch).map Iw=z:=⟨_,rfl⟩
 rw [hSS] at hSl hSa hch ⊢
 rw [hKK] at hKl hKa hch
 obtain ⟨fi,hfi⟩:∃ z,decide (i=0)=z:=⟨_,rfl⟩
 rw [hfi]
 obtain ⟨h7,hh7⟩:∃ z,aO s 7=z:=⟨_,rfl⟩
 rw [hh7]
 refine jI.intro kV Tryz.func185 rfl Tryz.ntmps185 (bU rfl) rfl fun w0 F0 fp pg hB=>?_
 refine gB ?_
 refine uU ?_
 refine WL.vl rfl (WV.yU (dL _) rfl (ak Tryz.func119 rfl rfl) rfl rfl rfl rfl rfl hch.g) ?_
 refine aqu ?_
 refine xk ?_
 refine W.loop (fun k:Nat=>k≤e.stops.length) (fun k=>⟨[(1,.pt 0 0 0),(2,.sc (.bool fi)),(3,.pt 1 0 0),(6,.pt 2 0 0),(7,.pt 3 0 0),(8,.ls 5 SS),(34,.ls 6 KK),(35,.sc (.int .i64 KK.length)),(36,.sc (.int .i64 k))],[(0,.box 90 [.sc (.bool e.bar),.sc (.int .i64 e.val),.sc (.bool e.dot),.sc (.bool e.three),.sc (.bool e.tie),.sl 4]),(1,.box 203 [.ls 3 (cs.map aF),.ls 1 (st.map eInt),.sc (.bool (!h7)),.fn 120 [.pr [.sc (.bool (h7))],.pr [.sc (.bool (aO s 8))]],.fn 119 [.pr [.sc (.int .u8 s)]],.fn 121 [.pr [.sc (.int .u8 s)]],.fn 122 [.pr [.sc (.int .u8 s)]]]),(2,.box 276 [.sc (.int .i64 0),.sc (.slice none 0 0),.sc (.slice none 0 0)]),(3,.box 276 [.sc (.int .i64 0),.sl 5,.sl 6]),(4,.row 69 5 ((l9 (aB s) (e.stops.take k)).map aC)),(5,.row 332 8 ((yS (aB s) (e.stops.take k)).map Uf)),(6,.row 4 1 ((yR (aB s) (e.stops.take k)).map eBl))],7⟩) (fun k=>e.stops.length - k) 0 au (zqt id) fun k hk=>?_
 have l1:=xM (aB s) (e.stops.take k)
 have l2:(e.stops.take k).length=k:=by rw [fP];omega
 have l3:((l9 (aB s) (e.stops.take k)).map aC).length=(l9 (aB s) (e.stops.take k)).length:=aH _
 have l4:((yS (aB s) (e.stops.take k)).map Uf).length=k:=by rw [aH,Ja,l2]
 have l5:((yR (aB s) (e.stops.take k)).map eBl).length=k:=by rw [aH,I9,l2]
 by_cases hlt:k < e.stops.length
 ·have n1:=ab7 (aB s) hlt
  have n2:=V9 (aB s) hlt
  have n3:=V8 (aB s) hlt
  have hKk:=hKa k hlt
  have hSk:=hSa k hlt
  obtain ⟨bc,bf,br,bg⟩:=hb k hlt
  have avD:((aB s).ch e.stops[k]).1=e.stops[k]:=rfl
  have avE:((aB s).ch e.stops[k]).2=!qU s e.stops[k].1 e.stops[k].2.1:=rfl
  obtain ⟨R1,hR1⟩:∃ z,(l9 (aB s) (e.stops.take k)).map aC=z:=⟨_,rfl⟩
  obtain ⟨R2,hR2⟩:∃ z,(yS (aB s) (e.stops.take k)).map Uf=z:=⟨_,rfl⟩
  obtain ⟨R3,hR3⟩:∃ z,(yR (aB s) (e.stops.take k)).map eBl=z:=⟨_,rfl⟩
  rw [hR1] at n1 l3 ⊢
  rw [hR2] at n2 l4 ⊢
  rw [hR3] at n3 l5 ⊢
  clear hR1 hR2 hR3
  have h3:=fun hp:qU s e.stops[k].1 e.stops[k].2.1=true=>aon s hs e.stops[k] e.stops[k].1 e.stops[k].2.2.2.2 bc bf br bg hp
  obtain ⟨X,hX⟩:∃ z,e.stops[k]=z:=⟨_,rfl⟩
  rw [hX] at n1 n2 n3 hKk hSk h3 avD avE
  rw [avD] at n1 n2
  rw [avE] at n1 n2 n3
  have hKk:KK[((k:Nat):Int).toNat]?=some (Iw (X,!qU s X.1 X.2.1)):=hKk
  cases hp:qU s X.1 X.2.1 with
  | false =>
   rw [hp] at n1 n2 n3 hKk
   exact aq0
  | true =>
   rw [hp] at n1 n2 n3 hKk
   have h3:=h3 hp
   refine ajT ?_
   refine WL.vl rfl (Ad rfl) ?_
   refine uU ?_
   refine WL.qo (dL _) [8] rfl rfl (ak Tryz.func121 rfl rfl) h3 rfl rfl rfl ⟨⟨rfl,rfl,rfl⟩,trivial⟩ rfl rfl rfl rfl ?_
   exact aqO
 ·obtain rfl:k=e.stops.length:=by omega
  rw [jH] at l3 l4 l5 ⊢
  by_cases hz:(l9 (aB s) e.stops).length=0
  ·rw [if_pos hz]
   cases fi
   all_goals
    refine uU ?_
    refine WL.qo (dL _) [4] rfl rfl (ak Tryz.func238 rfl rfl) hsort rfl rfl rfl ⟨⟨rfl,rfl,rfl⟩,trivial⟩ rfl rfl rfl rfl ?_
    refine ac3 ?_
    cases h7
    all_goals
     first
      | (refine W.tr (σ':=⟨[(6,.pt 2 0 0)],[(0,.box 90 [.sc (.bool e.bar),.sc (.int .i64 e.val),.sc (.bool e.dot),.sc (.bool e.three),.sc (.bool true),.sl 1]),(1,.row 69 5 ((l9 (aB s) e.stops).map aC)),(2,.box 276 (NR 0 (yS (aB s) e.stops) (yR (aB s) e.stops)))],3⟩) (kL (fun q=>bif Nat.beq q 1 then 4 else q) qc rfl) ?_;exact W.ret (Au rfl rfl rfl rfl rfl))
      | (refine W.tr (σ':=⟨[(6,.pt 2 0 0)],[(0,.box 90 [.sc (.bool e.bar),.sc (.int .i64 e.val),.sc (.bool e.dot),.sc (.bool e.three),.sc (.bool false),.sl 1]),(1,.row 69 5 ((l9 (aB s) e.stops).map aC)),(2,.box 276 (NR 0 (yS (aB s) e.stops) (yR (aB s) e.stops)))],3⟩) (kL (fun q=>bif Nat.beq q 1 then 4 else q) qc rfl) ?_;exact W.ret (Au rfl rfl rfl rfl rfl))
  ·rw [if_neg hz]
   refine uU ?_
   refine WL.qo (dL _) [4] rfl rfl (ak Tryz.func238 rfl rfl) hsort rfl rfl rfl ⟨⟨rfl,rfl,rfl⟩,trivial⟩ rfl rfl rfl rfl ?_
   refine ac3 ?_
   refine W.tr (σ':=⟨[(6,.pt 2 0 0)],[(0,.box 90 [.sc (.bool e.bar),.sc (.int .i64 e.val),.sc (.bool e.dot),.sc (.bool e.three),.sc (.bool e.tie),.sl 1]),(1,.row 69 5 ((l9 (aB s) e.stops).map aC)),(2,.box 276 (NR 0 (yS (aB s) e.stops) (yR (aB s) e.stops)))],3⟩) (kL (fun q=>bif Nat.beq q 1 then 4 else q) qc rfl) ?_
   exact jX
end Go.Proofs.YthehkchjdkdbiaaGreatDoor
