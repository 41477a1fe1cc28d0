/- Numbers: the program. -/
import Derived.Test.YthehkchjdkdbiaaGreatDoorRCell2Hq
set_option maxHeartbeats 4000000
set_option maxRecDepth 100000
set_option linter.unusedVariables false
set_option linter.unusedSimpArgs false
namespace Go.Proofs.YthehkchjdkdbiaaGreatDoor
section
open Go.RowKit
theorem rLines_FS (t:List UInt8) (hl:t.length≤1000000):Ctr Tryz.prog 16 [.sc (.string (bs t))] (.tu [.ls 1 ((if (rq_spl 10 t).2=[] then (rq_spl 10 t).1 else (rq_spl 10 t).1++[(rq_spl 10 t).2]).map eTx),.sc (.bool (decide ((rq_spl 10 t).2=[])))]):=by
 obtain ⟨q1,q2,q3,q4⟩:=rq_lines_end t
 obtain ⟨tl,htl⟩:∃ z,(rq_spl 10 t).2=z:=⟨_,rfl⟩
 obtain ⟨lz,hlz⟩:∃ z,(rq_spl 10 t).1=z:=⟨_,rfl⟩
 rw [htl] at q2 q3 q4 ⊢
 rw [hlz] at q1 ⊢
 refine zqe Tryz.func16 Tryz.ntmps16 fun w0 F0=>?_;dsimp only [St.init,number,Nat.reduceAdd]
 refine zqg32 ?_
 refine W.tr (Tr.nil (t:=2) 9 1 rfl rfl) ?_
 refine W.loop (fun k:Nat=>k≤t.length) (fun k=>⟨[(0,.sc (.string (bs t))),(2,.sl 0),(4,.sc (.int .i64 (rq_sF 10 (t.length+1) t k:Nat))),(5,.sc (.int .i64 k))],[(0,.row 9 1 ((rq_sR 10 (t.length+1) t k).map eTx))],1⟩) (fun k=>t.length - k) 0 zqo (zqt id) fun k hk=>?_
 have hf:=rq_sF_le 10 (t.length+1) t k
 have hr:=rq_sR_len 10 (t.length+1) t k
 have hmap:∀ (a:List (List UInt8)) x,((a++[x]).map eTx)=a.map eTx++[eTx x]:=fun a x=>by rw [List.map_append];rfl
 by_cases hlt:k < t.length
 rotate_left
 ·obtain rfl:k=t.length:=by omega
  rw [q1] at hr ⊢
  rw [q2] at hf ⊢
  by_cases h0:tl=[]
  ·subst h0
   rw [if_pos rfl,decide_eq_true rfl,List.length_nil,Nat.sub_zero]
   refine zqg32 ?_
   refine W.tr (Tr.freeze 0 rfl) ?_
   exact W.ret (finN rfl rfl rfl rfl)
  ·rw [if_neg h0,decide_eq_false h0,hmap]
   have hp:0 < tl.length:=List.length_pos_iff.2 h0
   obtain ⟨fr,hfr⟩:∃ z,t.length - tl.length=z:=⟨_,rfl⟩
   rw [hfr] at q4 hf ⊢
   have hc:0≤((fr:Nat):Int)∧((fr:Nat):Int)≤(t.length:Int)∧(t.length:Int)≤(t.length:Int):=by omega
   refine zqg32 ?_
   refine WL.cut rfl rfl hc ?_
   rw [q4]
   refine zqg32 ?_
   refine W.tr (Tr.freeze 2 rfl) ?_
   exact W.ret (finN rfl rfl rfl rfl)
 have ek:((k:Nat):Int).toNat=k:=Int.toNat_natCast k
 have hpe:=rq_sP_ge (c:=10) (e:=t.length+1) hlt zqo
 obtain ⟨by_,hby⟩:∃ z,((t.getD k 0).toNat:Int)=z:=⟨_,rfl⟩
 rw [hby] at hpe
 by_cases hb:by_=10
 ·obtain ⟨h1,h2⟩:=rq_s_hit (hpe.trans (decide_eq_true hb))
  obtain ⟨fr,hfr⟩:∃ z,rq_sF 10 (t.length+1) t k=z:=⟨_,rfl⟩
  rw [hfr] at hf h2 ⊢
  have hc:0≤((fr:Nat):Int)∧((fr:Nat):Int)≤(k:Int)∧(k:Int)≤(t.length:Int):=by omega
  refine zqg32 ?_
  refine WL.six rfl rfl ⟨by omega,by omega⟩ ?_
  simp only [ek,hby]
  refine zqg32 ?_
  refine WL.cut rfl rfl hc ?_
  refine zqg32 ?_
  refine ⟨k+1,by omega,by omega,?_⟩
  rw [h1,h2,hmap]
  exact (zqu (fun q=>bif Nat.beq q 0 then 2 else q) (by repeat (first|exact trivial|refine ⟨⟨?_,?_,?_⟩,?_⟩|rfl|exact congrArg (fun q=>some (AO.row _ _ q)) (by first|rfl|(simp;done)|(simp [eInt];done)|(simp [eLk];done)))) rfl)
 ·obtain ⟨h1,h2⟩:=rq_s_no (hpe.trans (decide_eq_false hb))
  obtain ⟨fr,hfr⟩:∃ z,rq_sF 10 (t.length+1) t k=z:=⟨_,rfl⟩
  rw [hfr] at hf h1 ⊢
  refine zqg32 ?_
  refine WL.six rfl rfl ⟨by omega,by omega⟩ ?_
  simp only [ek,hby]
  refine zqg32 ?_
  refine ⟨k+1,by omega,by omega,?_⟩
  rw [h1,h2]
  exact (zqu (fun q=>q) (by repeat (first|exact trivial|refine ⟨⟨?_,?_,?_⟩,?_⟩|rfl|exact congrArg (fun q=>some (AO.row _ _ q)) (by first|rfl|(simp;done)|(simp [eInt];done)|(simp [eLk];done)))) rfl)
theorem rq_numG_all:∀ (w:List UInt8)(n:Nat),(∀ b∈w,48≤b.toNat∧b.toNat≤57)→rq_numG n w=some (w.foldl (fun a b=>10*a+(b.toNat-48)) n)
 | [],n,_=>rfl
 | b::r,n,h=>by
  rw [rq_numG,if_pos (h b (by simp)),rq_numG_all r _ fun x hx=>h x (by simp [hx])];rfl
theorem rq_numG_bad:∀ (w:List UInt8) (n:Nat) (k:Nat) (hk:k<w.length),¬ (48≤w[k].toNat∧w[k].toNat≤57)→rq_numG n w=none
 | b::r,n,0,_,h=>by rw [rq_numG,if_neg (by simpa using h)]
 | b::r,n,k+1,hk,h=>by
  rw [rq_numG]
  split
  ·exact rq_numG_bad r _ k (by simpa using hk) (by simpa using h)
  ·rfl
def rq_valN (w:List UInt8)(k:Nat):Nat:=(w.take k).foldl (fun a b=>10*a+(b.toNat-48)) 0
theorem rq_valN_succ {w:List UInt8} {k:Nat} (hk:k<w.length):rq_valN w (k+1)=10*rq_valN w k+(w[k].toNat-48):=by
 unfold rq_valN
 rw [List.take_succ_eq_append_getElem hk,List.foldl_append];rfl
theorem rNumber_FS (w:List UInt8) (hl:w.length≤1000000):Ctr Tryz.prog 99 [.sc (.string (bs w))] (.tu [.sc (.int .i64 (((rq_numR w).getD 0:Nat):Int)),.sc (.bool (rq_numR w).isSome)]):=by
 by_cases h1:w.length < 1
 ·have e:rq_numR w=none:=if_pos (.inl h1)
  rw [e]
  refine zqe Tryz.func99 Tryz.ntmps99 fun w0 F0=>?_;dsimp only [St.init,number,Nat.reduceAdd]
  refine zqg33 ?_
  exact W.ret (finN rfl rfl rfl rfl)
 by_cases h2:3 < w.length
 ·have e:rq_numR w=none:=if_pos (.inr (.inl h2))
  rw [e]
  refine zqe Tryz.func99 Tryz.ntmps99 fun w0 F0=>?_;dsimp only [St.init,number,Nat.reduceAdd]
  refine zqg33 ?_
  exact W.ret (finN rfl rfl rfl rfl)
 have ez:((0:Int)).toNat=0:=rfl
 have hz:((w.getD 0 0).toNat:Int)=48↔w.getD 0 0=48:=⟨fun h=>UInt8.toNat_inj.1 (by show _=48;omega),fun h=>by rw [h];rfl⟩
 obtain ⟨b0,hb0⟩:∃ z,((w.getD 0 0).toNat:Int)=z:=⟨_,rfl⟩
 rw [hb0] at hz
 by_cases h3:b0=48∧1 < w.length
 ·have e:rq_numR w=none:=if_pos (.inr (.inr ⟨hz.1 h3.1,h3.2⟩))
  rw [e]
  obtain ⟨h4,h5⟩:=h3
  refine zqe Tryz.func99 Tryz.ntmps99 fun w0 F0=>?_;dsimp only [St.init,number,Nat.reduceAdd]
  refine zqg33 ?_
  refine WL.six rfl rfl ⟨by omega,by omega⟩ ?_
  simp only [ez,hb0]
  refine zqg33 ?_
  exact W.ret (finN rfl rfl rfl rfl)
 have e:rq_numR w=rq_numG 0 w:=if_neg (by
  rintro (h|h|h)
  ·exact h1 h
  ·exact h2 h
  ·exact h3 ⟨hz.2 h.1,h.2⟩)
 rw [e]
 have key:∀ {Q:Prop},(b0≠48→Q)→(b0=48→w.length≤1→Q)→Q:=fun {Q} f g=>by
  by_cases h:b0=48
  ·exact g h zqo
  ·exact f h
 refine zqe Tryz.func99 Tryz.ntmps99 fun w0 F0=>?_;dsimp only [St.init,number,Nat.reduceAdd]
 refine zqg33 ?_
 refine WL.six rfl rfl ⟨by omega,by omega⟩ ?_
 simp only [ez,hb0]
 refine key (fun h4=>?_) (fun h4 h5=>?_)
 all_goals
  refine zqg33 ?_
  refine W.loop (fun k:Nat=>k≤w.length∧∀ j (hj:j < w.length),j < k→48≤w[j].toNat∧w[j].toNat≤57) (fun k=>⟨[(0,.sc (.string (bs w))),(4,.sc (.int .i64 (rq_valN w k:Nat))),(5,.sc (.int .i64 k))],[],0⟩) (fun k=>w.length - k) 0 ⟨by omega,fun j hj h=>absurd h zqo⟩ (zqt id) fun k hk=>?_
  obtain ⟨hk,hall⟩:=hk
  by_cases hlt:k < w.length
  rotate_left
  ·obtain rfl:k=w.length:=by omega
   have hg:=rq_numG_all w 0 fun b hb=>by
    obtain ⟨j,hj,rfl⟩:=List.mem_iff_getElem.1 hb
    exact hall j hj hj
   have hv:rq_valN w w.length=w.foldl (fun a b=>10*a+(b.toNat - 48)) 0:=by unfold rq_valN;rw [List.take_length]
   rw [hg,← hv]
   refine zqg33 ?_
   exact W.ret (finN rfl rfl rfl rfl)
  have ek:((k:Nat):Int).toNat=k:=Int.toNat_natCast k
  have hgd:w.getD k 0=w[k]:=by rw [List.getD_eq_getElem?_getD,List.getElem?_eq_getElem hlt];rfl
  have hbad:=rq_numG_bad w 0 k hlt
  have hvs:=rq_valN_succ hlt
  have hvb:rq_valN w k < 100:=by
   have h10:(10:Nat) ^ k≤10 ^ 2:=Nat.pow_le_pow_right zqo zqo
   have:∀ k,k≤w.length→(∀ j (hj:j < w.length),j < k→48≤w[j].toNat∧w[j].toNat≤57)→rq_valN w k < 10 ^ k:=fun k=>by
    induction k with
    | zero=>intro _ _;simp [rq_valN]
    | succ k ih =>
     intro hk' ha
     have i1:=ih zqo fun j hj hjk=>ha j hj zqo
     have i2:=ha k zqo zqo
     rw [rq_valN_succ (by omega),Nat.pow_succ];omega
   have:=this k hk hall
   have e2:(10:Nat) ^ 2=100:=rfl
   omega
  have hnx:48≤w[k].toNat∧w[k].toNat≤57→∀ j (hj:j < w.length),j < k+1→48≤w[j].toNat∧w[j].toNat≤57:=fun h j hj hjk=>by
   by_cases e:j=k
   ·subst e;exact h
   ·exact hall j hj zqo
  obtain ⟨c,hc⟩:∃ z,w[k].toNat=z:=⟨_,rfl⟩
  rw [hc] at hbad hvs hnx
  have hcc:((w.getD k 0).toNat:Int)=(c:Int):=by rw [hgd,hc]
  obtain ⟨v,hv⟩:∃ z,rq_valN w k=z:=⟨_,rfl⟩
  rw [hv] at hvs hvb ⊢
  clear hall
  by_cases c1:c < 48
  ·rw [hbad (by omega)]
   refine zqg33 ?_
   refine WL.six rfl rfl ⟨by omega,by omega⟩ ?_
   simp only [ek,hcc]
   refine zqg33 ?_
   exact W.ret (finN rfl rfl rfl rfl)
  by_cases c2:57 < c
  ·rw [hbad (by omega)]
   refine zqg33 ?_
   refine WL.six rfl rfl ⟨by omega,by omega⟩ ?_
   simp only [ek,hcc]
   refine zqg33 ?_
   refine WL.six rfl rfl ⟨by omega,by omega⟩ ?_
   simp only [ek,hcc]
   refine zqg33 ?_
   exact W.ret (finN rfl rfl rfl rfl)
  have hn2:=hnx zqo
  clear hbad hnx
  refine zqg33 ?_
  refine WL.six rfl rfl ⟨by omega,by omega⟩ ?_
  simp only [ek,hcc]
  refine zqg33 ?_
  refine WL.six rfl rfl ⟨by omega,by omega⟩ ?_
  simp only [ek,hcc]
  refine zqg33 ?_
  refine WL.six rfl rfl ⟨by omega,by omega⟩ ?_
  simp only [ek,hcc]
  refine zqg33 ?_
  refine WL.sb8 rfl rfl zqo ?_
  refine WL.cvt rfl rfl rfl (I64.wrap (by unfold I64;omega)) ?_
  refine zqg33 ?_
  refine ⟨k+1,⟨by omega,hn2⟩,by omega,?_⟩
  rw [hvs,show ((10*v+(c - 48):Nat):Int)=10*(v:Int)+((c:Int) - 48) by omega]
  exact (zqu (fun q=>q) (by repeat (first|exact trivial|refine ⟨⟨?_,?_,?_⟩,?_⟩|rfl|exact congrArg (fun q=>some (AO.row _ _ q)) (by first|rfl|(simp;done)|(simp [eInt];done)|(simp [eLk];done)))) rfl)
end
section
open Go.RowKit
theorem pNumber_FS (w:List UInt8) (hl:w.length≤1000000):Ctr Tryz.prog 160 [.sc (.string (bs w))] (.tu [.sc (.int .i64 (((rq_numR w).getD 0:Nat):Int)),.sc (.bool (rq_numR w).isSome)]):=by
 by_cases h1:w.length < 1
 ·have e:rq_numR w=none:=if_pos (.inl h1)
  rw [e]
  refine zqe Tryz.func160 Tryz.ntmps160 fun w0 F0=>?_;dsimp only [St.init,number,Nat.reduceAdd]
  refine zqg33 ?_
  exact W.ret (finN rfl rfl rfl rfl)
 by_cases h2:3 < w.length
 ·have e:rq_numR w=none:=if_pos (.inr (.inl h2))
  rw [e]
  refine zqe Tryz.func160 Tryz.ntmps160 fun w0 F0=>?_;dsimp only [St.init,number,Nat.reduceAdd]
  refine zqg33 ?_
  exact W.ret (finN rfl rfl rfl rfl)
 have ez:((0:Int)).toNat=0:=rfl
 have hz:((w.getD 0 0).toNat:Int)=48↔w.getD 0 0=48:=⟨fun h=>UInt8.toNat_inj.1 (by show _=48;omega),fun h=>by rw [h];rfl⟩
 obtain ⟨b0,hb0⟩:∃ z,((w.getD 0 0).toNat:Int)=z:=⟨_,rfl⟩
 rw [hb0] at hz
 by_cases h3:b0=48∧1 < w.length
 ·have e:rq_numR w=none:=if_pos (.inr (.inr ⟨hz.1 h3.1,h3.2⟩))
  have hw:(w == [48])=false:=by
   cases h:w == [48] with
   | false=>rfl
   | true =>
    have:=eq_of_beq h
    rw [this] at h3;exact absurd h3.2 (by decide)
  rw [e]
  obtain ⟨h4,h5⟩:=h3
  refine zqe Tryz.func160 Tryz.ntmps160 fun w0 F0=>?_;dsimp only [St.init,number,Nat.reduceAdd]
  refine zqg33 ?_
  refine WL.six rfl rfl ⟨by omega,by omega⟩ ?_
  simp only [ez,hb0]
  refine zqg33 ?_
  rw [hw]
  refine zqg33 ?_
  exact W.ret (finN rfl rfl rfl rfl)
 have e:rq_numR w=rq_numG 0 w:=if_neg (by
  rintro (h|h|h)
  ·exact h1 h
  ·exact h2 h
  ·exact h3 ⟨hz.2 h.1,h.2⟩)
 rw [e]
 have key:∀ {Q:Prop},(b0≠48→Q)→(b0=48→(w == [48])=true→Q)→Q:=fun {Q} f g=>by
  by_cases h:b0=48
  ·refine g h ?_
   match w,h1,h2,h3,hz with
   | [x],_,_,_,hz =>
    have:x=48:=hz.1 h
    subst this;rfl
   | x::y::r,_,_,h3,_=>exact absurd ⟨h,by simp⟩ h3
   | [],h1,_,_,_=>exact absurd (by simp) h1
  ·exact f h
 refine zqe Tryz.func160 Tryz.ntmps160 fun w0 F0=>?_;dsimp only [St.init,number,Nat.reduceAdd]
 refine zqg33 ?_
 refine WL.six rfl rfl ⟨by omega,by omega⟩ ?_
 simp only [ez,hb0]
 refine key (fun h4=>?_) (fun h4 h5=>?_)
 all_goals
  refine zqg33 ?_
  try rw [h5]
  refine zqg33 ?_
  refine W.loop (fun k:Nat=>k≤w.length∧∀ j (hj:j < w.length),j < k→48≤w[j].toNat∧w[j].toNat≤57) (fun k=>⟨[(0,.sc (.string (bs w))),(4,.sc (.int .i64 (rq_valN w k:Nat))),(5,.sc (.int .i64 k))],[],0⟩) (fun k=>w.length - k) 0 ⟨by omega,fun j hj h=>absurd h zqo⟩ (zqt id) fun k hk=>?_
  obtain ⟨hk,hall⟩:=hk
  by_cases hlt:k < w.length
  rotate_left
  ·obtain rfl:k=w.length:=by omega
   have hg:=rq_numG_all w 0 fun b hb=>by
    obtain ⟨j,hj,rfl⟩:=List.mem_iff_getElem.1 hb
    exact hall j hj hj
   have hv:rq_valN w w.length=w.foldl (fun a b=>10*a+(b.toNat - 48)) 0:=by unfold rq_valN;rw [List.take_length]
   rw [hg,← hv]
   refine zqg33 ?_
   exact W.ret (finN rfl rfl rfl rfl)
  have ek:((k:Nat):Int).toNat=k:=Int.toNat_natCast k
  have hgd:w.getD k 0=w[k]:=by rw [List.getD_eq_getElem?_getD,List.getElem?_eq_getElem hlt];rfl
  have hbad:=rq_numG_bad w 0 k hlt
  have hvs:=rq_valN_succ hlt
  have hvb:rq_valN w k < 100:=by
   have h10:(10:Nat) ^ k≤10 ^ 2:=Nat.pow_le_pow_right zqo zqo
   have:∀ k,k≤w.length→(∀ j (hj:j < w.length),j < k→48≤w[j].toNat∧w[j].toNat≤57)→rq_valN w k < 10 ^ k:=fun k=>by
    induction k with
    | zero=>intro _ _;simp [rq_valN]
    | succ k ih =>
     intro hk' ha
     have i1:=ih zqo fun j hj hjk=>ha j hj zqo
     have i2:=ha k zqo zqo
     rw [rq_valN_succ (by omega),Nat.pow_succ];omega
   have:=this k hk hall
   have e2:(10:Nat) ^ 2=100:=rfl
   omega
  have hnx:48≤w[k].toNat∧w[k].toNat≤57→∀ j (hj:j < w.length),j < k+1→48≤w[j].toNat∧w[j].toNat≤57:=fun h j hj hjk=>by
   by_cases e:j=k
   ·subst e;exact h
   ·exact hall j hj zqo
  obtain ⟨c,hc⟩:∃ z,w[k].toNat=z:=⟨_,rfl⟩
  rw [hc] at hbad hvs hnx
  have hcc:((w.getD k 0).toNat:Int)=(c:Int):=by rw [hgd,hc]
  obtain ⟨v,hv⟩:∃ z,rq_valN w k=z:=⟨_,rfl⟩
  rw [hv] at hvs hvb ⊢
  clear hall
  by_cases c1:c < 48
  ·rw [hbad (by omega)]
   refine zqg33 ?_
   refine WL.six rfl rfl ⟨by omega,by omega⟩ ?_
   simp only [ek,hcc]
   refine zqg33 ?_
   exact W.ret (finN rfl rfl rfl rfl)
  by_cases c2:57 < c
  ·rw [hbad (by omega)]
   refine zqg33 ?_
   refine WL.six rfl rfl ⟨by omega,by omega⟩ ?_
   simp only [ek,hcc]
   refine zqg33 ?_
   refine WL.six rfl rfl ⟨by omega,by omega⟩ ?_
   simp only [ek,hcc]
   refine zqg33 ?_
   exact W.ret (finN rfl rfl rfl rfl)
  have hn2:=hnx zqo
  clear hbad hnx
  refine zqg33 ?_
  refine WL.six rfl rfl ⟨by omega,by omega⟩ ?_
  simp only [ek,hcc]
  refine zqg33 ?_
  refine WL.six rfl rfl ⟨by omega,by omega⟩ ?_
  simp only [ek,hcc]
  refine zqg33 ?_
  refine WL.six rfl rfl ⟨by omega,by omega⟩ ?_
  simp only [ek,hcc]
  refine zqg33 ?_
  refine WL.sb8 rfl rfl zqo ?_
  refine WL.cvt rfl rfl rfl (I64.wrap (by unfold I64;omega)) ?_
  refine zqg33 ?_
  refine ⟨k+1,⟨by omega,hn2⟩,by omega,?_⟩
  rw [hvs,show ((10*v+(c - 48):Nat):Int)=10*(v:Int)+((c:Int) - 48) by omega]
  exact (zqu (fun q=>q) (by repeat (first|exact trivial|refine ⟨⟨?_,?_,?_⟩,?_⟩|rfl|exact congrArg (fun q=>some (AO.row _ _ q)) (by first|rfl|(simp;done)|(simp [eInt];done)|(simp [eLk];done)))) rfl)
end
end Go.Proofs.YthehkchjdkdbiaaGreatDoor
