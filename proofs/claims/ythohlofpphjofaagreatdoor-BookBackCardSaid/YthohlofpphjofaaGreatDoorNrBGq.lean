/- The text of an instrument, read: the program. -/
import Derived.Test.YthohlofpphjofaaGreatDoorGYGq
import Derived.Test.YthohlofpphjofaaGreatDoorNrNGq
import Derived.Test.YthohlofpphjofaaGreatDoorG8Gq
set_option maxHeartbeats 4000000
set_option maxRecDepth 100000
set_option linter.unusedVariables false
set_option linter.unusedSimpArgs false
namespace Go.Proofs.YthohlofpphjofaaGreatDoor
open Go.RowKit
theorem ae7 {p:Prop}(h:p:=by
 rw [hk,if_pos rfl] at hR
 rw [(mW hk).1,(mW hk).2,hR]
 exact xG):p:=h
theorem ae6 {p:Prop}(h:p:=by
 rw [hk,if_neg (by decide)] at hR
 rw [(pY hk).1,(pY hk).2,hR]
 exact xG):p:=h
theorem xG {p:Prop}(h:p:=by
 refine aZ ?_
 exact dY):p:=h
theorem aez {p:Prop}(h:p:=by
 refine aZ ?_
 refine aiA ?_
 refine kX ?_
 refine DTK.v0 rfl (cutV_of rfl hcb2) ?_
 rw [hc2]
 refine kX ?_
 refine DTK.sto rfl rfl rfl rfl rfl rfl rfl rfl rfl rfl rfl rfl rfl rfl trivial (fun h=>by cases h) ?_
 refine DTK.nil ?_
 refine ⟨rfl,?_⟩
 refine (?_:WL _ _ _ _ _ _)
 refine aZ ?_
 exact oG):p:=h
theorem Bc {p q:Prop}(k:q)(h:aS q→p:=by
 intro hq
 refine aZ ?_
 refine aop ?_
 exact hq.k):p:=h ⟨k⟩
theorem aiA {p q:Prop}(k:q)(h:aS q→p:=by
 intro hq
 refine W.drawT 4 aK aK aK ?_
 refine WA.dt [false,false,false,true] [] [] 3 aK aK aK trivial trivial ?_
 exact hq.k):p:=h ⟨k⟩
theorem aop {p q:Prop}(k:q)(h:aS q→p:=by
 intro hq
 refine WL.six rfl rfl ⟨by omega,by omega⟩ ?_
 exact hq.k):p:=h ⟨k⟩
theorem Gm:((List.range 256).all fun k=>decide (Lib.indexByte [67,68,69,70,71,65,66] (UInt8.ofNat k)=if nX (UInt8.ofNat k)<7 then (nX (UInt8.ofNat k):Int)else -1))=true:=by decide +kernel
theorem Yx (b:UInt8):Lib.indexByte [67,68,69,70,71,65,66] b=if nX b<7 then (nX b:Int) else -1:=by
 have h:=nC (List.all_eq_true.1 Gm b.toNat (List.mem_range.2 b.toNat_lt))
 rw [UInt8.ofNat_toNat] at h
 exact h
def eNm (x:Int×Int×Int):AV:=.ag [.sc (.int .i64 x.1),.sc (.int .i64 x.2.1),.sc (.int .i64 x.2.2)]
theorem Ku (r:List UInt8):(∃ q,r=35::q∧kT r=(1,q))∨(∃ q,r=98::q∧kT r=(-1,q))∨(bM [35] r=false∧bM [98] r=false∧kT r=(0,r)):=by
 match r with
 | []=>exact .inr (.inr ⟨rfl,rfl,rfl⟩)
 | b::q =>
  by_cases h1:b=35
  ·subst h1;exact .inl ⟨q,rfl,rfl⟩
  ·by_cases h2:b=98
   ·subst h2;exact .inr (.inl ⟨q,rfl,rfl⟩)
   ·refine .inr (.inr ⟨?_,?_,?_⟩)
    ·unfold bM;simp [List.isPrefixOf,Ne.symm h1]
    ·unfold bM;simp [List.isPrefixOf,Ne.symm h2]
    ·unfold kT;dsimp only;rw [if_neg h1,if_neg h2]
theorem Ky (r:List UInt8):(r=[45,49]∧pV r=some (-1))∨(r≠[45,49]∧∃ b,r=[b]∧48≤b.toNat∧b.toNat≤57∧pV r=some ((b.toNat:Int)-48))∨(r≠[45,49]∧pV r=none∧(r.length≠1∨∃ b,r=[b]∧(b.toNat<48∨57<b.toNat))):=by
 by_cases h:r=[45,49]
 ·exact .inl ⟨h,by unfold pV;rw [if_pos h]⟩
 ·match r,h with
  | [],h=>exact .inr (.inr ⟨h,rfl,.inl (by decide)⟩)
  | [b],h =>
   by_cases hb:48≤b.toNat∧b.toNat≤57
   ·exact .inr (.inl ⟨h,b,rfl,hb.1,hb.2,by unfold pV;rw [if_neg h];dsimp only;rw [if_pos hb]⟩)
   ·exact .inr (.inr ⟨h,by unfold pV;rw [if_neg h];dsimp only;rw [if_neg hb],.inr ⟨b,rfl,by omega⟩⟩)
  | a::b::q,h=>exact .inr (.inr ⟨h,by unfold pV;rw [if_neg h],.inl (by simp)⟩)
theorem Yz {c:UInt8} {r:List UInt8} (h:nX c<7):(pV (kT r).2=none→fC (c::r)=((0,0,0),4))∧(∀ o,pV (kT r).2=some o→fC (c::r)=if gX (nX c) (kT r).1 o=true then ((((nX c:Nat):Int),(kT r).1,o),(0:Int))else ((0,0,0),10)):=by
 unfold fC
 dsimp only
 rw [if_neg (by omega)]
 exact ⟨fun e=>by rw [e],fun o e=>by rw [e]⟩
theorem agX (t:List UInt8) (ht:t.length≤1000000):Ctg jQ Tryz.prog 219 [.sc (.string (bs t))] (.tu [eNm (fC t).1,.sc (.int .i64 (fC t).2)]):=by
 match t,ht with
 | [],_ =>
  refine Ctg.intro iG Tryz.func219 rfl Tryz.ntmps219 (aP rfl) (aT rfl) fun w0 F0 hB=>?_;dsimp only [St.init,number,Nat.reduceAdd]
  exact xG
 | c::r,ht =>
  have hrl:r.length≤1000000:=by simp at ht;omega
  have hb0:((c::r) == ([]:List UInt8))=false:=rfl
  have hI:=Gj [67,68,69,70,71,65,66] (c.toNat:Int)
  have hIe:Lib.indexByte [67,68,69,70,71,65,66] ((c.toNat:Int).toNat.toUInt8)=if nX c < 7 then (nX c:Int) else -1:=by
   rw [dB,show c.toNat.toUInt8=c from UInt8.ofNat_toNat];exact Yx c
  rw [hIe] at hI
  have ez:(((c::r).getD (Int.toNat 0) 0).toNat:Int)=(c.toNat:Int):=rfl
  have hlen:(c::r).length=r.length+1:=rfl
  have hc1:cut (c::r) 1 ((r.length:Int)+1)=r:=by
   unfold cut
   rw [show ((r.length:Int)+1).toNat=r.length+1 by omega]
   simp
  by_cases hl:nX c < 7
  rotate_left
  ·have e:fC (c::r)=((0,0,0),4):=by unfold fC;dsimp only;rw [if_pos (by omega)]
   rw [e]
   rw [if_neg hl] at hI
   refine Ctg.intro iG Tryz.func219 rfl Tryz.ntmps219 (aP rfl) (aT rfl) fun w0 F0 hB=>?_;dsimp only [St.init,number,Nat.reduceAdd]
   refine aZ ?_
   rw [hb0]
   refine Bc ?_
   rw [ez]
   refine aZ ?_
   refine WL.vl rfl (bU Tryz.func235 hI) ?_
   exact xG
  rw [if_pos hl] at hI
  obtain ⟨hno,hsome⟩:=Yz (c:=c) (r:=r) hl
  have hl0:0≤(nX c:Int):=EN _
  obtain ⟨L,hL⟩:∃ z,(nX c:Int)=z:=⟨_,rfl⟩
  rw [hL] at hI hl0 hsome
  have XZ:=KN r [35]
  have agj:=KN r [98]
  have hlr:((c::r).length:Int)=(r.length:Int)+1:=by rw [hlen];omega
  have hcb:0≤(1:Int)∧(1:Int)≤(((c::r).length:Nat):Int)∧(((c::r).length:Nat):Int)≤(((c::r).length:Nat):Int):=by omega
  have hc1:cut (c::r) 1 (((c::r).length:Nat):Int)=r:=by rw [hlr];exact hc1
  obtain ⟨al,q,hq⟩:∃ al q,kT r=(al,q):=⟨_,_,rfl⟩
  have hql:q.length≤1000000:=by
   have:=Tn r
   rw [hq] at this
   exact iD this hrl
  rw [hq] at hno hsome
  dsimp only at hno hsome
  refine Ctg.intro iG Tryz.func219 rfl Tryz.ntmps219 (aP rfl) (aT rfl) fun w0 F0 hB=>?_;dsimp only [St.init,number,Nat.reduceAdd]
  refine aZ ?_
  rw [hb0]
  refine Bc ?_
  rw [ez]
  refine aZ ?_
  refine WL.vl rfl (bU Tryz.func235 hI) ?_
  refine aZ ?_
  refine WL.cut rfl rfl hcb ?_
  rw [hc1]
  refine aZ ?_
  refine WL.aa0 ⟨[(2,.pt 0 0 0),(4,.pt 1 0 0),(5,.sc (.string (bs q)))],[(1,.box 182 [.sc (.int .i64 L),.sc (.int .i64 al),.sc (.int .i64 0)]),(0,.box 182 [.sc (.int .i64 0),.sc (.int .i64 0),.sc (.int .i64 0)])],2⟩ ?_ ?_
  ·rcases Ku r with ⟨q',rfl,e⟩|⟨q',rfl,e⟩|⟨e1,e2,e⟩
   ·rw [hq] at e
    obtain ⟨rfl,rfl⟩:=Prod.mk.inj e
    have hp:bM [35] (35::q)=true:=by unfold bM;simp [List.isPrefixOf]
    rw [hp] at XZ
    have hl2:((35::q).length:Int)=(q.length:Int)+1:=by simp
    have hcb2:0≤(1:Int)∧(1:Int)≤(((35::q).length:Nat):Int)∧(((35::q).length:Nat):Int)≤(((35::q).length:Nat):Int):=by omega
    have hc2:cut (35::q) 1 (((35::q).length:Nat):Int)=q:=by
     unfold cut
     rw [dB]
     simp
    refine WL.vl rfl (bU Tryz.func256 XZ) ?_
    exact aez
   ·rw [hq] at e
    obtain ⟨rfl,rfl⟩:=Prod.mk.inj e
    have hp:bM [98] (98::q)=true:=by unfold bM;simp [List.isPrefixOf]
    have hp2:bM [35] (98::q)=false:=by unfold bM;simp [List.isPrefixOf]
    rw [hp] at agj
    rw [hp2] at XZ
    have hl2:((98::q).length:Int)=(q.length:Int)+1:=by simp
    have hcb2:0≤(1:Int)∧(1:Int)≤(((98::q).length:Nat):Int)∧(((98::q).length:Nat):Int)≤(((98::q).length:Nat):Int):=by omega
    have hc2:cut (98::q) 1 (((98::q).length:Nat):Int)=q:=by
     unfold cut
     rw [dB]
     simp
    refine WL.vl rfl (bU Tryz.func256 XZ) ?_
    refine aZ ?_
    refine WL.vl rfl (bU Tryz.func256 agj) ?_
    exact aez
   ·rw [hq] at e
    obtain ⟨rfl,rfl⟩:=Prod.mk.inj e
    rw [e1] at XZ
    rw [e2] at agj
    refine WL.vl rfl (bU Tryz.func256 XZ) ?_
    refine aZ ?_
    refine WL.vl rfl (bU Tryz.func256 agj) ?_
    refine aZ ?_
    exact oG
  rcases Ky q with ⟨rfl,ho⟩|⟨hne,b,rfl,hb1,hb2,ho⟩|⟨hne,ho,hl1⟩
  ·have hS:=zB L al (-1)
   have hb1:(([45,49]:List UInt8) == [45,49])=true:=rfl
   have hR:=hsome _ ho
   refine aZ ?_
   rw [hb1]
   refine aZ ?_
   refine WL.vl rfl (WV.callG hB rfl (callF Tryz.func173 rfl rfl) rfl rfl hS) ?_
   cases hk:gX L al (-1) with
   | true =>
    exact ae7
   | false =>
    exact ae6
  ·have hS:=zB L al ((b.toNat:Int) - 48)
   have hbf:([b] == ([45,49]:List UInt8))=false:=by simp
   have hR:=hsome _ ho
   have hbl:(([b]:List UInt8).length:Int)=1:=rfl
   have hbz:((([b]:List UInt8).getD (Int.toNat 0) 0).toNat:Int)=(b.toNat:Int):=rfl
   obtain ⟨bn,hbn⟩:∃ z,b.toNat=z:=⟨_,rfl⟩
   rw [hbn] at hb1 hb2 hS hR hbz
   refine aZ ?_
   rw [hbf]
   refine Bc ?_
   rw [hbz]
   refine Bc ?_
   rw [hbz]
   refine Bc ?_
   rw [hbz]
   refine aZ ?_
   refine WL.sb8 rfl rfl aj ?_
   refine WL.cvt rfl rfl rfl (I64.wrap sV) ?_
   refine aZ ?_
   refine WL.vl rfl (WV.callG hB rfl (callF Tryz.func173 rfl rfl) rfl rfl hS) ?_
   cases hk:gX L al ((bn:Int) - 48) with
   | true =>
    exact ae7
   | false =>
    exact ae6
  ·have hbf:(q == ([45,49]:List UInt8))=false:=by simpa using hne
   rw [hno ho]
   rcases hl1 with hl1|⟨b,rfl,hb⟩
   ·refine aZ ?_
    rw [hbf]
    exact xG
   ·have hbl:(([b]:List UInt8).length:Int)=1:=rfl
    have hbz:((([b]:List UInt8).getD (Int.toNat 0) 0).toNat:Int)=(b.toNat:Int):=rfl
    obtain ⟨bn,hbn⟩:∃ z,b.toNat=z:=⟨_,rfl⟩
    rw [hbn] at hb hbz
    rcases hb with hb|hb
    ·refine aZ ?_
     rw [hbf]
     refine Bc ?_
     rw [hbz]
     exact xG
    ·refine aZ ?_
     rw [hbf]
     refine Bc ?_
     rw [hbz]
     refine Bc ?_
     rw [hbz]
     exact xG
end Go.Proofs.YthohlofpphjofaaGreatDoor
