/- The closed facts of BookBack' statement, each in a declaration of its own (the kernel frees what it holds at a declaration's end). -/
import Derived.Test.YthohlofpphjofaaGreatDoorGQGq
import Derived.Test.YthohlofpphjofaaGreatDoorGRGq
import Derived.Test.YthohlofpphjofaaGreatDoorRi0Gq
import Derived.Test.YthohlofpphjofaaGreatDoorFMGq
set_option maxHeartbeats 8000000
set_option maxRecDepth 100000
set_option linter.unusedVariables false
set_option linter.unusedSimpArgs false
namespace Go.Proofs.YthohlofpphjofaaGreatDoor
open Go.RowKit
theorem aeQ {p:Prop}(h:p:=by
 refine qQ ?_
 refine ⟨j+1,⟨by omega,hnext hN⟩,by omega,?_⟩
 rw [← hal2]
 exact afj):p:=h
theorem afj {p:Prop}(h:p:=by
 exact (mP (fun q=>q) BK rfl)):p:=h
theorem adi {p q:Prop}(k:q)(h:aS q→p:=by
 intro hq
 repeat (first|refine DK.st rfl ?_|refine DK.ar rfl rfl ahA ?_|refine DK.cat rfl rfl vK ?_|refine DK.nil ?_)
 exact hq.k):p:=h ⟨k⟩
theorem ahA {z:Int} (h:I64 z:=by unfold I64;omega):I64 z:=h
def ZB(w:World)(F:View):Prop:=qc w F∧jQ w F
theorem PY:Stab ZB (max ajH sZ):=⟨fun w F h=>Nat.max_le.2 ⟨jq.1 w F h.1,iG.1 w F h.2⟩,fun w w' F F' hb hF h=>⟨jq.2 w w' F F' (fun i hi=>hb i (jr hi (Nat.le_max_left _ _))) hF h.1,iG.2 w w' F F' (fun i hi=>hb i (jr hi (Nat.le_max_right _ _))) hF h.2⟩⟩
theorem Ctg.wB {P:Program} {f:FuncId} {args:List AV} {res:AV} (h:Ctg qc P f args res):Ctg ZB P f args res:=h.mono fun _ _ k=>k.1
theorem Ctg.wN {P:Program} {f:FuncId} {args:List AV} {res:AV} (h:Ctg jQ P f args res):Ctg ZB P f args res:=h.mono fun _ _ k=>k.2
end Go.Proofs.YthohlofpphjofaaGreatDoor
namespace Go.Proofs.YthohlofpphjofaaGreatDoor
open Go.RowKit
theorem Ai (l al o:Int):Ctg qc Tryz.prog 173 [.ag [.sc (.int .i64 l),.sc (.int .i64 al),.sc (.int .i64 o)]] (.tu [.sc (.int .i64 (Zm l al o)),.sc (.int .i64 (acC l al o))]):=by
 refine Ctg.intro jq Tryz.func173 rfl Tryz.ntmps173 (aP rfl) (aT rfl) fun w0 F0 hB=>?_;dsimp only [St.init,number,Nat.reduceAdd]
 have hc:(l < 0∨(¬ l < 0∧7≤l)∨(¬ l < 0∧¬ 7≤l∧al < -1)∨(¬ l < 0∧¬ 7≤l∧¬ al < -1∧1 < al)∨(¬ l < 0∧¬ 7≤l∧¬ al < -1∧¬ 1 < al∧o < -1)∨(¬ l < 0∧¬ 7≤l∧¬ al < -1∧¬ 1 < al∧¬ o < -1∧9 < o))∨qH l al o:=by unfold qH;omega
 rcases hc with hc|hc
 ·exact ai3
 ·obtain ⟨⟨h1,h2⟩,⟨h3,h4⟩,h5,h6⟩:=id hc
  have hbd:=JB ⟨h1,h2⟩
  have htab:=IU ⟨h1,h2⟩
  have hin:=PU hc
  have hv:tC l al o=12*(o+1)+pI l+al:=rfl
  have hR:gX l al o=true→Zm l al o=12*(o+1)+pI l+al:=fun h=>(mW h).1
  obtain ⟨b,hb⟩:∃ b,pI l=b:=⟨_,rfl⟩
  rw [hb] at hbd htab hv hR
  refine Ut ?_
  refine iT ?_
  repeat (first|refine DK.st rfl ?_|refine DK.ar rfl rfl ahA ?_|refine DK.nil ?_)
  refine DK.glob hB rfl rfl ⟨h1,by omega⟩ htab rfl ?_
  repeat (first|refine DK.st rfl ?_|refine DK.ar rfl rfl ahA ?_|refine DK.nil ?_)
  exact aeJ
theorem Pv (p key:Int):Ctg qc Tryz.prog 106 [.sc (.int .i64 p),.sc (.int .i64 key)] (.tu [eSp (oH p key),.sc (.int .i64 (BG p key))]):=by
 refine Ctg.intro jq Tryz.func106 rfl Tryz.ntmps106 (aP rfl) (aT rfl) fun w0 F0 hB=>?_;dsimp only [St.init,number,Nat.reduceAdd]
 by_cases hp:0≤p∧p≤127
 rotate_left
 ·rw [(PV hp).1,(PV hp).2]
  have hp2:p < 0∨(¬ p < 0∧127 < p):=by omega
  rcases hp2 with h|h
  all_goals
   refine qQ ?_
   exact W.ret (finN rfl rfl rfl rfl)
 by_cases hk:-4≤key∧key≤4
 rotate_left
 ·rw [(acF hp hk).1,(acF hp hk).2]
  have hk2:key < -4∨(¬ key < -4∧4 < key):=by omega
  rcases hk2 with h|h
  all_goals
   refine qQ ?_
   exact W.ret (finN rfl rfl rfl rfl)
 refine qQ ?_
 refine W.loop (fun k:Nat=>k≤7∧∀ m,m < 3*k→spN p key m=false) (fun k=>⟨[(0,.sc (.int .i64 p)),(1,.sc (.int .i64 key)),(4,.pt 0 0 0),(27,.sc (.int .i64 k))],[(0,.box 182 [.sc (.int .i64 0),.sc (.int .i64 0),.sc (.int .i64 0)])],1⟩) (fun k=>7 - k) 0 ⟨by omega,by omega⟩ (zqt id) fun k hk0=>?_
 obtain ⟨hk7,hno⟩:=hk0
 by_cases hlt:k < 7
 rotate_left
 ·have hn:Wp p key=none:=by unfold Wp;rw [af9 fun m hm=>hno m (by omega)];rfl
  rw [(Wq hp hk hn).1,(Wq hp hk hn).2]
  refine qQ ?_
  exact dY
 refine qQ ?_
 refine W.loop (fun j:Nat=>j≤3∧∀ m,m < 3*k+j→spN p key m=false) (fun j=>⟨[(0,.sc (.int .i64 p)),(1,.sc (.int .i64 key)),(4,.pt 0 0 0),(6,.sc (.int .i64 k)),(7,.sc (.int .i64 ((j:Int) - 1))),(27,.sc (.int .i64 k))],[(0,.box 182 [.sc (.int .i64 0),.sc (.int .i64 0),.sc (.int .i64 0)])],1⟩) (fun j=>3 - j) 0 ⟨by omega,by simpa using hno⟩ (zqt id) fun j hj0=>?_
 obtain ⟨hj3,hno2⟩:=hj0
 by_cases hj:j < 3
 rotate_left
 ·refine qQ ?_
  refine ⟨k+1,⟨by omega,fun m hm=>hno2 m aj⟩,by omega,?_⟩
  exact (zqt id)
 have hl:0≤(k:Int)∧(k:Int)≤6:=by omega
 have htf:=TS hl
 have htb:=IU hl
 have hfb:=ajF hl
 have hbb:=JB hl
 have e3:(3*k+j)/3=k:=by omega
 have e4:(3*k+j) % 3=j:=by omega
 have hN:spN p key (3*k+j)=(decide (key - 3≤ZP k+7*((j:Int) - 1)∧ZP k+7*((j:Int) - 1)≤key+8) && (gX k ((j:Int) - 1) ((p - ((j:Int) - 1) - pI k+12)/12 - 2) && decide (tC k ((j:Int) - 1) ((p - ((j:Int) - 1) - pI k+12)/12 - 2)=p))):=by
  unfold spN spC ah3 spO;rw [e3,e4]
 have hfound:spN p key (3*k+j)=true→Wp p key=some ((k:Int),(j:Int) - 1,(p - ((j:Int) - 1) - pI k+12)/12 - 2):=fun h=>by
  unfold Wp
  rw [af8 hno2 h (by omega)]
  unfold spO
  simp only [kG,e3,e4]
 have hnext:spN p key (3*k+j)=false→∀ m,m < 3*k+(j+1)→spN p key m=false:=fun h m hm=>by
  by_cases e:m=3*k+j
  ·rw [e];exact h
  ·exact hno2 m aj
 have hS:=Ai k ((j:Int) - 1) ((p - ((j:Int) - 1) - pI k+12)/12 - 2)
 obtain ⟨fv,hfv⟩:∃ z,ZP k=z:=⟨_,rfl⟩
 obtain ⟨bv,hbv⟩:∃ z,pI k=z:=⟨_,rfl⟩
 rw [hfv] at htf hfb hN
 rw [hbv] at htb hbb hN hS hfound
 obtain ⟨al,hal⟩:∃ z,(j:Int) - 1=z:=⟨_,rfl⟩
 have hal2:al+1=((j+1:Nat):Int) - 1:=by omega
 rw [hal] at hN hS hfound ⊢
 by_cases hw:key - 3≤fv+7*al∧fv+7*al≤key+8
 rotate_left
 ·rw [dW hw,Bool.false_and] at hN
  have hw2:fv+7*al < key - 3∨(¬ fv+7*al < key - 3∧key+8 < fv+7*al):=by omega
  rcases hw2 with h|h
  all_goals
   refine qQ ?_
   refine WL.glob hB rfl rfl ⟨by omega,by omega⟩ htf rfl ?_
   refine qQ ?_
   refine ⟨j+1,⟨by omega,hnext hN⟩,by omega,?_⟩
   rw [← hal2]
   exact (zqt id)
 rw [fQ hw,LQ] at hN
 refine qQ ?_
 refine WL.glob hB rfl rfl ⟨by omega,by omega⟩ htf rfl ?_
 refine qQ ?_
 refine WL.glob hB rfl rfl ⟨by omega,by omega⟩ htb rfl ?_
 refine qQ ?_
 refine WL.vl rfl (WV.callG hB rfl (callF Tryz.func173 rfl rfl) rfl rfl hS) ?_
 obtain ⟨oc,hoc⟩:∃ z,(p - al - bv+12)/12 - 2=z:=⟨_,rfl⟩
 rw [hoc] at hN hfound ⊢
 cases hok:gX k al oc with
 | false =>
  rw [hok,Bool.false_and] at hN
  rw [(pY hok).1,(pY hok).2]
  exact aeQ
 | true =>
  rw [hok,LQ] at hN
  rw [(mW hok).1,(mW hok).2]
  by_cases hv:tC k al oc=p
  ·rw [fQ hv] at hN
   have hr:=Ws hp hk (hfound hN)
   rw [hr.1,hr.2]
   refine qQ ?_
   exact dY
  ·rw [dW hv] at hN
   exact aeQ
end Go.Proofs.YthohlofpphjofaaGreatDoor
namespace Go.Proofs.YthohlofpphjofaaGreatDoor
open Go.RowKit
theorem JL {l:Int}:(cut BA l (l+1)).length≤1:=by simp only [cut,jR,qK];omega
theorem ahn(al:Int):(ZV al).length≤1:=by unfold ZV;split<;>(try split)<;>simp
theorem abN (l al o:Int):Ctg qc Tryz.prog 107 [.ag [.sc (.int .i64 l),.sc (.int .i64 al),.sc (.int .i64 o)]] (.tu [.sc (.string (bs (nmA l al o))),.sc (.int .i64 (acC l al o))]):=by
 refine Ctg.intro jq Tryz.func107 rfl Tryz.ntmps107 (aP rfl) (aT rfl) fun w0 F0 hB=>?_;dsimp only [St.init,number,Nat.reduceAdd]
 refine aia ?_
 refine WL.vl rfl (WV.callG hB rfl (callF Tryz.func173 rfl rfl) rfl rfl (Ai l al o)) ?_
 cases hok:gX l al o with
 | false =>
  have hn:nmA l al o=[]:=if_neg (by simp [hok])
  rw [(pY hok).1,(pY hok).2,hn]
  refine kW ?_
  exact oO
 | true =>
  have hn:nmA l al o=cut BA l (l+1)++ZV al++Lib.itoa o:=if_pos hok
  obtain ⟨⟨⟨h1,h2⟩,⟨h3,h4⟩,h5,h6⟩,hv⟩:=uy hok
  rw [(mW hok).1,(mW hok).2,hn]
  have hl1:(cut [67,68,69,70,71,65,66] l (l+1)).length≤1:=JL (l:=l)
  have hl2:=ahn al
  have hl3:=jL (n:=o) aj
  have hcb:0≤l∧l≤l+1∧l+1≤(BA.length:Int):=⟨h1,by omega,by simp [BA];omega⟩
  have hI:=zn o ahA
  have hcat:(cut [67,68,69,70,71,65,66] l (l+1)++ZV al).length≤2:=by rw [bJ];omega
  obtain ⟨io,hio⟩:∃ z,Lib.itoa o=z:=⟨_,rfl⟩
  rw [hio] at hl3 hI ⊢
  have ajs:(al=1∧ZV al=[35])∨(al≠1∧al=-1∧ZV al=[98])∨(al≠1∧al≠-1∧ZV al=[]):=by
   unfold ZV
   by_cases h1:al=1
   ·exact .inl ⟨h1,if_pos h1⟩
   ·by_cases h2:al=-1
    ·exact .inr (.inl ⟨h1,h2,by rw [if_neg h1,if_pos h2]⟩)
    ·exact .inr (.inr ⟨h1,h2,by rw [if_neg h1,if_neg h2]⟩)
  rcases ajs with ⟨h1,hs⟩|⟨h1,h2,hs⟩|⟨h1,h2,hs⟩
  all_goals
   rw [hs] at hcat hl2 ⊢
   refine kW ?_
   refine iT ?_
   refine adi ?_
   refine DK.vl rfl (cutV_of rfl hcb) ?_
   refine adi ?_
   refine DK.vl rfl (WV.callG hB rfl (callF Tryz.func108 rfl rfl) rfl rfl hI) ?_
   refine adi ?_
   refine kW ?_
   exact W.ret (fin2 rfl rfl rfl rfl rfl rfl rfl)
end Go.Proofs.YthohlofpphjofaaGreatDoor
namespace Go.Proofs.YthohlofpphjofaaGreatDoor
open Go.RowKit
def hd1(s i:Int)(e:Ev):List MW:=if s=4∧e.three=true then [(i,0,5)]else []
def hd2(s i:Int)(e:Ev):List MW:=if s=4∧e.val=0 then [(i,0,6)]else []
def hd3(s i:Int)(e:Ev):List MW:=if s=4∧e.tie=true then [(i,0,7)]else []
def hd4(s i:Int)(e:Ev):List MW:=if s=3∧jl e=true then [(i,0,8)]else []
end Go.Proofs.YthohlofpphjofaaGreatDoor
namespace Go.Proofs.YthohlofpphjofaaGreatDoor
open Go.RowKit
def BF(s aQ L:Int)(l:List UInt8)(c f r g h:Nat):Prop:=(1≤c∧c≤14)∧f≤18∧dU s aQ c=true∧stM s c f l L r g h=true
theorem Y0 {s aQ L:Int} {l:List UInt8} {c f r g h c' f' r' g' h':Nat} (hsp:aC s aQ=0) (hL:0≤L∧L≤15) (a:BF s aQ L l c f r g h) (b:BF s aQ L l c' f' r' g' h') :
  c=c'∧f=f'∧r=r'∧g=g'∧h=h':=by
 obtain ⟨a1,a2,a3,a4⟩:=a
 obtain ⟨b1,b2,b3,b4⟩:=b
 obtain ⟨a5,a6,a7⟩:=su a4
 obtain ⟨b5,b6,b7⟩:=su b4
 have k:=aaf s aQ c f r g h c' f' r' g' h' L hsp aj aj aj aj aj aj aj aj aj aj a3 b3 a6 b6 (a7.trans b7.symm)
 omega
end Go.Proofs.YthohlofpphjofaaGreatDoor
namespace Go.Proofs.YthohlofpphjofaaGreatDoor.bookBack
open Go
theorem q1:(Rows.bookBackRow.inPlace == Tryz.pinned.checked.prog.inPlace 7)=true:=by kernel_rfl
theorem q2:(Rows.bookBackRow.unfollowed == Tryz.pinned.checked.prog.unfollowed 7)=true:=by kernel_rfl
theorem q3:(Rows.bookBackRow.recurses == Tryz.pinned.checked.prog.recurses 7)=true:=by kernel_rfl
theorem q4:(Rows.bookBackRow.named == Tryz.pinned.checked.prog.varsNamed 7)=true:=by kernel_rfl
theorem wf_:Rows.bookBackRow.wfByText (OpenSpec.ofChange Rows.bookBackSpec)=true:=by kernel_rfl
theorem alx:false=Rows.bookBackRow.goesBy Tryz.pinned.checked.prog:=by kernel_rfl
theorem closed:joinedFacts Tryz.pinned.checked.prog 7 Tryz.f7 Rows.bookBackSpec Rows.bookBackRow=true:=by
 unfold joinedFacts
 rw [q1,q2,q3,q4]
 kernel_rfl
end Go.Proofs.YthohlofpphjofaaGreatDoor.bookBack
