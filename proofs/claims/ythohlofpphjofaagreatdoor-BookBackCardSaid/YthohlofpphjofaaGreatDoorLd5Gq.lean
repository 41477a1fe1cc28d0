/- Load of the program. (RWN.) -/
import Derived.Test.YthohlofpphjofaaGreatDoorNw5Gq
import Derived.Test.YthohlofpphjofaaGreatDoorNrJGq
import Derived.Test.YthohlofpphjofaaGreatDoorW11Gq
set_option maxHeartbeats 16000000
set_option maxRecDepth 100000
set_option linter.unusedVariables false
set_option linter.unusedSimpArgs false
namespace Go.Proofs.YthohlofpphjofaaGreatDoor
theorem WT {p:Prop}(h:p:=by rw [qK];omega):p:=h
section
variable {p:Prop}
theorem aeE(h:p:=by
 refine Cto.intro truS Tryz.func67 rfl Tryz.ntmps67 (aP rfl) rfl fun w0 F0 fp pg hB=>?_
 unfold lW lK at hF ⊢
 refine ahD ?_
 refine DK.vl rfl (bU Tryz.func89 hC) ?_
 refine Fh ?_
 exact aeV):p:=h
theorem aeA(h:p:=by
 refine DTK.sto rfl rfl rfl rfl rfl rfl rfl rfl rfl rfl rfl rfl rfl rfl ⟨rfl,trivial⟩ (fun h=>by cases h) ?_
 refine gQ ?_
 refine DTK.nil ?_
 refine ⟨rfl,?_⟩
 refine (?_:WL _ _ _ _ _ _)
 refine lG ?_
 first|refine W.tr (Tr.nilC 0 0 5 rfl rfl rfl) ?_|refine WL.tr (Tr.nilC 0 0 5 rfl rfl rfl) ?_
 exact dY):p:=h
theorem adW(h:p:=by
 unfold prt
 rw [dB,dB,fE,L6]):p:=h
theorem aiU(h:p:=by
 unfold lW lK at hc
 rw [e1] at hc
 refine FI ?_
 refine WL.ctb hB [1,2] rfl rfl (callF Tryz.func125 rfl rfl) hc rfl rfl rfl ⟨⟨rfl,rfl,rfl⟩,⟨rfl,rfl,rfl⟩,trivial⟩ rfl rfl rfl rfl ?_
 refine lG ?_
 refine ⟨_,hI,by show 0 < 2*(L.length - a)+1;omega,?_⟩
 refine yS ?_
 exact (zqt id)):p:=h
theorem aiS(h:p:=by
 refine jE ?_
 refine WL.vl rfl (WV.callG hB rfl (callF Tryz.func11 rfl rfl) rfl rfl hR) ?_
 refine jE ?_
 refine WL.cto (truH _) [0,1] rfl rfl (callF Tryz.func124 rfl rfl) hF rfl rfl rfl ⟨⟨rfl,rfl,rfl⟩,⟨rfl,rfl,rfl⟩,trivial⟩ rfl rfl rfl rfl ?_
 refine amM ?_
 exact W.ret (finM rfl rfl rfl rfl rfl)):p:=h
theorem aeV(h:p:=by
 refine uN ?_
 refine WL.cto (truH _) [0,1] rfl rfl (callF Tryz.func124 rfl rfl) hF rfl rfl rfl ⟨⟨rfl,rfl,rfl⟩,⟨rfl,rfl,rfl⟩,trivial⟩ rfl rfl rfl rfl ?_
 refine uN ?_
 exact W.ret (finM rfl rfl rfl rfl rfl)):p:=h
theorem aiJ(h:p:=by
 have hat:=alK k aj
 have hs:=hJs k aj
 have hs1:=hJk (k+1)
 have hs2:(ak 10 (X.take k) []).length+((X[k]'(by omega)).length+1)≤65536:=by rw [hs] at hs1;simpa using hs1
 obtain ⟨J,hJJ⟩:∃ z,ak 10 (X.take k) []=z:=⟨_,rfl⟩
 rw [hJJ] at hs hs2 ⊢
 obtain ⟨x,hxx⟩:∃ z,X[k]' aj=z:=⟨_,rfl⟩
 rw [hxx] at hat hs hs2
 have hx1:(x++[10]).length=x.length+1:=by simp
 refine jE ?_
 refine WL.idx rfl rfl aj hat ?_
 refine jE ?_
 refine WL.bw rfl rfl rfl (callF Tryz.func53 rfl rfl) kJ aj hs.symm ?_
 refine jE ?_
 exact ⟨k+1,by omega,by omega,(zqt id)⟩):p:=h
end
theorem WZ {p q:Prop}(k:q)(h:aS q→p:=by
 intro hq
 refine jw ?_
 refine FK ?_
 refine aiB ?_
 refine Uy ?_
 exact hq.k):p:=h ⟨k⟩
theorem WY {p q:Prop}(k:q)(h:aS q→p:=by
 intro hq
 refine amQ ?_
 refine Uy ?_
 refine jE ?_
 exact hq.k):p:=h ⟨k⟩
theorem FK {p q:Prop}(k:q)(h:aS q→p:=by
 intro hq
 refine jE ?_
 refine iT ?_
 refine Uy ?_
 exact hq.k):p:=h ⟨k⟩
theorem amQ {p q:Prop}(k:q)(h:aS q→p:=by
 intro hq
 refine DK.part_ rfl rfl ⟨by omega,by omega,by omega⟩ agk ?_
 exact hq.k):p:=h ⟨k⟩
theorem yS {p q:Prop}(k:q)(h:aS q→p:=by
 intro hq
 dsimp only [FY.f,FY.bx,FY.rw]
 exact hq.k):p:=h ⟨k⟩
theorem aiD {p q:Prop}(k:q)(h:aS q→p:=by
 intro hq
 refine W.drawT 10 aK aK aK ?_
 refine WA.dt [false,false,false,false,false,false,true,false,false,true] [3] [3] 9 aK aK aK ⟨rfl,trivial⟩ ⟨rfl,trivial⟩ ?_
 exact hq.k):p:=h ⟨k⟩
theorem aiB {p q:Prop}(k:q)(h:aS q→p:=by
 intro hq
 refine DK.part_ rfl rfl ⟨by omega,by omega,by omega⟩ hpr ?_
 exact hq.k):p:=h ⟨k⟩
theorem amM {p q:Prop}(k:q)(h:aS q→p:=by
 intro hq
 refine jE ?_
 refine W.tr (σ':=⟨[(2,.sc .nilFunc)],[(0,.box 123 [.ls 1 LT,.sc (.int .i64 (a:Int)),.sl 1,.sc (.int .i64 ((a:Int)+ln)),.sc (.int .i64 e)]),(1,.row 129 5 (B++[[.sc (.string (bs tt)),.sc (.int .u8 0),.sc (.slice none 0 0),.sc (.slice none 0 0),.sc (.slice none 0 0)]]))],2⟩) (zqt id) ?_
 exact hq.k):p:=h ⟨k⟩
theorem FI {p q:Prop}(k:q)(h:aS q→p:=by
 intro hq
 refine lG ?_
 refine WL.vl rfl (fnqV_of rfl) ?_
 refine lG ?_
 exact hq.k):p:=h ⟨k⟩
theorem ahD {p q:Prop}(k:q)(h:aS q→p:=by
 intro hq
 dsimp only [number,Nat.reduceAdd]
 refine uN ?_
 refine W.drawK aK aK ?_
 refine Fh ?_
 refine uN ?_
 refine W.drawK aK aK ?_
 refine Fh ?_
 refine DK.idx rfl rfl aj hat ?_
 refine Fh ?_
 exact hq.k):p:=h ⟨k⟩
theorem Uy {p q:Prop}(k:q)(h:aS q→p:=by
 intro hq
 repeat (first|refine DK.vl rfl (WV.nch rfl rfl) ?_|refine DK.st rfl ?_|refine DK.ar rfl rfl ams ?_|refine DK.len rfl rfl rfl ?_|refine DK.ixs rfl rfl vK ?_|refine DK.nil ?_)
 exact hq.k):p:=h ⟨k⟩
section
open Go.RowKit
theorem ams {z:Int} (h:I64 z:=by unfold I64;omega):I64 z:=h
def lW (LT:List (List AV))(a ln e:Int):AO:=.box 123 [.ls 1 LT,.sc (.int .i64 a),.sl 1,.sc (.int .i64 ln),.sc (.int .i64 e)]
def aj9 (LT:List (List AV))(a:Int):AO:=.box 123 [.ls 1 LT,.sc (.int .i64 a),.sl 2,.sc (.int .i64 0),.sc (.int .i64 0)]
def lK (R:List (List AV)):AO:=.row 129 5 R
def zq (t:List UInt8):List AV:=[.sc (.string (bs t)),.sc (.int .u8 0),.sc (.slice none 0 0),.sc (.slice none 0 0),.sc (.slice none 0 0)]
def akc:AV:=.fn (67+1000000) [.pt 0 0 0]
def akb:AV:=.fn (125+1000000) [.pt 0 0 0]
theorem CW (LT R:List (List AV))(a l0 e0 ln e:Int):Cto truB 0 Tryz.prog 124 [.pt 0 0 0,.sc (.int .i64 ln),.sc (.int .i64 e)] [(0,lW LT a l0 e0),(1,lK R)] 2 (.sc .nilFunc) [(0,lW LT a ln e),(1,lK R)] 2:=by
 refine Cto.intro truS Tryz.func124 rfl Tryz.ntmps124 (aP rfl) rfl fun w0 F0 fp pg hB=>?_
 unfold lW lK
 refine jw ?_
 refine acY ?_
 exact jJ
theorem N7 (L:List (List UInt8)) (R:List (List AV)) (a:Nat) (h:a=L.length) (hl:L.length≤1000000):Cto truB 0 Tryz.prog 67 [.pt 0 0 0] [(0,lW (L.map bg) a 0 0),(1,lK R)] 2 (.sc .nilFunc) [(0,lW (L.map bg) a 0 0),(1,lK R)] 2:=by
 have hlen:(L.map bg).length=L.length:=dH _
 obtain ⟨LT,Vp⟩:∃ z,L.map bg=z:=⟨_,rfl⟩
 rw [Vp] at hlen ⊢
 refine Cto.intro truS Tryz.func67 rfl Tryz.ntmps67 (aP rfl) rfl fun w0 F0 fp pg hB=>?_
 unfold lW lK
 refine jw ?_
 refine Qi ?_
 refine iT ?_
 repeat (first|refine DK.vl rfl (WV.nch rfl rfl) ?_|refine DK.bt rfl rfl aj ?_|refine DK.st rfl ?_|refine DK.len rfl rfl rfl ?_|refine DK.nil ?_)
 refine Qi ?_
 exact jJ
theorem X8 (L:List (List UInt8)) (b:List En) (a:Nat) (h:a < L.length) (hl:L.length≤1000000) (hL:∀ w∈L,w.length≤1000000) (hb:b.length≤64) :
  (fO L a b≠0→Cto truB 0 Tryz.prog 67 [.pt 0 0 0] [(0,lW (L.map bg) a 0 0),(1,lK (b.map sJ))] 2 (.sc .nilFunc) [(0,lW (L.map bg) ((a:Int)+1) ((a:Int)+1) (fO L a b)),(1,lK (b.map sJ))] 2) ∧
  (fO L a b=0→Cto truB 0 Tryz.prog 67 [.pt 0 0 0] [(0,lW (L.map bg) a 0 0),(1,lK (b.map sJ))] 2 akb [(0,aj9 (L.map bg) ((a:Int)+1)),(2,lK (b.map sJ++[zq (nH L a)]))] 3):=by
 have hlen:(L.map bg).length=L.length:=dH _
 have hat:(L.map bg)[((a:Int)+1 - 1).toNat]?=some (bg L[a]):=by rw [show ((a:Int)+1 - 1).toNat=a by omega,bC,aB h];rfl
 have hbl:(b.map sJ).length=b.length:=dH _
 have hg:L.getD a []=L[a]:=by simp [h]
 have hxb:=hL _ (fA h)
 have hC:=GV L[a] Hr aj
 have hTi:=Iy (L[a].drop 6) WT
 have hHa:=IY b (L[a].drop 6) aj
 have hF:=fun e=>CW (L.map bg) (b.map sJ) ((a:Int)+1) 0 0 ((a:Int)+1) e
 have hdr:nH L a=L[a].drop 6:=by unfold nH;rw [hg]
 have hte:fO L a b=if bM Hr L[a]=false then 4 else if b.length=64 then 2 else if iH (L[a].drop 6)=false∨iP b (L[a].drop 6) < b.length then 110 else 0:=by
  unfold fO
  rw [hdr,hg,show bM Hr L[a]=(L[a].take 6 == Hr) by rw [tZ,Fe];simp [show Hr.length=6 from rfl]]
 obtain ⟨x,hx⟩:∃ z,L[a]=z:=⟨_,rfl⟩
 rw [hx] at hat hxb hC hTi hHa hte hdr
 obtain ⟨tt,htt⟩:∃ z,x.drop 6=z:=⟨_,rfl⟩
 rw [show Hr.length=6 from rfl] at hC
 rw [htt] at hC hTi hHa hte hdr
 obtain ⟨TE,hTE⟩:∃ z,fO L a b=z:=⟨_,rfl⟩
 rw [hTE] at hte ⊢
 rw [hdr]
 obtain ⟨LT,Vp⟩:∃ z,L.map bg=z:=⟨_,rfl⟩
 obtain ⟨R,hR⟩:∃ z,b.map sJ=z:=⟨_,rfl⟩
 rw [Vp] at hlen hat hF ⊢
 rw [hR] at hbl hF hHa ⊢
 unfold Hr at hC
 cases hp:bM Hr x with
 | false =>
  rw [hp,if_pos rfl] at hte
  unfold Hr at hp
  rw [hp,if_neg (by decide)] at hC
  subst hte
  refine ⟨fun _=>?_,fun k=>by cases k⟩
  have hF:=hF 4
  exact aeE
 | true =>
  rw [hp,if_neg (by decide)] at hte
  unfold Hr at hp
  rw [hp,if_pos rfl] at hC
  by_cases h64:b.length=64
  ·rw [if_pos h64] at hte
   subst hte
   refine ⟨fun _=>?_,fun k=>by cases k⟩
   have hF:=hF 2
   exact aeE
  rw [if_neg h64] at hte
  cases hto:iH tt with
  | false =>
   rw [if_pos (.inl hto)] at hte
   rw [hto] at hTi
   subst hte
   refine ⟨fun _=>?_,fun k=>by cases k⟩
   have hF:=hF 110
   refine Cto.intro truS Tryz.func67 rfl Tryz.ntmps67 (aP rfl) rfl fun w0 F0 fp pg hB=>?_
   unfold lW lK at hF ⊢
   refine ahD ?_
   refine DK.vl rfl (bU Tryz.func89 hC) ?_
   refine Fh ?_
   refine uN ?_
   refine WL.vl rfl (bU Tryz.func71 hTi) ?_
   exact aeV
  | true =>
  rw [hto] at hTi
  unfold TV at hHa
  by_cases hn:iP b tt < b.length
  ·rw [if_pos (.inr hn)] at hte
   rw [if_pos hn] at hHa
   subst hte
   refine ⟨fun _=>?_,fun k=>by cases k⟩
   have hF:=hF 110
   refine Cto.intro truS Tryz.func67 rfl Tryz.ntmps67 (aP rfl) rfl fun w0 F0 fp pg hB=>?_
   unfold lW lK at hF ⊢
   refine ahD ?_
   refine DK.vl rfl (bU Tryz.func89 hC) ?_
   refine Fh ?_
   refine uN ?_
   refine WL.vl rfl (bU Tryz.func71 hTi) ?_
   refine uN ?_
   refine WL.vl rfl (WV.lendX (truH _) rfl (callF Tryz.func72 rfl rfl) rfl (.cons (Lent.row rfl) (.cons (Lent.pu rfl) .nil)) truST hHa.g) ?_
   exact aeV
  rw [if_neg (by rw [hto];simp;omega)] at hte
  rw [if_neg hn] at hHa
  subst hte
  refine ⟨fun k=>absurd rfl k,fun _=>?_⟩
  clear hF
  unfold akb
  refine Cto.intro truS Tryz.func67 rfl Tryz.ntmps67 (aP rfl) rfl fun w0 F0 fp pg hB=>?_
  unfold lW aj9 lK
  refine ahD ?_
  refine DK.vl rfl (bU Tryz.func89 hC) ?_
  refine Fh ?_
  refine uN ?_
  refine WL.vl rfl (bU Tryz.func71 hTi) ?_
  refine uN ?_
  refine WL.vl rfl (WV.lendX (truH _) rfl (callF Tryz.func72 rfl rfl) rfl (.cons (Lent.row rfl) (.cons (Lent.pu rfl) .nil)) truST hHa.g) ?_
  refine uN ?_
  unfold zq
  refine WL.vl rfl (WV.mkb rfl rfl) ?_
  refine uN ?_
  refine W.tr (σ':=⟨[(2,.fn (125+1000000) [.pt 0 0 0])],[(0,.box 123 [.ls 1 LT,.sc (.int .i64 ((a:Int)+1)),.sl 2,.sc (.int .i64 0),.sc (.int .i64 0)]),(2,.row 129 5 (R++[[.sc (.string (bs tt)),.sc (.int .u8 0),.sc (.slice none 0 0),.sc (.slice none 0 0),.sc (.slice none 0 0)]]))],3⟩) (mP (fun q=>bif Nat.beq q 2 then 3 else q) BK rfl) ?_
  exact jJ
theorem aaV {R:List (List UInt8)} {n:Nat} (h:n≤fM R):∀ w∈R.take n,w≠xI:=by
 intro w hw e
 obtain ⟨k,hk,rfl⟩:=fZ hw
 rw [jR]at hk
 rw [LZ]at e
 have:=J8 (r:=R) (k:=k) aj aj
 rw [e]at this
 simp at this
theorem X6 {R:List (List UInt8)} (h:fM R<R.length):R=R.take (fM R)++xI::R.drop (fM R+1):=by
 have e:R[fM R]=xI:=by simpa using J7 h
 conv=>lhs;rw [← Fb (fM R) R,kV h,e]
theorem J5 (L:List (List UInt8)) (R:List (List AV)) (a:Nat) (h:a≤L.length) (hl:L.length≤1000000) (hn:L.length≤a+fM (L.drop a)) :
  Cto jQ sZ Tryz.prog 125 [.pt 0 0 0] [(0,lW (L.map bg) a 0 0),(1,lK R)] 2 (.sc .nilFunc) [(0,lW (L.map bg) a ((L.length:Int)+1) 4),(1,lK R)] 2:=by
 have hlen:(L.map bg).length=L.length:=dH _
 have hI:=CV (L.drop a) xI (fun w hw=>aaV (R:=L.drop a) (n:=(L.drop a).length) WT w (by rw [fE];exact hw)) WT
 have hF:=CW (L.map bg) R a 0 0 ((L.length:Int)+1) 4
 have hpr:prt (L.map bg) (a:Int) ((L.map bg).length:Int)=(L.drop a).map bg:=by
  exact adW
 unfold xI at hI
 obtain ⟨LT,Vp⟩:∃ z,L.map bg=z:=⟨_,rfl⟩
 rw [Vp] at hlen hF hpr ⊢
 refine Cto.intro iG Tryz.func125 rfl Tryz.ntmps125 (aP rfl) rfl fun w0 F0 fp pg hB=>?_
 unfold lW lK at *
 refine jw ?_
 refine acZ ?_
 refine iT ?_
 refine Uz ?_
 refine aiB ?_
 refine Uz ?_
 refine DK.vl rfl (bU Tryz.func158 hI) ?_
 refine Uz ?_
 refine acZ ?_
 rw [← hlen] at hF ⊢
 refine WL.cto (truH _) [0,1] rfl rfl (callF Tryz.func124 rfl rfl) hF rfl rfl rfl ⟨⟨rfl,rfl,rfl⟩,⟨rfl,rfl,rfl⟩,trivial⟩ rfl rfl rfl rfl ?_
 refine acZ ?_
 exact W.ret (finM rfl rfl rfl rfl rfl)
theorem Vw {B:List (List AV)} {r:List AV} {j:Nat} {l:List AV} (h1:j+l.length≤r.length) (h2:l.all AV.pu0=true):AO.put (.row 129 5 (B++[r])) B.length j l=some (.row 129 5 (B++[putL j l r])):=by
 have:(B++[r])[B.length]?=some r:=by simp
 unfold AO.put
 dsimp only
 rw [this]
 dsimp only
 rw [if_pos ⟨h1,h2⟩]
 simp
theorem X7 (L:List (List UInt8)) (B:List (List AV)) (tt:List UInt8) (a:Nat) (h:a≤L.length) (hl:L.length≤1000000) (hL:(fP L a).length≤65536) (hb:B.length≤64) (hn:¬ L.length≤a+fM (L.drop a)) :
  ((au (fP L a)).2.2.2≠0→Cto jQ sZ Tryz.prog 125 [.pt 0 0 0] [(0,lW (L.map bg) a 0 0),(1,lK (B++[zq tt]))] 2 (.sc .nilFunc) [(0,lW (L.map bg) a ((a:Int)+(au (fP L a)).2.2.1) (au (fP L a)).2.2.2),(1,lK (B++[zq tt]))] 2) ∧
  ((au (fP L a)).2.2.2=0→Cto jQ sZ Tryz.prog 125 [.pt 0 0 0] [(0,lW (L.map bg) a 0 0),(1,lK (B++[zq tt]))] 2 akc [(0,lW (L.map bg) ((a:Int)+((fM (L.drop a):Nat)+1)) 0 0),(1,lK (B++[sJ ⟨tt,(au (fP L a)).1,(au (fP L a)).2.1⟩]))] 2):=by
 have hlen:(L.map bg).length=L.length:=dH _
 have hparts:=X6 (R:=L.drop a) WT
 have hne0:=aaV (R:=L.drop a) (Nat.le_refl _)
 have hx:fP L a=ak 10 ((L.drop a).take (fM (L.drop a))) []:=rfl
 obtain ⟨n,hnn⟩:∃ z,fM (L.drop a)=z:=⟨_,rfl⟩
 rw [hnn] at hparts hn hx hne0 ⊢
 have hJ:=hL
 rw [hx] at hJ
 have hI:=CU ((L.drop a).take n) ((L.drop a).drop (n+1)) xI hne0 (by simp only [jR,qK];omega)
 rw [← hparts] at hI
 have hTn:((L.drop a).take n).length=n:=by rw [jR,qK];omega
 rw [hTn] at hI
 have hpr:prt (L.map bg) (a:Int) ((L.map bg).length:Int)=(L.drop a).map bg:=by
  exact adW
 have agk:prt (L.map bg) (a:Int) ((a:Int)+n)=((L.drop a).take n).map bg:=by
  unfold prt
  rw [show ((a:Int)+n).toNat=a+n by omega,dB,← List.map_take,← L6,List.drop_take,Nat.add_sub_cancel_left]
 rw [hx]
 have hJk:∀ k,(ak 10 (((L.drop a).take n).take k) []).length≤65536:=fun k=>iD (tV _ k) hJ
 clear hparts hne0 hx hL
 obtain ⟨X,hX⟩:∃ z,(L.drop a).take n=z:=⟨_,rfl⟩
 rw [hX] at hTn hJ hJk agk ⊢
 have hXl:(X.map bg).length=n:=by rw [dH,hTn]
 have alK:∀ k (h:k < X.length),(X.map bg)[((k:Nat):Int).toNat]?=some (bg X[k]):=fun k h=>wI h
 have hR:=akM (ak 10 X []) hJ
 have hln:=RD (ak 10 X [])
 have hJn:∀ h:0 < n,ak 10 X []≠[]:=fun h e=>by
  have:=congrArg List.length e
  cases X with
  | nil=>simp at hTn;omega
  | cons x r=>rw [aF] at this;simp at this
 have hJs:∀ k (h:k < X.length),ak 10 (X.take (k+1)) []=ak 10 (X.take k) []++(X[k]++[10]):=fun k h=>J6 h
 have hJ0:ak 10 (X.take n) []=ak 10 X []:=by rw [← hTn,fE]
 obtain ⟨LT,Vp⟩:∃ z,L.map bg=z:=⟨_,rfl⟩
 obtain ⟨XT,hXT⟩:∃ z,X.map bg=z:=⟨_,rfl⟩
 obtain ⟨RT,hRT⟩:∃ z,(L.drop a).map bg=z:=⟨_,rfl⟩
 rw [Vp] at hlen hpr agk ⊢
 rw [hRT] at hI hpr
 rw [hXT] at agk hXl alK
 unfold xI at hI
 obtain ⟨⟨s,p,ln,e⟩,hr⟩:∃ z,au (ak 10 X [])=z:=⟨_,rfl⟩
 rw [hr] at hR hln ⊢
 unfold rdR at hR
 dsimp only at hR hln ⊢
 have hF:=CW LT (B++[zq tt]) a 0 0 ((a:Int)+ln) e
 have hBl:(B++[zq tt]).length=B.length+1:=by simp
 have hix:(((B++[zq tt]).length:Int) - 1).toNat=B.length:=by rw [hBl];omega
 unfold lW lK zq at *
 by_cases he:e=0
 rotate_left
 ·refine ⟨fun _=>?_,fun k=>absurd k he⟩
  by_cases hn0:n=0
  ·subst hn0
   have hXn:X=[]:=kU hTn
   subst hXn
   refine Cto.intro iG Tryz.func125 rfl Tryz.ntmps125 (aP rfl) rfl fun w0 F0 fp pg hB=>?_
   refine WZ ?_
   refine DK.vl rfl (bU Tryz.func158 hI) ?_
   refine Uy ?_
   refine FK ?_
   refine WY ?_
   refine W.loop (fun k:Nat=>k=0) (fun k=>⟨[(0,.pt 0 0 0),(3,.sc (.int .i64 ((0:Nat):Int))),(4,.pt 2 0 0),(46,.ls 1 XT),(47,.sc (.int .i64 XT.length)),(48,.sc (.int .i64 k))],[(0,.box 123 [.ls 1 LT,.sc (.int .i64 (a:Int)),.sl 1,.sc (.int .i64 0),.sc (.int .i64 0)]),(1,.row 129 5 (B++[[.sc (.string (bs tt)),.sc (.int .u8 0),.sc (.slice none 0 0),.sc (.slice none 0 0),.sc (.slice none 0 0)]])),(2,.box 103 [.sc (.pointer none),.sc (.slice none 0 0)])],3⟩) (fun k=>k) 0 rfl (zqt id) fun k hk=>?_
   subst hk
   refine jE ?_
   refine WL.vl rfl (WV.afL rfl (callF Tryz.func55 rfl rfl) rfl rfl fun w b=>U6 w b _) ?_
   exact aiS
  ·have hn0:0 < n:=by omega
   refine Cto.intro iG Tryz.func125 rfl Tryz.ntmps125 (aP rfl) rfl fun w0 F0 fp pg hB=>?_
   refine WZ ?_
   refine DK.vl rfl (bU Tryz.func158 hI) ?_
   refine Uy ?_
   refine jE ?_
   first|refine W.tr (Tr.bld 2 5 rfl) ?_|refine WL.tr (Tr.bld 2 5 rfl) ?_
   dsimp only [St.upd]
   refine FK ?_
   refine WY ?_
   refine W.loop (fun k:Nat=>k≤n) (fun k=>⟨[(0,.pt 0 0 0),(3,.sc (.int .i64 (n:Int))),(4,.pt 2 0 0),(46,.ls 1 XT),(47,.sc (.int .i64 XT.length)),(48,.sc (.int .i64 k))],[(0,.box 123 [.ls 1 LT,.sc (.int .i64 (a:Int)),.sl 1,.sc (.int .i64 0),.sc (.int .i64 0)]),(1,.row 129 5 (B++[[.sc (.string (bs tt)),.sc (.int .u8 0),.sc (.slice none 0 0),.sc (.slice none 0 0),.sc (.slice none 0 0)]])),(2,.bld 103 5 (ak 10 (X.take k) []))],3⟩) (fun k=>n - k) 0 aj (zqt id) fun k hk=>?_
   by_cases hkn:k < n
   ·exact aiJ
   obtain rfl:k=n:=by omega
   rw [hJ0]
   refine jE ?_
   refine WL.bs rfl rfl rfl (callF Tryz.func55 rfl rfl) uU (hJn aj) ?_
   exact aiS
 ·subst he
  refine ⟨fun k=>absurd rfl k,fun _=>?_⟩
  clear hF
  unfold akc
  by_cases hn0:n=0
  ·subst hn0
   have hXn:X=[]:=kU hTn
   subst hXn
   refine Cto.intro iG Tryz.func125 rfl Tryz.ntmps125 (aP rfl) rfl fun w0 F0 fp pg hB=>?_
   refine WZ ?_
   refine DK.vl rfl (bU Tryz.func158 hI) ?_
   refine Uy ?_
   refine FK ?_
   refine WY ?_
   refine W.loop (fun k:Nat=>k=0) (fun k=>⟨[(0,.pt 0 0 0),(3,.sc (.int .i64 ((0:Nat):Int))),(4,.pt 2 0 0),(46,.ls 1 XT),(47,.sc (.int .i64 XT.length)),(48,.sc (.int .i64 k))],[(0,.box 123 [.ls 1 LT,.sc (.int .i64 (a:Int)),.sl 1,.sc (.int .i64 0),.sc (.int .i64 0)]),(1,.row 129 5 (B++[[.sc (.string (bs tt)),.sc (.int .u8 0),.sc (.slice none 0 0),.sc (.slice none 0 0),.sc (.slice none 0 0)]])),(2,.box 103 [.sc (.pointer none),.sc (.slice none 0 0)])],3⟩) (fun k=>k) 0 rfl (zqt id) fun k hk=>?_
   subst hk
   refine jE ?_
   refine WL.vl rfl (WV.afL rfl (callF Tryz.func55 rfl rfl) rfl rfl fun w b=>U6 w b _) ?_
   refine jE ?_
   refine WL.vl rfl (WV.callG hB rfl (callF Tryz.func11 rfl rfl) rfl rfl hR) ?_
   refine FK ?_
   refine jE ?_
   rw [hix]
   refine aiD ?_
   refine gQ ?_
   refine gQ ?_
   refine wC ?_
   refine kX ?_
   refine DTK.sto rfl rfl rfl rfl rfl rfl rfl rfl rfl rfl rfl rfl (Vw (aP rfl) rfl) rfl ⟨rfl,trivial⟩ (fun _=>⟨rfl,trivial⟩) ?_
   refine wC ?_
   refine kX ?_
   refine DTK.sto rfl rfl rfl rfl rfl rfl rfl rfl rfl rfl rfl rfl (Vw (aP rfl) rfl) rfl ⟨rfl,trivial⟩ (fun h=>by cases h) ?_
   refine DTK.nil ?_
   refine ⟨rfl,?_⟩
   refine (?_:WL _ _ _ _ _ _)
   refine jE ?_
   refine WL.vl rfl (WV.mkb rfl rfl) ?_
   refine jE ?_
   refine W.tr (σ':=⟨[(2,.fn (67+1000000) [.pt 0 0 0])],[(0,.box 123 [.ls 1 LT,.sc (.int .i64 ((a:Int)+((0:Nat)+1))),.sl 1,.sc (.int .i64 0),.sc (.int .i64 0)]),(1,.row 129 5 (B++[sJ ⟨tt,s,p⟩]))],2⟩) (zqt id) ?_
   exact jJ
  ·have hn0:0 < n:=by omega
   refine Cto.intro iG Tryz.func125 rfl Tryz.ntmps125 (aP rfl) rfl fun w0 F0 fp pg hB=>?_
   refine WZ ?_
   refine DK.vl rfl (bU Tryz.func158 hI) ?_
   refine Uy ?_
   refine jE ?_
   first|refine W.tr (Tr.bld 2 5 rfl) ?_|refine WL.tr (Tr.bld 2 5 rfl) ?_
   dsimp only [St.upd]
   refine FK ?_
   refine WY ?_
   refine W.loop (fun k:Nat=>k≤n) (fun k=>⟨[(0,.pt 0 0 0),(3,.sc (.int .i64 (n:Int))),(4,.pt 2 0 0),(46,.ls 1 XT),(47,.sc (.int .i64 XT.length)),(48,.sc (.int .i64 k))],[(0,.box 123 [.ls 1 LT,.sc (.int .i64 (a:Int)),.sl 1,.sc (.int .i64 0),.sc (.int .i64 0)]),(1,.row 129 5 (B++[[.sc (.string (bs tt)),.sc (.int .u8 0),.sc (.slice none 0 0),.sc (.slice none 0 0),.sc (.slice none 0 0)]])),(2,.bld 103 5 (ak 10 (X.take k) []))],3⟩) (fun k=>n - k) 0 aj (zqt id) fun k hk=>?_
   by_cases hkn:k < n
   ·exact aiJ
   obtain rfl:k=n:=by omega
   rw [hJ0]
   refine jE ?_
   refine WL.bs rfl rfl rfl (callF Tryz.func55 rfl rfl) uU (hJn aj) ?_
   refine jE ?_
   refine WL.vl rfl (WV.callG hB rfl (callF Tryz.func11 rfl rfl) rfl rfl hR) ?_
   refine FK ?_
   refine jE ?_
   rw [hix]
   refine aiD ?_
   refine gQ ?_
   refine gQ ?_
   refine wC ?_
   refine kX ?_
   refine DTK.sto rfl rfl rfl rfl rfl rfl rfl rfl rfl rfl rfl rfl (Vw (aP rfl) rfl) rfl ⟨rfl,trivial⟩ (fun _=>⟨rfl,trivial⟩) ?_
   refine wC ?_
   refine kX ?_
   refine DTK.sto rfl rfl rfl rfl rfl rfl rfl rfl rfl rfl rfl rfl (Vw (aP rfl) rfl) rfl ⟨rfl,trivial⟩ (fun h=>by cases h) ?_
   refine DTK.nil ?_
   refine ⟨rfl,?_⟩
   refine (?_:WL _ _ _ _ _ _)
   refine jE ?_
   refine WL.vl rfl (WV.mkb rfl rfl) ?_
   refine jE ?_
   refine W.tr (σ':=⟨[(2,.fn (67+1000000) [.pt 0 0 0])],[(0,.box 123 [.ls 1 LT,.sc (.int .i64 ((a:Int)+((k:Nat)+1))),.sl 1,.sc (.int .i64 0),.sc (.int .i64 0)]),(1,.row 129 5 (B++[sJ ⟨tt,s,p⟩]))],2⟩) (zqt id) ?_
   exact jJ
theorem akf {t:List UInt8} (h:t≠[]):([10]:List UInt8).isSuffixOf t=decide ((aI 10 t).2=[]):=by
 have hj:=iF 10 t
 have hn:=(vg 10 t).2
 obtain⟨⟨L,tl⟩,hF⟩:∃ z,aI 10 t=z:=⟨_,rfl⟩
 rw [hF] at hj hn ⊢
 dsimp only at hj hn ⊢
 rw [Fe,List.isSuffixOf_iff_suffix,bD]
 unfold ak at hj
 constructor
 ·rintro⟨u,hu⟩
  apply Classical.byContradiction
  intro ht
  have h1:t.getLast?=some 10:=by rw [← hu];simp
  obtain⟨x,hx⟩:∃ x,tl.getLast?=some x:=⟨_,List.getLast?_eq_some_getLast ht⟩
  rw [← hj,List.getLast?_append,hx] at h1
  obtain rfl:x=10:=by simpa using h1
  exact hn _ (List.mem_of_getLast? hx) rfl
 ·rintro rfl
  rcases List.eq_nil_or_concat L with rfl|⟨L0,x,rfl⟩
  ·exact absurd hj.symm h
  ·exact⟨L0.flatMap (fun l=>l++[10])++x,by rw [← hj];simp⟩
theorem XU (l:List UInt8) (h:l.length≤1000000):Ctr Tryz.prog 66 [.sc (.string (bs l)),.sc (.string (bs [10]))] (.sc (.bool (([10]:List UInt8).isSuffixOf l))):=by
 have hP:=acA l [10] h
 refine jc Tryz.func66 Tryz.ntmps66 fun w0 F0=>?_;dsimp only [St.init,number,Nat.reduceAdd]
 refine acY ?_
 refine WL.vl rfl (bU Tryz.func123 hP) ?_
 refine acY ?_
 exact W.ret vJ
inductive FY where
 | tt (a:Nat)(b:List En)
 | pc (a:Nat)(b:List En)
 | er (R:List (List AV))(a ln e:Int)
 | ok (b:List En)
def FY.f:FY→AV
 | .tt _ _=>.fn (67+1000000) [.pt 1 0 0]
 | .pc _ _=>.fn (125+1000000) [.pt 1 0 0]
 | _=>.sc .nilFunc
def FY.bx (L:List (List UInt8)):FY→List AV
 | .tt a _=>[.ls 1 (L.map bg),.sc (.int .i64 a),.sl 2,.sc (.int .i64 0),.sc (.int .i64 0)]
 | .pc a _=>[.ls 1 (L.map bg),.sc (.int .i64 ((a:Int)+1)),.sl 2,.sc (.int .i64 0),.sc (.int .i64 0)]
 | .er _ a ln e=>[.ls 1 (L.map bg),.sc (.int .i64 a),.sl 2,.sc (.int .i64 ln),.sc (.int .i64 e)]
 | .ok _=>[.ls 1 (L.map bg),.sc (.int .i64 (L.length:Int)),.sl 2,.sc (.int .i64 0),.sc (.int .i64 0)]
def FY.rw (L:List (List UInt8)):FY→List (List AV)
 | .tt _ b=>b.map sJ
 | .pc a b=>b.map sJ++[zq (nH L a)]
 | .er R _ _ _=>R
 | .ok b=>b.map sJ
def FY.I (L:List (List UInt8))(V:Nat→List En→Prop):FY→Prop
 | .tt a b=>a≤L.length∧b.length≤64∧kC L 0 []=kC L a b∧V a b
 | .pc a b=>a<L.length∧b.length≤63∧fO L a b=0∧kC L 0 []=kC L a b∧V a b
 | .er _ _ ln e=>kC L 0 []=([],ln,e)∧e≠0
 | .ok b=>kC L 0 []=(b,0,0)
def FY.m (L:List (List UInt8)):FY→Nat
 | .tt a _=>2*(L.length-a)+2
 | .pc a _=>2*(L.length-a)+1
 | _=>0
theorem akh:Ctg jQ Tryz.prog 22 [.sc (.string (bs []))] (ldR (bF [])):=by
 have e:bF []=([],0,0):=by
  unfold bF
  rw [if_neg (by show ¬ ([]:List UInt8)≠[];simp)]
  exact Rh (Nat.le_refl _)
 rw [e]
 refine Ctg.intro iG Tryz.func22 rfl Tryz.ntmps22 (aP rfl) (aT rfl) fun w0 F0 hB=>?_;dsimp only [St.init,number,Nat.reduceAdd]
 refine Qi ?_
 rw [show (([]:List UInt8) == [])=true from rfl]
 refine Qi ?_
 first|refine W.tr (Tr.nilC 0 0 5 rfl rfl rfl) ?_|refine WL.tr (Tr.nilC 0 0 5 rfl rfl rfl) ?_
 exact dY
theorem aaW (t:List UInt8) (ht:t.length≤999999) (V:Nat→List En→Prop) (hV0:V 0 [])
  (hVx:∀ a b,V a b→a < (aI 10 t).1.length→fO (aI 10 t).1 a b=0→¬ (aI 10 t).1.length≤a+1+fM ((aI 10 t).1.drop (a+1))→(fP (aI 10 t).1 (a+1)).length≤65536)
  (hVn:∀ a b,V a b→a < (aI 10 t).1.length→fO (aI 10 t).1 a b=0→¬ (aI 10 t).1.length≤a+1+fM ((aI 10 t).1.drop (a+1))→(au (fP (aI 10 t).1 (a+1))).2.2.2=0→V (a+1+fM ((aI 10 t).1.drop (a+1))+1) (b++[⟨nH (aI 10 t).1 a,(au (fP (aI 10 t).1 (a+1))).1,(au (fP (aI 10 t).1 (a+1))).2.1⟩])):Ctg jQ Tryz.prog 22 [.sc (.string (bs t))] (ldR (bF t)):=by
 by_cases h0:t=[]
 ·subst h0;exact akh
 have hb0:(t == [])=false:=by simpa using h0
 have hsx:=XU t aj
 rw [akf h0] at hsx
 have hW:=yH 10 t aj
 have hwb:=nJ 10 t
 have hLa:=CX t
 have hwl:(aV 10 t).length≤1000000:=by
  exact adO
 unfold bF
 unfold aV at hW hwb hwl
 obtain ⟨⟨L,tl⟩,hF⟩:∃ z,aI 10 t=z:=⟨_,rfl⟩
 rw [hF] at hsx hW hwb hwl hLa hVx hVn ⊢
 dsimp only at hsx hW hwb hwl hLa hVx hVn ⊢
 rw [bJ,EP] at hwl
 have hml:((L++[tl]).map bg).length=L.length+1:=by simp
 have hpr:prt ((L++[tl]).map bg) 0 ((((L++[tl]).map bg).length:Int) - 1)=L.map bg:=by
  unfold prt
  rw [hml,show (((L.length+1:Nat):Int) - 1).toNat=L.length by omega]
  simp
 obtain ⟨W0,hW0⟩:∃ z,(L++[tl]).map bg=z:=⟨_,rfl⟩
 rw [hW0] at hW hml hpr
 by_cases htl:tl=[]
 rotate_left
 ·rw [if_pos htl]
  rw [dW htl] at hsx
  rw [show (L.length:Int)+1=(W0.length:Int) by omega]
  refine Ctg.intro iG Tryz.func22 rfl Tryz.ntmps22 (aP rfl) (aT rfl) fun w0 F0 hB=>?_;dsimp only [St.init,number,Nat.reduceAdd]
  refine lG ?_
  rw [hb0]
  refine lG ?_
  refine WL.vl rfl (WV.callG hB rfl (callF Tryz.func38 rfl rfl) rfl rfl hW) ?_
  refine lG ?_
  refine WL.vl rfl (bU Tryz.func66 hsx) ?_
  refine lG ?_
  refine W.drawT 9 aK aK aK ?_
  refine WA.dt [false,false,false,false,false,false,true,false,false] [1] [1] 6 aK aK aK ⟨rfl,trivial⟩ ⟨rfl,trivial⟩ ?_
  refine gQ ?_
  refine wC ?_
  refine gQ ?_
  refine DTK.v0 rfl (lenV_of rfl) ?_
  exact aeA
 subst htl
 rw [if_neg (by simp)]
 rw [fQ rfl] at hsx
 have hwL:∀ w∈L,w.length≤1000000:=fun w hw=>by have:=hwb w (EH _ hw);omega
 have hLn:L.length≤1000000:=by omega
 refine Ctg.intro iG Tryz.func22 rfl Tryz.ntmps22 (aP rfl) (aT rfl) fun w0 F0 hB=>?_;dsimp only [St.init,number,Nat.reduceAdd]
 refine lG ?_
 rw [hb0]
 refine lG ?_
 refine WL.vl rfl (WV.callG hB rfl (callF Tryz.func38 rfl rfl) rfl rfl hW) ?_
 refine lG ?_
 refine WL.vl rfl (bU Tryz.func66 hsx) ?_
 refine lG ?_
 refine W.drawT 15 aK aK aK ?_
 refine WA.dt [false,false,false,false,false,false,false,false,false,false,false,false,false,false,true] [] [1] 14 aK aK aK trivial ⟨rfl,trivial⟩ ?_
 refine gQ ?_
 refine wC ?_
 refine kX ?_
 refine DTK.st rfl aK rfl ?_
 refine FM ?_
 refine kX ?_
 refine DTK.st rfl aK rfl ?_
 refine DTK.vl rfl aK (lenV_of rfl) ?_
 refine DTK.ar rfl aK rfl ams ?_
 refine DTK.vl rfl aK (partV_of rfl ⟨by omega,by omega,by omega⟩) ?_
 rw [hpr]
 refine wC ?_
 refine kX ?_
 refine DTK.sto rfl rfl rfl rfl rfl rfl rfl rfl rfl rfl rfl rfl rfl rfl trivial (fun h=>by cases h) ?_
 refine DTK.nil ?_
 refine ⟨rfl,?_⟩
 refine (?_:WL _ _ _ _ _ _)
 refine lG ?_
 refine WL.vl rfl (WV.mkb rfl rfl) ?_
 refine lG ?_
 refine W.tr (Tr.nilBox (k:=1) (j:=2) 129 5 rfl rfl rfl rfl) ?_
 refine W.loop (FY.I L V) (fun s=>⟨[(2,.pt 0 0 0),(3,.sc (.int .i64 0)),(4,.sc (.int .i64 0)),(5,.pt 1 0 0),(6,s.f)],[(0,.box 47 [.sc (.slice none 0 0)]),(1,.box 123 (s.bx L)),(2,.row 129 5 (s.rw L))],3⟩) (FY.m L) (.tt 0 []) ⟨dD _,by simp,rfl,hV0⟩ (zqt id) fun s hs=>?_
 have hC:∀ {ln e:Int} {R:List (List AV)},True:=trivial
 cases s with
 | tt a b =>
  obtain ⟨h1,h2,h3,hV⟩:=hs
  refine yS ?_
  by_cases hlt:a < L.length
  rotate_left
  ·have hal:a=L.length:=by omega
   have hc:=N7 L (b.map sJ) a hal hLn
   have hI:FY.I L V (.ok b):=h3.trans (Rh aj)
   unfold lW lK at hc
   refine FI ?_
   refine WL.ctb (truH _) [1,2] rfl rfl (callF Tryz.func67 rfl rfl) hc rfl rfl rfl ⟨⟨rfl,rfl,rfl⟩,⟨rfl,rfl,rfl⟩,trivial⟩ rfl rfl rfl rfl ?_
   refine lG ?_
   refine ⟨.ok b,hI,by show 0 < 2*(L.length - a)+2;omega,?_⟩
   refine yS ?_
   rw [← hal]
   exact (zqt id)
  have hT:=X8 L b a hlt hLn hwL h2
  by_cases hte:fO L a b=0
  ·have hc:=hT.2 hte
   have h64:=CY hte
   have hI:FY.I L V (.pc a b):=⟨hlt,by omega,hte,h3,hV⟩
   unfold lW aj9 lK akb at hc
   refine FI ?_
   refine WL.ctb (truH _) [1,2] rfl rfl (callF Tryz.func67 rfl rfl) hc rfl rfl rfl ⟨⟨rfl,rfl,rfl⟩,⟨rfl,rfl,rfl⟩,trivial⟩ rfl rfl rfl rfl ?_
   refine lG ?_
   refine ⟨.pc a b,hI,by show 2*(L.length - a)+1 < 2*(L.length - a)+2;omega,?_⟩
   refine yS ?_
   exact ai1
  ·have hc:=hT.1 hte
   have hI:FY.I L V (.er (b.map sJ) ((a:Int)+1) ((a:Int)+1) (fO L a b)):=⟨h3.trans (akg hlt hte),hte⟩
   unfold lW lK at hc
   refine FI ?_
   refine WL.ctb (truH _) [1,2] rfl rfl (callF Tryz.func67 rfl rfl) hc rfl rfl rfl ⟨⟨rfl,rfl,rfl⟩,⟨rfl,rfl,rfl⟩,trivial⟩ rfl rfl rfl rfl ?_
   refine lG ?_
   refine ⟨_,hI,by show 0 < 2*(L.length - a)+2;omega,?_⟩
   refine yS ?_
   exact (zqt id)
 | pc a b =>
  obtain ⟨h1,h2,h4,h3,hV⟩:=hs
  refine yS ?_
  have e1:((a+1:Nat):Int)=(a:Int)+1:=by omega
  by_cases hop:L.length≤a+1+fM (L.drop (a+1))
  ·have hc:=J5 L (b.map sJ++[zq (nH L a)]) (a+1) aj hLn hop
   have hI:FY.I L V (.er (b.map sJ++[zq (nH L a)]) ((a:Int)+1) ((L.length:Int)+1) 4):=⟨h3.trans (agD h1 h4 hop),by decide⟩
   exact aiU
  have hP:=X7 L (b.map sJ) (nH L a) (a+1) (by omega) hLn (hVx a b hV h1 h4 hop) (by rw [dH];omega) hop
  by_cases he:(au (fP L (a+1))).2.2.2=0
  ·have hc:=hP.2 he
   have hI:FY.I L V (.tt (a+1+fM (L.drop (a+1))+1) (b++[⟨nH L a,(au (fP L (a+1))).1,(au (fP L (a+1))).2.1⟩])):=⟨by omega,by rw [bJ,EP];omega,h3.trans (ld_next h1 h4 hop he),hVn a b hV h1 h4 hop he⟩
   have e2:((a:Int)+1)+((fM (L.drop (a+1)):Nat)+1)=((a+1+fM (L.drop (a+1))+1:Nat):Int):=by omega
   have e3:b.map sJ++[sJ (⟨nH L a,(au (fP L (a+1))).1,(au (fP L (a+1))).2.1⟩:En)]=(b++[(⟨nH L a,(au (fP L (a+1))).1,(au (fP L (a+1))).2.1⟩:En)]).map sJ:=by rw [gK];rfl
   unfold lW lK akc at hc
   rw [e1,e2,e3] at hc
   refine FI ?_
   refine WL.ctb hB [1,2] rfl rfl (callF Tryz.func125 rfl rfl) hc rfl rfl rfl ⟨⟨rfl,rfl,rfl⟩,⟨rfl,rfl,rfl⟩,trivial⟩ rfl rfl rfl rfl ?_
   refine lG ?_
   refine ⟨_,hI,by show 2*(L.length - (a+1+fM (L.drop (a+1))+1))+2 < 2*(L.length - a)+1;omega,?_⟩
   refine yS ?_
   exact (zqt id)
  ·have hc:=hP.1 he
   have hI:FY.I L V (.er (b.map sJ++[zq (nH L a)]) ((a:Int)+1) ((a:Int)+1+(au (fP L (a+1))).2.2.1) (au (fP L (a+1))).2.2.2):=⟨h3.trans (akd h1 h4 hop he),he⟩
   exact aiU
 | er R a ln e =>
  obtain ⟨h1,h2⟩:=hs
  rw [h1]
  refine yS ?_
  refine FI ?_
  refine W.drawT 12 aK aK aK ?_
  refine WA.dt [false,false,false,false,false,false,false,false,false,true,false,false] [1] [1] 9 aK aK aK ⟨rfl,trivial⟩ ⟨rfl,trivial⟩ ?_
  refine gQ ?_
  refine wC ?_
  refine gQ ?_
  refine FM ?_
  refine gQ ?_
  exact aeA
 | ok b =>
  have h1:kC L 0 []=(b,0,0):=hs
  rw [h1]
  refine yS ?_
  refine FI ?_
  first|refine W.tr (Tr.freeze 2 rfl) ?_|refine WL.tr (Tr.freeze 2 rfl) ?_
  exact dY
theorem aki (t:List UInt8) (ht:t.length≤65536):Ctg jQ Tryz.prog 22 [.sc (.string (bs t))] (ldR (bF t)) :=
 aaW t aj (fun _ _=>True) trivial (fun a b _ _ _ _=>iD (N9 t (a+1)) ht) (fun _ _ _ _ _ _ _=>trivial)
end
end Go.Proofs.YthohlofpphjofaaGreatDoor
