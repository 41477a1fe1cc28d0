/- The reader of the program: a column. (RWN.) -/
import Derived.Test.YthehkchjdkdbiaaGreatDoorNrEKq
import Derived.Test.YthehkchjdkdbiaaGreatDoorNrRKq
import Derived.Test.YthehkchjdkdbiaaGreatDoorNrIKq
set_option maxHeartbeats 16000000
set_option maxRecDepth 100000
set_option linter.unusedVariables false
set_option linter.unusedSimpArgs false
namespace Go.Proofs.YthehkchjdkdbiaaGreatDoor
theorem aqm {p:Prop}(h:p:=by repeat (first|exact trivial|refine ⟨⟨?_,?_,?_⟩,?_⟩|rfl|exact congrArg (fun q=>some (AO.row _ _ q)) hR2)):p:=h
theorem aw2 {p:Prop}(h:p:=by repeat (first|exact trivial|refine ⟨⟨?_,?_,?_⟩,?_⟩|rfl|exact congrArg (fun q=>some (AO.row _ _ q)) rfl|exact congrArg (fun q=>some (AO.jM _ _ q)) rfl|exact congrArg (fun q=>some (AO.row _ _ q)) rfl|exact congrArg (fun q=>some (AO.jM _ _ q)) rfl)):p:=h
section
variable {p:Prop}
theorem Dj(h:p:=by
 refine iP ?_
 exact uX):p:=h
theorem TW(h:p:=by
 refine zO ?_
 exact uX):p:=h
theorem ND(h:p:=by
 refine iP ?_
 exact Nu):p:=h
theorem alI(h:p:=by
 cases fb with
 | true =>
  refine iP ?_
  exact uX
 | false =>
  refine iP ?_
  exact uX):p:=h
theorem aln(h:p:=by
 by_cases hr:r1=[]
 ·rw [hd2 hr,dG hr]
  refine aqB ?_
  by_cases e:(w1 == ([37]:List UInt8))=true
  ·rw [e]
   refine iP ?_
   refine WL.vl rfl (WV.sys hs YE rfl rfl (fun vs w=>by kernel_rfl) (fun vs w=>by kernel_rfl) (fun vs w=>by kernel_rfl) (fun vs w=>by kernel_rfl) rfl rfl (EZ s hs 8)) ?_
   refine iP ?_
   exact uX
  ·rw [Bool.eq_false_iff.2 e]
   refine iP ?_
   exact uX
 ·rw [hd1 hr,cZ hr]
  refine iP ?_
  exact uX):p:=h
theorem akV(h:p:=by
 cases h;exact⟨rfl,rfl,rfl,fun x hx=>(BF hx).elim,by simp⟩):p:=h
theorem akg(h:p:=by
 refine WL.ctp hB [0,1,2] rfl rfl (ak Tryz.func163 rfl rfl) hcc rfl rfl rfl ⟨⟨rfl,rfl,rfl⟩,trivial⟩ ?_
 rfl):p:=h
theorem aaE(h:p:=by
 refine MW ?_
 refine ⟨nx,hN2,by omega,?_⟩
 exact (zqt id)):p:=h
theorem arz(h:p:=by
 subst e
 clear hB1 hB2 hb1 hb2 hch hX
 refine iP ?_
 refine (?_:Tr _ _ _)
 refine Tr.trans (Tr.aht (t:=8) 6 rfl) ?_
 exact (zqt id)):p:=h
end
theorem QF {p q:Prop}(k:q)(h:aP q→p:=by
 intro hq
 refine uo ?_
 refine ajO ?_
 refine uV ?_
 exact hq.k):p:=h ⟨k⟩
theorem ajS {p q:Prop}(k:q)(h:aP q→p:=by
 intro hq
 refine uo ?_
 refine uo ?_
 refine aZ.v0 rfl (zZ rfl hcb) ?_
 exact hq.k):p:=h ⟨k⟩
theorem aqB {p q:Prop}(k:q)(h:aP q→p:=by
 intro hq
 refine iP ?_
 refine WL.idx rfl rfl au asy ?_
 refine iP ?_
 exact hq.k):p:=h ⟨k⟩
theorem ajO {p q:Prop}(k:q)(h:aP q→p:=by
 intro hq
 refine aZ.v0 rfl (WV.X4 rfl rfl) ?_
 exact hq.k):p:=h ⟨k⟩
theorem aqv {p q:Prop}(k:q)(h:aP q→p:=by
 intro hq
 refine iP ?_
 refine W.rD bD ?_
 refine WA.dt [false,false,false,false,false,false,false,false,false,false,false,true,true,false] [0] [0] 12 bD bD bD ⟨rfl,trivial⟩ ⟨rfl,trivial⟩ ?_
 exact hq.k):p:=h ⟨k⟩
theorem aqs {p q:Prop}(k:q)(h:aP q→p:=by
 intro hq
 refine aZ.nil ?_
 refine MW ?_
 refine W.rD bD ?_
 refine WA.dt [false,false,false,false,false,false,false,false,false,true,true,false] [0,5] [0,5] 10 bD bD bD ⟨rfl,rfl,trivial⟩ ⟨rfl,rfl,trivial⟩ ?_
 exact hq.k):p:=h ⟨k⟩
theorem QB {p q:Prop}(k:q)(h:aP q→p:=by
 intro hq
 refine wY ?_
 refine WL.idx rfl rfl au hat ?_
 refine wY ?_
 exact hq.k):p:=h ⟨k⟩
theorem ajJ {p q:Prop}(k:q)(h:aP q→p:=by
 intro hq
 refine MW ?_
 refine W.rD bD ?_
 refine WA.dt [false,false,false,false,false,false,false,false,false,false,false,false,true,true,false] [0] [0] 13 bD bD bD ⟨rfl,trivial⟩ ⟨rfl,trivial⟩ ?_
 exact hq.k):p:=h ⟨k⟩
section
open Go.RowKit
theorem acG:∀ w F F',View.le F F'→qG w F→qG w F':=fun w F F' h⟨h1,h2⟩=>⟨fun i v x=>h _ _ (h1 i v x),h2⟩
theorem ZO {s c f R G H:Int} {t:List UInt8} (h:wM s (decide (0<f)) t=some (R,G,H)):FK s c f t=.tu [.ag [.sc (.int .i64 c),.sc (.int .i64 f),.sc (.int .i64 R),.sc (.int .i64 G),.sc (.int .i64 0),.sc (.int .i64 H)],.sc (.bool true)]:=by
 unfold wM at h
 obtain⟨y,hy,e⟩:=Option.map_eq_some_iff.1 h
 simp only [Prod.mk.injEq] at e
 obtain⟨rfl,rfl,rfl⟩:=e
 unfold FK
 rw [hy]
theorem aff {s c f:Int} {t:List UInt8} (h:wM s (decide (0<f)) t=none):∃ R G,FK s c f t=.tu [.ag [.sc (.int .i64 c),.sc (.int .i64 f),.sc (.int .i64 R),.sc (.int .i64 G),.sc (.int .i64 0),.sc (.int .i64 0)],.sc (.bool false)]:=by
 unfold wM at h
 have hy:=Option.map_eq_none_iff.1 h
 unfold FK
 rw [hy]
 exact⟨_,_,rfl⟩
theorem ahI {s:Int} (hs:1≤s∧s≤4):∀ x∈[AV.sc (.int .u8 s),.sc (bG s)],onB x=true:=fun x hx=>by
 rcases List.mem_cons.1 hx with rfl|hx
 ·rfl
 ·obtain rfl:=List.mem_singleton.1 hx
  rcases bQ hs with rfl|rfl|rfl|rfl<;>rfl
theorem abV {a b:AV} {r:List AV}:∀ (j:Nat)x,[a,b][j]?=some x→(a::b::r)[j]?=some x
 | 0,x,h=>h
 | 1,x,h=>h
 | j+2,x,h=>by simp at h
def ahC (s n:Int)(M:List (Nat×AO))(nk:Nat):Option N5→UR
 | some x=>.ok (.ag (xu s x)) M nk
 | none=>.er (eP n 4)
theorem aa8 (s:Int) (hs:1≤s∧s≤4) (CS ST:List (List AV)) (n:Int) (T:List (List AV)) (cl:Bool) (aT:Int) (w:List UInt8) (hw:w.length≤400000) (hsp:aK s aT=0) :
  Ou qG BR Tryz.prog 163 [.pt 0 0 0,.sc (.int .i64 aT),.sc (.string (bs w))] [(0,iC (.int .u8 s) (bG s) CS ST n T cl)] 3 (ahC s n [(0,iC (.int .u8 s) (bG s) CS ST n T cl)] 7 (jr s aT w)):=by
 refine Ou.intro o7 Tryz.func163 rfl Tryz.ntmps163 (bU rfl) rfl fun w0 F0 fp pg hB=>?_
 unfold iC
 refine gB ?_
 have hTl:(w++[32]).length=w.length+1:=by simp
 refine MW ?_
 refine WL.rgs rfl rfl rfl rfl ?_
 refine MW ?_
 refine W.loop (fun pos:Nat=>JR s aT w pos) (fun pos=>⟨[(0,.pt 0 0 0),(1,.sc (.int .i64 aT)),(2,.sc (.string (bs w))),(6,.pt 3 0 0),(14,.sl 4)],
  [(0,.box 78 [.sc (.int .u8 s),.sc (bG s),.ls 3 CS,.ls 1 ST,.sl 1,.sl 2,.sc (.int .i64 n),.ls 1 T,.sc (.bool cl)]),(3,.box 157 [.sc (.int .i64 0),.sc (.int .i64 0),.sc (.int .i64 0),.sc (.int .i64 0),.sc (.int .i64 0),.sc (.int .i64 0)]),(4,.opq (itQ (w++[32]) pos))],5⟩) (fun pos=>w.length+1 - pos) 0 (ahw s aT w) (zqt id) fun pos hN=>?_
 by_cases hlt:pos < w.length+1
 rotate_left
 ·rw [YV hsp (by omega) hN]
  have hle:(w++[32]).length≤pos:=by omega
  refine W.seq ?_
  refine W.region ?_
  refine WL.vl rfl (WV.nxe rfl rfl rfl hle) ?_
  refine MW ?_
  exact Nu
 have hlt2:pos < (w++[32]).length:=by omega
 have hstep:=fun h=>ahx hsp hlt hN h
 have aBn:1≤(Utf8.decode (bs (w++[32])) pos).2:=Lib.width_pos _ _
 obtain ⟨nx,hnx⟩:∃ z,pos+(Utf8.decode (bs (w++[32])) pos).2=z:=⟨_,rfl⟩
 obtain ⟨ru,hru⟩:∃ z,(Utf8.decode (bs (w++[32])) pos).1=z:=⟨_,rfl⟩
 refine W.seq ?_
 refine W.region ?_
 refine WL.nxs rfl rfl rfl rfl rfl hlt2 ?_
 rw [hnx] at hstep ⊢
 rw [hru]
 have hlow:pos < nx:=by omega
 by_cases h0:pos=0
 ·have hN2:=hstep (.inl h0)
  exact aaE
 have hP:=ait s aT (w.take pos)
 have hcb:0≤(0:Int)∧(0:Int)≤(pos:Int)∧(pos:Int)≤(w.length:Int):=by omega
 have hcc:cut w 0 (pos:Int)=w.take pos:=by unfold cut;simp
 have hcb2:0≤(pos:Int)∧(pos:Int)≤(w.length:Int)∧(w.length:Int)≤(w.length:Int):=by omega
 have avA:=Ci w pos
 have hdl:(w.drop pos).length≤1000000:=by rw [yB];omega
 rcases Bg (w.take pos) hsp with ⟨c,f,hpl,_⟩|hpl
 rotate_left
 ·have hN2:=hstep (.inr fun c f h=>by rw [hpl] at h;simp at h)
  rw [hpl] at hP
  refine ajJ ?_
  refine QF ?_
  refine ajS ?_
  rw [hcc]
  refine aZ.v0 rfl (bZ Tryz.func35 hP) ?_
  refine uV ?_
  refine aZ.al rfl rfl rfl rfl ⟨rfl,trivial⟩ (fun _=>⟨rfl,trivial⟩) ?_
  refine aZ.yT rfl rfl rfl rfl rfl rfl rfl rfl rfl rfl rfl rfl rfl rfl ⟨rfl,trivial⟩ (fun h=>by cases h) ?_
  refine Nl ?_
  exact aaE
 rw [hpl] at hP
 dsimp only at hP
 cases hmk:wM s (decide (0 < (f:Int))) (w.drop pos) with
 | none =>
  have hN2:=hstep (.inr fun c' f' h=>by
   rw [hpl] at h
   have h1:=(Prod.mk.inj h).2
   have h2:=(Prod.mk.inj h1).1
   have:f=f':=by omega
   subst this
   exact hmk)
  obtain ⟨R,G,ho⟩:=aff (c:=(c:Int)) hmk
  have hM:=abP s hs (c:Int) (f:Int) (w.drop pos) hdl
  rw [ho] at hM
  refine ajJ ?_
  refine QF ?_
  refine ajS ?_
  rw [hcc]
  refine aZ.v0 rfl (bZ Tryz.func35 hP) ?_
  refine uV ?_
  refine aZ.al rfl rfl rfl rfl ⟨rfl,trivial⟩ (fun _=>⟨rfl,trivial⟩) ?_
  refine aZ.yT rfl rfl rfl rfl rfl rfl rfl rfl rfl rfl rfl rfl rfl rfl ⟨rfl,trivial⟩ (fun h=>by cases h) ?_
  refine uo ?_
  refine aqs ?_
  refine uV ?_
  refine ajR ?_
  rw [avA]
  refine aZ.v0 rfl (WV.apH hB rfl (ak Tryz.func221 rfl rfl) rfl (.cons (gY.prs rfl abV (ahI hs)) (.cons (gY.pu rfl) (.cons (gY.pu rfl) .nil))) acG rfl hM) ?_
  refine uV ?_
  refine aZ.al rfl rfl rfl rfl ⟨rfl,rfl,trivial⟩ (fun _=>⟨rfl,rfl,trivial⟩) ?_
  refine aZ.yT rfl rfl rfl rfl rfl rfl rfl rfl rfl rfl rfl rfl rfl rfl ⟨rfl,rfl,trivial⟩ (fun h=>by cases h) ?_
  refine Nl ?_
  exact aaE
 | some x =>
  obtain ⟨R,G,H⟩:=x
  obtain ⟨⟨c',f',r',g',h'⟩,hcl,q1,q2,q3,q4,q5⟩:=atb hsp au au hpl hmk
  have ho:=ZO (c:=(c:Int)) hmk
  have hM:=abP s hs (c:Int) (f:Int) (w.drop pos) hdl
  rw [ho] at hM
  dsimp only at q1 q2 q3 q4 q5
  obtain rfl:c=c':=by omega
  obtain rfl:f=f':=by omega
  subst q3 q4 q5
  rw [hcl]
  unfold ahC xu
  dsimp only
  refine ajJ ?_
  refine QF ?_
  refine ajS ?_
  rw [hcc]
  refine aZ.v0 rfl (bZ Tryz.func35 hP) ?_
  refine uV ?_
  refine aZ.al rfl rfl rfl rfl ⟨rfl,trivial⟩ (fun _=>⟨rfl,trivial⟩) ?_
  refine aZ.yT rfl rfl rfl rfl rfl rfl rfl rfl rfl rfl rfl rfl rfl rfl ⟨rfl,trivial⟩ (fun h=>by cases h) ?_
  refine uo ?_
  refine aqs ?_
  refine uV ?_
  refine ajR ?_
  rw [avA]
  refine aZ.v0 rfl (WV.apH hB rfl (ak Tryz.func221 rfl rfl) rfl (.cons (gY.prs rfl abV (ahI hs)) (.cons (gY.pu rfl) (.cons (gY.pu rfl) .nil))) acG rfl hM) ?_
  refine uV ?_
  refine aZ.al rfl rfl rfl rfl ⟨rfl,rfl,trivial⟩ (fun _=>⟨rfl,rfl,trivial⟩) ?_
  refine aZ.yT rfl rfl rfl rfl rfl rfl rfl rfl rfl rfl rfl rfl rfl rfl ⟨rfl,rfl,trivial⟩ (fun h=>by cases h) ?_
  refine Nl ?_
  refine MW ?_
  exact W.ret (apj rfl rfl rfl ⟨rfl,trivial⟩ rfl)
def as9 (s n:Int)(M:List (Nat×AO))(nk:Nat):Option (List N5)→UR
 | some l=>.ok (.ls 6 (l.map (xu s))) M nk
 | none=>.er (eP n 4)
theorem Y6 (s:Int)(words:List (List UInt8)):(ku s words).length=words.length:=by unfold ku;split<;>simp
theorem Y7 {s:Int} {words:List (List UInt8)} {w:List UInt8}:w∈ku s words↔w∈words:=by unfold ku;split<;>simp
theorem VK(s:Int)(cs:List Crs):aJ s cs≤6∧(s=4→aJ s cs=0):=by
 unfold aJ
 split
 ·exact⟨by omega,fun _=>rfl⟩
 ·rename_i h;exact⟨by omega,fun e=>absurd e h⟩
theorem aoT {s:Int} (hs:1≤s∧s≤4) {k:Nat} (h:k<6)(h4:s≠4):aK s ((k:Int)+1)=0:=by
 exact Uc
theorem ai3 {s:Int} (hs:1≤s∧s≤4):aK s 0=0:=by
 exact Uc
def N7 (s:Int)(n:Nat)(W:List (List UInt8)):List (List AV):=if s=2 then (W.take n).reverse.map iV else (W.take n).map iV
theorem ahy {s:Int} {n:Nat} {W:List (List UInt8)} (h:n≤W.length):(N7 s n W).length=n:=by unfold N7;split<;>simp<;>omega
theorem anZ {s:Int} {n:Nat} {W:List (List UInt8)} (hs:1≤s∧s≤4)(h4:s=4→n=0)(hn:n≤W.length) {k:Nat} (h:k<W.length)(hk:k<n):(N7 s n W)[(uH s ((k:Int)+1) n-1).toNat]?=some (iV W[k]):=by
 have h4':s≠4:=fun e=>by have:=h4 e;omega
 unfold N7 uH
 rw [if_neg h4']
 by_cases h2:s=2
 ·rw [if_pos h2,if_pos h2,show ((n:Int)+1-((k:Int)+1)-1).toNat=n-1-k by omega]
  have hl:(W.take n).length=n:=by rw [fP];omega
  rw [bT,List.getElem?_reverse (by omega),hl,show n-1-(n-1-k)=k by omega,MO hk,aI h]
  rfl
 ·rw [if_neg h2,if_neg h2,show ((k:Int)+1-1).toNat=k by omega,bT,MO hk,aI h]
  rfl
theorem Pq {L:List (List UInt8)} {n:Nat}:prt (L.map iV) 0 (n:Int)=(L.take n).map iV:=by
 unfold prt;simp [List.map_take]
theorem Po {L:List (List UInt8)} {n m:Nat} (h:m=L.length):prt (L.map iV) (n:Int) (m:Int)=(L.drop n).map iV:=by
 subst h
 unfold prt
 rw [fO,fO,wS (by simp),Tz]
theorem JQ (s:Int) (n:Nat) (W:List (List UInt8)):∀ k,(jd s n W k).length≤k
 | 0=>by rw [as8];simp
 | k+1=>by
  have:=JQ s n W k
  have:=VO (s:=s) (n:=n) (W:=W) k
  rw [xH,aY];omega
theorem RH {s:Int} {n:Nat} {W:List (List UInt8)} {k:Nat} (hk:k≤W.length)(h:¬ jD (jd s n W k)):pO s n W=none :=
 aeh fun h2=>h (YW (ahv s n W hk) h2)
theorem amL (s:Int) (hs:1≤s∧s≤4) (cs:List Crs) (st:List Int) (ln:Int) (T:List (List AV)) (cl:Bool) (words:List (List UInt8)) (hw:words.length≤400000) (hwl:∀ w∈words,w.length≤400000) (hcs:cs.length≤64) :
  Ou qG BR Tryz.prog 93 [.pt 0 0 0,.ls 1 (words.map iV)] [(0,iC (.int .u8 s) (bG s) (cs.map aF) (st.map eInt) ln T cl)] 3
   (as9 s ln [(0,iC (.int .u8 s) (bG s) (cs.map aF) (st.map eInt) ln T cl)] 4 (GI s (aJ s cs) words)):=by
 obtain ⟨n6,n4⟩:=VK s cs
 have anw:=PV cs st hcs
 have hmin:s≠4→((min cs.length 6:Nat):Int)=(aJ s cs:Int):=fun h=>by unfold aJ;rw [if_neg h]
 unfold GI
 obtain ⟨n,hn⟩:∃ z,aJ s cs=z:=⟨_,rfl⟩
 rw [hn] at n6 n4 hmin ⊢
 have hWl:=Y6 s words
 have hml:(words.map iV).length=words.length:=aH _
 refine Ou.intro o7 Tryz.func93 rfl Tryz.ntmps93 (bU rfl) rfl fun w0 F0 fp pg hB=>?_
 unfold iC
 refine gB ?_
 refine zO ?_
 refine W.meet ⟨[(0,.pt 0 0 0),(1,.ls 1 (words.map iV)),(5,.sc (.int .i64 (n:Int)))],[(0,.box 78 [.sc (.int .u8 s),.sc (bG s),.ls 3 (cs.map aF),.ls 1 (st.map eInt),.sl 1,.sl 2,.sc (.int .i64 ln),.ls 1 T,.sc (.bool cl)])],3⟩ ?_ ?_
 ·by_cases s4:s=4
  ·rw [dG s4]
   have:=n4 s4
   subst this
   exact TW
  ·rw [cZ s4]
   refine zO ?_
   refine WL.vl rfl (bZ Tryz.func112 anw) ?_
   rw [hmin s4]
   exact TW
 obtain ⟨L,hL⟩:∃ z,words.map iV=z:=⟨_,rfl⟩
 by_cases hsh:words.length < n
 ·rw [Vw (by omega)]
  rw [hL] at hml ⊢
  refine zO ?_
  exact Nu
 obtain ⟨W0,hW0⟩:∃ z,ku s words=z:=⟨_,rfl⟩
 have hWm:∀ w∈W0,w.length≤400000:=fun w h=>hwl w (Y7.1 (hW0 ▸ h))
 rw [hW0]
 have aA8:W0.length=words.length:=hW0 ▸ hWl
 have hlo:prt L 0 (n:Int)=(words.take n).map iV:=by rw [← hL];exact Pq
 have hhi:prt L (n:Int) (words.length:Int)=(words.drop n).map iV:=by rw [← hL];exact Po rfl
 have hLl:L.length=words.length:=by rw [← hL];exact hml
 have hbe:=EM s hs
 rw [hL]
 refine zO ?_
 refine iF ?_
 refine BL ?_
 refine DK.KJ rfl rfl ⟨by omega,by omega,by omega⟩ hlo ?_
 refine BL ?_
 refine DK.KJ rfl rfl ⟨by omega,by omega,by omega⟩ (show prt L (n:Int) (L.length:Int)=(words.drop n).map iV by rw [hLl];exact hhi) ?_
 refine BL ?_
 refine zO ?_
 refine WL.vl rfl (WV.sys hs IK rfl rfl (fun vs w=>by kernel_rfl) (fun vs w=>by kernel_rfl) (fun vs w=>by kernel_rfl) (fun vs w=>by kernel_rfl) rfl rfl hbe) ?_
 refine zO ?_
 refine W.meet ⟨[(0,.pt 0 0 0),(5,.sc (.int .i64 (n:Int))),(6,.ls 1 (N7 s n W0)),(7,.ls 1 ((W0.drop n).map iV))],[(0,.box 78 [.sc (.int .u8 s),.sc (bG s),.ls 3 (cs.map aF),.ls 1 (st.map eInt),.sl 1,.sl 2,.sc (.int .i64 ln),.ls 1 T,.sc (.bool cl)])],3⟩ ?_ ?_
 ·by_cases s2:s=2
  ·rw [dG s2]
   have e:W0=words.reverse:=by rw [← hW0];exact if_pos s2
   have eO:N7 s n W0=(words.drop (words.length - n)).map iV:=by
    rw [e,show N7 s n words.reverse=(words.reverse.take n).reverse.map iV from if_pos s2,List.reverse_take,List.reverse_reverse,Tv]
   have eU:((words.take (words.length - n)).reverse).map iV=(W0.drop n).map iV:=by
    rw [e,List.reverse_take,show words.length - (words.length - n)=n by omega]
   have hc1:=adx (words.take (words.length - n)) (by rw [fP];omega)
   have hr1:=ae9 (words.take (words.length - n)) (by rw [fP];omega)
   rw [eU] at hr1
   have hm:((words.length - n:Nat):Int)=(words.length:Int) - (n:Int):=by omega
   have hlo2:prt L 0 ((L.length:Int) - (n:Int))=(words.take (words.length - n)).map iV:=by rw [hLl,← hm,← hL];exact Pq
   have hhi2:prt L ((L.length:Int) - (n:Int)) (L.length:Int)=N7 s n W0:=by rw [hLl,← hm,← hL,eO];exact Po rfl
   refine zO ?_
   refine W.rD bD ?_
   refine WA.dt [false,false,false,false,false,false,true,false,false,false,false,false,false,true,false] [0] [0] 13 bD bD bD ⟨rfl,trivial⟩ ⟨rfl,trivial⟩ ?_
   refine Io ?_
   refine aZ.v0 rfl (Ah rfl) ?_
   refine uo ?_
   refine aZ.v0 rfl (zB rfl zW) ?_
   refine aZ.v0 rfl (wI rfl ⟨by omega,by omega,by omega⟩) ?_
   rw [hlo2]
   refine aZ.ct (dL _) [] rfl rfl (ak Tryz.func161 rfl rfl) hc1 rfl rfl rfl trivial rfl rfl rfl rfl ⟨rfl,trivial⟩ (fun _=>⟨rfl,trivial⟩) ?_
   refine Io ?_
   refine aZ.v0 rfl (Ah rfl) ?_
   refine uo ?_
   refine aZ.v0 rfl (zB rfl zW) ?_
   refine aZ.v0 rfl (wI rfl ⟨by omega,by omega,by omega⟩) ?_
   rw [hhi2]
   refine aZ.mv rfl rfl rfl rfl rfl rfl ⟨rfl,trivial⟩ (fun h=>by cases h) ?_
   refine Nl ?_
   refine zO ?_
   refine WL.qo (dL _) [3] rfl rfl (ak Tryz.func162 rfl rfl) hr1 rfl rfl rfl ⟨⟨rfl,rfl,rfl⟩,trivial⟩ rfl rfl rfl rfl ?_
   refine WL.tr (Tr.freeze 3 rfl) ?_
   exact TW
  ·rw [cZ s2]
   have e:W0=words:=by rw [← hW0];exact if_neg s2
   have eO:N7 s n W0=(words.take n).map iV:=by rw [e];exact if_neg s2
   rw [eO,e]
   exact TW
 have hnW:n≤W0.length:=by omega
 have hOl:=ahy (s:=s) hnW
 have adY:=fun {k:Nat} (h:k < W0.length) (hk:k < n)=>anZ hs n4 hnW h hk
 obtain ⟨O,hO⟩:∃ z,N7 s n W0=z:=⟨_,rfl⟩
 have avi:((W0.drop n).map iV).length=W0.length - n:=by rw [aH,yB]
 have JF:∀ j (h:n+j < W0.length),((W0.drop n).map iV)[((j:Nat):Int).toNat]?=some (iV W0[n+j]):=fun j h=>by
  rw [fO,bT,yA,aI h];rfl
 obtain ⟨OU,hOU⟩:∃ z,(W0.drop n).map iV=z:=⟨_,rfl⟩
 rw [hO] at hOl adY ⊢
 rw [hOU] at avi JF ⊢
 clear hlo hhi hO hOU hL hLl hml hW0 hWl anw hmin hbe
 refine zO ?_
 refine W.tr (Tr.nil (t:=8) 157 6 rfl rfl) ?_
 refine W.loop (fun k:Nat=>k≤n∧∀ i (h:i < W0.length),i < k→(dR s n i W0[i]).isSome=true) (fun k=>⟨[(0,.pt 0 0 0),(5,.sc (.int .i64 (n:Int))),(6,.ls 1 O),(7,.ls 1 OU),(8,.sl 3),(9,.sc (.int .i64 ((k:Int)+1)))],[(0,.box 78 [.sc (.int .u8 s),.sc (bG s),.ls 3 (cs.map aF),.ls 1 (st.map eInt),.sl 1,.sl 2,.sc (.int .i64 ln),.ls 1 T,.sc (.bool cl)]),(3,.row 157 6 ((jd s n W0 k).map (xu s)))],4⟩) (fun k=>n - k) 0 ⟨by omega,fun i h h2=>absurd h2 au⟩ (zqt id) fun k hk=>?_
 obtain ⟨hk,hall⟩:=hk
 have hRl:((jd s n W0 k).map (xu s)).length≤400000:=by
  have:=JQ s n W0 k
  rw [aH];omega
 by_cases hlt:k < n
 ·have hkW:k < W0.length:=by omega
  have h4:s≠4:=fun e=>by have:=n4 e;omega
  have hat:=adY hkW hlt
  have hln:=abK s hs ((k:Int)+1) n ⟨by omega,by omega⟩ ⟨by omega,by omega⟩
  have hlv:1≤uH s ((k:Int)+1) n∧uH s ((k:Int)+1) n≤10:=by
   unfold uH
   rw [if_neg h4]
   split<;>omega
  obtain ⟨LV,hLV⟩:∃ z,uH s ((k:Int)+1) n=z:=⟨_,rfl⟩
  rw [hLV] at hat hln hlv
  have hcell:=aa8 s hs (cs.map aF) (st.map eInt) ln T cl ((k:Int)+1) W0[k] (hWm _ (dS hkW)) (aoT hs (by omega) h4)
  have hrs:=xH s n W0 k
  have hnx:(dR s n k W0[k]).isSome=true→∀ i (h:i < W0.length),i < k+1→(dR s n i W0[i]).isSome=true:=fun h i hi hik=>by
   by_cases e:i=k
   ·subst e;exact h
   ·exact hall i hi au
  by_cases hd:W0[k]=[45]
  ·have hwd:dR s n k W0[k]=some none:=by unfold dR;rw [if_pos hlt,if_pos hd]
   rw [Py hkW hwd,nI] at hrs
   have hn2:=hnx (by rw [hwd];rfl)
   have hb:(W0[k] == ([45]:List UInt8))=true:=by rw [hd];rfl
   obtain ⟨wk,hwk⟩:∃ z,W0[k]=z:=⟨_,rfl⟩
   rw [hwk] at hat hb
   obtain ⟨R,hR⟩:∃ z,(jd s n W0 k).map (xu s)=z:=⟨_,rfl⟩
   have hR2:(jd s n W0 (k+1)).map (xu s)=R:=by rw [hrs];exact hR
   rw [hR] at hRl ⊢
   clear hall adY JF hcell
   refine wY ?_
   refine WL.vl rfl (WV.sys hs Vm rfl rfl (fun vs w=>by kernel_rfl) (fun vs w=>by kernel_rfl) (fun vs w=>by kernel_rfl) (fun vs w=>by kernel_rfl) rfl rfl hln) ?_
   refine QB ?_
   rw [hb]
   refine wY ?_
   refine ⟨k+1,⟨by omega,hn2⟩,by omega,?_⟩
   rw [hR2]
   exact (zqt id)
  ·have hb:(W0[k] == ([45]:List UInt8))=false:=by simpa using hd
   have hwd:dR s n k W0[k]=(jr s ((k:Int)+1) W0[k]).map some:=by unfold dR;rw [if_pos hlt,if_neg hd]
   cases hcl:jr s ((k:Int)+1) W0[k] with
   | none =>
    rw [JW hkW (by rw [hwd,hcl];rfl)]
    have hcc:=hcell.er_ (by rw [hcl];rfl)
    obtain ⟨wk,hwk⟩:∃ z,W0[k]=z:=⟨_,rfl⟩
    rw [hwk] at hat hb hcc
    obtain ⟨R,hR⟩:∃ z,(jd s n W0 k).map (xu s)=z:=⟨_,rfl⟩
    rw [hR] at hRl ⊢
    clear hall adY JF hcell
    refine wY ?_
    refine WL.vl rfl (WV.sys hs Vm rfl rfl (fun vs w=>by kernel_rfl) (fun vs w=>by kernel_rfl) (fun vs w=>by kernel_rfl) (fun vs w=>by kernel_rfl) rfl rfl hln) ?_
    refine QB ?_
    rw [hb]
    refine wY ?_
    exact akg
   | some x =>
    have hws:dR s n k W0[k]=some (some x):=by rw [hwd,hcl];rfl
    rw [wG hkW hws] at hrs
    have hn2:=hnx (by rw [hws];rfl)
    have hcc:=hcell.ok_ (by rw [hcl];rfl)
    obtain ⟨wk,hwk⟩:∃ z,W0[k]=z:=⟨_,rfl⟩
    rw [hwk] at hat hb hcc
    obtain ⟨R,hR⟩:∃ z,(jd s n W0 k).map (xu s)=z:=⟨_,rfl⟩
    have hR2:R++[xu s x]=(jd s n W0 (k+1)).map (xu s):=by rw [hrs,fC,hR];rfl
    rw [hR] at hRl ⊢
    clear hall adY JF hcell
    refine wY ?_
    refine WL.vl rfl (WV.sys hs Vm rfl rfl (fun vs w=>by kernel_rfl) (fun vs w=>by kernel_rfl) (fun vs w=>by kernel_rfl) (fun vs w=>by kernel_rfl) rfl rfl hln) ?_
    refine QB ?_
    rw [hb]
    refine wY ?_
    refine WL.qo hB [0,1,2] rfl rfl (ak Tryz.func163 rfl rfl) hcc rfl rfl rfl ⟨⟨rfl,rfl,rfl⟩,trivial⟩ rfl rfl rfl rfl ?_
    refine wY ?_
    refine ⟨k+1,⟨by omega,hn2⟩,by omega,?_⟩
    exact (kL (fun q=>bif Nat.beq q 3 then 9 else q) aqm rfl)
 obtain rfl:k=n:=by omega
 have aps:jD (jd s k W0 k):=abS (bJ _)
 clear adY hlt hk hRl
 refine wY ?_
 have hl0:xI s k W0 (k+0)=0:=Pm (bJ _)
 refine W.loop (fun j:Nat=>k+j≤W0.length∧(∀ i (h:i < W0.length),i < k+j→(dR s k i W0[i]).isSome=true)∧jD (jd s k W0 (k+j))) (fun j=>⟨[(0,.pt 0 0 0),(8,.sl 3),(11,.sc (.int .i64 (xI s k W0 (k+j):Nat))),(84,.ls 1 OU),(85,.sc (.int .i64 ((W0.length - k:Nat):Int))),(86,.sc (.int .i64 (j:Int)))],[(0,.box 78 [.sc (.int .u8 s),.sc (bG s),.ls 3 (cs.map aF),.ls 1 (st.map eInt),.sl 1,.sl 2,.sc (.int .i64 ln),.ls 1 T,.sc (.bool cl)]),(3,.row 157 6 ((jd s k W0 (k+j)).map (xu s)))],4⟩) (fun j=>W0.length - k - j) 0 ⟨by omega,fun i h h2=>hall i h (by omega),aps⟩ (by rw [hl0,avi];exact (zqt id)) fun j hj=>?_
 obtain ⟨hj,hok,hasc⟩:=hj
 clear hall aps hl0
 have hRl:((jd s k W0 (k+j)).map (xu s)).length≤400000:=by
  have:=JQ s k W0 (k+j)
  rw [aH];omega
 by_cases hlt:k+j < W0.length
 rotate_left
 ·have e:k+j=W0.length:=by omega
  rw [e] at hok hasc ⊢
  by_cases hnil:jd s k W0 W0.length=[]
  ·rw [O9 hnil,hnil]
   refine wY ?_
   exact Nu
  ·rw [Pg hnW (fun i h=>hok i h h) hasc hnil]
   have hpos:0 < (jd s k W0 W0.length).length:=List.length_pos_iff.2 hnil
   obtain ⟨LL,U0⟩:∃ z,jd s k W0 W0.length=z:=⟨_,rfl⟩
   rw [U0] at hpos ⊢
   have aBi:(LL.map (xu s)).length=LL.length:=aH _
   refine zO ?_
   refine W.tr (Tr.freeze 3 rfl) ?_
   exact W.ret (apj rfl rfl rfl ⟨rfl,trivial⟩ rfl)
 have hat:=JF j hlt
 have hcell:=aa8 s hs (cs.map aF) (st.map eInt) ln T cl 0 W0[k+j] (hWm _ (dS hlt)) (ai3 hs)
 have hrs:=xH s k W0 (k+j)
 have hwd:dR s k (k+j) W0[k+j]=(jr s 0 W0[k+j]).map some:=by unfold dR;rw [if_neg (by omega)]
 cases hcl:jr s 0 W0[k+j] with
 | none =>
  rw [JW hlt (by rw [hwd,hcl];rfl)]
  have hcc:=hcell.er_ (by rw [hcl];rfl)
  obtain ⟨wk,hwk⟩:∃ z,W0[k+j]=z:=⟨_,rfl⟩
  rw [hwk] at hat hcc
  obtain ⟨R,hR⟩:∃ z,(jd s k W0 (k+j)).map (xu s)=z:=⟨_,rfl⟩
  rw [hR] at hRl ⊢
  clear hok JF hcell
  refine QB ?_
  exact akg
 | some x =>
  have hws:dR s k (k+j) W0[k+j]=some (some x):=by rw [hwd,hcl];rfl
  have hxn:=wG hlt hws
  have hstep:=aef n6 n4 au hok au hasc hxn
  have hlast:=Pn (s:=s) (n:=k) (W:=W0) (k:=k+j) au hxn
  rw [hxn] at hrs
  have hxb:=VL hws
  have hcc:=hcell.ok_ (by rw [hcl];rfl)
  have hok2:∀ i (h:i < W0.length),i < k+(j+1)→(dR s k i W0[i]).isSome=true:=fun i hi hik=>by
   by_cases e:i=k+j
   ·subst e;rw [hws];rfl
   ·exact hok i hi au
  obtain ⟨wk,hwk⟩:∃ z,W0[k+j]=z:=⟨_,rfl⟩
  rw [hwk] at hat hcc
  obtain ⟨R,hR⟩:∃ z,(jd s k W0 (k+j)).map (xu s)=z:=⟨_,rfl⟩
  have hR2:R++[xu s x]=(jd s k W0 (k+(j+1))).map (xu s):=by rw [show k+(j+1)=k+j+1 by omega,hrs,fC,hR];rfl
  rw [hR] at hRl ⊢
  obtain ⟨la,hla⟩:∃ z,xI s k W0 (k+j)=z:=⟨_,rfl⟩
  rw [hla] at hstep ⊢
  clear hok JF hcell
  obtain ⟨xc,xf,xr,xg,xh⟩:=x
  dsimp only at hstep hlast hxb
  unfold xu at hcc
  dsimp only at hcc
  by_cases hle:xc≤la
  ·rw [RH (k:=k+j+1) (by omega) (fun h=>by have:=hstep.1 h;omega)]
   refine QB ?_
   refine WL.qo hB [0,1,2] rfl rfl (ak Tryz.func163 rfl rfl) hcc rfl rfl rfl ⟨⟨rfl,rfl,rfl⟩,trivial⟩ rfl rfl rfl rfl ?_
   refine wY ?_
   exact Nu
  ·have avv:=hstep.2 au
   refine QB ?_
   refine WL.qo hB [0,1,2] rfl rfl (ak Tryz.func163 rfl rfl) hcc rfl rfl rfl ⟨⟨rfl,rfl,rfl⟩,trivial⟩ rfl rfl rfl rfl ?_
   refine wY ?_
   refine ⟨j+1,⟨by omega,hok2,avv⟩,by omega,?_⟩
   rw [show k+(j+1)=k+j+1 by omega] at hR2
   rw [show k+(j+1)=k+j+1 by omega,hlast]
   exact (kL (fun q=>bif Nat.beq q 3 then 10 else q) aqm rfl)
theorem WL.O5 {P:Program} {C:Cx} {σ:St} {ops:Array Oper} {l:List Oper} {Q1 Q2:Exit→St→Prop} {y:Code} (σm:St)(h:WL P C ops l σ (kD (fun s=>Tr C s σm) Q1))(k:W P C y σm Q2):WL P C ops l σ (kD (fun s=>W P C y s Q2) Q1) :=
 WL.mono h (kD.mono (fun s q=>W.tr q k) fun _ _ q=>q)
theorem ahB {s:Int} {n:Nat} {W:List (List UInt8)} {l:List N5} (h:pO s n W=some l):(∀ x∈l,1≤x.1∧x.1≤14∧x.2.1≤18)∧l.length≤14∧l≠[]∧jD l:=by
 unfold pO at h
 split at h
 ·rename_i k
  cases h
  have hb:∀ x∈jd s n W W.length,1≤x.1∧x.1≤14∧x.2.1≤18:=fun x hx=>by have:=anY hx;omega
  refine⟨hb,?_,k.2.2.2,k.2.2.1⟩
  rcases Cc (a:=0) k.2.2.1 (fun x hx=>by have:=hb x hx;omega) with q|q
  ·omega
  ·exact absurd q k.2.2.2
 ·cases h
theorem GN {cs:List Crs}:∀ {l:List N5} {k:Nat} (hk:k<l.length),(∀ j (h:j<l.length),j<k→fK cs l[j]=0)→fK cs l[k]≠0→kF cs l=fK cs l[k]
 | x::r,0,_,_,h=>by
  unfold kF
  have h:fK cs x≠0:=h
  rw [if_pos h];rfl
 | x::r,k+1,hk,h0,h=>by
  have:=h0 0 (by simp) (by omega)
  simp only [zM] at this
  unfold kF
  rw [if_neg (by rw [this];decide),GN (k:=k) zX (fun j hj hjk=>h0 (j+1) Ez (by omega)) h]
  rfl
theorem GR {cs:List Crs}:∀ {l:List N5},(∀ j (h:j<l.length),fK cs l[j]=0)→kF cs l=0
 | [],_=>rfl
 | x::r,h=>by
  have:=h 0 (by simp)
  simp only [zM]at this
  unfold kF
  rw [if_neg (by rw [this];decide)]
  exact GR fun j hj=>h (j+1) Ez
theorem JV {s:Int} {n:Nat} {bar:Bool} {v i:Nat} {ws:List (List UInt8)} (h1:¬ (ws=[[126]]∧s≠4))(h2:¬ (ws=[[37]]∧s≠3)):jY s n bar v i ws=(GI s n ws).map fun l=>⟨bar,v,i,false,l⟩:=by
 unfold jY;rw [if_neg h1,if_neg h2]
theorem JU {s:Int} {n:Nat} {bar:Bool} {v i:Nat} {ws:List (List UInt8)} {X:NC} (h:jY s n bar v i ws=some X):X.bar=bar∧X.v=v∧X.i=i∧(∀ x∈X.l,1≤x.1∧x.1≤14∧x.2.1≤18)∧X.l.length≤14:=by
 unfold jY at h
 split at h
 ·exact akV
 ·split at h
  ·exact akV
  ·obtain⟨l,hl,e⟩:=Option.map_eq_some_iff.1 h
   subst e
   have hb:=ahB (show pO s n (ku s ws)=some l from hl)
   exact⟨rfl,rfl,rfl,hb.1,hb.2.1⟩
def RI (s:Int)(cs:List Crs)(st:List Int)(ln:Int)(T:List (List AV))(cl:Bool)(E:List NC):Option NC→UR
 | none=>.er (eP ln 4)
 | some x=>if oh cs (E.length == 0) x≠0 then .er (eP ln (oh cs (E.length == 0) x)) else
  .ok (.tu []) [(0,.box 78 [.sc (.int .u8 s),.sc (bG s),.ls 3 (cs.map aF),.ls 1 (st.map eInt),.sl 3,.sl 4,.sc (.int .i64 ln),.ls 1 T,.sc (.bool cl)]),(3,.jM 90 6 (((E++[x]).map gI).map bM)),(4,.row 153 1 ((E++[x]).map (vC s)))] 5
theorem agf (s:Int) (hs:1≤s∧s≤4) (cs:List Crs) (st:List Int) (ln:Int) (T:List (List AV)) (cl:Bool) (E:List NC) (t:List UInt8) (ht:t.length≤300000) (hcs:cs.length≤64) (hcb:∀ c∈cs,0≤c.2.1∧c.2.1≤1000) (hE:E.length≤400000) :
  Ou qG BR Tryz.prog 41 [.pt 0 0 0,.sc (.string (bs t))] [(0,iC (.int .u8 s) (bG s) (cs.map aF) (st.map eInt) ln T cl),(1,.jM 90 6 ((E.map gI).map bM)),(2,.row 153 1 (E.map (vC s)))] 3
   (RI s cs st ln T cl E (jk s (aJ s cs) t)):=by
 have hW:=LJ 32 t au
 have hwb:=xR 32 t
 have hwl:(dw 32 t).length≤300001:=by
  exact akC
 have hEl:((E.map gI).map bM).length=E.length:=by simp
 have hNl:(E.map (vC s)).length=E.length:=aH _
 have hEx:∀ x:NC,((E++[x]).map gI).map bM=(E.map gI).map bM++[bM (gI x)]:=fun x=>by simp
 have hNx:∀ x:NC,(E++[x]).map (vC s)=E.map (vC s)++[vC s x]:=fun x=>by simp
 unfold jk
 obtain ⟨ws,hws⟩:∃ z,dw 32 t=z:=⟨_,rfl⟩
 rw [hws] at hW hwb hwl ⊢
 have hne:ws≠[]:=by rw [← hws];unfold dw;simp
 obtain ⟨w,r,rfl⟩:∃ w r,ws=w::r:=by
  cases ws with
  | nil=>exact absurd rfl hne
  | cons w r=>exact ⟨w,r,rfl⟩
 clear hne hws
 refine Ou.intro o7 Tryz.func41 rfl Tryz.ntmps41 (bU rfl) rfl fun w0 F0 fp pg hB=>?_
 unfold iC
 refine gB ?_
 obtain ⟨EV,hEV⟩:∃ z,(E.map gI).map bM=z:=⟨_,rfl⟩
 obtain ⟨NT,hNT⟩:∃ z,E.map (vC s)=z:=⟨_,rfl⟩
 rw [hEV] at hEl hEx ⊢
 rw [hNT] at hNl hNx ⊢
 have hrl:r.length≤300000:=by simp at hwl;omega
 have hml:((w::r).map iV).length=r.length+1:=by simp
 refine iP ?_
 refine WL.vl rfl (WV.eH hB rfl (ak Tryz.func38 rfl rfl) rfl rfl hW) ?_
 refine iP ?_
 refine WL.idx rfl rfl au (show ((w::r).map iV)[Int.toNat 0]?=some (iV w) from rfl) ?_
 refine iP ?_
 obtain ⟨bB,W1,hbW,hform⟩:∃ bB W1,(w=[124]∧bB=true∧W1=r∨w≠[124]∧bB=false∧W1=w::r)∧(if w=[124] then ou s (aJ s cs) true r else ou s (aJ s cs) false (w::r))=ou s (aJ s cs) bB W1:=by
  by_cases e:w=[124]
  ·exact ⟨true,r,.inl ⟨e,rfl,rfl⟩,if_pos e⟩
  ·exact ⟨false,w::r,.inr ⟨e,rfl,rfl⟩,if_neg e⟩
 rw [hform]
 have asw:∀ x∈W1,x.length≤300000:=fun x hx=>by
  rcases hbW with ⟨_,_,e⟩|⟨_,_,e⟩
  ·have:=hwb x (by rw [e] at hx;simp [hx]);omega
  ·have:=hwb x (by rw [e] at hx;exact hx);omega
 have asx:W1.length≤300001:=by
  rcases hbW with ⟨_,_,e⟩|⟨_,_,e⟩
  ·rw [e];omega
  ·rw [e];simp;omega
 refine W.meet ⟨[(0,.pt 0 0 0),(4,.ls 1 (W1.map iV)),(5,.pt 3 0 0)],[(0,.box 78 [.sc (.int .u8 s),.sc (bG s),.ls 3 (cs.map aF),.ls 1 (st.map eInt),.sl 1,.sl 2,.sc (.int .i64 ln),.ls 1 T,.sc (.bool cl)]),(1,.jM 90 6 EV),(2,.row 153 1 NT),(3,.box 90 [.sc (.bool bB),.sc (.int .i64 0),.sc (.bool false),.sc (.bool false),.sc (.bool false),.sc (.slice none 0 0)])],4⟩ ?_ ?_
 ·rcases hbW with ⟨e,rfl,rfl⟩|⟨e,rfl,rfl⟩
  ·have hb:(w == ([124]:List UInt8))=true:=by rw [e];rfl
   have hp:prt ((w::W1).map iV) 1 (((w::W1).map iV).length:Int)=W1.map iV:=by
    unfold prt
    rw [fO,jH];rfl
   rw [hb]
   refine iP ?_
   refine aqt ?_
   refine uo ?_
   refine aZ.v0 rfl (wI rfl ⟨by omega,by rw [hml];omega,by omega⟩) ?_
   rw [hp]
   refine uo ?_
   refine aZ.yT rfl rfl rfl rfl rfl rfl rfl rfl rfl rfl rfl rfl rfl rfl trivial (fun h=>by cases h) ?_
   refine aZ.nil ?_
   refine ⟨rfl,?_⟩
   refine (?_:WL _ _ _ _ _ _)
   exact Dj
  ·have hb:(w == ([124]:List UInt8))=false:=by simpa using e
   rw [hb]
   exact Dj
 clear hbW hwb hwl hml hform hW
 match W1,asw,asx with
 | [],_,_ =>
  exact ND
 | [x],_,_ =>
  have hml:(([x]:List (List UInt8)).map iV).length=1:=rfl
  exact ND
 | sg::w1::r1,asw,asx =>
 have hml:((sg::w1::r1).map iV).length=r1.length+2:=by simp
 have aBk:r1.length≤300000:=by simp at asx;omega
 have hpt:=atC s hs sg
 have JH:((sg::w1::r1).map iV)[Int.toNat 0]?=some (iV sg):=rfl
 cases hsc:lD (EI s sg) 0 8 with
 | none =>
  have hnt:ou s (aJ s cs) bB (sg::w1::r1)=none:=by show (lD (EI s sg) 0 8).bind _=_;rw [hsc];rfl
  rw [hnt]
  rw [hsc] at hpt
  unfold ptT at hpt
  refine aqv ?_
  refine QF ?_
  refine aZ.v0 rfl (Dz rfl au JH) ?_
  refine uo ?_
  refine aZ.v0 rfl (bZ Tryz.func92 hpt) ?_
  refine uV ?_
  refine aZ.al rfl rfl rfl rfl ⟨rfl,trivial⟩ (fun _=>⟨rfl,trivial⟩) ?_
  refine aZ.yT rfl rfl rfl rfl rfl rfl rfl rfl rfl rfl rfl rfl rfl rfl ⟨rfl,trivial⟩ (fun h=>by cases h) ?_
  refine Nl ?_
  exact ND
 | some vi =>
 obtain ⟨v,i⟩:=vi
 have hnt:ou s (aJ s cs) bB (sg::w1::r1)=jY s (aJ s cs) bB v i (w1::r1):=by show (lD (EI s sg) 0 8).bind _=_;rw [hsc];rfl
 rw [hnt]
 rw [hsc] at hpt
 unfold ptT at hpt
 dsimp only at hpt
 have hp9:prt ((sg::w1::r1).map iV) 1 (((sg::w1::r1).map iV).length:Int)=(w1::r1).map iV:=by
  unfold prt
  rw [fO,jH];rfl
 obtain ⟨sD,hsD⟩:∃ z,IE i=z:=⟨_,rfl⟩
 obtain ⟨sT,hsT⟩:∃ z,EH i=z:=⟨_,rfl⟩
 rw [hsD,hsT] at hpt
 refine aqv ?_
 refine QF ?_
 refine aZ.v0 rfl (Dz rfl au JH) ?_
 refine uo ?_
 refine aZ.v0 rfl (bZ Tryz.func92 hpt) ?_
 refine uV ?_
 refine aZ.al rfl rfl rfl rfl ⟨rfl,trivial⟩ (fun _=>⟨rfl,trivial⟩) ?_
 refine aZ.yT rfl rfl rfl rfl rfl rfl rfl rfl rfl rfl rfl rfl rfl rfl ⟨rfl,trivial⟩ (fun h=>by cases h) ?_
 refine Nl ?_
 refine iP ?_
 refine W.Js 5 bD bD bD ?_
 refine WA.dt [false,false,false,false,true] [4] [4] 4 bD bD bD ⟨rfl,trivial⟩ ⟨rfl,trivial⟩ ?_
 refine Io ?_
 refine aZ.v0 rfl (wI rfl ⟨by omega,by rw [hml];omega,by omega⟩) ?_
 rw [hp9]
 refine uo ?_
 refine aZ.yT rfl rfl rfl rfl rfl rfl rfl rfl rfl rfl rfl rfl rfl rfl ⟨rfl,trivial⟩ (fun h=>by cases h) ?_
 refine aZ.nil ?_
 refine ⟨rfl,?_⟩
 refine (?_:WL _ _ _ _ _ _)
 clear hpt JH hp9 hsc hnt
 have hch:=amL s hs cs st ln T cl (w1::r1) (by simp;omega) (fun x hx=>by have:=asw x (aap _ hx);omega) hcs
 obtain ⟨b1,hb1⟩:∃ b,decide (w1::r1=[[126]]∧s≠4)=b:=⟨_,rfl⟩
 obtain ⟨b2,hb2⟩:∃ b,decide (w1::r1=[[37]]∧s≠3)=b:=⟨_,rfl⟩
 have asy:((w1::r1).map iV)[Int.toNat 0]?=some (iV w1):=rfl
 have hl1:((w1::r1).map iV).length=r1.length+1:=by simp
 have hd1:r1≠[]→decide ((r1.length:Int)+1=1)=false:=fun h=>by
  have:0 < r1.length:=by cases r1 with
   | nil=>exact absurd rfl h
   | cons=>simp
  exact cZ au
 have hd2:r1=[]→decide ((r1.length:Int)+1=1)=true:=fun h=>by rw [h];rfl
 have hB1:b1=(decide (r1=[]) && (w1 == [126]) && aO s 7):=by
  rw [← hb1]
  have e7:aO s 7=decide (s≠4):=by rcases bQ hs with rfl|rfl|rfl|rfl<;>rfl
  rw [e7,Gg];simp [and_assoc,and_comm,and_left_comm]
 have hB2:b2=(decide (r1=[]) && (w1 == [37]) && aO s 8):=by
  rw [← hb2]
  have e8:aO s 8=decide (s≠3):=by rcases bQ hs with rfl|rfl|rfl|rfl<;>rfl
  rw [e8,Gg];simp [and_assoc,and_comm,and_left_comm]
 obtain ⟨R1,hR1⟩:∃ z,(w1::r1).map iV=z:=⟨_,rfl⟩
 rw [hR1] at asy hl1 hch ⊢
 refine WL.O5 ⟨[(0,.pt 0 0 0),(4,.ls 1 R1),(5,.pt 3 0 0)],[(0,.box 78 [.sc (.int .u8 s),.sc (bG s),.ls 3 (cs.map aF),.ls 1 (st.map eInt),.sl 1,.sl 2,.sc (.int .i64 ln),.ls 1 T,.sc (.bool cl)]),(1,.jM 90 6 EV),(2,.row 153 1 NT),(3,.box 90 [.sc (.bool bB),.sc (.int .i64 v),.sc (.bool sD),.sc (.bool sT),.sc (.bool false),.sc (.slice none 0 0)])],5⟩ ?_ ?_
 ·exact Dj
 refine iP ?_
 refine WL.O5 ⟨[(0,.pt 0 0 0),(4,.ls 1 R1),(5,.pt 3 0 0),(8,.sc (.slice none 0 0)),(48,.sc (.bool b1))],[(0,.box 78 [.sc (.int .u8 s),.sc (bG s),.ls 3 (cs.map aF),.ls 1 (st.map eInt),.sl 1,.sl 2,.sc (.int .i64 ln),.ls 1 T,.sc (.bool cl)]),(1,.jM 90 6 EV),(2,.row 153 1 NT),(3,.box 90 [.sc (.bool bB),.sc (.int .i64 v),.sc (.bool sD),.sc (.bool sT),.sc (.bool false),.sc (.slice none 0 0)])],5⟩ ?_ ?_
 ·rw [hl1,Gi,TA,hB1]
  clear hB1 hB2 hb1 hb2 hch
  by_cases hr:r1=[]
  ·rw [hd2 hr,dG hr]
   refine aqB ?_
   by_cases e:(w1 == ([126]:List UInt8))=true
   ·rw [e]
    refine iP ?_
    refine WL.vl rfl (WV.sys hs YE rfl rfl (fun vs w=>by kernel_rfl) (fun vs w=>by kernel_rfl) (fun vs w=>by kernel_rfl) (fun vs w=>by kernel_rfl) rfl rfl (EZ s hs 7)) ?_
    exact Dj
   ·rw [Bool.eq_false_iff.2 e]
    exact Dj
  ·rw [hd1 hr,cZ hr]
   exact Dj
 cases hX:jY s (aJ s cs) bB v i (w1::r1) with
 | none =>
  have n1:b1=false:=by
   rw [← hb1];refine cZ fun h=>?_
   unfold jY at hX;rw [if_pos h] at hX;cases hX
  have n2:b2=false:=by
   rw [← hb2];refine cZ fun h=>?_
   unfold jY at hX;rw [if_neg (Ew (hb1.trans n1)),if_pos h] at hX;cases hX
  have hn:GI s (aJ s cs) (w1::r1)=none:=by
   rw [JV (Ew (hb1.trans n1)) (Ew (hb2.trans n2))] at hX
   simpa using hX
  rw [hn] at hch
  have hF:Ud qG BR Tryz.prog _ _ _ _ _:=(hch.er_ rfl).frame (X:=[(1,.jM 90 6 EV),(2,.row 153 1 NT)])
  rw [n1]
  rw [n2] at hB2
  refine iP ?_
  refine WL.O5 ⟨[(0,.pt 0 0 0),(4,.ls 1 R1),(5,.pt 3 0 0),(66,.sc (.bool false))],[(0,.box 78 [.sc (.int .u8 s),.sc (bG s),.ls 3 (cs.map aF),.ls 1 (st.map eInt),.sl 1,.sl 2,.sc (.int .i64 ln),.ls 1 T,.sc (.bool cl)]),(1,.jM 90 6 EV),(2,.row 153 1 NT),(3,.box 90 [.sc (.bool bB),.sc (.int .i64 v),.sc (.bool sD),.sc (.bool sT),.sc (.bool false),.sc (.slice none 0 0)])],5⟩ ?_ ?_
  ·rw [hl1,Gi,TA,hB2]
   clear hB1 hB2 hb1 hb2 hch hF
   exact aln
  refine iP ?_
  refine WL.ctp hB [0,1,2] rfl rfl (ak Tryz.func93 rfl rfl) hF rfl rfl rfl ⟨⟨rfl,rfl,rfl⟩,⟨rfl,rfl,rfl⟩,⟨rfl,rfl,rfl⟩,trivial⟩ ?_
  rfl
 | some X =>
 have hXb:=JU hX
 refine W.aho ⟨[(0,.pt 0 0 0),(5,.pt 3 0 0),(8,.ls 6 (X.l.map (xu s)))],[(0,.box 78 [.sc (.int .u8 s),.sc (bG s),.ls 3 (cs.map aF),.ls 1 (st.map eInt),.sl 1,.sl 2,.sc (.int .i64 ln),.ls 1 T,.sc (.bool cl)]),(1,.jM 90 6 EV),(2,.row 153 1 NT),(3,.box 90 [.sc (.bool bB),.sc (.int .i64 v),.sc (.bool sD),.sc (.bool sT),.sc (.bool X.tie),.sc (.slice none 0 0)])],6⟩ ?_ ?_
 ·cases b1 with
  | true =>
   have h1:=iY hb1
   have e:X=⟨bB,v,i,true,[]⟩:=by
    unfold jY at hX;rw [if_pos h1] at hX;exact (Option.some.inj hX).symm
   exact arz
  | false =>
   have n1:=Ew hb1
   refine iP ?_
   refine WL.O5 ⟨[(0,.pt 0 0 0),(4,.ls 1 R1),(5,.pt 3 0 0),(8,.sc (.slice none 0 0)),(66,.sc (.bool b2))],[(0,.box 78 [.sc (.int .u8 s),.sc (bG s),.ls 3 (cs.map aF),.ls 1 (st.map eInt),.sl 1,.sl 2,.sc (.int .i64 ln),.ls 1 T,.sc (.bool cl)]),(1,.jM 90 6 EV),(2,.row 153 1 NT),(3,.box 90 [.sc (.bool bB),.sc (.int .i64 v),.sc (.bool sD),.sc (.bool sT),.sc (.bool false),.sc (.slice none 0 0)])],5⟩ ?_ ?_
   ·rw [hl1,Gi,TA,hB2]
    clear hB1 hB2 hb1 hb2 hch
    exact aln
   cases b2 with
   | true =>
    have h2:=iY hb2
    have e:X=⟨bB,v,i,false,[]⟩:=by
     unfold jY at hX;rw [if_neg n1,if_pos h2] at hX;exact (Option.some.inj hX).symm
    exact arz
   | false =>
    have n2:=Ew hb2
    rw [JV n1 n2] at hX
    obtain ⟨l,hl,e⟩:=Option.map_eq_some_iff.1 hX
    subst e
    rw [hl] at hch
    have hF:jI qG BR Tryz.prog _ _ _ _ _ _ _:=(hch.ok_ rfl).fr2 (a:=.jM 90 6 EV) (b:=.row 153 1 NT)
    clear hB1 hB2 hb1 hb2 hch hX
    refine iP ?_
    refine WL.qo hB [0,1,2] rfl rfl (ak Tryz.func93 rfl rfl) hF rfl rfl rfl ⟨⟨rfl,rfl,rfl⟩,⟨rfl,rfl,rfl⟩,⟨rfl,rfl,rfl⟩,trivial⟩ rfl rfl rfl rfl ?_
    exact Dj
 obtain ⟨xb1,xv1,xi1,hXl,hXn⟩:=hXb
 have hev:bM (gI X)=[.sc (.bool bB),.sc (.int .i64 v),.sc (.bool sD),.sc (.bool sT),.sc (.bool X.tie),.ow 69 5 ((X.l.map (iI iM)).map aC)]:=by
  show ([.sc (.bool X.bar),.sc (.int .i64 X.v),.sc (.bool (IE X.i)),.sc (.bool (EH X.i)),.sc (.bool X.tie),.ow 69 5 ((X.l.map (iI iM)).map aC)]:List AV)=_
  rw [xb1,xv1,xi1,hsD,hsT]
 have hE1:=hEx X
 have hN1:=hNx X
 have hXv:X.v=v:=xv1
 rw [hev] at hE1
 clear hEx hNx hX hch hB1 hB2 hb1 hb2 xb1 xv1 xi1 hev asy hl1 hd1 hd2
 have hcode:RI s cs st ln T cl E (some X)=if oh cs (E.length == 0) X≠0 then .er (eP ln (oh cs (E.length == 0) X)) else .ok (.tu []) [(0,.box 78 [.sc (.int .u8 s),.sc (bG s),.ls 3 (cs.map aF),.ls 1 (st.map eInt),.sl 3,.sl 4,.sc (.int .i64 ln),.ls 1 T,.sc (.bool cl)]),(3,.jM 90 6 (((E++[X]).map gI).map bM)),(4,.row 153 1 ((E++[X]).map (vC s)))] 5:=rfl
 rw [hcode,hE1,hN1]
 clear hcode hE1 hN1
 have hfb:(E.length == 0)=decide ((EV.length:Int)=0):=by rw [hEl,Gg];simp
 rw [hfb]
 obtain ⟨fb,asE⟩:∃ z,decide ((EV.length:Int)=0)=z:=⟨_,rfl⟩
 have asA:fb=true→v=0→oh cs fb X=20:=fun h1 h2=>by unfold oh;rw [if_pos ⟨h1,hXv.trans h2⟩]
 have hc21:¬ (fb=true∧v=0)→(fb && X.tie)=true→oh cs fb X=21:=fun h1 h2=>by unfold oh;rw [if_neg (by rw [hXv];exact h1),if_pos h2]
 have hcn:¬ (fb=true∧v=0)→¬ (fb && X.tie)=true→oh cs fb X=kF cs X.l:=fun h1 h2=>by unfold oh;rw [if_neg (by rw [hXv];exact h1),if_neg h2]
 obtain ⟨tie,htie⟩:∃ z,X.tie=z:=⟨_,rfl⟩
 rw [htie] at hc21 hcn ⊢
 obtain ⟨CK,hCK⟩:∃ z,oh cs (decide ((EV.length:Int)=0)) X=z:=⟨_,rfl⟩
 rw [hCK]
 rw [asE] at hCK
 rw [hCK] at asA hc21 hcn
 refine iP ?_
 rw [asE]
 refine WL.O5 ⟨[(0,.pt 0 0 0),(5,.pt 3 0 0),(8,.ls 6 (X.l.map (xu s))),(9,.sc (.bool fb)),(96,.sc (.bool (fb && decide ((v:Int)=0))))],[(0,.box 78 [.sc (.int .u8 s),.sc (bG s),.ls 3 (cs.map aF),.ls 1 (st.map eInt),.sl 1,.sl 2,.sc (.int .i64 ln),.ls 1 T,.sc (.bool cl)]),(1,.jM 90 6 EV),(2,.row 153 1 NT),(3,.box 90 [.sc (.bool bB),.sc (.int .i64 v),.sc (.bool sD),.sc (.bool sT),.sc (.bool tie),.sc (.slice none 0 0)])],6⟩ ?_ ?_
 ·exact alI
 by_cases h20:fb=true∧v=0
 ·have e:(fb && decide ((v:Int)=0))=true:=by rw [h20.1,h20.2];rfl
  rw [e]
  rw [asA h20.1 h20.2,if_pos (by decide)]
  exact ND
 have e:(fb && decide ((v:Int)=0))=false:=by
  cases fb with
  | false=>rfl
  | true=>simpa using h20
 rw [e]
 refine iP ?_
 refine WL.O5 ⟨[(0,.pt 0 0 0),(5,.pt 3 0 0),(8,.ls 6 (X.l.map (xu s))),(9,.sc (.bool fb)),(103,.sc (.bool (fb && tie)))],[(0,.box 78 [.sc (.int .u8 s),.sc (bG s),.ls 3 (cs.map aF),.ls 1 (st.map eInt),.sl 1,.sl 2,.sc (.int .i64 ln),.ls 1 T,.sc (.bool cl)]),(1,.jM 90 6 EV),(2,.row 153 1 NT),(3,.box 90 [.sc (.bool bB),.sc (.int .i64 v),.sc (.bool sD),.sc (.bool sT),.sc (.bool tie),.sc (.slice none 0 0)])],6⟩ ?_ ?_
 ·exact alI
 by_cases h21:(fb && tie)=true
 ·rw [h21]
  rw [hc21 h20 h21,if_pos (by decide)]
  exact ND
 rw [Bool.eq_false_iff.2 h21]
 have hcn:=hcn h20 h21
 clear asA hc21 h20 h21 e hCK hfb asE
 have adX:(X.l.map (xu s)).length=X.l.length:=aH _
 have Dy:∀ k (h:k < X.l.length),(X.l.map (xu s))[((k:Nat):Int).toNat]?=some (xu s X.l[k]):=fun k h=>by
  exact aaB
 obtain ⟨l,hl⟩:∃ z,X.l=z:=⟨_,rfl⟩
 have hNe:vC s X=[.ls 6 (X.l.map (xu s))]:=rfl
 rw [hNe]
 rw [hl] at hcn adX hXl hXn ⊢
 have Dy:∀ k (h:k < l.length),(l.map (xu s))[((k:Nat):Int).toNat]?=some (xu s l[k]):=by subst hl;exact Dy
 obtain ⟨NL,asr⟩:∃ z,l.map (xu s)=z:=⟨_,rfl⟩
 rw [asr] at adX Dy ⊢
 refine iP ?_
 refine W.tr (Tr.og (k:=3) (j:=5) 69 5 rfl rfl rfl rfl) ?_
 dsimp only [St.upd,St.new,St.put,Nat.reduceAdd]
 refine W.loop (fun k:Nat=>k≤l.length∧∀ j (h:j < l.length),j < k→fK cs l[j]=0) (fun k=>⟨[(0,.pt 0 0 0),(5,.pt 3 0 0),(8,.ls 6 NL),(106,.ls 6 NL),(107,.sc (.int .i64 (l.length:Int))),(108,.sc (.int .i64 (k:Int)))],
  [(0,.box 78 [.sc (.int .u8 s),.sc (bG s),.ls 3 (cs.map aF),.ls 1 (st.map eInt),.sl 1,.sl 2,.sc (.int .i64 ln),.ls 1 T,.sc (.bool cl)]),(1,.jM 90 6 EV),(2,.row 153 1 NT),(3,.box 90 [.sc (.bool bB),.sc (.int .i64 v),.sc (.bool sD),.sc (.bool sT),.sc (.bool tie),.sl 6]),(6,.row 69 5 (((l.take k).map (iI iM)).map aC))],7⟩) (fun k=>l.length - k) 0 ⟨by omega,fun j hj h=>absurd h (by omega)⟩ (by rw [← adX];exact (zqt id)) fun k hk=>?_
 obtain ⟨hk,hall⟩:=hk
 by_cases hlt:k < l.length
 ·have OM:=Dy k hlt
  have hck:=amK s (.int .u8 s) (bG s) cs (st.map eInt) ln T cl l[k] ⟨(hXl _ (dS hlt)).1,by have:=(hXl _ (dS hlt)).2.1;omega⟩ (by have:=(hXl _ (dS hlt)).2.2;omega) (by omega) hcb
  have hbad:=fun h=>GN hlt hall h
  have hnx:fK cs l[k]=0→∀ j (hj:j < l.length),j < k+1→fK cs l[j]=0:=fun h j hj hjk=>by
   exact adf
  have hrow:((l.take (k+1)).map (iI iM)).map aC=((l.take k).map (iI iM)).map aC++[aC (iI iM l[k])]:=by
   exact QH
  obtain ⟨R,hR⟩:∃ z,((l.take k).map (iI iM)).map aC=z:=⟨_,rfl⟩
  have hRl:R.length≤500000:=by rw [← hR,aH,aH,fP];omega
  rw [hR] at hrow ⊢
  obtain ⟨⟨c,f,r,g,h⟩,hx⟩:∃ z,l[k]=z:=⟨_,rfl⟩
  rw [hx] at OM hck hbad hnx hrow
  unfold iC xu at hck
  unfold xu at OM
  have hrow:((l.take (k+1)).map (iI iM)).map aC=R++[[.sc (.int .i64 c),.sc (.int .i64 f),.sc (.int .i64 r),.sc (.int .i64 g),.sc (.int .i64 0)]]:=hrow
  dsimp only at OM hck
  obtain ⟨H,hH⟩:∃ z,mQ s h=z:=⟨_,rfl⟩
  rw [hH] at OM hck
  obtain ⟨NO,hNO⟩:∃ z,fK cs (c,f,r,g,h)=z:=⟨_,rfl⟩
  rw [hNO] at hck hbad hnx
  clear hall
  by_cases h0:NO=0
  rotate_left
  ·rw [if_neg h0] at hck
   have hF:Ud jE 0 Tryz.prog _ _ _ _ _:=(hck.er_ rfl).frame (X:=[(1,.jM 90 6 EV),(2,.row 153 1 NT)])
   rw [hcn,hbad h0,if_pos h0]
   refine iP ?_
   refine WL.idx rfl rfl au OM ?_
   refine iP ?_
   refine WL.ctp (dL _) [0,1,2] rfl rfl (ak Tryz.func94 rfl rfl) hF rfl rfl rfl ⟨⟨rfl,rfl,rfl⟩,⟨rfl,rfl,rfl⟩,⟨rfl,rfl,rfl⟩,trivial⟩ ?_
   rfl
  ·rw [if_pos h0] at hck
   have hF:jI jE 0 Tryz.prog _ _ _ _ _ _ _:=(hck.ok_ rfl).fr2 (a:=.jM 90 6 EV) (b:=.row 153 1 NT)
   refine iP ?_
   refine WL.idx rfl rfl au OM ?_
   refine iP ?_
   refine WL.qo (dL _) [0,1,2] rfl rfl (ak Tryz.func94 rfl rfl) hF rfl rfl rfl ⟨⟨rfl,rfl,rfl⟩,⟨rfl,rfl,rfl⟩,⟨rfl,rfl,rfl⟩,trivial⟩ rfl rfl rfl rfl ?_
   refine iP ?_
   refine ⟨k+1,⟨by omega,hnx h0⟩,by omega,?_⟩
   rw [hrow]
   exact (kL (fun q=>bif Nat.beq q 6 then 9 else q) qc rfl)
 obtain rfl:k=l.length:=by omega
 have hno:=GR fun j hj=>hall j hj hj
 rw [jH,hcn,hno,if_neg (by decide)]
 obtain ⟨SS,hSS⟩:∃ z,(l.map (iI iM)).map aC=z:=⟨_,rfl⟩
 rw [hSS]
 clear hcn hno hall hk hlt hXl hXn Dy
 refine iP ?_
 refine W.Js 9 bD bD bD ?_
 refine WA.dt [false,false,false,false,false,false,false,true,true] [0,3] [0,3] 8 bD bD bD ⟨rfl,rfl,trivial⟩ ⟨rfl,rfl,trivial⟩ ?_
 refine Io ?_
 refine ajO ?_
 refine uV ?_
 refine uo ?_
 refine aZ.bdC (q:=6) (j0:=5) (fV:=[[.sc (.bool bB),.sc (.int .i64 v),.sc (.bool sD),.sc (.bool sT),.sc (.bool tie),.ow 69 5 SS]]) (M':=[(0,.box 78 [.sc (.int .u8 s),.sc (bG s),.ls 3 (cs.map aF),.ls 1 (st.map eInt),.sl 1,.sl 2,.sc (.int .i64 ln),.ls 1 T,.sc (.bool cl)]),(1,.jM 90 6 EV),(2,.row 153 1 NT),(3,.box 90 [.sc (.bool bB),.sc (.int .i64 v),.sc (.bool sD),.sc (.bool sT),.sc (.bool tie),.sl 6]),(7,.jM 90 6 [[.sc (.bool bB),.sc (.int .i64 v),.sc (.bool sD),.sc (.bool sT),.sc (.bool tie),.ow 69 5 SS]])]) rfl rfl rfl rfl rfl rfl rfl rfl rfl rfl rfl rfl rfl rfl rfl rfl rfl rfl rfl ⟨rfl,rfl,rfl,rfl,rfl,trivial⟩ ⟨rfl,rfl,trivial⟩ (fun _=>⟨rfl,rfl,trivial⟩) ?_
 refine aZ.apM (q1:=1) (q2:=7) (M':=[(0,.box 78 [.sc (.int .u8 s),.sc (bG s),.ls 3 (cs.map aF),.ls 1 (st.map eInt),.sl 1,.sl 2,.sc (.int .i64 ln),.ls 1 T,.sc (.bool cl)]),(2,.row 153 1 NT),(3,.box 90 [.sc (.bool bB),.sc (.int .i64 v),.sc (.bool sD),.sc (.bool sT),.sc (.bool tie),.sl 6]),(8,.jM 90 6 (EV++[[.sc (.bool bB),.sc (.int .i64 v),.sc (.bool sD),.sc (.bool sT),.sc (.bool tie),.ow 69 5 SS]]))]) rfl rfl rfl rfl rfl rfl rfl rfl rfl rfl rfl rfl rfl rfl rfl rfl rfl (by simp;omega) rfl rfl ⟨rfl,rfl,rfl,rfl,trivial⟩ ⟨rfl,rfl,trivial⟩ (fun h=>by cases h) ?_
 refine aZ.nil ?_
 refine ⟨rfl,?_⟩
 refine (?_:WL _ _ _ _ _ _)
 refine iP ?_
 exact xB (σ':=⟨[],[(0,.box 78 [.sc (.int .u8 s),.sc (bG s),.ls 3 (cs.map aF),.ls 1 (st.map eInt),.sl 3,.sl 4,.sc (.int .i64 ln),.ls 1 T,.sc (.bool cl)]),(3,.jM 90 6 (EV++[[.sc (.bool bB),.sc (.int .i64 v),.sc (.bool sD),.sc (.bool sT),.sc (.bool tie),.ow 69 5 SS]])),(4,.row 153 1 (NT++[[.ls 6 NL]]))],5⟩) (kL (fun q=>bif Nat.beq q 3 then 8 else bif Nat.beq q 4 then 10 else q) aw2 rfl) (sQ rfl rfl rfl rfl rfl)
end
end Go.Proofs.YthehkchjdkdbiaaGreatDoor
