/- The reader of the reference: Read. (RWN.) -/
import Derived.Test.YthohlofpphjofaaGreatDoorNr8Lq
import Derived.Test.YthohlofpphjofaaGreatDoorNrZLq
import Derived.Test.YthohlofpphjofaaGreatDoorNrJLq
set_option maxHeartbeats 16000000
set_option maxRecDepth 100000
set_option linter.unusedVariables false
set_option linter.unusedSimpArgs false
namespace Go.Proofs.YthohlofpphjofaaGreatDoor
open Go.RowKit
section
variable {p:Prop}
theorem acg(h:p:=by
 refine ayj ?_;refine lQ ?_;exact Ib):p:=h
theorem Ie(h:p:=by
 refine gI ?_;exact qL):p:=h
theorem anm(h:p:=by
 refine aV.xq rfl rfl rfl rfl rfl rfl rfl rfl rfl rfl rfl rfl rfl rfl ⟨rfl,trivial⟩ (λh=>by cases h) ?_;refine A8 ?_;refine akP ?_;exact Ib):p:=h
theorem amU(h:p:=by
 clear hcl;by_cases hs:l0.length < 10
 .rw [h10 hs];refine gI ?_;refine Om ?_;refine gI ?_;exact qL
 .exact ayx):p:=h
theorem amO(h:p:=by
 by_cases hlast:LT.length=k+2+1
 .rw [bQ (show (k:Int)+2=(LT.length:Int) - 1 by omega),aoC hlast];refine gI ?_;exact qL
 .rw [bW (show ¬ (k:Int)+2=(LT.length:Int) - 1 by omega)];clear aoC;refine gI ?_;exact qL):p:=h
theorem Ib(h:p:=by
 refine aV.xq rfl rfl rfl rfl rfl rfl rfl rfl rfl rfl rfl rfl rfl rfl ⟨rfl,trivial⟩ (λh=>by cases h) ?_;refine avx ?_;exact gZ):p:=h
theorem alH(h:p:=by
 by_cases htl:tl=[];.exact bQ htl
 .rw [if_neg htl] at vM;simp at vM;omega):p:=h
theorem ayx(h:p:=by
 refine gI ?_;refine Om ?_;refine ak1 ?_;rw [hcut];refine gI ?_;refine (?_:Tr _ _ _);rw [← hneq _ rfl];exact (zqt id)):p:=h
theorem ar7(h:p:=by
 refine aV.xq rfl rfl rfl rfl rfl rfl rfl rfl rfl rfl rfl rfl rfl rfl ⟨rfl,trivial⟩ (λh=>by cases h) ?_;refine A8 ?_;refine gI ?_;refine WL.bdO 5 rfl rfl rfl rfl ?_;refine WL.tr (Tr.close_ 8 rfl rfl rfl rfl zx rfl) ?_;dsimp only [St.upd,St.drop,rem,cond,Nat.beq];refine WL.apM rfl rfl rfl rfl (by show R.length+1<=1000000000;omega) ?_;refine gI ?_;refine ⟨k+1,⟨by omega,hn2⟩,by omega,?_⟩;rw [hrow,show ((k+1:Nat):Int)+2=(k:Int)+2+1 by omega];exact (ku (λq=>bif Nat.beq q 4 then 9 else q) mJ rfl)):p:=h
end
theorem akP {p q:Prop}(k:q)(h:iF q->p:=by
 intro hq;refine ayg ?_;refine lQ ?_;refine akV ?_;refine lQ ?_;exact hq.k):p:=h ⟨k⟩
theorem avx {p q:Prop}(k:q)(h:iF q->p:=by
 intro hq;refine lQ ?_;refine aAC ?_;exact hq.k):p:=h ⟨k⟩
theorem ad7 {p q:Prop}(k:q)(h:iF q->p:=by
 intro hq;refine jl ?_;refine akV ?_;refine lQ ?_;refine ays ?_;exact hq.k):p:=h ⟨k⟩
theorem ays {p q:Prop}(k:q)(h:iF q->p:=by
 intro hq;refine aV.v0 rfl (sV rfl au hat) ?_;refine mM ?_;exact hq.k):p:=h ⟨k⟩
theorem ak1 {p q:Prop}(k:q)(h:iF q->p:=by
 intro hq;refine gI ?_;refine Om ?_;refine gI ?_;refine WL.cut rfl rfl au ?_;exact hq.k):p:=h ⟨k⟩
theorem arP {p q:Prop}(k:q)(h:iF q->p:=by
 intro hq;refine gI ?_;refine W.pK aK ?_;refine WA.dt [false,false,false,true,false,false] [1] [1] 3 aK aK aK ⟨rfl,trivial⟩ ⟨rfl,trivial⟩ ?_;exact hq.k):p:=h ⟨k⟩
theorem akV {p q:Prop}(k:q)(h:iF q->p:=by
 intro hq;refine aV.v0 rfl (uY rfl aAy) ?_;exact hq.k):p:=h ⟨k⟩
theorem ayj {p q:Prop}(k:q)(h:iF q->p:=by
 intro hq;refine gI ?_;refine W.pK aK ?_;refine WA.dt [false,false,true,false,false] [1] [1] 2 aK aK aK ⟨rfl,trivial⟩ ⟨rfl,trivial⟩ ?_;exact hq.k):p:=h ⟨k⟩
theorem ayg {p q:Prop}(k:q)(h:iF q->p:=by
 intro hq;refine gI ?_;refine W.pK aK ?_;refine WA.dt [false,false,false,false,false,true,false,false] [1] [1] 5 aK aK aK ⟨rfl,trivial⟩ ⟨rfl,trivial⟩ ?_;exact hq.k):p:=h ⟨k⟩
theorem ad1 {p q:Prop}(k:q)(h:iF q->p:=by
 intro hq;refine aV.vq rfl rfl rfl aK rfl rfl rfl (kE rfl rfl) ?_;refine aV.vq rfl rfl rfl aK rfl rfl rfl (kE rfl rfl) ?_;refine aV.vq rfl rfl rfl aK rfl rfl rfl (kE rfl rfl) ?_;exact hq.k):p:=h ⟨k⟩
theorem aAC {p q:Prop}(k:q)(h:iF q->p:=by
 intro hq;refine aV.nil ?_;refine gI ?_;refine W.tr (Tr.EH 0 0 3 rfl rfl rfl) ?_;refine W.tr (Tr.EH 0 1 1 rfl rfl rfl) ?_;refine W.tr (Tr.EH 0 2 6 rfl rfl rfl) ?_;exact hq.k):p:=h ⟨k⟩
theorem aAy {z:Int} (h:I64 z:=by unfold I64;omega):I64 z:=h
theorem ajS (l:List UInt8):bC Tryz.prog 44 [.sc (.string (bs l))] (.tu [.sc (.int .u8 (pJ l).1),.sc (.int .i64 (pJ l).2)]) :=bC.nX (v:=psV l) rfl (λF=>by rw [ac7];exact Hl rfl) λw=>Ho l w
def XK:List (List UInt8)->Bool
 | []=>true| l0::_=>!(bY jY l0)
def au7:List (List UInt8)->Bool
 | []=>true| _::_=>false
theorem ajL(s:Int)(cs:List Crs)(t:List UInt8):(aT s cs t).l.length<=20:=by have:=Qj s cs t;omega
theorem ajB (t:List UInt8) (ht:t.length<=65536):bC Tryz.prog 12 [.sc (.string (bs t))] (rdR (aG t)):=by
 have hW:=Qx t au;have hwb:∀ w∈aZ 10 t,w.length<=65536:=λw hw=>gX (jk 10 t w hw) ht;have hwl:(aZ 10 t).length<=65537:=by exact aee
 have hR:aG t=jq (aH 10 t).2 (aH 10 t).1:=rfl;rw [hR];clear hR;unfold aZ at hwb hwl;obtain ⟨⟨F,tl⟩,hF⟩:∃ z,aH 10 t=z:=⟨_,rfl⟩;rw [hF] at hW hwb hwl ⊢;dsimp only at hW hwb hwl ⊢;have hgt:=λk=>JR F tl (k:=k);have Y0:=adt F tl;have hLb:∀ w∈BO F tl,w.length<=65536:=λw hw=>by
  have:w∈F++[tl]:=by exact alZ
  exact hwb w this
 have hFl:F.length<=65536:=by simp at hwl;omega
 have hWe:(if tl=[] then F else F++[tl])=BO F tl:=rfl;rw [hWe] at hW;have Jz:∀ k (h:k < F.length),((BO F tl).map aX)[((k:Nat):Int).toNat]?=some (aX F[k]):=λk h=>by
  have h2:k < (BO F tl).length:=by rw [Y0];omega
  have h3:=hgt k h;rw [dL,aO h2] at h3;rw [gy,dw,aO h2];exact congrArg (λz=>some (aX z)) h3
 obtain ⟨LT,KG⟩:∃ z,(BO F tl).map aX=z:=⟨_,rfl⟩;have vM:LT.length=F.length+(if tl=[] then 0 else 1):=by rw [← KG,bK,Y0]
 rw [KG] at hW Jz;clear hgt Y0 hWe hF KG hwl;have aBA:LT.length<=65537:=by rw [vM];split<;>omega
 refine dV Tryz.func12 Tryz.ntmps12 λw0 F0=>?_;dsimp only [St.init,number,Nat.reduceAdd];refine gI ?_;refine WL.vl rfl (aS Tryz.func16 hW) ?_;refine gI ?_;refine WL.vT ⟨[(3,.pt 0 0 0),(6,.pt 1 0 0),(7,.ls 1 LT),(8,.sc (.bool (decide (tl=[])))),(52,.sc (.bool (XK F)))],[(0,.box 30 [.sc (.slice none 0 0),.sc (.slice none 0 0),.sc (.slice none 0 0)]),(1,.box 30 [.sc (.slice none 0 0),.sc (.slice none 0 0),.sc (.slice none 0 0)])],2⟩ ?_ ?_;.cases F with
  | nil =>
   show WL _ _ _ _ _ (gU (λs=>Tr _ s ⟨[_,_,_,_,(52,.sc (.bool true))],_,_⟩) _);by_cases htl:tl=[]
   .rw [if_pos htl] at vM;have hn:LT.length=0:=vM;rw [bQ (show (LT.length:Int) < 1 by omega),bQ htl];exact Ie
   .rw [if_neg htl] at vM;have hn:LT.length=1:=by rw [vM];rfl
    rw [bW (show ¬ (LT.length:Int) < 1 by omega),bW htl];exact Ie| cons l0 F1 =>
   have hat:LT[Int.toNat 0]?=some (aX l0):=Jz 0 (by simp);have hpf:bY jY l0=decide (l0.take 10=jY):=qX;have hl0:l0.length<=65536:=hwb l0 (by simp);have hb5:XK (l0::F1)=!(decide (l0.take 10=jY)):=by rw [← hpf];rfl
   rw [hb5];have hcut:cut l0 0 10=l0.take 10:=by simp [cut]
   have hneq:∀ z:List UInt8,z=l0.take 10->(z != [116,97,98,108,97,116,117,114,101,32])=!(decide (l0.take 10=jY)):=λz hz=>by
    subst hz;show (!(l0.take 10 == jY))=_;rw [show (l0.take 10 == jY)=decide (l0.take 10=jY) by rw [FT];simp]
   have h10:l0.length < 10->(!(decide (l0.take 10=jY)))=true:=λh=>by
    rw [bW];rfl;intro e;have:=congrArg List.length e;rw [jT,show jY.length=10 from rfl] at this;omega
   have hn1:1<=LT.length:=by rw [vM];simp;omega
   obtain ⟨B5,hB5⟩:∃ z,(!(decide (l0.take 10=jY)))=z:=⟨_,rfl⟩;rw [hB5] at hneq h10 ⊢;have hcl:LT.length=1->decide (tl=[])=true:=λh=>by exact alH
   obtain ⟨CL,hCL⟩:∃ z,decide (tl=[])=z:=⟨_,rfl⟩;rw [hCL] at hcl ⊢;clear hpf hb5 hB5 Jz vM hW;rw [bW (show ¬ (LT.length:Int) < 1 by omega)];by_cases h1:LT.length=1
   .rw [hcl h1];exact amU
   .exact amU
 cases hb5:XK F with
 | true =>
  have hno:jq tl F=fC 1 4:=by cases F with
   | nil=>rfl| cons l0 F1 =>
    have:bY jY l0=false:=by unfold XK at hb5;simpa using hb5
    unfold jq;dsimp only;rw [Qp this]
  rw [hno];unfold rdR fC;dsimp only;exact acg| false =>
 obtain ⟨l0,F1,rfl⟩:∃ l0 F1,F=l0::F1:=by cases F with
  | nil=>cases hb5| cons l0 F1=>exact ⟨l0,F1,rfl⟩
 have hpf:bY jY l0=true:=by unfold XK at hb5;simpa using hb5
 have aBS:10<=l0.length:=by
  rw [qX] at hpf;have h2:=congrArg List.length (rP hpf);rw [jT,show jY.length=10 from rfl] at h2;omega
 have hat:LT[Int.toNat 0]?=some (aX l0):=Jz 0 (by simp);have hl0:l0.length<=65536:=hwb l0 (by simp);have hsy:=Qo hpf;have hPS:=ajS (l0.drop 10);have hcut:cut l0 10 (l0.length:Int)=l0.drop 10:=by
  unfold cut;rw [gy];exact ou (by rw [vk];exact Nat.le_refl _)
 have hc9:=IK (l0.drop 10);obtain ⟨⟨s,e0⟩,hps⟩:∃ z,pJ (l0.drop 10)=z:=⟨_,rfl⟩;rw [hps] at hsy hPS hc9;dsimp only at hsy hPS hc9;have hn1:1<=LT.length:=by rw [vM];simp;omega
 clear hb5 hpf hps;by_cases he0:e0=0;rotate_left
 .obtain rfl:e0=4:=by rcases hc9 with q|q<;>omega
  have hno:jq tl (l0::F1)=fC 1 4:=by
   unfold jq;dsimp only;rw [hsy];rfl
  rw [hno];unfold rdR fC;dsimp only;clear Jz hsy;refine ak1 ?_;rw [hcut];refine gI ?_;refine WL.vl rfl (aS Tryz.func44 hPS) ?_;refine arP ?_;refine jl ?_;exact Ib
 subst he0;rw [if_pos rfl] at hsy;have hs:1<=s/\s<=4:=by omega
 have hone:jq tl (l0::F1)=wP s tl F1:=by
  unfold jq;dsimp only;rw [hsy]
 rw [hone];clear hc9 hsy hone;refine ak1 ?_;rw [hcut];refine gI ?_;refine WL.vl rfl (aS Tryz.func44 hPS) ?_;refine gI ?_;refine WL.vT ⟨[(3,.pt 0 0 0),(6,.pt 1 0 0),(7,.ls 1 LT),(8,.sc (.bool (decide (tl=[])))),(9,.sc (.int .u8 s)),(77,.sc (.bool (au7 F1)))],[(0,.box 30 [.sc (.slice none 0 0),.sc (.slice none 0 0),.sc (.slice none 0 0)]),(1,.box 30 [.sc (.slice none 0 0),.sc (.slice none 0 0),.sc (.slice none 0 0)])],2⟩ ?_ ?_
 .clear hat hcut hPS Jz hW;cases F1 with
  | nil =>
   show WL _ _ _ _ _ (gU (λs=>Tr _ s ⟨[_,_,_,_,_,(77,.sc (.bool true))],_,_⟩) _);by_cases htl:tl=[]
   .rw [if_pos htl] at vM;have hn:LT.length=1:=by rw [vM];rfl
    rw [bQ (show (LT.length:Int) < 2 by omega),bQ htl];exact Ie
   .rw [if_neg htl] at vM;have hn:LT.length=2:=by rw [vM];rfl
    rw [bW (show ¬ (LT.length:Int) < 2 by omega),bW htl];exact Ie| cons l1 F2 =>
   show WL _ _ _ _ _ (gU (λs=>Tr _ s ⟨[_,_,_,_,_,(77,.sc (.bool false))],_,_⟩) _);have hn2:2<=LT.length:=by rw [vM];simp;omega
   have hcl:LT.length=2->decide (tl=[])=true:=λh=>by exact alH
   obtain ⟨CL,hCL⟩:∃ z,decide (tl=[])=z:=⟨_,rfl⟩;rw [hCL] at hcl ⊢;clear vM;rw [bW (show ¬ (LT.length:Int) < 2 by omega)];by_cases h2:LT.length=2
   .rw [hcl h2];clear hcl;exact Ie
   .clear hcl;exact Ie
 cases F1 with
 | nil =>
  show W _ _ _ ⟨[_,_,_,_,_,(77,.sc (.bool true))],_,_⟩ _;rw [show wP s tl []=fC 2 4 from rfl];unfold rdR fC;dsimp only;clear hat hcut hPS Jz hW;exact acg| cons l1 F2 =>
 show W _ _ _ ⟨[_,_,_,_,_,(77,.sc (.bool false))],_,_⟩ _;have aeW:LT[Int.toNat 1]?=some (aX l1):=Jz 1 (by simp);have hl1:l1.length<=65536:=hwb l1 (by simp);have hIn:=afO l1 au;have hI:=λh=>Qi (l:=l1) h;have hn2:2<=LT.length:=by rw [vM];simp;omega
 unfold wP;dsimp only;obtain ⟨⟨⟨cs,st⟩,e0⟩,hnI⟩:∃ z,aF l1=z:=⟨_,rfl⟩;rw [hnI] at hIn hI ⊢;unfold jc at hIn;dsimp only at hIn hI ⊢;clear hat hcut hPS hW hnI;by_cases he0:e0=0;rotate_left
 .rw [if_pos he0];unfold rdR fC;dsimp only;clear Jz hI;refine gI ?_;refine Oo ?_;refine gI ?_;refine WL.vl rfl (aS Tryz.func45 hIn) ?_;refine arP ?_;refine jl ?_;exact Ib
 rw [if_neg (λq=>q he0)];subst he0;have hI:=hI rfl;obtain ⟨hc1,atI,axe,_,hcr⟩:=uG hI;have Zo:LT.length=F2.length+2+(if tl=[] then 0 else 1):=vM;by_cases hbig:400 < F2.length+(if tl=[] then 0 else 1)
 .rw [if_pos hbig];unfold rdR fC;dsimp only;have hbg:402 < LT.length:=by omega
  clear Jz vM Zo hbig;refine gI ?_;refine Oo ?_;refine gI ?_;refine WL.vl rfl (aS Tryz.func45 hIn) ?_;exact acg
 rw [if_neg hbig];have hbg:¬ 402 < LT.length:=by omega
 have azi:F2.length<=400:=by omega
 have acL:∀ k (h:k < F2.length),LT[((k:Int)+2).toNat]?=some (aX F2[k]):=λk h=>by
  have:=Jz (k+2) (by simp;omega);rw [show ((k:Int)+2)=(((k+2:Nat)):Int) by omega];exact this
 have awH:∀ k (h:k < F2.length),F2[k].length<=65536:=λk h=>hwb _ (by simp);unfold mF;have aw1:cs.length<=64:=by omega
 have hH:=ajw s hs cs st (F2.map (aT s cs)) (by omega) (by omega) (by rw [bK];omega) (λx hx=>by
  obtain ⟨u,_,rfl⟩:=List.mem_map.1 hx;exact ajL s cs u);have hEv:=λk (h:k < F2.length)=>aju s hs cs st aw1 k au F2[k] (by have:=awH k h;omega);unfold jc at hEv;obtain ⟨CR,hCR⟩:∃ z,cs.map bg=z:=⟨_,rfl⟩;obtain ⟨SR,hSR⟩:∃ z,st.map eInt=z:=⟨_,rfl⟩;rw [hCR,hSR] at hIn hH hEv;clear Jz vM hbig awH hwb;refine gI ?_;refine Oo ?_;refine gI ?_;refine WL.vl rfl (aS Tryz.func45 hIn) ?_;refine gI ?_;refine W.tr (Tr.oJ 90 6 (k:=3) (j:=2) rfl rfl rfl rfl) ?_;refine RG ?_;refine W.tr (Tr.widen 4 rfl) ?_;dsimp only [St.upd];refine W.loop (λk:Nat=>k<=F2.length/\∀ j (h:j < F2.length),j < k->eY s cs j F2[j]=0) (λk=>⟨[(3,.pt 0 0 0),(6,.pt 1 0 0),(7,.ls 1 LT),(8,.sc (.bool (decide (tl=[])))),(9,.sc (.int .u8 s)),(11,.pt 2 0 0),(12,.pt 3 0 0),(13,.sc (.int .i64 ((k:Int)+2)))],[(0,.box 30 [.sc (.slice none 0 0),.sc (.slice none 0 0),.sc (.slice none 0 0)]),(1,.box 30 [.sc (.slice none 0 0),.sc (.slice none 0 0),.sc (.slice none 0 0)]),(2,.box 27 [.ls 3 CR,.ls 1 SR]),(3,.box 30 [.ls 3 CR,.ls 1 SR,.sl 4]),(4,.jO 90 6 ((((F2.take k).map (aT s cs)).map EN).map fH))],5⟩) (λk=>F2.length+1 - k) 0 ⟨by omega,λj hj h=>absurd h (by omega)⟩ (zqt id) λk hk=>?_;obtain ⟨hk,hall⟩:=hk;have hRl:((((F2.take k).map (aT s cs)).map EN).map fH).length<=400:=by rw [bK,bK,bK,jT];omega
 by_cases hkf:k < F2.length
 .have hat:=acL k hkf;have hE:=hEv k hkf;have hbad:=λh=>GK (s:=s) (cs:=cs) (L:=F2) (k:=0) (j:=k) hkf (λi hi hik=>by rw [oC];exact hall i hi hik) h;rw [oC] at hbad;have hnx:eY s cs k F2[k]=0->∀ j (hj:j < F2.length),j < k+1->eY s cs j F2[j]=0:=λh j hj hjk=>by exact Jt
  have hX:eY s cs k F2[k]=0->uU (dQ s (aA s cs) F2[k]) (XL s F2[k])=aT s cs F2[k]:=λh=>by
   unfold eY at h;unfold aT uU;cases hf:dQ s (aA s cs) F2[k] with
   | none=>rw [hf] at h;cases h| some x=>rfl
  have hrow:((((F2.take (k+1)).map (aT s cs)).map EN).map fH)=((((F2.take k).map (aT s cs)).map EN).map fH)++[[.sc (.bool (aT s cs F2[k]).bar),.sc (.int .i64 ((aT s cs F2[k]).v:Int)),.sc (.bool (DY (aT s cs F2[k]).i)),.sc (.bool (BI (aT s cs F2[k]).i)),.sc (.bool (aT s cs F2[k]).tie),.ow 69 5 (rJ (aT s cs F2[k]))]]:=by rw [kF hkf,iC,iC,iC];rfl
  have hnl:LT.length=k+2+1->tl=[]:=λh=>by exact amB
  have hlt:k+2 < LT.length:=by omega
  obtain ⟨ER,hER⟩:∃ z,eY s cs k F2[k]=z:=⟨_,rfl⟩;rw [hER] at hE hbad hnx hX;obtain ⟨R,hR⟩:∃ z,((((F2.take k).map (aT s cs)).map EN).map fH)=z:=⟨_,rfl⟩;rw [hR] at hRl hrow ⊢;rw [show ((k:Nat):Int)=(k:Int)+2 - 2 by omega] at hE;obtain ⟨CL,hCL⟩:∃ z,decide (tl=[])=z:=⟨_,rfl⟩;have aoC:LT.length=k+2+1->CL=true:=λh=>by rw [← hCL];exact bQ (hnl h)
  rw [hCL];clear acL hEv hall hH hnl Zo;by_cases he:ER=0
  .subst he;have hn2:=hnx rfl;rw [hX rfl] at hE;unfold rX at hE;obtain ⟨X,hXX⟩:∃ z,aT s cs F2[k]=z:=⟨_,rfl⟩;rw [hXX] at hE hrow;obtain ⟨RW,hRW⟩:∃ z,rJ X=z:=⟨_,rfl⟩;rw [hRW] at hE hrow;obtain ⟨bar,v,i,tie,l⟩:=X;dsimp only at hE hrow;clear hnx hbad hX;refine gI ?_;refine WL.vT ⟨[(3,.pt 0 0 0),(6,.pt 1 0 0),(7,.ls 1 LT),(8,.sc (.bool CL)),(9,.sc (.int .u8 s)),(11,.pt 2 0 0),(12,.pt 3 0 0),(13,.sc (.int .i64 ((k:Int)+2))),(111,.sc (.bool false))],[(0,.box 30 [.sc (.slice none 0 0),.sc (.slice none 0 0),.sc (.slice none 0 0)]),(1,.box 30 [.sc (.slice none 0 0),.sc (.slice none 0 0),.sc (.slice none 0 0)]),(2,.box 27 [.ls 3 CR,.ls 1 SR]),(3,.box 30 [.ls 3 CR,.ls 1 SR,.sl 4]),(4,.jO 90 6 R)],5⟩ ?_ ?_;.exact amO
   clear aoC;refine gI ?_;refine W.pK aK ?_;refine WA.VD [0,1,2,3,4,5,6,7,8,9,10,11,12,13,14] [0,1,2,3,4,5,6,7,8,9,10,11,12,13,14] [0,1,2,3,4,5,6,7,9,10,11,12,8,13,14] [0,1,2,3,4,5,6,7,12,8,9,10,11,13,14] 8 12 aK aK rfl ?_ ?_
   .refine WA.dt [false,false,false,false,false,false,false,false,true,false,false,false,true,true,false] [2] [2] 13 aK aK aK ⟨rfl,trivial⟩ ⟨rfl,trivial⟩ ?_;refine ad7 ?_;refine aV.ct (dD _) [] rfl rfl (aj Tryz.func46 rfl rfl) hE rfl rfl rfl trivial rfl rfl rfl rfl ⟨rfl,trivial⟩ (λ_=>⟨rfl,trivial⟩) ?_;refine ad1 ?_;refine aV.al rfl rfl rfl rfl ⟨rfl,trivial⟩ (λ_=>⟨rfl,trivial⟩) ?_;exact ar7
   .refine WA.dt [false,false,false,false,false,false,false,false,true,true,false,false,false,true,false] [2] [2] 13 aK aK aK ⟨rfl,trivial⟩ ⟨rfl,trivial⟩ ?_;refine ad7 ?_;refine aV.al rfl rfl rfl rfl ⟨rfl,trivial⟩ (λ_=>⟨rfl,trivial⟩) ?_;refine aV.ct (dD _) [] rfl rfl (aj Tryz.func46 rfl rfl) hE rfl rfl rfl trivial rfl rfl rfl rfl ⟨rfl,trivial⟩ (λ_=>⟨rfl,trivial⟩) ?_;refine ad1 ?_;exact ar7
  .rw [hbad he];dsimp only;unfold rdR fC;dsimp only;rw [show (k:Int)+3=(k:Int)+2+1 by omega];unfold rX at hE;obtain ⟨X,hXX⟩:∃ z,uU (dQ s (aA s cs) F2[k]) (XL s F2[k])=z:=⟨_,rfl⟩;rw [hXX] at hE;obtain ⟨RW,hRW⟩:∃ z,rJ X=z:=⟨_,rfl⟩;rw [hRW] at hE;obtain ⟨bar,v,i,tie,l⟩:=X;dsimp only at hE;clear hnx hbad hX hrow;refine gI ?_;refine WL.vT ⟨[(3,.pt 0 0 0),(6,.pt 1 0 0),(7,.ls 1 LT),(8,.sc (.bool CL)),(9,.sc (.int .u8 s)),(11,.pt 2 0 0),(12,.pt 3 0 0),(13,.sc (.int .i64 ((k:Int)+2))),(111,.sc (.bool false))],[(0,.box 30 [.sc (.slice none 0 0),.sc (.slice none 0 0),.sc (.slice none 0 0)]),(1,.box 30 [.sc (.slice none 0 0),.sc (.slice none 0 0),.sc (.slice none 0 0)]),(2,.box 27 [.ls 3 CR,.ls 1 SR])],5⟩ ?_ ?_;.exact amO
   clear aoC;refine gI ?_;refine W.pK aK ?_;refine WA.VD [0,1,2,3,4,5,6,7,8,9,10,11,12,13,14] [0,1,2,3,4,5,6,7,8,9,10,11,12,13,14] [0,1,2,3,4,5,6,7,9,10,11,12,8,13,14] [0,1,2,3,4,5,6,7,12,8,9,10,11,13,14] 8 12 aK aK rfl ?_ ?_
   .refine WA.dt [false,false,false,false,false,false,false,false,true,false,false,false,true,true,false] [2] [2] 13 aK aK aK ⟨rfl,trivial⟩ ⟨rfl,trivial⟩ ?_;refine ad7 ?_;refine aV.ct (dD _) [] rfl rfl (aj Tryz.func46 rfl rfl) hE rfl rfl rfl trivial rfl rfl rfl rfl ⟨rfl,trivial⟩ (λ_=>⟨rfl,trivial⟩) ?_;refine ad1 ?_;refine aV.al rfl rfl rfl rfl ⟨rfl,trivial⟩ (λ_=>⟨rfl,trivial⟩) ?_;exact anm
   .refine WA.dt [false,false,false,false,false,false,false,false,true,true,false,false,false,true,false] [2] [2] 13 aK aK aK ⟨rfl,trivial⟩ ⟨rfl,trivial⟩ ?_;refine ad7 ?_;refine aV.al rfl rfl rfl rfl ⟨rfl,trivial⟩ (λ_=>⟨rfl,trivial⟩) ?_;refine aV.ct (dD _) [] rfl rfl (aj Tryz.func46 rfl rfl) hE rfl rfl rfl trivial rfl rfl rfl rfl ⟨rfl,trivial⟩ (λ_=>⟨rfl,trivial⟩) ?_;refine ad1 ?_;exact anm
 obtain rfl:k=F2.length:=by omega
 rw [vV λi hi=>by rw [oC];exact hall i hi hi];dsimp only;by_cases htl:tl=[];rotate_left
 .rw [if_pos htl];rw [if_neg htl] at Zo;unfold rdR fC;dsimp only;rw [show (F2.length:Int)+3=(F2.length:Int)+2+1 by omega,bW htl];clear acL hEv hall hH;refine gI ?_;refine W.pK aK ?_;refine WA.dt [false,false,false,false,true,false,false] [1] [1] 4 aK aK aK ⟨rfl,trivial⟩ ⟨rfl,trivial⟩ ?_;refine lQ ?_;refine akV ?_;refine mM ?_;exact Ib
 rw [if_neg (λq=>q htl)];rw [if_pos htl] at Zo;rw [jw];clear acL hEv hall;cases hb:pG s (F2.map (aT s cs)) with
 | some i =>
  have hil:i < F2.length:=by
   have h9:=hb;unfold pG at h9;have:=List.mem_range.1 (abw h9);rw [bK] at this;exact this
  rw [hb] at hH;dsimp only at hH ⊢;have hc:jr jJ 0 Tryz.prog _ _ _ _ _ _ _:=hH.ok_ rfl;unfold rdR fC;dsimp only;clear hH hb hRl;obtain ⟨R,hR⟩:∃ z,(((F2.map (aT s cs)).map EN).map fH)=z:=⟨_,rfl⟩;rw [hR] at hc ⊢;refine gI ?_;refine WL.qQ (dD _) [4] rfl rfl (aj Tryz.func47 rfl rfl) hc rfl rfl rfl ⟨⟨rfl,rfl,rfl⟩,trivial⟩ rfl rfl rfl rfl ?_;refine akP ?_;exact Ib| none =>
  rw [hb] at hH;dsimp only at hH ⊢;have hc:jr jJ 0 Tryz.prog _ _ _ _ _ _ _:=hH.ok_ rfl;unfold rdR;dsimp only;rw [hCR,hSR];clear hH hb hRl;obtain ⟨R,hR⟩:∃ z,(((F2.map (aT s cs)).map EN).map fH)=z:=⟨_,rfl⟩;rw [hR] at hc ⊢;obtain ⟨FE,hFE⟩:∃ z,oM s (F2.map (aT s cs))=z:=⟨_,rfl⟩;rw [hFE] at hc ⊢;refine gI ?_;refine WL.qQ (dD _) [4] rfl rfl (aj Tryz.func47 rfl rfl) hc rfl rfl rfl ⟨⟨rfl,rfl,rfl⟩,trivial⟩ rfl rfl rfl rfl ?_;refine gI ?_;refine W.tr (Tr.acJ 4 1 rfl (ug _) (Gl _)) ?_;refine W.tr (Tr.freeze 4 rfl) ?_;refine W.pK aK ?_;refine WA.dt [false,false,false,true,false,false] [3] [3] 3 aK aK aK ⟨rfl,trivial⟩ ⟨rfl,trivial⟩ ?_;refine jl ?_;refine aV.xq rfl rfl rfl rfl rfl rfl rfl rfl rfl rfl rfl rfl rfl rfl ⟨rfl,trivial⟩ (λh=>by cases h) ?_;refine lQ ?_;refine aV.nil ?_;refine gI ?_;exact gZ
end Go.Proofs.YthohlofpphjofaaGreatDoor
