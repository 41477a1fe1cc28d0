/- Check of an instrument, program and reference, over trees. -/
import Derived.Test.YthohlofpphjofaaGreatDoorRi0Lq
set_option maxHeartbeats 8000000
set_option maxRecDepth 100000
set_option linter.unusedVariables false
set_option linter.unusedSimpArgs false
namespace Go.Proofs.YthohlofpphjofaaGreatDoor
open Go.RowKit
theorem yg {p:Prop}(h:p:=by unfold I64;omega):p:=h
theorem mJ {p:Prop}(h:p:=by repeat (first|exact trivial|refine ⟨⟨?_,?_,?_⟩,?_⟩|rfl|exact congrArg (λq=>some (AO.row _ _ q)) (by first|rfl|(simp;done)|(simp [eInt];done)|(simp [Bg];done)))):p:=h
section
variable {p:Prop}
theorem amG(h:p:=by
 have hin:=X5 hc;have hv:BR l al o=12*(o+1)+sU l+al:=rfl;have hR:jQ l al o=true->aa3 l al o=12*(o+1)+sU l+al:=λh=>(rZ h).1;obtain ⟨b,hb⟩:∃ b,sU l=b:=⟨_,rfl⟩;rw [hb] at hbd htab hv hR;refine ayu ?_;by_cases hr:0<=12*(o+1)+b+al/\12*(o+1)+b+al<=127
 .have hok:jQ l al o=true:=by rw [hin,hv];simpa using hr
  rw [hR hok,(rZ hok).2];refine zk ?_;exact kT
 .exact ayw):p:=h
theorem asO(h:p:=by
 have hno:=QH (l:=l) (al:=al) (o:=o) (by unfold wo;omega);rw [(wV hno).1,(wV hno).2];rcases hc with h|h|h|h|h|h;all_goals
  refine zk ?_;exact W.ret (fin2 rfl rfl rfl rfl rfl rfl rfl)):p:=h
theorem ayw(h:p:=by
 have hok:jQ l al o=false:=by rw [hin,hv];simpa using hr
 rw [(wV hok).1,(wV hok).2];have hr2:(12*(o+1)+b+al < 0)\/(¬ 12*(o+1)+b+al < 0/\127 < 12*(o+1)+b+al):=by omega
 rcases hr2 with h|h;all_goals
  refine zk ?_;exact W.ret (fin2 rfl rfl rfl rfl rfl rfl rfl)):p:=h
theorem asi(h:p:=by
 clear hst;refine dV Tryz.func171 Tryz.ntmps171 λw0 F0=>?_;dsimp only [St.init,number,Nat.reduceAdd];repeat' (first|refine fU ?_|(first|refine WL.aP rfl rfl rfl rfl (λhif=>?_) (λhif=>?_)|refine W.cond rfl (λhif=>?_) (λhif=>?_))<;>(try simp only [fV] at hif)<;>(first|(exfalso;omega)|skip)|refine DK.cs rfl rfl (λ_=>?_) (λ_=>?_))
 all_goals exact W.ret (fin1 rfl rfl (Ak (by split<;>simp_all)) rfl)):p:=h
theorem ar6(h:p:=by
 rw [Ya hlt] at hE;by_cases hb:st[z.1]<=z.2\/127 < st[z.1]
 .rw [ZH hm (by rw [hE,bQ hb];rfl)];repeat' (first|refine fU ?_|(first|refine WL.aP rfl rfl rfl rfl (λhif=>?_) (λhif=>?_)|refine W.cond rfl (λhif=>?_) (λhif=>?_))<;>(try simp only [fV] at hif)<;>(first|(exfalso;omega)|skip)|refine DK.cs rfl rfl (λ_=>?_) (λ_=>?_))
  all_goals exact W.ret kR
 .rw [bW hb] at hE;repeat' (first|refine fU ?_|(first|refine WL.aP rfl rfl rfl rfl (λhif=>?_) (λhif=>?_)|refine W.cond rfl (λhif=>?_) (λhif=>?_))<;>(try simp only [fV] at hif)<;>(first|(exfalso;omega)|skip)|refine DK.cs rfl rfl (λ_=>?_) (λ_=>?_))
  exact ⟨(z.1+1,st[z.1]),⟨by show z.1+1<=_;omega,hE⟩,by show st.length - (z.1+1) < _;omega,(zqt id)⟩):p:=h
theorem ad8(h:p:=by
 rw [hE,AL (by omega)];repeat' (first|refine fU ?_|(first|refine WL.aP rfl rfl rfl rfl (λhif=>?_) (λhif=>?_)|refine W.cond rfl (λhif=>?_) (λhif=>?_))<;>(try simp only [fV] at hif)<;>(first|(exfalso;omega)|skip)|refine DK.cs rfl rfl (λ_=>?_) (λ_=>?_))
 exact W.ret kR):p:=h
theorem ano(h:p:=by exact (ku (λq=>q) mJ rfl)):p:=h
theorem gZ(h:p:=by exact W.ret (aeF rfl rfl rfl rfl)):p:=h
end
structure iF(q:Prop):Type where k:q
theorem ayu {p q:Prop}(k:q)(h:iF q->p:=by
 intro hq;refine zk ?_;refine iY ?_;refine ad2 ?_;refine DK.glob hB rfl rfl ⟨h1,by omega⟩ htab rfl ?_;refine ad2 ?_;exact hq.k):p:=h ⟨k⟩
theorem ad2 {p q:Prop}(k:q)(h:iF q->p:=by
 intro hq;repeat (first|refine DK.st rfl ?_|refine DK.ar rfl rfl yg ?_|refine DK.nil ?_)
 exact hq.k):p:=h ⟨k⟩
theorem iY {p q:Prop}(k:q)(h:iF q->p:=by
 intro hq;refine W.Vz aK aK ?_;exact hq.k):p:=h ⟨k⟩
theorem fU {p q:Prop} (k:q) (h:iF q->p:=by (intro hq;first|(refine WL.vl rfl (WV.IC rfl rfl) ?_;exact hq.k)|((refine W.go rfl ?_;first|refine (?_:WL _ _ _ _ _ _)|refine (?_:W _ _ _ _ _)|skip);exact hq.k)|(refine WL.nil ?_;exact hq.k)|(refine WL.ev rfl ?_;exact hq.k)|(refine WL.VP rfl rfl rfl rfl ?_;exact hq.k)|(refine WL.auG rfl rfl rfl rfl rfl rfl rfl ?_;exact hq.k)|(refine WL.ar rfl rfl vI ?_;exact hq.k)|(refine WL.div rfl rfl (by omega) ?_;exact hq.k)|(refine WL.neg rfl rfl vI ?_;exact hq.k)|(refine WL.len rfl rfl zql ?_;exact hq.k)|(refine WL.idx rfl rfl (by omega) zqm ?_;exact hq.k)|(refine WL.ixs rfl rfl wY ?_;exact hq.k)|(refine WL.app rfl rfl rfl wY ?_;exact hq.k)|(refine WL.cat rfl rfl wY ?_;exact hq.k)|(refine W.yY rfl ?_;exact hq.k)|(refine W.uz rfl ?_;exact hq.k)|(refine W.Vz (by kernel_rfl) (by kernel_rfl) ?_;exact hq.k)|(refine DK.vl rfl (WV.IC rfl rfl) ?_;exact hq.k)|(refine DK.bt rfl rfl (by omega) ?_;exact hq.k)|(refine DK.bf rfl rfl (by omega) ?_;exact hq.k)|(refine DK.tt rfl Ia ?_;exact hq.k)|(refine DK.ff rfl Ia ?_;exact hq.k)|(refine DK.st rfl ?_;exact hq.k)|(refine DK.ar rfl rfl vI ?_;exact hq.k)|(refine DK.len rfl rfl zql ?_;exact hq.k)|(refine DK.idx rfl rfl (by omega) zqm ?_;exact hq.k)|(refine DK.ixs rfl rfl wY ?_;exact hq.k)|(refine DK.cat rfl rfl wY ?_;exact hq.k)|(refine DK.nil ?_;exact hq.k))):p:=h ⟨k⟩
theorem fV {p:Prop} [Decidable p]:(((decide p)=true)=p)/\(((decide p)=false)=¬ p)/\(((!decide p)=true)=¬ p)/\(((!decide p)=false)=p):=by simp
theorem PU {cs:List (Int×Int×Bool)} {st:List Int} (h:14<cs.length\/18<st.length):jW cs st=2:=if_pos h
theorem PV {cs:List (Int×Int×Bool)} {st:List Int} (h:¬ (14<cs.length\/18<st.length))(h1:cs.length=0):jW cs st=11:=by unfold jW;rw [if_neg h,if_pos h1]
theorem ZH {cs:List (Int×Int×Bool)} {st:List Int} (h:¬ (14<cs.length\/18<st.length))(h1:iI 0 st=true):jW cs st=11:=by unfold jW;rw [if_neg h,h1];simp
theorem V5 {cs:List (Int×Int×Bool)} {st:List Int} (h:¬ (14<cs.length\/18<st.length))(h1:¬ cs.length=0)(h2:iI 0 st=false):jW cs st=Eh st cs:=by unfold jW;rw [if_neg h,if_neg h1,h2];simp
theorem Yj {st:List Int} {x:Int×Int×Bool} (h0:0<x.2.1)(h:x.2.1<=st.length):Au st x=(x.1+st[(x.2.1-1).toNat]'(by omega))+if x.2.2 then 12 else 0:=by
 unfold Au;rw [if_pos h0,dL,aO (by omega:x.2.1.toNat-1<st.length),QZ];congr 3;omega
theorem Yi {st:List Int} {x:Int×Int×Bool} (h0:¬ 0<x.2.1):Au st x=x.1+if x.2.2 then 12 else 0:=by
 unfold Au;rw [if_neg h0,Int.add_zero]
theorem Zw (cs:List (Int×Int×Bool)) (st:List Int) (x:Int×Int×Bool) (hp:0<=x.1/\x.1<=127) (hf:x.2.1<=st.length) (hl:st.length<=18) (hst:∀ k (h:k < st.length),1<=st[k]/\st[k]<=127):bC Tryz.prog 171 [.ag (jc cs st),.ag (bg x)] (.sc (.int .i64 (Au st x))):=by
 by_cases h0:0 < x.2.1
 .have hb:=hst (x.2.1 - 1).toNat au;rw [Yj h0 hf];exact asi
 .rw [Yi h0];exact asi
theorem yJ (cs:List (Int×Int×Bool)) (st:List Int):bC Tryz.prog 103 [.ag (jc cs st)] (.sc (.int .i64 (jW cs st))):=by
 by_cases hm:14 < cs.length\/18 < st.length
 .rw [PU hm];refine dV Tryz.func103 Tryz.ntmps103 λw0 F0=>?_;dsimp only [St.init,number,Nat.reduceAdd];repeat' (first|refine fU ?_|(first|refine WL.aP rfl rfl rfl rfl (λhif=>?_) (λhif=>?_)|refine W.cond rfl (λhif=>?_) (λhif=>?_))<;>(try simp only [fV] at hif)<;>(first|(exfalso;omega)|skip)|refine DK.cs rfl rfl (λ_=>?_) (λ_=>?_))
  all_goals exact W.ret kR
 by_cases hz:cs.length=0
 .rw [PV hm hz];refine dV Tryz.func103 Tryz.ntmps103 λw0 F0=>?_;dsimp only [St.init,number,Nat.reduceAdd];repeat' (first|refine fU ?_|(first|refine WL.aP rfl rfl rfl rfl (λhif=>?_) (λhif=>?_)|refine W.cond rfl (λhif=>?_) (λhif=>?_))<;>(try simp only [fV] at hif)<;>(first|(exfalso;omega)|skip)|refine DK.cs rfl rfl (λ_=>?_) (λ_=>?_))
  exact W.ret kR
 refine dV Tryz.func103 Tryz.ntmps103 λw0 F0=>?_;dsimp only [St.init,number,Nat.reduceAdd];repeat' (first|refine fU ?_|(first|refine WL.aP rfl rfl rfl rfl (λhif=>?_) (λhif=>?_)|refine W.cond rfl (λhif=>?_) (λhif=>?_))<;>(try simp only [fV] at hif)<;>(first|(exfalso;omega)|skip)|refine DK.cs rfl rfl (λ_=>?_) (λ_=>?_))
 refine W.loop (λz:Nat×Int=>z.1<=st.length/\iI 0 st=iI z.2 (st.drop z.1)) (λz=>⟨[(1,.pt 0 0 0),(3,.sc (.int .i64 z.2)),(23,.ls 1 (st.map eInt)),(24,.sc (.int .i64 st.length)),(25,.sc (.int .i64 z.1))],[(0,.box 27 (jc cs st))],1⟩) (λz=>st.length - z.1) (0,0) ⟨by omega,rfl⟩ (zqt id) λz hE=>?_;obtain ⟨hk,hE⟩:=hE;by_cases hlt:z.1 < st.length;.exact ar6
 have hF:iI 0 st=false:=by rw [hE,AL (by omega)];rfl
 have hst:=wu (wz 0) hF;rw [V5 hm hz hF];clear hE hF;repeat' (first|refine fU ?_|(first|refine WL.aP rfl rfl rfl rfl (λhif=>?_) (λhif=>?_)|refine W.cond rfl (λhif=>?_) (λhif=>?_))<;>(try simp only [fV] at hif)<;>(first|(exfalso;omega)|skip)|refine DK.cs rfl rfl (λ_=>?_) (λ_=>?_))
 refine W.loop (λk:Nat=>k<=cs.length/\Eh st cs=Eh st (cs.drop k)) (λk=>⟨[(1,.pt 0 0 0),(39,.ls 3 (cs.map bg)),(40,.sc (.int .i64 cs.length)),(41,.sc (.int .i64 k))],[(0,.box 27 (jc cs st))],1⟩) (λk=>cs.length - k) 0 ⟨by omega,rfl⟩ (zqt id) λk hE=>?_;obtain ⟨hk,hE⟩:=hE;by_cases hlt:k < cs.length;rotate_left;.exact ad8
 rw [acy hlt] at hE;have HE:=Lib.hid hE;clear hE;have hH:=λ(h1:0<=cs[k].1/\cs[k].1<=127) (h2:0<=cs[k].2.1/\cs[k].2.1<=st.length)=>Zw cs st cs[k] h1 h2.2 au hst;generalize Au st cs[k]=T at *;repeat' (first|refine WL.vl rfl (WV.call rfl (aj Tryz.func171 rfl rfl) rfl rfl (hH (by omega) (by omega))) ?_|refine DK.vl rfl (WV.call rfl (aj Tryz.func171 rfl rfl) rfl rfl (hH (by omega) (by omega))) ?_|refine fU ?_|(first|refine WL.aP rfl rfl rfl rfl (λhif=>?_) (λhif=>?_)|refine W.cond rfl (λhif=>?_) (λhif=>?_))<;>(try simp only [fV] at hif)<;>(first|(exfalso;omega)|skip)|refine DK.cs rfl rfl (λ_=>?_) (λ_=>?_))
 all_goals first
  |exact W.ret (fin1 rfl rfl (Ak (by have:=HE.out;grind)) rfl)|exact ⟨k+1,⟨by omega,by have:=HE.out;grind⟩,by omega,(zqt id)⟩
theorem TN (cs:List (Int×Int×Bool)) (st:List Int):bC Tryz.prog 56 [.ag (jc cs st)] (.sc (.int .i64 (jW cs st))):=by
 by_cases hm:14 < cs.length\/18 < st.length
 .rw [PU hm];refine dV Tryz.func56 Tryz.ntmps56 λw0 F0=>?_;dsimp only [St.init,number,Nat.reduceAdd];repeat' (first|refine fU ?_|(first|refine WL.aP rfl rfl rfl rfl (λhif=>?_) (λhif=>?_)|refine W.cond rfl (λhif=>?_) (λhif=>?_))<;>(try simp only [fV] at hif)<;>(first|(exfalso;omega)|skip)|refine DK.cs rfl rfl (λ_=>?_) (λ_=>?_))
  all_goals exact W.ret kR
 by_cases hz:cs.length=0
 .rw [PV hm hz];refine dV Tryz.func56 Tryz.ntmps56 λw0 F0=>?_;dsimp only [St.init,number,Nat.reduceAdd];repeat' (first|refine fU ?_|(first|refine WL.aP rfl rfl rfl rfl (λhif=>?_) (λhif=>?_)|refine W.cond rfl (λhif=>?_) (λhif=>?_))<;>(try simp only [fV] at hif)<;>(first|(exfalso;omega)|skip)|refine DK.cs rfl rfl (λ_=>?_) (λ_=>?_))
  exact W.ret kR
 refine dV Tryz.func56 Tryz.ntmps56 λw0 F0=>?_;dsimp only [St.init,number,Nat.reduceAdd];repeat' (first|refine fU ?_|(first|refine WL.aP rfl rfl rfl rfl (λhif=>?_) (λhif=>?_)|refine W.cond rfl (λhif=>?_) (λhif=>?_))<;>(try simp only [fV] at hif)<;>(first|(exfalso;omega)|skip)|refine DK.cs rfl rfl (λ_=>?_) (λ_=>?_))
 refine W.loop (λz:Nat×Int=>z.1<=st.length/\iI 0 st=iI z.2 (st.drop z.1)) (λz=>⟨[(1,.pt 0 0 0),(3,.sc (.int .i64 z.2)),(4,.sc (.int .i64 z.1))],[(0,.box 27 (jc cs st))],1⟩) (λz=>st.length - z.1) (0,0) ⟨by omega,rfl⟩ (zqt id) λz hE=>?_;obtain ⟨hk,hE⟩:=hE;by_cases hlt:z.1 < st.length;.exact ar6
 have hF:iI 0 st=false:=by rw [hE,AL (by omega)];rfl
 have hst:=wu (wz 0) hF;rw [V5 hm hz hF];clear hE hF;repeat' (first|refine fU ?_|(first|refine WL.aP rfl rfl rfl rfl (λhif=>?_) (λhif=>?_)|refine W.cond rfl (λhif=>?_) (λhif=>?_))<;>(try simp only [fV] at hif)<;>(first|(exfalso;omega)|skip)|refine DK.cs rfl rfl (λ_=>?_) (λ_=>?_))
 refine W.loop (λk:Nat=>k<=cs.length/\Eh st cs=Eh st (cs.drop k)) (λk=>⟨[(1,.pt 0 0 0),(5,.sc (.int .i64 k))],[(0,.box 27 (jc cs st))],1⟩) (λk=>cs.length - k) 0 ⟨by omega,rfl⟩ (zqt id) λk hE=>?_;obtain ⟨hk,hE⟩:=hE;by_cases hlt:k < cs.length;rotate_left;.exact ad8
 rw [acy hlt] at hE;have hx:(0 < cs[k].2.1/\∀ h:0 < cs[k].2.1/\cs[k].2.1<=st.length,Au st cs[k]=(cs[k].1+st[(cs[k].2.1 - 1).toNat]' au)+(if cs[k].2.2 then 12 else 0)/\1<=st[(cs[k].2.1 - 1).toNat]' au/\st[(cs[k].2.1 - 1).toNat]' au<=127)\/(¬ 0 < cs[k].2.1/\Au st cs[k]=cs[k].1+if cs[k].2.2 then 12 else 0):=by
  by_cases h0:0 < cs[k].2.1;.exact .inl ⟨h0,λh=>⟨Yj h0 h.2,hst _ au⟩⟩
  .exact .inr ⟨h0,Yi h0⟩
 have HE:=Lib.hid hE;clear hE;by_cases c1:cs[k].2.1 < 0\/(st.length:Int) < cs[k].2.1
 .clear hx;repeat' (first|refine fU ?_|(first|refine WL.aP rfl rfl rfl rfl (λhif=>?_) (λhif=>?_)|refine W.cond rfl (λhif=>?_) (λhif=>?_))<;>(try simp only [fV] at hif)<;>(first|(exfalso;omega)|skip)|refine DK.cs rfl rfl (λ_=>?_) (λ_=>?_))
  all_goals exact W.ret (fin1 rfl rfl (Ak (by have:=HE.out;grind)) rfl)
 rcases hx with ⟨h0,hx⟩|⟨h0,hx⟩
 .obtain ⟨hx,hb⟩:=hx au;have HX:=Lib.hid hx;clear hx hst;repeat' (first|refine fU ?_|(first|refine WL.aP rfl rfl rfl rfl (λhif=>?_) (λhif=>?_)|refine W.cond rfl (λhif=>?_) (λhif=>?_))<;>(try simp only [fV] at hif)<;>(first|(exfalso;omega)|skip)|refine DK.cs rfl rfl (λ_=>?_) (λ_=>?_))
  all_goals first
   |exact W.ret (fin1 rfl rfl (Ak (by have:=HE.out;have:=HX.out;generalize st[(cs[k].2.1 - 1).toNat]' au=y at *;grind)) rfl)|exact ⟨k+1,⟨by omega,by have:=HE.out;have:=HX.out;generalize st[(cs[k].2.1 - 1).toNat]' au=y at *;grind⟩,by omega,(zqt id)⟩
 .have HX:=Lib.hid hx;clear hx;repeat' (first|refine fU ?_|(first|refine WL.aP rfl rfl rfl rfl (λhif=>?_) (λhif=>?_)|refine W.cond rfl (λhif=>?_) (λhif=>?_))<;>(try simp only [fV] at hif)<;>(first|(exfalso;omega)|skip)|refine DK.cs rfl rfl (λ_=>?_) (λ_=>?_))
  all_goals first
   |exact W.ret (fin1 rfl rfl (Ak (by have:=HE.out;have:=HX.out;grind)) rfl)|exact ⟨k+1,⟨by omega,by have:=HE.out;have:=HX.out;grind⟩,by omega,(zqt id)⟩
end Go.Proofs.YthohlofpphjofaaGreatDoor
