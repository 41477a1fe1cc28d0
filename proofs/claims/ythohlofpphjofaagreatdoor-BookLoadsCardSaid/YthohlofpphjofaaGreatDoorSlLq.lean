/- Notes of the staff, their names, the text of an instrument: the program. -/
import Derived.Test.YthohlofpphjofaaGreatDoorK2Lq
import Derived.Test.YthohlofpphjofaaGreatDoorCkBLq
set_option maxHeartbeats 4000000
set_option maxRecDepth 100000
set_option linter.unusedVariables false
set_option linter.unusedSimpArgs false
namespace Go.Proofs.YthohlofpphjofaaGreatDoor
open Go.RowKit
theorem am1 {p:Prop}(h:p:=by
 refine qK ?_;refine ⟨j+1,⟨by omega,hnext hN⟩,by omega,?_⟩;rw [← hal2];exact ano):p:=h
theorem Xy (l al o:Int):jB Fz Tryz.prog 173 [.ag [.sc (.int .i64 l),.sc (.int .i64 al),.sc (.int .i64 o)]] (.tu [.sc (.int .i64 (aa3 l al o)),.sc (.int .i64 (aj1 l al o))]):=by
 refine jB.intro rO Tryz.func173 rfl Tryz.ntmps173 (bG rfl) (dW rfl) λw0 F0 hB=>?_;dsimp only [St.init,number,Nat.reduceAdd];have hc:(l < 0\/(¬ l < 0/\7<=l)\/(¬ l < 0/\¬ 7<=l/\al < -1)\/(¬ l < 0/\¬ 7<=l/\¬ al < -1/\1 < al)\/(¬ l < 0/\¬ 7<=l/\¬ al < -1/\¬ 1 < al/\o < -1)\/(¬ l < 0/\¬ 7<=l/\¬ al < -1/\¬ 1 < al/\¬ o < -1/\9 < o))\/wo l al o:=by unfold wo;omega
 rcases hc with hc|hc;.exact asO
 .obtain ⟨⟨h1,h2⟩,⟨h3,h4⟩,h5,h6⟩:=id hc;have hbd:=Ee ⟨h1,h2⟩;have htab:=QK ⟨h1,h2⟩;exact amG
theorem ai8 (p key:Int):jB Fz Tryz.prog 106 [.sc (.int .i64 p),.sc (.int .i64 key)] (.tu [eSp (Uc p key),.sc (.int .i64 (JX p key))]):=by
 refine jB.intro rO Tryz.func106 rfl Tryz.ntmps106 (bG rfl) (dW rfl) λw0 F0 hB=>?_;dsimp only [St.init,number,Nat.reduceAdd];by_cases hp:0<=p/\p<=127;rotate_left
 .rw [(X6 hp).1,(X6 hp).2];have hp2:p < 0\/(¬ p < 0/\127 < p):=by omega
  rcases hp2 with h|h;all_goals
   refine qK ?_;exact W.ret (aeF rfl rfl rfl rfl)
 by_cases hk:-4<=key/\key<=4;rotate_left
 .rw [(aj7 hp hk).1,(aj7 hp hk).2];have hk2:key < -4\/(¬ key < -4/\4 < key):=by omega
  rcases hk2 with h|h;all_goals
   refine qK ?_;exact W.ret (aeF rfl rfl rfl rfl)
 refine qK ?_;refine W.loop (λk:Nat=>k<=7/\∀ m,m < 3*k->spN p key m=false) (λk=>⟨[(0,.sc (.int .i64 p)),(1,.sc (.int .i64 key)),(4,.pt 0 0 0),(27,.sc (.int .i64 k))],[(0,.box 182 [.sc (.int .i64 0),.sc (.int .i64 0),.sc (.int .i64 0)])],1⟩) (λk=>7 - k) 0 ⟨by omega,by omega⟩ (zqt id) λk hk0=>?_;obtain ⟨hk7,hno⟩:=hk0;by_cases hlt:k < 7;rotate_left
 .have hn:spP p key=none:=by unfold spP;rw [aos λm hm=>hno m (by omega)];rfl
  rw [(adE hp hk hn).1,(adE hp hk hn).2];refine qK ?_;exact gZ
 refine qK ?_;refine W.loop (λj:Nat=>j<=3/\∀ m,m < 3*k+j->spN p key m=false) (λj=>⟨[(0,.sc (.int .i64 p)),(1,.sc (.int .i64 key)),(4,.pt 0 0 0),(6,.sc (.int .i64 k)),(7,.sc (.int .i64 ((j:Int) - 1))),(27,.sc (.int .i64 k))],[(0,.box 182 [.sc (.int .i64 0),.sc (.int .i64 0),.sc (.int .i64 0)])],1⟩) (λj=>3 - j) 0 ⟨by omega,by simpa using hno⟩ (zqt id) λj hj0=>?_;obtain ⟨hj3,VT⟩:=hj0;by_cases hj:j < 3;rotate_left
 .refine qK ?_;refine ⟨k+1,⟨by omega,λm hm=>VT m au⟩,by omega,?_⟩;exact (zqt id)
 have hl:0<=(k:Int)/\(k:Int)<=6:=by omega
 have htf:=abe hl;have htb:=QK hl;have hfb:=atv hl;have hbb:=Ee hl;have e3:(3*k+j)/3=k:=by omega
 have e4:(3*k+j) % 3=j:=by omega
 have hN:spN p key (3*k+j)=(decide (key - 3<=ftV k+7*((j:Int) - 1)/\ftV k+7*((j:Int) - 1)<=key+8) && (jQ k ((j:Int) - 1) ((p - ((j:Int) - 1) - sU k+12)/12 - 2) && decide (BR k ((j:Int) - 1) ((p - ((j:Int) - 1) - sU k+12)/12 - 2)=p))):=by unfold spN spC aq3 spO;rw [e3,e4]
 have hfound:spN p key (3*k+j)=true->spP p key=some ((k:Int),(j:Int) - 1,(p - ((j:Int) - 1) - sU k+12)/12 - 2):=λh=>by
  unfold spP;rw [aor VT h (by omega)];unfold spO;simp only [oG,e3,e4]
 have hnext:spN p key (3*k+j)=false->∀ m,m < 3*k+(j+1)->spN p key m=false:=λh m hm=>by
  by_cases e:m=3*k+j;.rw [e];exact h
  .exact VT m au
 have hS:=Xy k ((j:Int) - 1) ((p - ((j:Int) - 1) - sU k+12)/12 - 2);obtain ⟨fv,hfv⟩:∃ z,ftV k=z:=⟨_,rfl⟩;obtain ⟨bv,hbv⟩:∃ z,sU k=z:=⟨_,rfl⟩;rw [hfv] at htf hfb hN;rw [hbv] at htb hbb hN hS hfound;obtain ⟨al,hal⟩:∃ z,(j:Int) - 1=z:=⟨_,rfl⟩;have hal2:al+1=((j+1:Nat):Int) - 1:=by omega
 rw [hal] at hN hS hfound ⊢;by_cases hw:key - 3<=fv+7*al/\fv+7*al<=key+8;rotate_left
 .rw [bW hw,Bool.false_and] at hN;have hw2:fv+7*al < key - 3\/(¬ fv+7*al < key - 3/\key+8 < fv+7*al):=by omega
  rcases hw2 with h|h;all_goals
   refine qK ?_;refine WL.glob hB rfl rfl ⟨by omega,by omega⟩ htf rfl ?_;refine qK ?_;refine ⟨j+1,⟨by omega,hnext hN⟩,by omega,?_⟩;rw [← hal2];exact (zqt id)
 rw [bQ hw,UC] at hN;refine qK ?_;refine WL.glob hB rfl rfl ⟨by omega,by omega⟩ htf rfl ?_;refine qK ?_;refine WL.glob hB rfl rfl ⟨by omega,by omega⟩ htb rfl ?_;refine qK ?_;refine WL.vl rfl (WV.dZ hB rfl (aj Tryz.func173 rfl rfl) rfl rfl hS) ?_;obtain ⟨oc,hoc⟩:∃ z,(p - al - bv+12)/12 - 2=z:=⟨_,rfl⟩;rw [hoc] at hN hfound ⊢;cases hok:jQ k al oc with
 | false =>
  rw [hok,Bool.false_and] at hN;rw [(wV hok).1,(wV hok).2];exact am1| true =>
  rw [hok,UC] at hN;rw [(rZ hok).1,(rZ hok).2];by_cases hv:BR k al oc=p
  .rw [bQ hv] at hN;have hr:=aqa hp hk (hfound hN);rw [hr.1,hr.2];refine qK ?_;exact gZ
  .rw [bW hv] at hN;exact am1
end Go.Proofs.YthohlofpphjofaaGreatDoor
