/- The names of the systems: program and reference; the walk of NotationNames. -/
import Derived.Test.YthohlofpphjofaaGreatDoorLApartGq
import Derived.Test.YthohlofpphjofaaGreatDoorFAGq
set_option maxHeartbeats 4000000
set_option maxRecDepth 100000
set_option linter.unusedVariables false
set_option linter.unusedSimpArgs false
namespace Go.Proofs.YthohlofpphjofaaGreatDoor
section
variable {p:Prop}
theorem FP(h:p:=by
 go_enter Tryz.func90,Tryz.ntmps90
 go_wp2
 go_rounds 5
 exact pG):p:=h
theorem aei(h:p:=by
 show w.heap.size≤(w.heap++os).size
 rw [Array.size_append];omega):p:=h
theorem UN(h:p:=by
 exact⟨this,by unfold oH;rw [this];rfl⟩):p:=h
theorem ad5(h:p:=by
 rw [gq h,gK,Ui];simp):p:=h
theorem adY(h:p:=by
 rw [dB,dI,aB this];rfl):p:=h
theorem afq(h:p:=by
 clear h
 go_enter Tryz.func172,Tryz.ntmps172
 go_wp2
 go_ret
 exact Ret.mk' rfl jD):p:=h
theorem aiW(h:p:=by
 have:vs=xs:=scs_of (G:=⟨F,fun _=>0,fun _=>0,fun _=>undef,fun _ _=>False⟩) hs hR.1 fun i av u a b=>.pu _ _ (hR.2 i av u a b)
 subst this
 exact (h w F hB).mono fun e w'⟨he,hb⟩=>⟨v,F,he,hb,fun _ _ h=>h,fun p u x=>by rw [hb.cell (cell_block (hF p u x))];exact hF p u x,fun _ _ h=>.inl h,hv F⟩):p:=h
theorem Jv(h:p:=by
 simp only [bJ,bW,iC];omega):p:=h
end
section
open Go.RowKit
def bsL:List Int:=[0,2,4,5,7,9,11]
def ftL:List Int:=[0,2,4,-1,1,3,5]
def pI(l:Int):Int:=bsL.getD l.toNat 0
def ZP(l:Int):Int:=ftL.getD l.toNat 0
def tC(l al o:Int):Int:=12*(o+1)+pI l+al
def qH(l al o:Int):Prop:=(0≤l∧l≤6)∧(-1≤al∧al≤1)∧-1≤o∧o≤9
instance (l al o:Int):Decidable (qH l al o):=by unfold qH;exact inferInstance
def gX (l al o:Int):Bool:=decide (qH l al o) && decide (0≤tC l al o∧tC l al o≤127)
def Zm(l al o:Int):Int:=if gX l al o=true then tC l al o else 0
def acC(l al o:Int):Int:=if gX l al o=true then 0 else 10
theorem mW {l al o:Int} (h:gX l al o=true):Zm l al o=tC l al o∧acC l al o=0:=⟨if_pos h,if_pos h⟩
theorem pY {l al o:Int} (h:gX l al o=false):Zm l al o=0∧acC l al o=10:=⟨if_neg Ba,if_neg Ba⟩
theorem Zl {l al o:Int} (h:¬ qH l al o):gX l al o=false:=by unfold gX;rw [dW h];rfl
theorem PU {l al o:Int} (h:qH l al o):gX l al o=decide (0≤tC l al o∧tC l al o≤127):=by unfold gX;rw [fQ h];rfl
theorem uy {l al o:Int} (h:gX l al o=true):qH l al o∧0≤tC l al o∧tC l al o≤127:=by
 unfold gX at h
 simpa using h
theorem ajr:((List.range 7).all fun k=>decide (0≤pI k∧pI k≤11))=true:=by decide
theorem JB {l:Int} (h:0≤l∧l≤6):0≤pI l∧pI l≤11:=by
 obtain⟨k,rfl⟩:=dP h.1
 have:=List.all_eq_true.1 ajr k (List.mem_range.2 aj)
 exact jy
theorem ajG:((List.range 7).all fun k=>decide (-1≤ZP k∧ZP k≤5))=true:=by decide
theorem ajF {l:Int} (h:0≤l∧l≤6):-1≤ZP l∧ZP l≤5:=by
 obtain⟨k,rfl⟩:=dP h.1
 have:=List.all_eq_true.1 ajG k (List.mem_range.2 aj)
 exact jy
theorem U5 {l:Int} (h:0≤l∧l≤6):bsL[l.toNat]?=some (pI l):=by
 obtain⟨k,rfl⟩:=dP h.1
 have:k<bsL.length:=by simp [bsL];omega
 unfold pI
 exact adY
theorem ajE {l:Int} (h:0≤l∧l≤6):ftL[l.toNat]?=some (ZP l):=by
 obtain⟨k,rfl⟩:=dP h.1
 have:k<ftL.length:=by simp [ftL];omega
 unfold ZP
 exact adY
def ah3 (key l al:Int):Bool:=decide (key-3≤ZP l+7*al∧ZP l+7*al≤key+8)
def spC (p key l al o:Int):Bool:=ah3 key l al && (gX l al o && decide (tC l al o=p))
def spO(p l al:Int):Int:=(p-al-pI l+12)/12-2
def spN (p key:Int) (n:Nat):Bool:=spC p key ((n/3:Nat):Int) (((n % 3:Nat):Int)-1) (spO p ((n/3:Nat):Int) (((n % 3:Nat):Int)-1))
def Wp (p key:Int):Option (Int×Int×Int):=((List.range 21).find? (spN p key)).map fun n=>(((n/3:Nat):Int),((n % 3:Nat):Int)-1,spO p ((n/3:Nat):Int) (((n % 3:Nat):Int)-1))
theorem af8 {N n:Nat} {f:Nat→Bool} (h:∀ m,m<n→f m=false)(hn:f n=true)(hN:n<N):(List.range N).find? f=some n:=by
 rw [List.find?_range_eq_some]
 exact⟨hn,List.mem_range.2 hN,fun m hm=>by simp [h m hm]⟩
theorem af9 {N:Nat} {f:Nat→Bool} (h:∀ m,m<N→f m=false):(List.range N).find? f=none:=by
 rw [EL]
 intro m hm
 simp [h m (List.mem_range.1 hm)]
theorem TD {p key:Int} {r:Int×Int×Int} (h:Wp p key=some r):gX r.1 r.2.1 r.2.2=true∧tC r.1 r.2.1 r.2.2=p:=by
 unfold Wp at h
 obtain⟨n,h1,rfl⟩:=Option.map_eq_some_iff.1 h
 have:=List.find?_some h1
 unfold spN spC at this
 simp only [dw,bD]at this
 exact⟨this.2.1,this.2.2⟩
def BG(p key:Int):Int:=if ¬ (0≤p∧p≤127)then 10 else if ¬ (-4≤key∧key≤4)then 1 else if(Wp p key).isSome=true then 0 else 10
def oH (p key:Int):Int×Int×Int:=if BG p key=0 then (Wp p key).getD (0,0,0)else (0,0,0)
def eSp (r:Int×Int×Int):AV:=.ag [.sc (.int .i64 r.1),.sc (.int .i64 r.2.1),.sc (.int .i64 r.2.2)]
theorem PV {p key:Int} (h:¬ (0≤p∧p≤127)):BG p key=10∧oH p key=(0,0,0):=by
 have:BG p key=10:=if_pos h
 exact UN
theorem acF {p key:Int} (h:0≤p∧p≤127)(h2:¬ (-4≤key∧key≤4)):BG p key=1∧oH p key=(0,0,0):=by
 have:BG p key=1:=by unfold BG;rw [if_neg (fun k=>k h),if_pos h2]
 exact UN
theorem Wq {p key:Int} (h:0≤p∧p≤127)(h2:-4≤key∧key≤4)(h3:Wp p key=none):BG p key=10∧oH p key=(0,0,0):=by
 have:BG p key=10:=by unfold BG;rw [if_neg (fun k=>k h),if_neg (fun k=>k h2),h3];rfl
 exact UN
theorem Ws {p key:Int} {r:Int×Int×Int} (h:0≤p∧p≤127)(h2:-4≤key∧key≤4)(h3:Wp p key=some r):BG p key=0∧oH p key=r:=by
 have:BG p key=0:=by unfold BG;rw [if_neg (fun k=>k h),if_neg (fun k=>k h2),h3];rfl
 exact⟨this,by unfold oH;rw [if_pos this,h3];rfl⟩
theorem PW:((List.range 128).all fun p=>(Wp p 0).isSome)=true:=by decide +kernel
theorem aht {p:Int} (h:0≤p∧p≤127):∃ r,Wp p 0=some r:=by
 obtain⟨n,rfl⟩:=dP h.1
 exact Option.isSome_iff_exists.1 (List.all_eq_true.1 PW n (List.mem_range.2 aj))
def BA:List UInt8:=[67,68,69,70,71,65,66]
def ZV(al:Int):List UInt8:=if al=1 then [35]else if al=-1 then [98]else []
def nmT (l al o:Int):List UInt8:=cut BA l (l+1)++ZV al++Lib.itoa o
def nmA(l al o:Int):List UInt8:=if gX l al o=true then nmT l al o else []
def JK (c:Int×Int×Bool):List UInt8:=nmT (oH c.1 0).1 (oH c.1 0).2.1 (oH c.1 0).2.2++[47]++Lib.itoa c.2.1++(if c.2.2 then [43]else [])++[32]
def oQ (cs:List (Int×Int×Bool)):List UInt8:=(cs.map JK).flatten
def Zy(n:Int):List UInt8:=[32]++Lib.itoa n
def qI(st:List Int):List UInt8:=(st.map Zy).flatten
def Gf (cs:List (Int×Int×Bool))(st:List Int):List UInt8:=oQ cs++[58]++qI st
theorem QM {cs:List (Int×Int×Bool)} {k:Nat} (h:k<cs.length):oQ (cs.take (k+1))=oQ (cs.take k)++JK cs[k]:=by
 unfold oQ
 exact ad5
theorem TL {st:List Int} {k:Nat} (h:k<st.length):qI (st.take (k+1))=qI (st.take k)++Zy st[k]:=by
 unfold qI
 exact ad5
theorem pJ:∀ (k u:Nat),u<10 ^ (k+1)→(Lib.decDigits u).length≤k+1
 | 0,u,h=>by rw [Lib.decDigits,dif_pos uT];simp
 | k+1,u,h=>by
  rw [Lib.decDigits]
  split
  ·simp
  ·have h2:u/10<10 ^ (k+1):=by rw [Nat.div_lt_iff_lt_mul (by omega)];rw [Nat.pow_succ] at h;exact h
   have:=pJ k (u/10) h2
   rw [bJ];simp;omega
theorem jL {n:Int} (h:-9223372036854775808≤n∧n≤9223372036854775807):(Lib.itoa n).length≤20:=by
 unfold Lib.itoa
 split
 ·have:=pJ 18 n.natAbs aj
  simp;omega
 ·have:=pJ 18 n.toNat aj
  omega
theorem itoa_neg (n:Int)(h:n<0):Lib.itoa n=[45]++Lib.itoa (0-n):=by
 unfold Lib.itoa
 rw [if_pos h,if_neg (by omega)]
 rw [show n.natAbs=(0-n).toNat by omega]
 rfl
theorem VJ {l al o:Int} (h:gX l al o=true):(nmT l al o).length≤22:=by
 have h1:=(uy h).1
 unfold qH at h1
 have h2:=jL (n:=o) aj
 have h3:(cut BA l (l+1)).length≤1:=by simp only [cut,jR,qK];omega
 have h4:(ZV al).length≤1:=by unfold ZV;split<;>(try split)<;>simp
 unfold nmT
 exact UU
theorem TF {p:Int} (h:0≤p∧p≤127):BG p 0=0∧gX (oH p 0).1 (oH p 0).2.1 (oH p 0).2.2=true:=by
 obtain ⟨r,hr⟩:=aht h
 obtain ⟨h1,h2⟩:=Ws h ⟨by omega,by omega⟩ hr
 rw [h2]
 exact ⟨h1,(TD hr).1⟩
theorem aai {c:Int×Int×Bool} (h:0≤c.1∧c.1≤127) (h2:0≤c.2.1∧c.2.1≤18):(JK c).length≤46:=by
 have h1:=VJ (TF h).2
 have h3:=jL (n:=c.2.1) aj
 have h4:(if c.2.2=true then ([43]:List UInt8)else []).length≤1:=by split<;>simp
 unfold JK
 exact Jv
theorem zf {α:Type} {f:α→List UInt8} {b:Nat}:∀ {l:List α},(∀ x∈l,(f x).length≤b)→((l.map f).flatten).length≤b*l.length
 | [],_=>by simp
 | x::r,h=>by
  have h1:=h x (by simp)
  have h2:=zf (l:=r) (b:=b) (f:=f) fun y hy=>h y qV
  simp only [qM,AA,bJ,bW,Nat.mul_succ];omega
def jQ (w:World) (F:View):Prop :=
 (∀ (i:Nat)v,bsL[i]?=some v→F ⟨1,i,none⟩=some (.int .i64 v))∧Lib.TabIs Tryz.prog w "internal/strconv.uint64pow10" .u64 Lib.pow10Tab ∧
 (∃ m,w.cell? ⟨2,0,none⟩=some (.int .i64 m))
def sZ:Nat:=max 5 2+1
theorem ab3:Tryz.prog.globalNamed "internal/strconv.uint64pow10"=some 5:=by kernel_rfl
theorem ahy {w:World} {cs:Array Value} {s:String} {g:Nat} (hg:Tryz.prog.globalNamed s=some g)(h:w.var? Tryz.prog s=some cs):g<w.heap.size:=by
 unfold World.var? at h
 rw [hg]at h
 rcases qJ g w.heap.size with h1|h1
 ·exact h1
 ·simp [Uf h1]at h
theorem Nk {w w':World} {b i:Nat} {v:Value} (h:w'.heap[b]?=w.heap[b]?) (hc:w.cell? ⟨b,i,none⟩=some v):w'.cell? ⟨b,i,none⟩=some v:=by
 unfold World.cell? at hc ⊢
 rw [show w'.heap[(⟨b,i,none⟩:Addr).block]?=w.heap[(⟨b,i,none⟩:Addr).block]? from h];exact hc
theorem TR {w w':World} {s:String} {k:IntKind} {l:List Int} {g:Nat} (hg:Tryz.prog.globalNamed s=some g)(hb:w'.heap[g]?=w.heap[g]?)(h:Lib.TabIs Tryz.prog w s k l):Lib.TabIs Tryz.prog w' s k l:=by
 unfold Lib.TabIs World.var? at h ⊢
 rw [hg]at h ⊢
 simp only [EU]at h ⊢
 rw [hb];exact h
theorem iG:Stab jQ sZ:=by
 refine⟨fun w F h=>?_,fun w w' F F' hb hF h=>?_⟩
 ·obtain⟨h0,h1,⟨m,h3⟩⟩:=h
  have a1:=ahy ab3 h1
  have a3:=cell_block h3
  unfold sZ
  omega
 ·obtain⟨h0,h1,⟨m,h3⟩⟩:=h
  exact⟨fun i v x=>hF _ _ (h0 i v x),TR ab3 (hb _ (by unfold sZ;omega)) h1,⟨m,Nk (hb _ (by unfold sZ;omega)) h3⟩⟩
theorem TQ {z:Int} (h:0≤z∧z≤6):∀ w F,jQ w F→F ⟨1,z.toNat,none⟩=some (.int .i64 (pI z)):=fun w F hB=>hB.1 _ _ (U5 h)
theorem Ctg.SA {B:World→View→Prop} {P:Program} {f:FuncId} {args:List AV} {xs:List Value} {res:AV} {v:Value} (hs:scs args=some xs)(hv:∀ F,RP F res v)(h:∀ w F,B w F→Calls P f xs.toArray w (Ret v w)):Ctg B P f args res:=by
 intro w F vs hB hF hR
 exact aiW
theorem agw (n:Int)(h:I64 n):Ctg jQ Tryz.prog 108 [.sc (.int .i64 n)] (.sc (.string (bs (Lib.itoa n)))) :=
 Ctg.SA (v:=.string (bs (Lib.itoa n))) rfl (fun _=>.sc _) fun w F hB=>(Tryz.strconv_Itoa n h.1 (by have:=h.2;omega) w hB.2.1).mono fun e w'⟨he,k,os,hw⟩=>⟨he,by
  subst hw
  refine⟨rfl,rfl,rfl,?_,fun i hi=>?_⟩
  ·exact aei
  ·show (w.heap++os)[i]?=w.heap[i]?
   rw [yL hi]⟩
theorem Ctg.mono {B B':World→View→Prop} {P:Program} {f:FuncId} {args:List AV} {res:AV} (h:Ctg B P f args res)(hb:∀ w F,B' w F→B w F):Ctg B' P f args res:=fun w F vs k=>h w F vs (hb w F k)
end
section
open Go.RowKit
attribute [local go_sem]mk_bs bs_size bs_toList bs_append bs_extract
attribute [local simp]run_cut run_cut_to run_cut_from run_add_bs
theorem ZE (v:Int)(d t:Bool)(w:World)(h:v < 1∨7 < v∨(d && t)=true):Calls Tryz.prog 172 #[.agg #[.int .i64 v,.bool d,.bool t]] w (Ret (.int .i64 0) w):=by
 by_cases h1:v < 1
 ·exact afq
 ·by_cases h2:7 < v
  ·exact afq
  ·have h3:d=true∧t=true:=by
    rcases h with h|h|h
    ·exact absurd h h1
    ·exact absurd h h2
    ·simpa using h
   obtain⟨rfl,rfl⟩:=h3
   exact afq
theorem TT (v:Int)(d t:Bool)(w:World)(hv:1≤v∧v≤7)(h:(d && t)=false):Calls Tryz.prog 172 #[.agg #[.int .i64 v,.bool d,.bool t]] w (Ret (.int .i64 (Eo v d t)) w):=by
  have h7:v=1∨v=2∨v=3∨v=4∨v=5∨v=6∨v=7:=by omega
  clear hv
  cases d<;>cases t
  all_goals first
    | (exfalso;revert h;decide)
    | (clear h
       rcases h7 with rfl|rfl|rfl|rfl|rfl|rfl|rfl
       all_goals
         go_enter Tryz.func172,Tryz.ntmps172
         go_wp2
         go_ret
         exact Ret.mk' rfl jD)
theorem IV (v:Int) (d t:Bool) (w:World):Calls Tryz.prog 172 #[.agg #[.int .i64 v,.bool d,.bool t]] w (Ret (.int .i64 (Eo v d t)) w):=by
 by_cases h:v<1∨7<v∨(d && t)=true
 ·have e:Eo v d t=0:=if_pos h
  rw [e];exact ZE v d t w h
 ·exact TT v d t w aj (by cases hd:(d && t) with|false=>rfl|true=>exact absurd (.inr (.inr hd)) h)
end
section
open Go.RowKit
theorem Gt {w:World} {B e size n:Nat} {v:Value} {xs:List Value} (h:w.ownsRowF B e size v n xs):w.ownsRowF 0 e size v n xs:=by
 refine ⟨h.1,?_⟩
 rcases h.2 with x|⟨g,cap,cur,fz,e,hb,r⟩
 ·exact .inl x
 ·exact .inr ⟨g,cap,cur,fz,e,dD _,r⟩
theorem Nc {P:Program} (w:World) (t u ty e:TypeId) (i:TypeInfo) (ht:P.underlying t=some (.slice e)) (hu:P.underlying u=some .string) (hi:P.info? e=some i) (hz:i.zero=some (.int .u8 0)) (hs1:i.size=1) (hby:i.bytes=1)
  (v:Value) (n:Nat) (xs:List Value) (hown:w.ownsRowF 0 e 1 v n xs) (s:ByteArray) (hb:n+s.size≤1000000000) :
  ∃ v' w',(Builtin.append_ #[t,u] ty #[v,.string s]).run P w=.ok v' w'∧w'.ownsRowF 0 e 1 v' (n+s.size) (xs++Lib.strCells s)∧w.grownBy w' v.ownBlock∧∀ g,v'.ownBlock=some g→v.ownBlock=some g∨w.heap.size≤g:=by
 rcases hown.2 with⟨rfl,rfl⟩|⟨g,cap,cur,fz,rfl,hbg,hg,hfz,hnc,hcm,hcs,htake⟩
 ·obtain ⟨v',w',h1,h2,h3,_⟩:=Lib.run_append_own_stringF (P:=P) w w.heap.size t u ty e i ht hu hi hz hs1 hby (.slice none 0 0) 0 xs ⟨hown.1,.inl ⟨rfl,rfl⟩⟩ s FC aj (Nat.le_refl _)
  exact ⟨v',w',h1,Gt h2,h3,fun g hg=>.inr (h2.lt g hg).1⟩
 ·obtain ⟨v',w',h1,h2,h3,_⟩:=Lib.run_append_own_stringF (P:=P) w 0 t u ty e i ht hu hi hz hs1 hby _ n xs hown s FC aj (dD _)
  refine ⟨v',w',h1,h2,h3,fun g' hg'=>?_⟩
  have hxl:xs.length=n:=by simpa using hown.1
  have hcs1:cur.size=cap:=by simpa using hcs
  by_cases hroom:n+s.size≤cap
  ·have hr:=Lib.run_append_room_stringF (P:=P) w t u ty e i ht hu hi hs1 g n cap cur fz hg (by simpa using hfz) s hroom (by omega)
   rw [hr] at h1
   cases h1
   exact .inl hg'
  ·have hr:=Lib.run_append_grow_string (P:=P) w t u ty e i (.int .u8 0) ht hu hi hz ⟨g,0,none⟩ n cap xs (by rw [hs1];simpa using hxl) (hown.cells (g:=g) rfl) s (by omega) (by omega) (by rw [hby];exact growslice_fits (by omega) (by omega))
   rw [hr] at h1
   cases h1
   simp [Value.ownBlock] at hg'
   right;omega
theorem Gz {P:Program} {o:Oper} {a:Act} {w w':World} {x y:Operand} {T U:TypeId} {s:ByteArray} {v v':Value} {N:Act→World→Prop} {Q':Exit→Act→World→Prop} (ho:o.op=.call { callee:=.builtin .append,args:=#[x,y],argTypes:=#[T,U] })(ex:a.eval x=v)(ey:a.eval y=.string s)
  (hrun:(Builtin.append_ #[T,U] o.type #[v,.string s]).run P w=.ok v' w')(hN:N (a.put o.dst v') w'):o.wp P a w N Q':=by
 refine fU ?_
 have hargs:(#[x,y]:Array Operand).map a.eval=#[v,.string s]:=by simp [ex,ey]
 simp only [ho,resolve,invoke,builtin,Sem.run_bind,Sem.run_pure,Result.andThen_ok,hargs,hrun,Oper.upon]
 exact hN
theorem P9 (s:List UInt8):Lib.strCells (bs s)=Lib.byteCells s:=by
 unfold Lib.strCells Lib.byteCells
 rfl
theorem U7:(Tryz.prog.info? 103).map (·.size)=some 2:=by kernel_rfl
theorem afK:liesAt Tryz.prog Tryz.prog.depth 103 (2/Tryz.prog.cellsOf 103) 0 103 1=true:=by kernel_rfl
theorem aad:(Tryz.prog.info? 5).map (fun i=>(i.zero,i.size,i.bytes))=some (some (.int .u8 0),1,1):=by kernel_rfl
theorem Nj:Tryz.prog.cellsOf 5=1:=by kernel_rfl
theorem F6 (b:Nat) (w:World) (h0:w.cell? ⟨b,0,none⟩=some (.pointer (some ⟨b,0,none⟩))) :
  Calls Tryz.prog 109 #[.pointer (some ⟨b,0,none⟩)] w fun e w'=>e=.returned (.tuple #[])∧w'=w:=by
 obtain ⟨j,hj,_⟩:=Option.map_eq_some_iff.1 U7
 go_enter Tryz.func109,Tryz.ntmps109
 go_wp2
 rw [Lib.run_neq_ptr_same w _ Tryz.underlying100 hj]
 go_wp2
 go_end0
 exact ⟨rfl,rfl⟩
theorem Cb (b:Nat) (w:World) (h0:w.cell? ⟨b,0,none⟩=some (.pointer none)) (hsh:w.shape? b=some (103,2)) (hfz:w.frozen? ⟨b,0,none⟩=false) :
  Calls Tryz.prog 109 #[.pointer (some ⟨b,0,none⟩)] w fun e w'=>e=.returned (.tuple #[])∧w'=w.setCell ⟨b,0,none⟩ (.pointer (some ⟨b,0,none⟩)):=by
 obtain ⟨j,hj,hjs⟩:=Option.map_eq_some_iff.1 U7
 go_enter Tryz.func109,Tryz.ntmps109
 go_wp2
 rw [Lib.run_to_unsafe w ⟨b,0,none⟩ Tryz.underlying100 Tryz.underlying263 hj (by rw [hjs];decide) hsh (Nat.zero_lt_succ 1)]
 simp only [Result.andThen]
 rw [Oper.upon_value]
 go_wp2
 rw [run_callFunc_extern Tryz.func175 aK aK aK (e:=Extern.AbiNoEscape.same) aK]
 rw [Lib.run_noEscape]
 simp only [Result.andThen]
 rw [Oper.upon_value]
 go_wp2
 rw [Lib.run_from_unsafe w ⟨b,0,none⟩ Tryz.underlying263 Tryz.underlying100 hj hsh afK]
 simp only [Result.andThen]
 rw [Oper.upon_value]
 go_wp2
 go_end0
 exact ⟨rfl,rfl⟩
theorem aac (w:World) (b:Nat) (p v:Value) (hp:p=.pointer none∨p=.pointer (some ⟨b,0,none⟩)) (hbk:w.heap[b]?=some (.cells #[p,v] 103 (0,0))) :
  Calls Tryz.prog 109 #[.pointer (some ⟨b,0,none⟩)] w fun e w'=>e=.returned (.tuple #[])∧w'.heap[b]?=some (.cells #[.pointer (some ⟨b,0,none⟩),v] 103 (0,0))∧Kept (fun x=>x=b) w w'∧w'.heap.size=w.heap.size:=by
 have c0:w.cell? ⟨b,0,none⟩=some p:=by rw [Lib.cell_of_heap hbk];rfl
 rcases hp with rfl|rfl
 ·refine (Cb b w c0 (by simp [World.shape?,hbk]) (Lib.frozen_of_heap hbk 0)).mono ?_
  rintro e w' ⟨rfl,rfl⟩
  refine ⟨rfl,heap_setCell_same w b 0 _ _ _ hbk,⟨rfl,rfl,rfl,by simp [World.setCell],fun k hk hne=>heap_setCell_other w _ k _ hne⟩,by simp [World.setCell]⟩
 ·refine (F6 b w c0).mono ?_
  rintro e w' ⟨rfl,rfl⟩
  exact ⟨rfl,hbk,Kept.refl _ _,rfl⟩
theorem kJ:BldW Tryz.prog 53 103 5:=by
 intro w b φ l s hφ h hl
 obtain ⟨p,v,hp,hbk,hown,hfp⟩:=h
 obtain ⟨i0,hi,hz0,hz1,hz2⟩:=info_parts (P:=Tryz.prog) aad
 have hblt:b < w.heap.size:=(Array.getElem?_eq_some_iff.1 hbk).1
 go_enter Tryz.func53,Tryz.ntmps53
 go_wp2_with (go_at_call 109;refine (aac w b p v hp hbk).mono ?_)
 rintro e w1 ⟨rfl,hb1,hk1,hs1⟩
 have hown1:w1.ownsRowF 0 5 1 v l.length (Lib.byteCells l):=ownsRowF_keep hown fun g hg=>hk1.block g (hown.lt g hg).2 (fun e=>(hfp g hg).2 e)
 have c0:w1.cell? ⟨b,0,none⟩=some (.pointer (some ⟨b,0,none⟩)):=by rw [Lib.cell_of_heap hb1];rfl
 have c1:w1.cell? ⟨b,1,none⟩=some v:=by rw [Lib.cell_of_heap hb1];rfl
 obtain ⟨v',w2,hrun,hown',hgrow,hnew⟩:=Nc (P:=Tryz.prog) w1 101 9 101 5 i0 Tryz.underlying101 Tryz.underlying9 hi hz0 hz1 hz2 v l.length _ hown1 (bs s) Jp
 obtain ⟨ao,n',cap,rfl⟩:∃ ao n' cap,v'=.slice ao n' cap:=by
  rcases hown'.2 with ⟨hv,_⟩|⟨g,cap,cur,fz,hv,_⟩
  ·exact ⟨_,_,_,hv⟩
  ·exact ⟨_,_,_,hv⟩
 have hb2:w2.heap[b]?=some (.cells #[.pointer (some ⟨b,0,none⟩),v] 103 (0,0)):=by
  rw [hgrow.block b (by omega) (fun e=>(hfp b e.symm).2 rfl)]
  exact hb1
 have d0:w2.cell? ⟨b,0,none⟩=some (.pointer (some ⟨b,0,none⟩)):=by rw [Lib.cell_of_heap hb2];rfl
 have d1:w2.cell? ⟨b,1,none⟩=some v:=by rw [Lib.cell_of_heap hb2];rfl
 have f1:w2.frozen? ⟨b,1,none⟩=false:=Lib.frozen_of_heap hb2 1
 have hsz:w.heap.size≤w2.heap.size:=by have:=hgrow.size;omega
 have hvb:∀ g,(Value.slice ao n' cap).ownBlock=some g→φ g∨(w.heap.size≤g∧g < w2.heap.size):=fun g hg=>by
  rcases hnew g hg with h|h
  ·exact .inl (hfp g h).1
  ·exact .inr ⟨by omega,(hown'.lt g hg).2⟩
 have al8:∀ g,(Value.slice ao n' cap).ownBlock=some g→g≠b:=fun g hg e=>by
  rcases hnew g hg with h|h
  ·exact (hfp g h).2 e
  ·omega
 go_wp2_with (at_builtin;refine wpList_plain rfl fun K hK=>Gz rfl rfl rfl hrun (hK _ _ ?_))
 go_ret2
 refine ⟨by rw [bs_size];rfl,⟨?_,?_,?_,by simp [World.setCell];exact hsz,fun k hk hn=>?_⟩,.pointer (some ⟨b,0,none⟩),.slice ao n' cap,.inr rfl,?_,?_,fun g hg=>⟨?_,al8 g hg⟩⟩
 ·exact hgrow.os.trans hk1.os
 ·exact hgrow.tape.trans hk1.tape
 ·exact hgrow.output.trans hk1.output
 ·have hkb:k≠b:=fun e=>hn (e ▸ hφ)
  simp only [World.setCell,Ur]
  rw [if_neg (fun h=>hkb h.symm),hgrow.block k (by omega) (fun e=>hn (hfp k e.symm).1)]
  exact hk1.block k hk hkb
 ·exact heap_setCell_same w2 b 1 _ _ _ hb2
 ·have:=ownsRowF_keep (w':=w2.setCell ⟨b,1,none⟩ (.slice ao n' cap)) hown' fun g hg=>by
   simp only [World.setCell,Ur]
   rw [if_neg (fun h=>al8 g hg h.symm)]
  rw [bs_size] at this
  simpa [P9,Lib.byteCells,bJ] using this
 ·rcases hvb g hg with h|h
  ·exact .inl h
  ·exact .inr ⟨h.1,by simpa [World.setCell] using h.2⟩
theorem uU:BldS Tryz.prog 55 103 5:=by
 intro w b φ l hφ h h0
 obtain ⟨p,v,hp,hbk,hown,hfp⟩:=h
 have hl0:l.length≠0:=by simpa using h0
 obtain ⟨g,cap,cur,fz,rfl,hbg,hg,hfz,hnc,hcm,hcs,htake⟩:∃ g cap cur fz,v=.slice (some ⟨g,0,none⟩) l.length cap∧0≤g∧w.heap[g]?=some (.cells cur 5 fz)∧fz.2≤l.length*1∧l.length≤cap∧cap≤maxLen∧cur.size=cap*1∧cur.toList.take (l.length*1)=Lib.byteCells l:=by
  rcases hown.2 with⟨_,hz⟩|⟨g,cap,cur,fz,hv,r⟩
  ·exact absurd hz hl0
  ·exact ⟨g,cap,cur,fz,hv,r⟩
 have hgb:g≠b:=(hfp g rfl).2
 have c1:w.drew.cell? ⟨b,1,none⟩=some (.slice (some ⟨g,0,none⟩) l.length cap):=by
  have:w.drew.heap[b]?=some (.cells #[p,.slice (some ⟨g,0,none⟩) l.length cap] 103 (0,0)):=hbk
  rw [Lib.cell_of_heap this];rfl
 have hUS:(Builtin.unsafeString_ #[191,3] 9 #[.pointer (some ⟨g,0,none⟩),.int .i64 l.length]).run Tryz.prog w.drew=.ok (.string ⟨l.toArray⟩) (w.drew.freeze ⟨g,0,none⟩ l.length):=by
  have hg':w.drew.heap[g]?=some (.cells cur 5 fz):=hg
  refine Lib.run_unsafeString_row w.drew 191 3 9 5 Tryz.underlying191 Nj g cur.size (by simp [World.shape?,hg']) l h0 (by omega) (by unfold maxLen at hcm;omega) ?_
  intro j x hx
  exact hown.cells (g:=g) rfl j (.int .u8 x.toNat) (by simp [Lib.byteCells,hx])
 have hSD:(Builtin.unsafeSliceData_ #[101] 191 #[.slice (some ⟨g,0,none⟩) l.length cap]).run Tryz.prog w.drew=.ok (.pointer (some ⟨g,0,none⟩)) w.drew :=
  Lib.run_unsafeSliceData_row _ _ _ _ _ _ aj
 have hother:∀ k,k≠g→(w.drew.freeze ⟨g,0,none⟩ l.length).heap[k]?=w.heap[k]?:=fun k hk=>by
  unfold World.freeze
  rw [if_neg hl0]
  simp only [Ur]
  rw [if_neg (fun h=>hk h.symm)]
  rfl
 have hsize:(w.drew.freeze ⟨g,0,none⟩ l.length).heap.size=w.heap.size:=by
  unfold World.freeze
  rw [if_neg hl0]
  simp only [Array.size_modify]
  rfl
 have hkept:Kept φ w (w.drew.freeze ⟨g,0,none⟩ l.length):=by
  refine ⟨?_,?_,?_,Nat.le_of_eq hsize.symm,fun k hk hn=>hother k fun e=>hn (e ▸ (hfp g rfl).1)⟩
  all_goals (unfold World.freeze;rw [if_neg hl0];rfl)
 have anG:BldIs (w.drew.freeze ⟨g,0,none⟩ l.length) 103 5 b (fun x=>φ x∨(w.heap.size≤x∧x<(w.drew.freeze ⟨g,0,none⟩ l.length).heap.size)) l:=by
  have hA:Lib.BuilderAtF 103 5 0 b p (Lib.byteCells l) w.drew:=⟨dD _,_,hbk,by rw [Lib.byteCells_length];exact hown,fun e=>(hfp b e).2 rfl⟩
  obtain ⟨_,v2,hb2,hown2,_⟩:=hA.froze (g:=g) (cap:=cap) (by rw [Lib.byteCells_length];exact c1)
  rw [Lib.byteCells_length] at hb2 hown2
  rw [hother b (fun e=>hgb e.symm),hbk] at hb2
  have ev:v2=.slice (some ⟨g,0,none⟩) l.length cap:=by
   simp only [Option.some.injEq,Obj.cells.injEq] at hb2
   have:=hb2.1
   simp at this
   exact this.symm
  subst ev
  exact ⟨p,_,hp,(hother b (fun e=>hgb e.symm)).trans hbk,hown2,fun x hx=>⟨.inl (hfp x hx).1,(hfp x hx).2⟩⟩
 have mixed:Tryz.prog.follows .mixedOrders=true:=by kernel_rfl
 go_enter Tryz.func55,Tryz.ntmps55
 go_wp2
 go_region_o
 all_goals (go_wp2;go_ret;exact ⟨rfl,hkept,anG⟩)
end
section
open Go.RowKit
attribute [local go_sem]mk_bs bs_size bs_toList bs_append bs_extract
attribute [local simp]run_cut run_cut_to run_cut_from run_add_bs
theorem ab5 (n:Int)(w:World)(h:0≤n∧n≤3) :
  Calls Tryz.prog 335 #[.agg #[],.int .i64 n] w (Ret (.tuple #[.string (bs (rR 2 n)),.bool (okR 2 n)]) w):=by
 have h4:n=0∨n=1∨n=2∨n=3:=by omega
 clear h
 rcases h4 with rfl|rfl|rfl|rfl
 all_goals
  go_enter Tryz.func335,Tryz.ntmps335
  go_wp2
  go_ret2
  exact Ret.mk' rfl jD
theorem abY (n:Int)(w:World)(h:0≤n∧n≤4) :
  Calls Tryz.prog 330 #[.agg #[],.int .i64 n] w (Ret (.tuple #[.string (bs (rG 2 n)),.bool (yt 2 n)]) w):=by
 have h4:n=0∨n=1∨n=2∨n=3∨n=4:=by omega
 clear h
 rcases h4 with rfl|rfl|rfl|rfl|rfl
 all_goals
  go_enter Tryz.func330,Tryz.ntmps330
  go_wp2
  go_ret2
  exact Ret.mk' rfl jD
theorem ag0 (n L:Int) (w:World) (h:0≤n∧n≤15) :
  Calls Tryz.prog 329 #[.agg #[],.int .i64 n,.int .i64 L] w (Ret (.tuple #[.string (bs (pH 2 n L)),.bool (qY 2 n L)]) w):=by
 obtain ⟨hn0,hn1⟩:=h
 by_cases h0:n=0
 ·exact aeX
 ·have hb:(n == 0)=false:=by simp;exact h0
  have e0:pH 2 n L=rH 2 n L:=if_neg h0
  have e1:qY 2 n L=!(rH 2 n L).isEmpty:=by unfold qY;rw [hb];rfl
  rw [e0,e1]
  by_cases hL:n=L
  ·have e2:rH 2 n L=[42]:=by unfold rH;rw [if_neg (by decide),if_pos ⟨by decide,hL⟩]
   have hbL:(n == L)=true:=by simpa using hL
   exact UY
  ·have e2:rH 2 n L=[]:=by unfold rH;rw [if_neg (by decide),if_neg (fun h=>hL h.2)]
   exact ae8
end
section
open Go.RowKit
attribute [local go_sem]mk_bs bs_size bs_toList bs_append bs_extract
def nm1:List UInt8:=[102,114,101,110,99,104]
def nm2:List UInt8:=[105,116,97,108,105,97,110]
def nm3:List UInt8:=[115,112,97,110,105,115,104]
def nm4:List UInt8:=[103,101,114,109,97,110]
def psV(l:List UInt8):Value :=
 if(nm1 == l)=true then .tuple #[.int .u8 1,.int .i64 0]else if(nm2 == l)=true then .tuple #[.int .u8 2,.int .i64 0]
 else if(nm3 == l)=true then .tuple #[.int .u8 3,.int .i64 0]else if(nm4 == l)=true then .tuple #[.int .u8 4,.int .i64 0]else .tuple #[.int .u8 0,.int .i64 4]
theorem zC (l:List UInt8)(w:World):Calls Tryz.prog 90 #[.string (bs l)] w (Ret (psV l) w):=by
 unfold psV nm1 nm2 nm3 nm4
 by_cases h1:(([102,114,101,110,99,104]:List UInt8) == l)=true
 ·rw [if_pos h1]
  exact FP
 ·rw [if_neg h1]
  have g1:(([102,114,101,110,99,104]:List UInt8) == l)=false:=by simpa using h1
  clear h1
  by_cases h2:(([105,116,97,108,105,97,110]:List UInt8) == l)=true
  ·rw [if_pos h2]
   exact FP
  ·rw [if_neg h2]
   have g2:(([105,116,97,108,105,97,110]:List UInt8) == l)=false:=by simpa using h2
   clear h2
   by_cases h3:(([115,112,97,110,105,115,104]:List UInt8) == l)=true
   ·rw [if_pos h3]
    exact FP
   ·rw [if_neg h3]
    have g3:(([115,112,97,110,105,115,104]:List UInt8) == l)=false:=by simpa using h3
    clear h3
    by_cases h4:(([103,101,114,109,97,110]:List UInt8) == l)=true
    ·rw [if_pos h4]
     exact FP
    ·rw [if_neg h4]
     have g4:(([103,101,114,109,97,110]:List UInt8) == l)=false:=by simpa using h4
     clear h4
     exact FP
end
end Go.Proofs.YthohlofpphjofaaGreatDoor
