/- A walk that knows values as trees: an interface compared with nil, a difference of bytes, a call with several answers. -/
import Derived.Test.YthohlofpphjofaaGreatDoorSrALq
import Derived.Lib.ByteType
set_option linter.unusedVariables false
set_option linter.unusedSimpArgs false
namespace Go.Proofs.YthohlofpphjofaaGreatDoor
theorem YM {p:Prop}(h:p:=by rw [he];exact r):p:=h
theorem Rx {p:Prop}(h:p:=by simpa using hq):p:=h
section
variable {p:Prop}
theorem ani(h:p:=by
 have q:=e2 i l[i] (aO hi);exact ak9):p:=h
theorem anh(h:p:=by
 have q:=e2 i l[i] (aO hi);exact ak8):p:=h
theorem am8(h:p:=by
 have q:=e2 i l[i] (aO (by omega));exact ak6):p:=h
theorem amn(h:p:=by
 rw [e1,pW,key o rest av aW _ (Nat.le_refl _)];simp):p:=h
theorem alX(h:p:=by
 .show J4 P C ops o _ av (ms 0) (jm 0);rw [m0,n0];simpa [ents] using hdo):p:=h
theorem alL(h:p:=by cases hgd:o.guard with
 | none=>rfl| some g=>have h8:=this.1.2;rw [hgd] at h8;cases h8):p:=h
theorem asR(h:p:=by
 have hj':rest[j]?=some oj:=by simpa using hj
 have q2:=e2 j oj hj';rw [key o rest av aW j adV];simpa [Q9,Nat.add_comm 1 j] using q2):p:=h
theorem asK(h:p:=by
 have hj':rest[j]?=some oj:=by simpa using hj
 have q2:=e2 j oj hj';rw [key o rest av aW j adV,hent];simpa [St.put,Q9,Nat.add_comm 1 j] using q2):p:=h
theorem ar1(h:p:=by
 have next:∀ (v:Value) (G':Gh) (w':World),Ok C (KS listed) G' a w'->R G' (aW j) v->Bd nk (aW j)->wpAny P .any l.toArray (Post C Q) fuel (listed.setIfInBounds j true) (a.put oj.dst v) w':=by
  intro v G' w' ok' hr hb;have ok2:=ok'.set (d:=some d) hr (hb.mono acM) λx hx=>by cases hx;exact hdN
  rw [hd];have hcu:cu (listed.setIfInBounds j true)=cu listed:=Gj λi hi Ep=>by
   by_cases e:j=i;.subst e;rw [hmf] at Ep;cases Ep
   .exact hset i e
  exact ih (listed.setIfInBounds j true) G' _ w' Ru hclose hcount (ok2.uD (λt=>by rw [KL t,hd];rfl) (by show ms _=ms _;rw [hcu]) (by show jm _=jm _;rw [hcu]))
 rcases hdo with ⟨hg,hv⟩|⟨hg,hv⟩
 .rw [if_pos (qM okO hg)];exact .inl (hv G a w okO _ _ λv G' w' hk hr hb=>next v G' w' (hk _ _ ok) hr hb)
 .rw [if_neg (by rw [qM okO hg];simp)];exact next undef G w ok (by rw [hv];exact .pu _ _ (.sc _)) (by rw [hv];exact .sc _)):p:=h
theorem arY(h:p:=by
 have ZA:L[p]?=some o:=by simpa using hpo
 have hlt:p<L.length:=(List.getElem?_eq_some_iff.1 ZA).1;have h1:=(hp p hlt).1.1;have hg:L.getD p default=o:=by rw [dL,ZA];rfl
 refine ⟨(aft π i j p o).toArray,?_,λe he hb=>?_,λe' he' hb'=>?_⟩
 .have hr:ρ.getD (π.getD p 0) 0=p:=dG h1.2;have h3:(reo L π ρ i j).toArray[π.getD p 0]?=some { L.getD (ρ.getD (π.getD p 0) 0) default with after:=(aft π i j (ρ.getD (π.getD p 0) 0) (L.getD (ρ.getD (π.getD p 0) 0) default)).toArray }:=by
   rw [abv];unfold reo;rw [dw,Uk (dn h1.1)];rfl
  rw [h3,hr,hg]
 .have he1:=List.mem_toArray.1 he;rcases List.mem_append.1 he1 with h4|h4
  .obtain ⟨e',h5,rfl⟩:=List.mem_map.1 h4;obtain ⟨h6,h7⟩:=List.mem_filter.1 h5;exact .inl ⟨e',by simpa using h6,h7,rfl⟩
  .cases hb2:Nat.beq p j with
   | false=>rw [hb2] at h4;cases h4| true =>
    rw [hb2] at h4;have h5:e∈[(⟨π.getD i 0,.data⟩:Edge)]:=h4;rw [CO] at h5;subst h5;exact .inr ⟨dG hb2,rfl⟩
 .refine ⟨⟨π.getD e'.on 0,.data⟩,List.mem_toArray.2 (List.mem_append.2 (.inl (List.mem_map.2 ⟨e',List.mem_filter.2 ⟨by simpa using he',hb'⟩,rfl⟩))),rfl,rfl⟩):p:=h
theorem arX(h:p:=by
 by_cases et:oj.dst=some t
 .have hR:look t (o9 oj.dst true (aW j)++(KS listed).t)=some (aW j):=by rw [dh,uj,if_pos ⟨rfl,et⟩];rfl
  rw [hR,dh,Em (j:=j) hlt (by rw [h2];exact et) adW λi hij hi hdi=>?_];.rfl
  .have hoi:l.toArray[i]?=some l[i]:=by simp [hi]
   rw [hoi] at hdi;have hdi:l[i].dst=some t:=hdi;have hne:j≠i:=by omega
   cases zJ:listed.getD i false with
   | false=>simpa [dU,sO hne] using zJ| true =>
    by_cases hno:∃ e,e∈(l[i]).after/\Region.binds .any e=true/\e.on=j
    .obtain ⟨e,he,hb,he2⟩:=hno;have:=hcl i _ hoi zJ e he hb;rw [he2,h3] at this;cases this
    .exact absurd hdi ((Oper.apart_spec (FB j i _ _ (iT _) hij h2 hoi λe he hb h=>hno ⟨e,he,hb,h⟩)).2.1 t et)
 .have hR:look t (o9 oj.dst true (aW j)++(KS listed).t)=look t (KS listed).t:=by rw [dh,uj,if_neg (λx=>et x.2)];rfl
  rw [hR];show _=look t (_++_);rw [dh,dh];congr 1;refine kW λi hi hdi=>?_;by_cases e2:j=i
  .subst e2;rw [h2] at hdi;exact absurd hdi et
  .simp [dU,sO e2]):p:=h
end
section
open Go.RowKit
def stM (s c f:Int)(l:List UInt8)(L:Int)(r g h:Nat):Bool:=decide (r<=3/\g<=4/\(h:Int)<=L/\(0<h->f≠0)) && (iJ s c f r g h L && cellS s c f r g h L == l)
theorem yR {s c f:Int} {l:List UInt8} {L:Int} {r g h:Nat} (x:stM s c f l L r g h=true):(r<=3/\g<=4/\(h:Int)<=L/\(0<h->f≠0))/\iJ s c f r g h L=true/\cellS s c f r g h L=l:=by grind[stM]
section
variable {P:Program} {C:Cx} {σ σ':St} {G G':Gh} {a:Act} {w w':World} {ops:Array Oper} {Q:Exit→St→Prop}
def J4 (P:Program) (C:Cx) (ops:Array Oper) (o:Oper) (σ:St) (av:AV) (M':List (Nat×AO)) (bP:Nat):Prop :=o.guard=none/\∀ t,(∀ q∈o.looksAt ops,look q t=look q σ.t)->WO P C o ⟨t,σ.M,σ.nk⟩ ⟨o9 o.dst true av++t,M',bP⟩
inductive DS (P:Program) (C:Cx) (ops:Array Oper) (mem:List Bool) (Mc:List (Nat×AO)) (dB:Nat):Nat->List Oper->St->St->Prop| nil (k:Nat) (σ:St):DS P C ops mem Mc dB k [] σ σ| val (k:Nat) (o:Oper) (rest:List Oper) (d:Tmp) (av:AV) (nk:Nat) (σ σ':St):mem.getD k false=false->o.dst=some d->Nat.blt d C.N=true->(nk=dB\/(nk=σ.nk/\iV ops mem k=true))->J5 P C ops o σ.t Mc nk av ->DS P C ops mem Mc dB (k+1) rest (σ.put d av) σ'->DS P C ops mem Mc dB k (o::rest) σ σ'| mem (k:Nat) (o:Oper) (rest:List Oper) (av:AV) (M':List (Nat×AO)) (bP:Nat) (σ σ':St):mem.getD k false=true->Nat.ble σ.nk bP=true->bD Mc M'->J4 P C ops o σ av M' bP ->DS P C ops mem Mc dB (k+1) rest ⟨o9 o.dst true av++σ.t,M',bP⟩ σ'->DS P C ops mem Mc dB k (o::rest) σ σ'
theorem DS.data {mem:List Bool} {Mc:List (Nat×AO)} {dB k:Nat} {l:List Oper} {σ σ':St} (h:DS P C ops mem Mc dB k l σ σ'):∃ (aW:Nat->AV) (ms:Nat->List (Nat×AO)) (jm:Nat->Nat),ms 0=σ.M/\jm 0=σ.nk /\σ'=⟨ents l.toArray aW (λ_=>true) l.length++σ.t,ms l.length,jm l.length⟩ /\∀ (j:Nat) (oj:Oper),l[j]?=some oj ->((mem.getD (k+j) false=false/\(∃ d,oj.dst=some d/\d<C.N)/\ms (j+1)=ms j/\jm (j+1)=jm j/\∃ nk,(nk=dB\/(nk=jm j/\iV ops mem (k+j)=true))/\J5 P C ops oj (ents l.toArray aW (λ_=>true) j++σ.t) Mc nk (aW j)) \/(mem.getD (k+j) false=true/\jm j<=jm (j+1)/\bD Mc (ms (j+1))/\J4 P C ops oj ⟨ents l.toArray aW (λ_=>true) j++σ.t,ms j,jm j⟩ (aW j) (ms (j+1)) (jm (j+1)))):=by
 have key:∀ (o:Oper) (rest:List Oper) (av:AV) (aW:Nat->AV),∀ m,m<=rest.length->ents (o::rest).toArray (λj=>if j=0 then av else aW (j-1)) (λ_=>true) (m+1)=ents rest.toArray aW (λ_=>true) m++o9 o.dst true av:=by
  intro o rest av aW m;induction m<;>grind[ents]
 induction h with
 | nil k σ=>exact ⟨λ_=>.sc undef,λ_=>σ.M,λ_=>σ.nk,rfl,rfl,rfl,λj oj h=>by simp at h⟩| val k o rest d av nk σ σ' hm hd hN hq hdo _ ih =>
  obtain ⟨aW,ms,jm,m0,n0,e1,e2⟩:=ih;have hent:o9 o.dst true av=[(d,av)]:=by rw [hd];rfl
  refine ⟨λj=>if j=0 then av else aW (j-1),λj=>if j=0 then σ.M else ms (j-1),λj=>if j=0 then σ.nk else jm (j-1),rfl,rfl,?_,λj oj hj=>?_⟩;.simp_all[St.put]
  .cases j with
   | zero =>
    cases hj;exact .inl ⟨hm,⟨d,hd,dn hN⟩,m0,n0,nk,hq,by simpa [ents] using hdo⟩| succ j =>exact asK
 | mem k o rest av M' bP σ σ' hm hn hsub hdo _ ih =>
  obtain ⟨aW,ms,jm,m0,n0,e1,e2⟩:=ih;refine ⟨λj=>if j=0 then av else aW (j-1),λj=>if j=0 then σ.M else ms (j-1),λj=>if j=0 then σ.nk else jm (j-1),rfl,rfl,?_,λj oj hj=>?_⟩;.exact amn
  .cases j with
   | zero =>
    cases hj;refine .inr ⟨hm,?_,?_,?_⟩;.exact abN
    .exact abU
    exact alX| succ j =>exact asR
theorem WA.awo {l:List Oper} (mem:List Bool) (Mc:List (Nat×AO)) (hB:Region.lexB .any l.toArray=true) (hch:chainB l.toArray mem=true) (SG:bD Mc σ.M) (h:DS P C l.toArray mem Mc σ.nk 0 l σ σ') (k:Q .normal σ'):WA P C l.toArray σ Q:=by
 intro G a w ok;obtain ⟨aW,ms,jm,m0,n0,e1,e2⟩:=h.data;simp only [oC] at e2;simp only [Region.lexB,gG] at hB;obtain ⟨FA,FB⟩:=uh (ops:=l.toArray) l.toArray.size 0 (Array.replicate l.toArray.size false) (by simp) (by simp) (λi hi=>by simp [dU,hi] at hi ⊢;simp [hi]) hB.2;have sz:l.toArray.size=l.length:=by simp
 have wM:∀ i,i < l.length->mem.getD i false=false->ms (i+1)=ms i/\jm (i+1)=jm i:=λi hi hf=>by exact anh
 have Le:∀ i,i < l.length->jm i<=jm (i+1):=λi hi=>by exact ani
 have VU:C.np<=jm 0:=by rw [n0];exact ok.df.2.1
 have ah2:∀ i,i<=l.length->C.np<=jm i:=λi=>by induction i with
  | zero=>exact λ_=>VU| succ i ih=>exact λh=>gX (ih au) (Le i au)
 have aiA:∀ i,i<=l.length->bD Mc (ms i):=λi=>by induction i with
  | zero=>intro _;rw [m0];exact SG| succ i ih =>
   intro hi;exact am8
 have aoF:∀ j,j < l.length->mem.getD j false=true->iV l.toArray mem j=true:=λj hj hmj=>by exact anG
 have ahU:∀ i j,i < j->iV l.toArray mem j=true->mem.getD i false=true->needs l.toArray i l.toArray.size j=true:=λi j hij hb Ep=>by exact anF
 let cu:Array Bool->Nat:=λlisted=>cur (λi=>mem.getD i false) (λi=>listed.getD i false) l.length;let KS:Array Bool->St:=λlisted=>⟨ents l.toArray aW (λi=>listed.getD i false) l.length++σ.t,ms (cu listed),jm (cu listed)⟩;have key:∀ (fuel:Nat) (listed:Array Bool) (G:Gh) (a:Act) (w:World),listed.size=l.length->(∀ j oj,l.toArray[j]?=some oj->listed.getD j false=true->∀ e∈oj.after,Region.binds .any e=true->listed.getD e.on false=true) ->(List.range l.length).countP (λi=>!listed.getD i false)<=fuel->Ok C (KS listed) G a w->wpAny P .any l.toArray (Post C Q) fuel listed a w:=by
  intro fuel;have done:∀ (listed:Array Bool) (G:Gh) (a:Act) (w:World),listed.size=l.length->Region.ready .any l.toArray listed=[]->Ok C (KS listed) G a w->Post C Q .normal a w:=by
   intro listed G a w hsz hr ok;exact avA
  induction fuel with
  | zero =>
   intro listed G a w hsz hcl hf ok;exact aqp| succ fuel ih =>
   intro listed G a w hsz hcl hf ok;refine ⟨λhr=>done listed G a w hsz hr ok,λj hj=>?_⟩;obtain ⟨h1,oj,h2,h4⟩:=mem_ready.1 hj;have hlt:j < l.length:=by have:=(Array.getElem?_eq_some_iff.1 h2).1;omega
   have h3:listed.getD j false=false:=by exact U1
   have hlj:l[j]?=some oj:=by simpa using h2
   have KI:=e2 j oj hlj;have hlook:∀ t∈oj.looksAt l.toArray,∀ i,i < l.length->(l.toArray[i]?).bind (·.dst)=some t->listed.getD i false=decide (i < j):=by
    intro t ht i hi hdi;exact avD
   have VR:∀ t,look t (ents l.toArray aW (λ_=>true) j)=look t (ents l.toArray aW (λi=>decide (i < j)) l.length):=by
    intro t;exact aqr
   have hlooks:∀ t∈oj.looksAt l.toArray,look t (KS listed).t=look t (ents l.toArray aW (λ_=>true) j++σ.t):=λt ht=>by exact anI
   have KL:∀ t,look t (ents l.toArray aW (λi=>(listed.setIfInBounds j true).getD i false) l.length++σ.t)=look t (o9 oj.dst true (aW j)++(KS listed).t):=by
    intro t;exact arX
   have hset:∀ i,j≠i->(listed.setIfInBounds j true).getD i false=listed.getD i false:=λi e=>by simp [dU,sO e]
   have VY:(listed.setIfInBounds j true).getD j false=true:=by simp [dU,hsz,hlt]
   have hclose:∀ i oi,l.toArray[i]?=some oi->(listed.setIfInBounds j true).getD i false=true->∀ e∈oi.after,Region.binds .any e=true->(listed.setIfInBounds j true).getD e.on false=true:=by
    intro i oi hi zJ e he hb;exact am3
   have hcount:(List.range l.length).countP (λi=>!(listed.setIfInBounds j true).getD i false)<=fuel:=by exact anA
   unfold wpOp;simp only [h2];rcases KI with ⟨hmf,⟨d,hd,hdN⟩,hmc,hnc,nk,hnk,Ep,hti,hdo⟩|⟨hmt,aw7,hsub,hgd,hdo⟩;·-- memory stays
    have hot:dR (KS listed).t (oj.looksAt l.toArray)=dR (ents l.toArray aW (λ_=>true) j++σ.t) (oj.looksAt l.toArray):=qZ hlooks;have acM:nk<=jm (cu listed):=by exact alI
    have okO:Ok C ⟨dR (ents l.toArray aW (λ_=>true) j++σ.t) (oj.looksAt l.toArray),Mc,nk⟩ G a w :=ok.few (hnp:=by rcases hnk with h|⟨h,_⟩<;>rw [h]<;>first|exact ah2 j (by omega)|(rw [← n0];exact VU)) (ht:=λi av hx=>⟨by rw [← hot] at hx;exact qx hx,FD hti i av hx⟩) (hM:=λq o hx=>⟨xH (aiA _ (Kq _)) q o hx,(uK Ep q o hx).1,(uK Ep q o hx).2⟩);exact ar1
   exact avz
 exact alA
end
def aft (π:List Nat)(i j p:Nat)(o:Oper):List Edge:=((o.after.toList.filter (Region.binds .any)).map λ(e:Edge)=>(⟨π.getD e.on 0,.data⟩:Edge))++(bif Nat.beq p j then [(⟨π.getD i 0,.data⟩:Edge)]else [])
def reo (L:List Oper) (π ρ:List Nat) (i j:Nat):List Oper:=(List.range L.length).map λq =>{ L.getD (ρ.getD q 0) default with after:=(aft π i j (ρ.getD q 0) (L.getD (ρ.getD q 0) default)).toArray }
def apH (L:List Oper)(π ρ:List Nat)(i j:Nat):Bool :=(List.range L.length).all (λp=>Nat.blt (π.getD p 0) L.length && Nat.beq (ρ.getD (π.getD p 0) 0) p && Nat.blt (ρ.getD p 0) L.length && Nat.beq (π.getD (ρ.getD p 0) 0) p) && Nat.blt i L.length && Nat.blt j L.length &&L.all (λo=>agG o.op && o.guard.isNone && o.after.toList.all λe=>Nat.blt e.on L.length)
theorem Wi {L:List Oper} {π ρ:List Nat} {i j:Nat} (h:apH L π ρ i j=true):Laid L.toArray (reo L π ρ i j).toArray (λp=>π.getD p 0) (λp=>ρ.getD p 0) i j:=by
 unfold apH at h;simp only [gG,oW,UA] at h;obtain ⟨⟨⟨hp,hi⟩,hj⟩,ho⟩:=h;refine ⟨by simp [reo],λp hq=>?_,λp hq=>?_,λp hq=>?_,λp hq=>?_,by simpa using dn hi,by simpa using dn hj,λp o hpo=>?_,λp o hpo=>?_⟩;.simpa using dn (hp p Rx).1.1.1
 .exact dG (hp p Rx).1.1.2
 .simpa using dn (hp p Rx).1.2
 .exact dG (hp p Rx).2
 .exact arY
 .have ZA:L[p]?=some o:=by simpa using hpo
  have:=ho o (cZ ZA);refine ⟨this.1.1,?_,λe he=>?_⟩;.exact alL
  .simpa using dn (this.2 e (by simpa using he))
section
variable {P:Program} {C:Cx} {σ:St} {o:Oper} {d:Tmp} {av:AV} {ops:Array Oper} {rest l:List Oper} {Q:Exit→St→Prop} {mem:List Bool} {Mc:List (Nat×AO)} {dB k:Nat}
theorem WA.aoh {L:List Oper} (π ρ π' ρ':List Nat) (i j:Nat) (hA:apH L π ρ i j=true) (hB:apH L π' ρ' j i=true) (hne:Nat.beq i j=false) (h1:WA P C (reo L π ρ i j).toArray σ Q) (h2:WA P C (reo L π' ρ' j i).toArray σ Q):WA P C L.toArray σ Q :=WA.either (Wi hA) (Wi hB) (λe=>by rw [e,Nat.beq_refl] at hne;cases hne) h1 h2
def Eb (P:Program)(C:Cx)(ops:Array Oper)(mem:List Bool)(Mc:List (Nat×AO))(dB k:Nat)(l:List Oper)(σ:St)(Q:Exit->St->Prop):Prop:=∃ σ',DS P C ops mem Mc dB k l σ σ'/\Q .normal σ'
theorem Eb.nil(h:Q .normal σ):Eb P C ops mem Mc dB k [] σ Q:=⟨σ,.nil k σ,h⟩
theorem Eb.v0 (hd:zq C.N ops mem Mc k dB σ.t o=some (d,true)) (h:WV P C o ⟨dR σ.t (o.looksAt ops),Mc,dB⟩ av) (r:Eb P C ops mem Mc dB (k+1) rest (σ.put d av) Q):Eb P C ops mem Mc dB k (o::rest) σ Q:=by
 obtain ⟨a,b,c,e,f,g⟩:=EG hd;obtain ⟨s,x,y⟩:=r;exact ⟨s,.val k o rest d av dB σ s a b c (.inl rfl) ⟨e,f,.inl ⟨g,h⟩⟩ x,y⟩
theorem Eb.wr {M':List (Nat×AO)} {bP:Nat} (av:AV) (hm:mem.getD k false=true) (hn:Nat.ble σ.nk bP=true) (hs:bD Mc M') (h:J4 P C ops o σ av M' bP) (r:Eb P C ops mem Mc dB (k+1) rest ⟨o9 o.dst true av++σ.t,M',bP⟩ Q):Eb P C ops mem Mc dB k (o::rest) σ Q:=by
 obtain ⟨s,x,y⟩:=r;exact ⟨s,.mem k o rest av M' bP σ s hm hn hs h x,y⟩
theorem Eb.st (hd:zq C.N ops mem Mc k dB σ.t o=some (d,true)) (h:xW P ⟨dR σ.t (o.looksAt ops),Mc,dB⟩ o.op=some av) (r:Eb P C ops mem Mc dB (k+1) rest (σ.put d av) Q):Eb P C ops mem Mc dB k (o::rest) σ Q:=Eb.v0 hd (kE rfl h) r
theorem Eb.idx {rows:List (List AV)} {z:Int} {x:List AV} (hd:zq C.N ops mem Mc k dB σ.t o=some (d,true)) (h:ae1 P ⟨dR σ.t (o.looksAt ops),Mc,dB⟩ o.op=some (rows,z)) (h0:0<=z) (hr:rows[z.toNat]?=some x) (r:Eb P C ops mem Mc dB (k+1) rest (σ.put d (.pr x)) Q):Eb P C ops mem Mc dB k (o::rest) σ Q:=Eb.v0 hd (sV h h0 hr) r
theorem Eb.al {T:TypeId} {z:Value} {l:List AV} (hd:wrB mem C.N k o=some d) (ho:o.op=.alloc T) (hz:(P.info? T).bind (·.zero)=some z) (hl:z.cells.toList.map .sc=l) (hs:bD Mc ((σ.nk,.box T l)::σ.M))(r:Eb P C ops mem Mc dB (k+1) rest ⟨(d,.pt σ.nk 0 0)::σ.t,(σ.nk,.box T l)::σ.M,σ.nk+1⟩ Q):Eb P C ops mem Mc dB k (o::rest) σ Q:=by
 obtain ⟨a,b,c,e⟩:=yU hd;have he:o9 o.dst true (.pt σ.nk 0 0)=[(d,.pt σ.nk 0 0)]:=by rw [b];rfl
 refine Eb.wr (.pt σ.nk 0 0) a (pY (xZ _)) hs ⟨c,λt _=>?_⟩ YM;rw [he];exact WO.alloc (σ:=⟨t,σ.M,σ.nk⟩) ho hz b e hl rfl
theorem Eb.xq {T m:Nat} {x y:Operand} {q i j:Nat} {ob ob':AO} {l:List AV} {M2:List (Nat×AO)} (hm:mem.getD k false=true) (hg:o.guard=none) (hds:o.dst=none) (ho:o.op=.store T x y) (hn:fZ P T=some m) (hx:σ.ev x=some (.pt q i j)) (hk:look q σ.M=some ob) (hy:σ.ev y=some av)(hB:av.l7=true) (hl:av.cells=l) (hlm:l.length=m) (h1:l.all AV.xO=true) (hp:ob.put i j l=some ob') (hM:zu q σ.M=some M2) (hs:bD Mc ((q,ob')::M2)) (r:Eb P C ops mem Mc dB (k+1) rest ⟨σ.t,(q,ob')::M2,σ.nk⟩ Q):Eb P C ops mem Mc dB k (o::rest) σ Q:=by
 have he:∀ av,o9 o.dst true av=[]:=λav=>by rw [hds];rfl
 refine Eb.wr (.sc undef) hm (pY (Nat.le_refl _)) hs ⟨hg,λt H=>?_⟩ YM;rw [he];have hmem:∀ z∈[x,y],z∈o.op.operands.toList:=λz hz=>by rw [ho];simp [Op.operands] at hz ⊢;exact hz
 rw [jE hM];exact yT (WO.store (σ:=⟨t,σ.M,σ.nk⟩) ho hds hn ((kC H (hmem x (by simp))).trans hx) hk ((kC H (hmem y (by simp))).trans hy) hB hl hlm h1 hp)
theorem WA.ds (mem:List Bool)(ms:List Nat)(hB:Region.lexB .any l.toArray=true)(hch:chainB l.toArray mem=true)(SG:bD (nY σ.M ms) σ.M)(h:Eb P C l.toArray mem (nY σ.M ms) σ.nk 0 l σ Q):WA P C l.toArray σ Q:=let⟨_,a,b⟩:=h;WA.awo mem (nY σ.M ms) hB hch SG a b
end
section
variable {B:World→View→Prop} {gl:Nat} {P:Program} {C:Cx} {σ:St} {o:Oper} {d:Tmp} {ops:Array Oper} {rest:List Oper} {Q:Exit→St→Prop} {mem:List Bool} {Mc:List (Nat×AO)} {dB k:Nat}
def axy (P:Program)(σ:St):Op->Option (List (List AV))
 | .binOp .eql T x y _ =>match P.underlying T,σ.ev x,σ.ev y with
  | some (.slice _),some (.ls _ rows),some (.sc (.slice none _ _))=>some rows| _,_,_=>none
 | _=>none
theorem WL.nlq {rows:List (List AV)} (hd:ji C.N o=some d) (h:axy P σ o.op=some rows) (hk:∀ b:Bool,(b=true->rows=[])->WL P C ops rest (σ.put d (.sc (.bool b))) Q):WL P C ops (o::rest) σ Q:=by
 intro G a w ok;unfold axy at h;split at h
 .rename_i T x y Ty ho;split at h
  .rename_i e n rows' m c hT hx hy;cases h;obtain ⟨A,cap,ad,u,e1,h1,h2,h3,h4,h5⟩:=(ok.l9 hx).2.E8.Ce;have ey:=ok.evs hy;obtain ⟨q1,q2,q3⟩:=gK hd;refine wpList_plain q1 λK hK=>?_;refine lN ?_;have hrun:=Lib.run_eql_slice_nil (P:=P) w T e A rows.length cap m c hT;simp only [ho,e1,ey,eqGuard,Sem.run_bind,Sem.run_pure,Result.andThen_ok,hrun];simp only [Bool.not_true,Nz,if_false,Sem.run_bind,Sem.run_pure,Result.andThen_ok,hrun,Oper.upon];refine hK _ _ (hk A.isNone (λhn=>?_) G _ w ?_);.cases A with
    | some z=>cases hn| none =>
     rcases abu rows.length with h0|h0;.exact sN h0
     .exact absurd (h2 h0) (by simp)
   .rw [q2];exact ok.set (d:=some d) (.pu _ _ (.sc _)) (.sc _) λx hx=>by cases hx;exact dn q3
  .cases h
 .cases h
theorem Tr.EH (k j n:Nat) {T:TypeId} {cells cells':List AV} (hk:look k σ.M=some (.box T cells)) (hj:cells[j]?=some (.sc (.slice none 0 0))) (he:cells.set j (.ls n [])=cells'):Tr C σ (σ.upd k (.box T cells')):=λG a w ok=>by
 subst he;obtain ⟨g1,g2,g3,cs,Φ,g4,g5,g6,g7,g8⟩:=ok.ob k _ hk;have hjl:=(List.getElem?_eq_some_iff.1 hj).1;refine ⟨G,ok.aaM hk ⟨g1,λi av hx=>?_,g3,cs,Φ,g4,by simpa using g5,g6,g7,λi av u hx hu=>?_⟩⟩
 .by_cases e:j=i
  .subst e;rw [sK hjl] at hx;cases hx;exact .ls _ _
  .rw [pV e] at hx;exact g2 i av hx
 .by_cases e:j=i
  .subst e;rw [sK hjl] at hx;cases hx;have:=(g8 j _ u hj hu).r rfl;rw [this.fM];exact .inl (.pu _ _ (.ls n [] none 0 ⟨0,0,none⟩ (λ_ _=>undef) (by simp) (by simp) (by simp) (by simp) (by simp)))
  .rw [pV e] at hx;exact g8 i av u hx hu
end
section
variable {P:Program} {C:Cx} {σ:St} {o:Oper} {d:Tmp} {ops:Array Oper} {rest:List Oper} {Q:Exit→St→Prop} {mem:List Bool} {Mc:List (Nat×AO)} {dB k:Nat}
theorem TM {T n i j:Nat} {rows:List (List AV)} {r l:List AV} (hr:rows[i]?=some r)(hj:j+l.length<=r.length)(hp:l.all AV.TL=true):(AO.row T n rows).put i j l=some (.row T n (rows.set i (jL j l r))):=by simp_all[AO.put]
end
section
variable {B:World→View→Prop} {gl:Nat} {P:Program} {C:Cx} {ops:Array Oper} {rest:List Oper} {σ:St} {o:Oper} {d:Tmp} {Q:Exit→St→Prop}
def avd (σ:St):Op->Option (Int×Int)
 | .binOp .sub _ x y _ =>match σ.ev x,σ.ev y with
  | some (.sc (.int .u8 m)),some (.sc (.int .u8 n))=>some (m,n)| _,_=>none
 | _=>none
theorem ap0 {m n:Int} (h:avd σ o.op=some (m,n))(hb:0<=m-n/\m-n<=255):WV P C o σ (.sc (.int .u8 (m-n))):=by
 unfold avd at h;split at h
 .rename_i T x y Ty ho;split at h
  .rename_i m n hx hy;cases h;have e:IntKind.u8.wrap (m-n)=m-n:=by
    have e:(m-n) % 256=m-n:=Int.emod_eq_of_lt hb.1 au;simp [IntKind.wrap,IntKind.bits,IntKind.signed,e]
   exact WV.sc λG a w ok=>by unfold execOp;simp [ho,ok.evs hx,ok.evs hy,eqGuard,binOp,Op.intArith,e]
  .cases h
 .cases h
theorem WL.sb8 {m n:Int} (hd:ji C.N o=some d)(h:avd σ o.op=some (m,n))(hb:0<=m-n/\m-n<=255)(k:WL P C ops rest (σ.put d (.sc (.int .u8 (m-n)))) Q):WL P C ops (o::rest) σ Q:=WL.vl hd (ap0 h hb) k
end
end
end Go.Proofs.YthohlofpphjofaaGreatDoor
