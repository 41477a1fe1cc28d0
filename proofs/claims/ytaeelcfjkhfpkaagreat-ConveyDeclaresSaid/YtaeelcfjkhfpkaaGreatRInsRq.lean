/- Check of an instrument: the reference. -/
import Derived.Test.YtaeelcfjkhfpkaaGreatFNRq
set_option maxHeartbeats 1600000
set_option maxRecDepth 100000
set_option linter.unusedVariables false
set_option linter.unusedSimpArgs false
namespace Go.Proofs.YtaeelcfjkhfpkaaGreat
section
open Go.RowKit
def aft (π:List Nat)(i j p:Nat)(o:Oper):List Edge:=((o.after.toList.filter (Region.binds .any)).map fun (e:Edge)=>(⟨π.getD e.on 0,.data⟩:Edge))++(bif Nat.beq p j then [(⟨π.getD i 0,.data⟩:Edge)]else [])
def reo (L:List Oper) (π ρ:List Nat) (i j:Nat):List Oper:=(List.range L.length).map fun q =>
 { L.getD (ρ.getD q 0) default with after:=(aft π i j (ρ.getD q 0) (L.getD (ρ.getD q 0) default)).toArray }
section
variable {P:Program} {C:Cx} {σ:St} {o:Oper} {d:Tmp} {av:AV} {ops:Array Oper} {rest l:List Oper} {Q:Exit→St→Prop} {mem:List Bool} {Mc:List (Nat×AO)} {nk0 k:Nat}
def DSK (P:Program)(C:Cx)(ops:Array Oper)(mem:List Bool)(Mc:List (Nat×AO))(nk0 k:Nat)(l:List Oper)(σ:St)(Q:Exit→St→Prop):Prop:=∃ σ',DS P C ops mem Mc nk0 k l σ σ'∧Q .normal σ'
theorem DSK.nil(h:Q .normal σ):DSK P C ops mem Mc nk0 k [] σ Q:=⟨σ,.nil k σ,h⟩
theorem DSK.v0 (hd:memB C.N ops mem Mc k nk0 σ.t o=some (d,true)) (h:WV P C o ⟨onlyT σ.t (o.looksAt ops),Mc,nk0⟩ av) (r:DSK P C ops mem Mc nk0 (k+1) rest (σ.put d av) Q):DSK P C ops mem Mc nk0 k (o::rest) σ Q:=by
 obtain ⟨a,b,c,e,f,g⟩:=memB_of hd
 obtain ⟨s,x,y⟩:=r
 exact ⟨s,.val k o rest d av nk0 σ s a b c (.inl rfl) ⟨e,f,.inl ⟨g,h⟩⟩ x,y⟩
theorem DSK.wr {M':List (Nat×AO)} {nk':Nat} (av:AV) (hm:mem.getD k false=true) (hn:Nat.ble σ.nk nk'=true) (hs:msSub Mc M') (h:DoesS P C ops o σ av M' nk') (r:DSK P C ops mem Mc nk0 (k+1) rest ⟨ent1 o.dst true av++σ.t,M',nk'⟩ Q):DSK P C ops mem Mc nk0 k (o::rest) σ Q:=by
 obtain ⟨s,x,y⟩:=r
 exact ⟨s,.mem k o rest av M' nk' σ s hm hn hs h x,y⟩
theorem DSK.st (hd:memB C.N ops mem Mc k nk0 σ.t o=some (d,true)) (h:stepV P ⟨onlyT σ.t (o.looksAt ops),Mc,nk0⟩ o.op=some av) (r:DSK P C ops mem Mc nk0 (k+1) rest (σ.put d av) Q):DSK P C ops mem Mc nk0 k (o::rest) σ Q:=DSK.v0 hd (stepV_of rfl h) r
theorem DSK.idx {rows:List (List AV)} {z:Int} {x:List AV} (hd:memB C.N ops mem Mc k nk0 σ.t o=some (d,true)) (h:idxV P ⟨onlyT σ.t (o.looksAt ops),Mc,nk0⟩ o.op=some (rows,z)) (h0:0≤z) (hr:rows[z.toNat]?=some x) (r:DSK P C ops mem Mc nk0 (k+1) rest (σ.put d (.pr x)) Q):DSK P C ops mem Mc nk0 k (o::rest) σ Q:=DSK.v0 hd (idxV_of h h0 hr) r
theorem DSK.al {T:TypeId} {z:Value} {l:List AV} (hd:wrB mem C.N k o=some d) (ho:o.op=.alloc T) (hz:(P.info? T).bind (·.zero)=some z) (hl:z.cells.toList.map .sc=l) (hs:msSub Mc ((σ.nk,.box T l)::σ.M))
  (r:DSK P C ops mem Mc nk0 (k+1) rest ⟨(d,.pt σ.nk 0 0)::σ.t,(σ.nk,.box T l)::σ.M,σ.nk+1⟩ Q):DSK P C ops mem Mc nk0 k (o::rest) σ Q:=by
 obtain ⟨a,b,c,e⟩:=wrB_of hd
 have he:ent1 o.dst true (.pt σ.nk 0 0)=[(d,.pt σ.nk 0 0)]:=by rw [b];rfl
 refine DSK.wr (.pt σ.nk 0 0) a (Nat.ble_eq_true_of_le (Nat.le_succ _)) hs ⟨c,fun t _=>?_⟩ (by rw [he];exact r)
 rw [he]
 exact WO.alloc (σ:=⟨t,σ.M,σ.nk⟩) ho hz b e hl rfl
theorem DSK.sto {T m:Nat} {x y:Operand} {q i j:Nat} {ob ob':AO} {l:List AV} {M2:List (Nat×AO)} (hm:mem.getD k false=true) (hg:o.guard=none) (hds:o.dst=none) (ho:o.op=.store T x y) (hn:sizeB P T=some m) (hx:σ.ev x=some (.pt q i j)) (hk:look q σ.M=some ob) (hy:σ.ev y=some av)
  (hB:av.cellB=true) (hl:av.cells=l) (hlm:l.length=m) (h1:l.all AV.oneB=true) (hp:ob.put i j l=some ob') (hM:remS q σ.M=some M2) (hs:msSub Mc ((q,ob')::M2)) (r:DSK P C ops mem Mc nk0 (k+1) rest ⟨σ.t,(q,ob')::M2,σ.nk⟩ Q):DSK P C ops mem Mc nk0 k (o::rest) σ Q:=by
 have he:∀ av,ent1 o.dst true av=[]:=fun av=>by rw [hds];rfl
 refine DSK.wr (.sc undef) hm (Nat.ble_eq_true_of_le (Nat.le_refl _)) hs ⟨hg,fun t H=>?_⟩ (by rw [he];exact r)
 rw [he]
 have hmem:∀ z∈[x,y],z∈o.op.operands.toList:=fun z hz=>by rw [ho];simp [Op.operands] at hz ⊢;exact hz
 rw [remS_eq hM]
 exact wo_rem (WO.store (σ:=⟨t,σ.M,σ.nk⟩) ho hds hn ((ev_agree H (hmem x (by simp))).trans hx) hk ((ev_agree H (hmem y (by simp))).trans hy) hB hl hlm h1 hp)
theorem WA.ds (mem:List Bool)(ms:List Nat)(hB:Region.lexB .any l.toArray=true)(hch:chainB l.toArray mem=true)(hMc:msSub (onlyM σ.M ms) σ.M)
  (h:DSK P C l.toArray mem (onlyM σ.M ms) σ.nk 0 l σ Q):WA P C l.toArray σ Q:=let⟨_,a,b⟩:=h;WA.drawS mem (onlyM σ.M ms) hB hch hMc a b
end
end
section
open Go.RowKit
theorem topOf_fret {st:List Int} {p:Int} {k:Nat} {o:Bool} (hk:k<st.length):topOf st (p,(k:Int)+1,o)=p+st[k]+if o then 12 else 0:=by
 unfold topOf
 have h0:(0:Int)<(k:Int)+1:=by omega
 have:((k:Int)+1).toNat-1=k:=by omega
 simp only [if_pos h0]
 rw [this,List.getD_eq_getElem?_getD,List.getElem?_eq_getElem hk];rfl
theorem topOf_open {st:List Int} {p:Int} {o:Bool}:topOf st (p,0,o)=p+if o then 12 else 0:=by unfold topOf;simp
theorem rInsCheck (A1 A2:Option Addr) (cs:List (Int×Int×Bool)) (st:List Int) (n1 n2 c1 c2:Nat) (w:World) (hI:InsAt w w.heap.size A1 A2 cs st) (hn1:n1=cs.length) (hn2:n2=st.length) :
    Calls Tryz.prog 69 #[.agg #[.slice A1 n1 c1,.slice A2 n2 c2]] w (Ret (.int .i64 (insE cs st)) w):=by
  by_cases hm1:14 < n1
  · rw [insE_many (.inl (by omega))]
    clear hn1 hn2 hI
    go_enter Tryz.func69,Tryz.ntmps69
    go_wp2
    go_ret
    exact Ret.mk' rfl zqb
  · by_cases hm2:18 < n2
    · rw [insE_many (.inr (by omega))]
      clear hn1 hn2 hI
      go_enter Tryz.func69,Tryz.ntmps69
      go_wp2
      go_ret
      exact Ret.mk' rfl zqb
    · by_cases hz:n1=0
      · rw [insE_none (by omega) (by omega)]
        subst hz
        clear hn1 hn2 hI
        go_enter Tryz.func69,Tryz.ntmps69
        go_wp2
        go_ret
        exact Ret.mk' rfl zqb
      · have hnz:0 < n1:=by omega
        have HI:=Lib.hid hI
        have HN1:=Lib.hid hn1
        have HN2:=Lib.hid hn2
        have HE1:=Lib.hid (fun h=>insE_steps (cs:=cs) (st:=st) zqo h)
        have HE2:=Lib.hid (fun h=>insE_crs (cs:=cs) (st:=st) zqo zqo h)
        have h18:st.length≤18:=by omega
        have hi1:n2≤18:=by omega
        have hi2:n1≤14:=by omega
        clear hI hn1 hn2 hz hm1 hm2
        go_enter Tryz.func69,Tryz.ntmps69
        go_wp2
        go_loop [3,4] (fun last i=>∃ (k:Nat) (x:Int),k≤n2∧i=.int .i64 k∧last=.int .i64 x∧stepsBad 0 st=stepsBad x (st.drop k)) (fun _ i=>n2 - (intOf i).toNat)
        case atStart=>exact ⟨0,0,Nat.zero_le _,rfl,rfl,rfl⟩
        case round =>
          obtain ⟨k,x,hk,rfl,rfl,hs⟩:=hrel
          have HS:=Lib.hid hs
          clear hs
          by_cases hlt:k < n2
          · have hk2:k < st.length:=by have:=HN2.out;omega
            obtain ⟨ad,hA,hb,hc⟩:=HI.out.step hk2
            subst hA
            have hs2:=HS.out.trans (stepsBad_at hk2)
            obtain ⟨y,hy⟩:∃ y,st[k]=y:=⟨_,rfl⟩
            rw [hy] at hc hs2
            have hc2:∀ o:Obj,(w.alloc o).cell? (ad.add k)=some (.int .i64 y):=fun o=>by
              rw [World.cell?_alloc_lt _ _ _ (by rw [block_of_add];omega),hc]
            clear hc hy
            by_cases hb1:y≤x
            · have HE:=Lib.hid (HE1.out (hs2.trans (by simp [hb1])))
              clear hs2
              go_wp2
              go_ret
              exact Ret.mk' (by rw [HE.out];rfl) zqb
            · by_cases hb2:127 < y
              · have HE:=Lib.hid (HE1.out (hs2.trans (by simp [hb2])))
                clear hs2
                go_wp2
                go_ret
                exact Ret.mk' (by rw [HE.out];rfl) zqb
              · have HS3:=Lib.hid (hs2.trans (show _=stepsBad y (st.drop (k+1)) by simp [hb1,hb2]))
                clear hs2
                go_wp2
                go_round
                case rel=>exact ⟨k+1,y,by omega,by go_num,rfl,HS3.out⟩
                case measure=>simp [intOf];omega
          · have hsF:stepsBad 0 st=false:=by
              have h:=HS.out
              rw [h,List.drop_eq_nil_of_le (by have:=HN2.out;omega)];rfl
            have HE:=Lib.hid (HE2.out hsF)
            have HBD:=Lib.hid (stepsBad_bd zqo hsF)
            clear hsF
            go_wp2
            go_loopw [5] (fun i wr=>∃ k:Nat,k≤n1∧i=.int .i64 k∧crsE st cs=crsE st (cs.drop k)∧Below w.heap.size w wr∧Blk wr w.heap.size 26 #[.slice A1 n1 c1,.slice A2 n2 c2]) (fun i _=>n1 - (intOf i).toNat)
            case atStart=>exact ⟨0,Nat.zero_le _,rfl,rfl,zqb,Blk.new _ _ _⟩
            case round =>
              obtain ⟨j,hj,rfl,hs,hbel,hblk⟩:=hrel
              have HC:=Lib.hid hs
              have HB:=Lib.hid hblk
              have hlt3:w.heap.size < wr.heap.size:=hblk.lt
              have q0:wr.cell? ⟨w.heap.size,0,none⟩=some (.slice A1 n1 c1):=hblk.cell 0
              have q1:wr.cell? ⟨w.heap.size,1,none⟩=some (.slice A2 n2 c2):=hblk.cell 1
              clear hs hblk
              by_cases hlt2:j < n1
              · have hj2:j < cs.length:=by have:=HN1.out;omega
                have HI2:=Lib.hid (HI.out.below hbel)
                obtain ⟨ad,hA,hb,hc0,hc1,hc2⟩:=HI2.out.crs hj2
                subst hA
                have hs2:=HC.out.trans (crsE_at hj2)
                obtain ⟨⟨p,f,o⟩,hx⟩:∃ x,cs[j]=x:=⟨_,rfl⟩
                rw [hx] at hc0 hc1 hc2 hs2
                simp only at hc0 hc1 hc2 hs2
                have HI3:=Lib.hid (fun o=>HI2.out.alloc (hbel.size) o)
                have hbel4:∀ o:Obj,Below w.heap.size w (wr.alloc o):=fun o=>hbel.alloc hbel.size o
                have HB4:=Lib.hid (fun o=>HB.out.alloc o)
                have hn3:(st.length:Int)=n2:=by have:=HN2.out;omega
                by_cases b1:f < 0
                · have HE3:=Lib.hid (HE.out.trans (hs2.trans (if_pos (.inl b1))))
                  clear hs2
                  go_wp2
                  go_ret
                  exact Ret.mk' (by rw [HE3.out];rfl) zqb
                · by_cases b2:(n2:Int) < f
                  · have HE3:=Lib.hid (HE.out.trans (hs2.trans (if_pos (.inr zqo))))
                    clear hs2 hn3
                    go_wp2
                    go_ret
                    exact Ret.mk' (by rw [HE3.out];rfl) zqb
                  · rw [if_neg (by omega)] at hs2
                    by_cases b3:p < 0
                    · have HE3:=Lib.hid (HE.out.trans (hs2.trans (if_pos (.inl (.inl b3)))))
                      clear hs2 hn3
                      go_wp2
                      go_ret
                      exact Ret.mk' (by rw [HE3.out];rfl) zqb
                    · by_cases b4:127 < p
                      · have HE3:=Lib.hid (HE.out.trans (hs2.trans (if_pos (.inl (.inr b4)))))
                        clear hs2 hn3
                        go_wp2
                        go_ret
                        exact Ret.mk' (by rw [HE3.out];rfl) zqb
                      · have hsz:=hbel.size
                        by_cases b6:0 < f
                        · obtain ⟨i,hi⟩:∃ i:Nat,f=(i:Int)+1:=⟨f.toNat - 1,by omega⟩
                          subst hi
                          have hi2:i < st.length:=by omega
                          obtain ⟨ad2,hA,hb3,hc3⟩:=HI2.out.step hi2
                          subst hA
                          have hbd:=HBD.out i hi2
                          rw [topOf_fret hi2] at hs2
                          have hi3:i < n2:=by omega
                          obtain ⟨y,hy⟩:∃ y,st[i]=y:=⟨_,rfl⟩
                          rw [hy] at hc3 hs2 hbd
                          have hc4:∀ o:Obj,(wr.alloc o).cell? (ad2.add i)=some (.int .i64 y):=fun o=>by
                            rw [World.cell?_alloc_lt _ _ _ (by rw [block_of_add];omega),hc3]
                          clear hc3 hy hn3
                          by_cases b5:127 < p+y+if o then 12 else 0
                          · have HE3:=Lib.hid (HE.out.trans (hs2.trans (if_pos (.inr b5))))
                            clear hs2
                            cases o
                            all_goals
                              simp only [if_true,Bool.false_eq_true,if_false] at b5
                              go_wp2
                              go_ret
                              exact Ret.mk' (by rw [HE3.out];rfl) zqb
                          · rw [if_neg (by omega)] at hs2
                            have HS4:=Lib.hid hs2
                            clear hs2
                            cases o
                            all_goals
                              simp only [if_true,Bool.false_eq_true,if_false] at b5
                              go_wp2
                              go_roundw
                              case rel=>exact ⟨j+1,by omega,by go_num,HS4.out,zqb,HB4.out _⟩
                              case measure=>simp [intOf];omega
                        · have hi:f=0:=by omega
                          subst hi
                          rw [topOf_open] at hs2
                          clear hn3
                          by_cases b5:127 < p+if o then 12 else 0
                          · have HE3:=Lib.hid (HE.out.trans (hs2.trans (if_pos (.inr b5))))
                            clear hs2
                            cases o
                            all_goals
                              simp only [if_true,Bool.false_eq_true,if_false] at b5
                              first
                              | omega
                              | (go_wp2
                                 go_ret
                                 exact Ret.mk' (by rw [HE3.out];rfl) zqb)
                          · rw [if_neg (by omega)] at hs2
                            have HS4:=Lib.hid hs2
                            clear hs2
                            cases o
                            all_goals
                              simp only [if_true,Bool.false_eq_true,if_false] at b5
                              go_wp2
                              go_roundw
                              case rel=>exact ⟨j+1,by omega,by go_num,HS4.out,zqb,HB4.out _⟩
                              case measure=>simp [intOf];omega
              · have HE3:=Lib.hid (HE.out.trans (HC.out.trans (show crsE st (cs.drop j)=0 from by rw [List.drop_eq_nil_of_le (by have:=HN1.out;omega)];rfl)))
                go_wp2
                go_ret
                exact Ret.mk' (by rw [HE3.out];rfl) zqb
end
end Go.Proofs.YtaeelcfjkhfpkaaGreat
