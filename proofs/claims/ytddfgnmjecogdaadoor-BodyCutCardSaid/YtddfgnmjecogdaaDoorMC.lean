import Derived.Test.YtddfgnmjecogdaaDoorMB
import Derived.IntWalk
import Derived.Lib.Builder
import Derived.DeepKeys3
import Derived.MapKept
import Derived.Lib.UnsafeStr
open Array renaming length_toList→ik,getElem?_modify→my,getElem?_eq_getElem→ie,size_append→na,getElem?_toList→nb,range→ix,getElem?_push→im,toList_map→iv,getD→nc
open List renaming take_of_length_le→ed,getElem?_set_self→nd,getElem?_cons_zero→np,getElem?_cons_succ→nz,length_append→dC,getD_eq_getElem?_getD→dd,length_take→eQ,length_cons→od,mem_of_getElem?→oe,getElem?_toArray→oi,getElem?_set_ne→ov,mem_of_mem_take→dt,getElem?_take→dq,length_map→oR,getElem_map→dE,mem_cons→oT,mem_append→o0,set_set→o6,take_take→pa,take_append_of_le_length→pb,replicate→db,getElem?_append_left→pf,getElem?_eq_getElem→da,all_cons→ph,map_cons→pj,length_eq_zero_iff→pk,length_set→eh,length→pn,getElem?_drop→dv,size_toArray→po,append_assoc→pr,mem_map→fi,take_length→pw,map_append→px,take_set→py,map_take→pA,set_comm→pB
open Go.Sem renaming run_bind→km,run_pure→kp
open Bool renaming and_eq_true→di,false_eq_true→pC,or_eq_false_iff→pD,not_false→qf,or_eq_true→kd,false_or→qs
open Go.Result renaming andThen_ok→kv,andThen→ra
open Nat renaming le_of_ble_eq_true→ft,eq_of_beq_eq_true→a8,le_refl→ch,mul_le_mul_right→fx,min_eq_left→rb,add_mul→re,add_zero→rf,min→cp,zero_add→rh,ble_eq_true_of_le→ri,eq_zero_or_pos→rk,mul_eq_zero→rl,min_le_left→rn,mod_lt→rp,ble→a7,beq→a6,le_of_eq→rr,sub_mul→gl,beq_eq→fw
open Option.some renaming injEq→dk
open Prod.mk renaming injEq→kl
open Go.Instr renaming lookup→rv,mapUpdate→sa,findNow→sb,makeSlice→sd,typeAssert→se,buildSlice→sf,checkKey→sg,sameBits→si,storeAt→sl,sureAddr→lj,sameNow→sm,keyThatStays→ss,alloc→sR
open Option renaming map_eq_some_iff→ja,map_some→jn
open Go.World renaming alloc_eq→sT,size_drew→s0,shape?→ta,drew_eq→tc,freeze→tf
open Go.IntKind renaming i64→tl
open Int renaming toNat_of_nonneg→tp,natCast_mul→tz,ofNat_le→ua
open Go.Question renaming appendCap→ub,forced→ui
open Go.Builtin renaming zeroCells→uv,append_→vb,firstCells→mf,lenOf→mi,nextslicecap→vj,copy_→vt
open Go.Value renaming int→vz
open UInt8 renaming ofNat→wc
open ByteArray renaming emptyWithCapacity→wy,empty→xc
open Go.MapKept renaming run_getObj_map→xf,run_findKey→xi,run_setObj_map→xo,run_checkKey→xv,IsKey→yb,heap_set→yi,bytes_beq→yn
open Go.Op renaming equalIn→yo,equal→yr
section
namespace Go.Am
open Go.RowKit
theorem heap_setCell {w:World} {c o:Nat} {v:Value} {cs:Array Value} {e:TypeId} {n:Nat×Nat} (h:w.heap[c]? = some (.cells cs e n)) :
  (w.setCell ⟨c,o,none⟩ v).heap[c]? = some (.cells (cs.setIfInBounds o v) e n) ∧ ∀k,k≠c→(w.setCell ⟨c,o,none⟩ v).heap[k]? = w.heap[k]? :=by
 refine⟨?_,fun k hk=>Below.heap_setCell _ _ _ _ hk⟩
 simp[World.setCell,my,h]
section ops
variable {P:Program} {g:Gh} {m:Mem} {w:World}
theorem fS (c off:Nat) : ∀(vs:List Value) (i:Nat) (w:World) (cs:Array Value) (e:TypeId) (n:Nat×Nat),w.heap[c]? = some (.cells cs e n) →
  (∀j,j<vs.length→n.2≤n.1∨off+i+j<n.1)→off+i+vs.length≤cs.size→(∀v∈vs,v.oneCell'=true) →
  ∃w' cs',(storeCells ⟨c,off,none⟩ vs i).run P w = .ok () w'∧w'.heap[c]? = some (.cells cs' e n)∧cs'.toList=bK cs.toList (off+i) vs∧(∀k,k≠c→w'.heap[k]? = w.heap[k]?) ∧
   w'.heap.size=w.heap.size∧w'.os=w.os∧w'.tape=w.tape∧w'.output=w.output
 |[],i,w,cs,e,n,h,_,_,_=>⟨w,cs,rfl,h,rfl,fun _ _=>rfl,rfl,rfl,rfl,rfl⟩
 |v::vs,i,w,cs,e,n,h,hf,hl,h1=>by
  simp only[od] at hl
  obtain⟨k1,k2⟩:=heap_setCell (o:=off+i) (v:=v) h
  have hcell:w.cell? ⟨c,off+i,none⟩=some cs[off+i]:=by rw[aH h,ie (by omega)]
  have hfz:w.frozen? ⟨c,off+i,none⟩=false:=by
   have:=hf 0 (by simp)
   simp only[World.frozen?,h,Bool.and_eq_false_iff,decide_eq_false_iff_not]
   omega
  obtain⟨w',cs',q1,q2,q3,q4,q5,q6,q7,q8⟩:=fS c off vs (i+1) (w.setCell ⟨c,off+i,none⟩ v) (cs.setIfInBounds (off+i) v) e n k1
   (fun j hj=>by have:=hf (j+1) (by simp;omega);omega) (by simp;omega) (fun u hu=>h1 u (.tail _ hu))
  refine⟨w',cs',?_,q2,?_,fun k hk=>(q4 k hk).trans (k2 k hk),q5.trans (by simp),q6,q7,q8⟩
  · simp only[storeCells,km,cm,run_store P w _ v _ (h1 v (.head _)),hcell,hfz,pC,if_false,kv,q1]
  · rw[q3];simp[bK,Nat.add_assoc]
theorem uy {α:Type} (f:Nat→α) (n:Nat) (h:n=0):((ix n).map f).toList=[]:=by subst h;simp
theorem fY {α:Type} : ∀(n l:List α) (o:Nat),(bK l o n).length=l.length
 |[],_,_=>rfl
 |x::n,l,o=>by simp[bK,fY n]
theorem Aj {α β:Type} (f:α→β) : ∀(n l:List α) (o:Nat),(bK l o n).map f=bK (l.map f) o (n.map f)
 |[],_,_=>rfl
 |x::n,l,o=>by simp[bK,Aj f n,List.map_set]
theorem uz {α:Type} : ∀(n l:List α) (o k:Nat),k<o∨o+n.length≤k→(bK l o n)[k]? = l[k]?
 |[],_,_,_,_=>rfl
 |x::n,l,o,k,h=>by
  simp only[od] at h
  rw[bK,uz n _ (o+1) k (by omega),ov (by omega)]
theorem Ak {α:Type} : ∀(n l:List α) (o k:Nat) (_:k<n.length),o+n.length≤l.length→(bK l o n)[o+k]? = n[k]?
 |x::n,l,o,0,_,h=>by
  simp only[od] at h
  simp only[bK,rf]
  rw[uz n _ (o+1) o (.inl (Nat.lt_succ_self _)),nd (by omega)]
  rfl
 |x::n,l,o,k+1,hk,h=>by
  simp only[od] at h
  have hk:k<n.length:=by simpa using hk
  simp only[bK,show o+(k+1)=o+1+k by omega]
  rw[Ak n _ (o+1) k hk (by rw[eh];omega)]
  simp
 |[],_,_,_,hk,_=>by simp at hk
theorem Al {g:Gh} {w:World} {v:AV} {cv:Value} (h:VA g w v cv):VA g w (zQ v) cv:=by
 unfold zQ
 split
 · cases h with
   |os tok len sz cells a cap h hr=>exact .p _ _ h
 · exact h
theorem mA {g:Gh} {w:World} : ∀{l:List AV} {cs:List Value},bO g w l cs→bO g w (l.map zQ) cs
 |[],[],_=>trivial
 |_::_,_::_,h=>⟨Al h.1,mA h.2⟩
 |[],_::_,h=>h.elim
 |_::_,[],h=>h.elim
theorem uA {g:Gh} {w:World} {q:Bool} {l:List AV} {cs:List Value} (h:bO g w l cs):bO g w (EC q l) cs:=by
 cases q with
 |true=>exact mA h
 |false=>exact h
theorem uB (q:Bool) (l:List AV):(EC q l).length=l.length:=by
 cases q with
 |true=>exact oR ..
 |false=>rfl
theorem jo {b b':aF} {off:Nat} {vs:List AV} (h:oP b off vs=some (b',true)):(∃l,b.cells?=some l∧b'.cells?=some (bK l off vs)∧off+vs.length≤l.length) ∨
  (∃t q l,b = .ob (.gr t q) l∧b' = .ob (.gr t q) (bK l off (EC q vs))∧off+(EC q vs).length≤l.length) ∨
  ∃t pre l,b = .ob (.stk t pre) l∧b' = .ob (.stk t pre) (bK l (off-pre.length) vs)∧pre.length≤off∧off-pre.length+vs.length≤l.length:=by
 unfold oP at h
 split at h
 · rename_i l
   split at h
   · rename_i bT hp
     simp only[dk,kl] at h
     obtain⟨rfl,h1⟩:=h
     refine .inl ⟨l.map .p,rfl,?_,by simpa using ft h1⟩
     simp[aF.cells?,Aj,oZ hp]
   · simp only[dk,kl] at h
     obtain⟨rfl,h1⟩:=h
     exact .inl ⟨l.map .p,rfl,rfl,by simpa using ft h1⟩
 · rename_i l
   simp only[dk,kl] at h
   obtain⟨rfl,h1⟩:=h
   exact .inl ⟨l,rfl,rfl,ft h1⟩
 · rename_i t pq l
   simp only[dk,kl] at h
   obtain⟨rfl,h1⟩:=h
   exact .inr (.inl ⟨_,_,l,rfl,rfl,by rw[uB];exact ft h1⟩)
 · rename_i t pre l
   simp only[dk,kl,di] at h
   obtain⟨rfl,h1,h2⟩:=h
   exact .inr (.inr ⟨_,_,l,rfl,rfl,ft h1,ft h2⟩)
 · cases h
theorem jP {α:Type} : ∀(n pre l:List α) (o:Nat),pre.length≤o→bK (pre++l) o n=pre++bK l (o-pre.length) n
 |[],_,_,_,_=>rfl
 |v::n,pre,l,o,h=>by
  simp only[bK]
  rw[List.set_append_right _ _ h,jP n pre _ (o+1) (by omega)]
  congr 2
  omega
theorem xw {α:Type} : ∀(n l:List α) (o k:Nat),o+n.length≤k→(bK l o n).take k=bK (l.take k) o n
 |[],_,_,_,_=>rfl
 |v::n,l,o,k,h=>by
  simp only[od] at h
  simp only[bK]
  rw[xw n (l.set o v) (o+1) k (by omega),py]
theorem Rel.uC {m:Mem} {w w':World} (h:Rel g m w) {b c:Nat} {k xs:List AV} {us:List Value} {off:Nat} {cs cs':Array Value} {e t:TypeId} {pq:Bool} {n:Nat×Nat} (hb:m[b]? = some (.ob (.gr t pq) k)) (hc:g.aN b=some c) (hcs:w.heap[c]? = some (.cells cs e n))
  (hx:bO g w xs us) (hone : ∀v∈us,v.oneCell'=true) (hroom:off+xs.length≤k.length) (hl:cs'.toList=bK cs.toList off us)
  (hw : ∀j,j≠c→w'.heap[j]? = w.heap[j]?) (hs:w'.heap.size=w.heap.size) (ho:w'.os=w.os) (ht:w'.tape=w.tape) (hu:w'.output=w.output) (hh:w'.heap[c]? = some (.cells cs' e n)) :
  Rel g (m.set b (.ob (.gr t pq) (bK k off xs))) w'∧Ext g w g w'∧b7 g m w g (m.set b (.ob (.gr t pq) (bK k off xs))) w':=by
 obtain⟨c',ob,vs,h1,h2,h3,h4,h5,h6⟩:=h.obs b _ _ hb
 rw[hc] at h1;cases h1
 obtain⟨cs0,e0,n0,rfl,qt,q0,q1,q2,q3⟩:=h4
 rw[hcs] at h2;cases h2
 have An:=h3.len
 have hxl:=hx.len
 have hsz:cs'.size=cs.size:=by
  have:=congrArg pn hl
  rw[fY] at this;simpa using this
 have hvl:(bK vs off us).length=vs.length:=fY _ _ _
 refine h.eM (wh:= .gr t pq) (l':=bK k off xs) (vs':=bK vs off us) hb hc hw hs ho ht hu hh ⟨cs',e,n,rfl,qt,q0,?_,by omega,fun v hv=> ?_⟩ (h3.bK off hx) (by show cs'.size=g.hi b;rw[hsz];exact h6)
 · rw[hvl,hl,xw us cs.toList off vs.length (by omega),←q1]
 · rw[hl] at hv
   exact iw _ _ _ q3 hone v hv
theorem wv (h:Rel g m w) {t:TypeId} {a v r:AV} {ca cv:Value} {us:lY} (ha:VA g w a ca) (hv:VA g w v cv) (he:oQ P (fun i=>m.getD i .dead) t a v=some (r,us,true)) :
  ∃w',(sl t ca cv).run P w = .ok () w'∧r = .bn []∧Rel g (apply m us) w'∧Ext g w g w'∧b7 g m w g (apply m us) w':=by
 unfold oQ at he
 split at he
 · rename_i b off n hsz
   split at he
   · rename_i b' ok hp
     simp only[dk,kl,di,fw] at he
     obtain⟨rfl,rfl,⟨rfl,h1⟩,h2⟩:=he
     obtain⟨k1,k2⟩:=j6 h1 hv
     cases ha with
     |mp _ _ c hc=>
     have hsize:cv.cells.size=n:=by have An:=k1.len;simp at An;omega
     rcases jo hp with⟨l,hl,hl',hroom⟩ | ⟨t0,pq,l,hl,rfl,hroom⟩ | ⟨t0,pre,l,hl,rfl,hpre,hroom⟩
     case inr.inr=>
      have hm:m[b]? = some (.ob (.stk t0 pre) l):=getD_some hl (by simp)
      obtain⟨hg,hs0⟩:=h.BL hm
      have Hy:=aT hm
      have Lv:(m.set b (.ob (.gr t0 false) (exactly pre++l)))[b]? = some (.ob (.gr t0 false) (exactly pre++l)):=by rw[nd Hy]
      obtain⟨c',ob,vs,h1',h2',h3',h4',QH,QI⟩:=hg.obs b _ _ Lv
      rw[hc] at h1';cases h1'
      obtain⟨cs,e,q,rfl,_,q0,q1,q2,q3⟩:=h4'
      have hlen:=h3'.len
      have An:=k1.len
      rw[dC,bq] at hlen
      simp at An
      obtain⟨w',cs',p1,p2,p3,p4,p5,p6,p7,p8⟩:=fS (P:=P) c off cv.cells.toList 0 w cs e q h2' (fun _ _=> .inl q0) (by simp;omega) k2
      simp only[rf] at p3
      obtain⟨r1,r2,r3⟩:=hg.uC Lv hc h2' k1 k2 (by rw[dC,bq];omega) p3 p4 p5 p6 p7 p8 p2
      rw[jP _ _ _ _ (by rw[bq];exact hpre),bq,o6] at r1 r3
      obtain⟨z1,z2⟩:=r1.BM (b:=b) (by rw[nd Hy])
      rw[o6] at z1 z2
      exact⟨w',by simp[sl,lj,storeVar,aB hsz,hsize,p1],rfl,z1,r2,(hs0.trans r3).trans z2⟩
     case inr.inl=>
      have hm:m[b]? = some (.ob (.gr t0 pq) l):=getD_some hl (by simp)
      obtain⟨c',ob,vs,h1',h2',h3',h4',QH,QI⟩:=h.obs b _ _ hm
      rw[hc] at h1';cases h1'
      obtain⟨cs,e,q,rfl,_,q0,q1,q2,q3⟩:=h4'
      have hlen:=h3'.len
      have An:=k1.len
      have JM:=hroom
      rw[uB] at JM
      simp at An
      obtain⟨w',cs',p1,p2,p3,p4,p5,p6,p7,p8⟩:=fS (P:=P) c off cv.cells.toList 0 w cs e q h2' (fun _ _=> .inl q0) (by simp;omega) k2
      simp only[rf] at p3
      obtain⟨r1,r2,r3⟩:=h.uC hm hc h2' (uA k1) k2 hroom p3 p4 p5 p6 p7 p8 p2
      exact⟨w',by simp[sl,lj,storeVar,aB hsz,hsize,p1],rfl,r1,r2,r3⟩
     have hm:m[b]? = some (m.getD b .dead):=getD_some rfl (fun e=>by
      have hl:(m.getD b .dead).cells?=some l:=hl
      rw[e] at hl;cases hl)
     obtain⟨c',cs,e,q,q1,q2,q3,q4,q5⟩:=h.cells b _ l hm hl
     rw[hc] at q1;cases q1
     have hlen:=q4.1.len
     have An:=k1.len
     simp at hlen An
     obtain⟨w',cs',p1,p2,p3,p4,p5,p6,p7,p8⟩:=fS (P:=P) c off cv.cells.toList 0 w cs e q q2 (fun _ _=> .inl q3) (by simp;omega) k2
     simp only[rf] at p3
     obtain⟨r1,r2,r3⟩:=h.write (b':=b') hm hl hc hl' p4 p5 p6 p7 p8 p2 q3 (by rw[p3];exact⟨q4.1.bK off k1,iw _ _ _ q4.2 k2⟩)
     refine⟨w',?_,rfl,r1,r2,r3⟩
     simp[sl,lj,storeVar,aB hsz,hsize,p1]
   · cases he
 · cases he
theorem wz (h:Rel g m w) {aK:Nat} (hn:m[aK]? = some .free) {t:TypeId} {a:AV} {us:lY} {ok:Bool} (he:ym P aK t=some (a,us,ok)) {ty:TypeId} {pos:String} {o:Oper} {bD:Operand→Value} (ho:o.op = .alloc t) (_:ty=ty) (_:pos=pos) :
  bQ g m w ((execOp bD o).run P w) a (apply m us):=by
 unfold ym at he
 simp only[ja,kl] at he
 obtain⟨l,hz,rfl,rfl,rfl⟩:=he
 obtain⟨z,CL,BN⟩:=bY (g:=g) (w:=w) hz
 refine bQ.alloc h hn (mj l) BN (e:=t) (v:= .pointer (some ⟨w.heap.size,0,none⟩)) ?_ fun g' hg=> .mp aK 0 _ hg
 simp[execOp,ho,sR,CL,newVar,newRow]
theorem uD (h:Rel g m w) {aK:Nat} (hn:m[aK]? = some .free) {t:TypeId} {a:AV} {us:lY} {ok:Bool} (he:tV P aK t=some (a,us,ok)) {o:Oper} {bD:Operand→Value} (ho:o.op = .alloc t) :
  bQ g m w ((execOp bD o).run P w) a (apply m us):=by
 unfold tV at he
 simp only[ja,kl] at he
 obtain⟨l,hz,rfl,rfl,rfl⟩:=he
 obtain⟨z,CL,BN⟩:=bY (g:=g) (w:=w) hz
 have hlen:=BN.1.len
 obtain⟨r1,r2,r3⟩:=h.o8 z.cells.size (ob:= .gr t false) (l:=l) (vs:=z.cells.toList) hn BN.1 (dM w (.cells z.cells t)) ⟨z.cells,t,(0,0),rfl,rfl,ch _,(ed (ch _)).symm,by simp,BN.2⟩ rfl
 refine⟨.pointer (some ⟨w.heap.size,0,none⟩),_,_,.inl ?_,.mp aK 0 _ (by simp[Gh.put]),r1,r2,r3⟩
 simp[execOp,ho,sR,CL,newVar,newRow]
theorem Ao (h:Rel g m w) {aK:Nat} (hn:m[aK]? = some .free) {v a:AV} {cv:Value} {us:lY} (hv:VA g w v cv) (he:ED aK v=some (a,us,true)) {t:TypeId} {r:Result Next} (hr:r = .ok (.value (.pointer (some ⟨w.heap.size,0,none⟩))) (w.alloc (.cells cv.cells t))) :
  bQ g m w r a (apply m us):=by
 unfold ED at he
 simp only[dk,kl] at he
 obtain⟨rfl,rfl,h1⟩:=he
 exact bQ.alloc h hn (mj _) (j6 h1 hv) (e:=t) hr fun g' hg=> .mp aK 0 _ hg
theorem bQ.xy (h:Rel g m w) {len size:Nat} {bT:List PV} {cs:Array Value} {e:TypeId} (hv:rJ g w bT cs.toList) (ho : ∀v∈cs.toList,v.oneCell'=true) (hl:cs.size=len*size) (CL:1≤size) {r:Result Next}
  (hr:r = .ok (.value (.slice (some ⟨w.heap.size,0,none⟩) len len)) (w.alloc (.cells cs e))):bQ g m w r (.os none len size bT) m:=by
 obtain⟨h1,h2,h3⟩:=h.m9 (dM w (.cells cs e))
 have Eu:=hv.len
 simp at Eu
 refine⟨_,_,_,.inl hr,.os none len size bT _ len ?_ (.inl rfl),h1,h2,h3⟩
 refine .ps len size bT w.heap.size 0 len (fun k=>cs.getD k undef) (by omega) (ch _) CL (fun k hk=> ?_) fun k hk=> ?_
 · have:k<cs.size:=by omega
   refine⟨.inr ⟨rfl,by omega,by omega⟩,?_,by simpa[nc,this] using ho cs[k] (by simp)⟩
   rw[aH (dM w (.cells cs e)).new]
   simp[nc,this]
 · have:k<cs.size:=by omega
   have hk2:=hv.get k hk (by simpa using this)
   simp only[nc,this,dite_true]
   exact hk2.mono h2.pure
theorem rM {elem:TypeId} {wr:Bool} {cells:List AV} {bT:List PV} (h:BD P elem wr cells=some bT):iN cells=some bT:=by
 unfold BD at h
 split at h
 · cases h
 · exact h
theorem oq (h:Rel g m w) {aK:Nat} (hn:m[aK]? = some .free) {wr:Bool} {t:TypeId} {len:Nat} {parts:List (Nat×AV)} {jm:Array (Nat×Value)} {a:AV} {us:lY}
  (he:kR P wr aK t len parts=some (a,us,true)) (hp:aV (fun a b=>a.1=b.1∧VA g w a.2 b.2) parts jm.toList) :
  bQ g m w (((do pure (.value (←sf t len jm)):Sem Next)).run P w) a (apply m us):=by
 unfold kR at he
 split at he
 · rename_i elem hu
   split at he
   · rename_i size z hsz hz
     split at he
     · rename_i cells ok hf
       obtain⟨size',z0,e1,e2,e3,e4,rfl⟩:=E4 hz
       rw[hsz] at e1;cases e1
       obtain⟨zv,z1,z2⟩:=bY (g:=g) (w:=w) e2
       have hzl:=z2.1.len
       simp at hzl
       have hzs:zv.cells.size=size:=by omega
       have key : ∀(b:Bool),ok=true→a7 (len*size) 16777216=true →
        ∃yK,(sf t len jm).run P w = .ok (.slice (some ⟨w.heap.size,0,none⟩) len len) (w.alloc (.cells yK elem))∧Ac g w cells yK.toList∧yK.size=len*size:=by
        intro _ hok hle
        subst hok
        have hle:=ft hle
        have Ap:Ac g w (bX z0 len) ((ix (len*size)).map ((if len*size=0 then #[] else zv.cells)[· % (if len*size=0 then #[] else zv.cells).size]!)).toList:=by
         by_cases e:len*size=0
         · have:len=0:=by rcases rl.1 e with k | k<;>omega
           rw[uy _ _ e,this];exact⟨trivial,fun _ h=>by cases h⟩
         · simp only[e,if_false]
           have h1:=qz z2.1 len
           have h2:=yL z2.2 len
           rw[hzs] at h1 h2 ⊢;exact⟨h1,h2⟩
        obtain⟨yK,f1,f2,f3⟩:=jO hp Ap hf
        refine⟨yK,?_,f2,by rw[f3];simp⟩
        have hnot : ¬(len*size>2 ^ 24):=by omega
        clear Ap f2 f3
        by_cases e:len*size=0
        · simp only[e,if_true] at f1 hnot
          simp only[sf,km,run_underlying hu,kv,aB hsz,hnot,if_false,e,if_true,f1,newRow,run_newObj,sT,kp]
        · simp only[e,if_false] at f1
          simp only[sf,km,run_underlying hu,kv,aB hsz,hnot,if_false,e,z1,f1,newRow,run_newObj,sT,kp]
       split at he
       · rename_i bT Aq
         simp only[dk,kl,di] at he
         obtain⟨rfl,rfl,hok,hle⟩:=he
         obtain⟨yK,k1,k2,k3⟩:=key true hok hle
         exact bQ.xy (e:=elem) h (cQ (rM Aq) k2.1) k2.2 k3 (by omega) (by simp[k1])
       · rename_i bT Aq
         simp only[dk,kl,di] at he
         obtain⟨rfl,rfl,hok,hle⟩:=he
         obtain⟨yK,k1,k2,k3⟩:=key true hok hle
         have P8:=cQ (rM Aq) k2.1
         have yM:bO g w (bT.map .p) yK.toList:=aV.cP (by simpa using P8.len) fun i a b=>by
          have:=P8.get i (by simpa using a) b
          rw[dE];exact .p _ _ this
         obtain⟨r1,r2,r3⟩:=h.o8 yK.size (ob:= .gr elem true) (l:=bT.map .p) (vs:=yK.toList) hn yM (dM w (.cells yK elem)) ⟨yK,elem,(0,0),rfl,rfl,ch _,(ed (ch _)).symm,by simp,k2.2⟩ rfl
         exact⟨_,_,_,.inl (by simp[k1]),.mg aK 0 len size len w.heap.size (by simp[Gh.put]) (ch _) (by simp[Gh.put];omega),r1,r2,r3⟩
       · simp only[dk,kl,di] at he
         obtain⟨rfl,rfl,hok,hle⟩:=he
         obtain⟨yK,k1,k2,k3⟩:=key true hok hle
         exact bQ.alloc h hn (mj _) k2 (e:=elem) (v:= .slice (some ⟨w.heap.size,0,none⟩) len len) (by simp[k1]) fun g' hg=> .ms aK 0 len size len _ hg (ch _)
     · cases he
   · cases he
 · cases he
theorem qA {n:Int} (h0:0≤n) (h1:n≤9223372036854775807):tl.wrap n=n:=IntWalk.i64_in n ⟨by omega,h1⟩
theorem pG (h:Rel g m w) {aK:Nat} (hn:m[aK]? = some .free) {t:TypeId} {len cap a:AV} {cl cc:Value} {us:lY}
  (hl:VA g w len cl) (hc:VA g w cap cc) (he:lZ P aK t len cap=some (a,us,true)) :
  bQ g m w (((do pure (.value (←sd t cl cc)):Sem Next)).run P w) a (apply m us):=by
 unfold lZ at he
 split at he
 · rename_i elem k l k' c hu
   rw[VA.pv] at hl hc
   cases hl;cases hc
   split at he
   · rename_i info aN hi hb
     simp only[dk,kl,di,decide_eq_true_eq] at he
     obtain⟨rfl,rfl,⟨⟨h0,h1⟩,h2⟩,h3⟩:=he
     have h2:=ft h2
     have h3:=ft h3
     unfold cE at h2 h3
     obtain⟨size,z,e1,e2,e3,e4,e5⟩:=E5 hb
     have hsize:size=info.size:=by simp[eV,hi] at e1;exact e1.symm
     obtain⟨zv,z1,z2⟩:=bY (g:=g) (w:=w) e2
     have hzl:=z2.1.len
     simp at hzl
     have hzs:zv.cells.size=size:=by omega
     have hw1:tl.wrap l=l:=qA h0 (by omega)
     have Ew:tl.wrap c=c:=qA (by omega) (by omega)
     have Oi:(c.toNat:Int)=c:=tp (by omega)
     have BO:(info.bytes:Int)*c≤70368744177664:=by
      have:((info.bytes*c.toNat:Nat):Int)≤70368744177664:=ua.2 h3
      rwa [tz,Oi] at this
     have Ap:Ac g w (bX z c.toNat) ((ix (c.toNat*size)).map ((if c.toNat*size=0 then #[] else zv.cells)[· % (if c.toNat*size=0 then #[] else zv.cells).size]!)).toList:=by
      by_cases e:c.toNat*size=0
      · have:c.toNat=0:=by rcases rl.1 e with k | k<;>omega
        rw[uy _ _ e,this];exact⟨trivial,fun _ h=>by cases h⟩
      · simp only[e,if_false]
        have h1:=qz z2.1 c.toNat
        have h2:=yL z2.2 c.toNat
        rw[hzs] at h1 h2 ⊢;exact⟨h1,h2⟩
     have hsz:eV P elem=some size:=e1
     refine bQ.alloc h hn e5 Ap (e:=elem) (v:= .slice (some ⟨w.heap.size,0,none⟩) l.toNat c.toNat) ?_ fun g' hg=>hsize ▸ .ms aK 0 l.toNat size c.toNat _ hg (by omega)
     have t1:(decide (c<0)||decide ((info.bytes:Int)*c>2 ^ 48))=false:=by simp only[pD,decide_eq_false_iff_not];omega
     have t2:((decide (c<0)||decide ((info.bytes:Int)*c>2 ^ 48))||decide (l<0)||decide (l>c))=false:=by rw[t1,qs,pD,decide_eq_false_iff_not,decide_eq_false_iff_not];exact⟨by omega,by omega⟩
     by_cases e:c.toNat*size=0
     · simp only[sd,km,run_underlying hu,kv,asInt,asIntOf,kp,eE hi,hw1,Ew,t2,pC,if_false,run_askRoom,aB hsz,e,if_true,newRow,run_newObj,sT]
     · simp only[sd,km,run_underlying hu,kv,asInt,asIntOf,kp,eE hi,hw1,Ew,t2,pC,if_false,run_askRoom,aB hsz,e,z1,newRow,run_newObj,sT]
   · cases he
 · cases he
theorem rN {α:Type} (v:α) : ∀n,bX [v] n=db n v
 |0=>rfl
 |n+1=>by rw[bX,rN v n];rfl
theorem lQ {z:AV} {pv:PV} (h:yl z=some pv) : ∀n,iN (db n z)=some (db n pv)
 |0=>rfl
 |n+1=>by simp only[List.replicate_succ,iN,h,lQ h n]
theorem qB (h:Rel g m w) {t:TypeId} {len cap a:AV} {cl cc:Value} {us:lY}
  (hl:VA g w len cl) (hc:VA g w cap cc) (he:n9 P t len cap=some (a,us,true)) :
  bQ g m w (((do pure (.value (←sd t cl cc)):Sem Next)).run P w) a (apply m us):=by
 unfold n9 at he
 split at he
 · rename_i elem k l k' c hu
   rw[VA.pv] at hl hc
   cases hl;cases hc
   split at he
   · rename_i info z hi hz
     split at he
     · rename_i pv Aq
       simp only[dk,kl,di,decide_eq_true_eq] at he
       obtain⟨rfl,rfl,h0,rfl,h1,h2,h3⟩:=he
       have h1:=a8 h1
       have h2:=ft h2
       have h3:=ft h3
       unfold cE at h2 h3
       have hsz:eV P elem=some 1:=by simp[eV,hi,h1]
       obtain⟨zv,z1,z2⟩:=bY (g:=g) (w:=w) hz
       have hzl:=z2.1.len
       simp at hzl
       have hzs:zv.cells.size=1:=by omega
       have hw1:tl.wrap l=l:=qA h0 (by omega)
       have Oi:(l.toNat:Int)=l:=tp h0
       have BO:(info.bytes:Int)*l≤70368744177664:=by
        have:((info.bytes*l.toNat:Nat):Int)≤70368744177664:=ua.2 h3
        rwa [tz,Oi] at this
       have Ap:Ac g w (bX [z] l.toNat) ((ix (l.toNat*1)).map ((if l.toNat*1=0 then #[] else zv.cells)[· % (if l.toNat*1=0 then #[] else zv.cells).size]!)).toList:=by
        by_cases e:l.toNat*1=0
        · have:l.toNat=0:=by omega
          rw[uy _ _ e,this];exact⟨trivial,fun _ h=>by cases h⟩
        · simp only[e,if_false]
          have k1:=qz z2.1 l.toNat
          have k2:=yL z2.2 l.toNat
          rw[hzs] at k1 k2 ⊢;exact⟨k1,k2⟩
       rw[rN] at Ap
       have t1:(decide (l<0)||decide ((info.bytes:Int)*l>2 ^ 48))=false:=by simp only[pD,decide_eq_false_iff_not];omega
       have t2:((decide (l<0)||decide ((info.bytes:Int)*l>2 ^ 48))||decide (l<0)||decide (l>l))=false:=by rw[t1,qs,pD,decide_eq_false_iff_not,decide_eq_false_iff_not];exact⟨by omega,by omega⟩
       refine bQ.xy (e:=elem) h (cQ (lQ Aq _) Ap.1) Ap.2 (by simp) (ch 1) ?_
       by_cases e:l.toNat*1=0
       · simp only[sd,km,run_underlying hu,kv,asInt,asIntOf,kp,eE hi,hw1,t2,pC,if_false,run_askRoom,aB hsz,e,if_true,newRow,run_newObj,sT]
       · simp only[sd,km,run_underlying hu,kv,asInt,asIntOf,kp,eE hi,hw1,t2,pC,if_false,run_askRoom,aB hsz,e,z1,newRow,run_newObj,sT]
     · cases he
   · cases he
 · cases he
end ops
section ops
variable {P:Program} {g:Gh} {m:Mem} {w:World}
theorem VP.mk {len sz cap b o:Nat} {cells:List PV} {us:List Value} (h:rJ g w cells us) (hl:us.length=len*sz) (hc:len≤cap) (hz:1≤sz)
  (hu : ∀k v,us[k]? = some v→w.cell? ⟨b,o+k,none⟩=some v∧g.pure b (o+k)∧v.oneCell'=true):VP g w (.ps len sz cells) (.slice (some ⟨b,o,none⟩) len cap):=by
 have Hz:=h.len
 refine .ps len sz cells b o cap (fun k=>us.getD k undef) (by omega) hc hz (fun k hk=> ?_) fun k hk=> ?_
 · have:us[k]? = some us[k]:=da (by omega)
   obtain⟨h1,h2,h3⟩:=hu k _ this
   exact⟨h2,by rw[h1,dd,this];rfl,by rw[dd,this];exact h3⟩
 · have:us[k]? = some us[k]:=da (by omega)
   rw[dd,this]
   exact h.get k hk (by omega)
theorem E6 {len sz cap:Nat} {cs:List PV} {ad:Option Addr} (h:VP g w (.ps len sz cs) (.slice ad len cap)) : ∀b o,(ad=some ⟨b,o,none⟩∨len=0) →
  ∃us,rJ g w cs us∧us.length=len*sz ∧ ∀k v,us[k]? = some v→w.cell? ⟨b,o+k,none⟩=some v∧g.pure b (o+k)∧v.oneCell'=true:=by
 intro b o ha
 cases h with
 |ps _ _ _ b' o' cap f hl hc hz hp hv=>
  rcases ha with ha | rfl
  · cases ha
    refine⟨(List.range cs.length).map f,aV.cP (by simp) fun i hi _=>by simpa using hv i hi,by simp[hl],fun k v hk=> ?_⟩
    simp only[List.getElem?_map,ja] at hk
    obtain⟨j,hj,rfl⟩:=hk
    obtain⟨hlt,hj⟩:=List.getElem?_eq_some_iff.1 hj
    simp at hlt hj;subst hj
    exact⟨(hp k hlt).2.1,(hp k hlt).1,(hp k hlt).2.2⟩
  · simp at hl;subst hl
    exact⟨[],trivial,by simp,fun k v hk=>by simp at hk⟩
 |lU=>exact⟨[],trivial,by simp,fun k v hk=>by simp at hk⟩
theorem wA {aK:Nat} {tok:Option Nat} {us:lY} (hn:m[aK]? = some .free) (h:ni (fun i=>m.getD i .dead) aK tok=some us) (hr:Rel g m w) :
  ∃m1:Mem,apply m us=m1.set aK .tok∧m1[aK]? = some .free∧Rel g m1 w∧b7 g m w g m1 w ∧ ∀t,tok=some t→m[t]? = some .tok∧m1=m.set t .dead:=by
 unfold ni at h
 split at h
 · simp only[dk] at h;subst h
   exact⟨m,rfl,hn,hr,b7.refl g m w,fun t e=>by cases e⟩
 · rename_i t
   split at h
   · rename_i ht
     simp only[dk] at h;subst h
     have ht:=getD_some ht (by simp)
     have hne:t≠aK:=fun e=>by subst e;rw[ht] at hn;cases hn
     obtain⟨k1,k2⟩:=hr.kill t
     refine⟨m.set t .dead,rfl,by rw[ov hne];exact hn,k1,k2,fun t' e=>by cases e;exact⟨ht,rfl⟩⟩
   · cases h
theorem qy.drew {sz n:Nat} {x:AV} {cx:Value} {bT:List PV} (h:Rel g m w) (hx:VA g w x cx) (he:contents (fun i=>m.getD i .dead) sz x=some (n,bT,true)):qy P g w.drew sz n bT cx:=by
 obtain⟨h1,h2,_⟩:=h.jl (w':=w.drew) rfl rfl rfl rfl
 exact dV h1 he (hx.mono h2)
theorem j7 (need old:Nat) (elem:TypeId) (t:Nat):need≤(ub need old elem).cut t:=by simp[Question.cut]
theorem uE (h:Rel g m w) {aK:Nat} (hn:m[aK]? = some .free) {argTypes:Array TypeId} {ty:TypeId} {s x a:AV} {cs cx:Value} {us:lY}
  (hs:VA g w s cs) (hx:VA g w x cx) (he:ia P (fun i=>m.getD i .dead) aK argTypes s x=some (a,us,true)) :
  bQ g m w (((do pure (.value (←vb argTypes ty #[cs,cx])):Sem Next)).run P w) a (apply m us):=by
 unfold ia at he
 split at he
 · rename_i sType xType hs0 hx0
   split at he
   · cases he
   · rename_i elem d hd hu qC
     split at he
     · rename_i info z hi hz
       split at he
       · rename_i n bT ok tok len sz cells fm
         simp only[ja,kl,di] at he
         obtain⟨us',QJ,rfl,rfl,⟨⟨⟨⟨rfl,h1⟩,h2⟩,h3⟩,h4⟩,h5⟩:=he
         have h2:=ft h2
         have h3:=a8 h3
         have h4:=ft h4
         have h5:=ft h5
         unfold cE at h4 h5
         obtain⟨zv,z1,z2⟩:=bY (g:=g) (w:=w) hz
         have hzl:=z2.1.len
         simp only[ik] at hzl
         have hzs:zv.cells.size=info.size:=by omega
         have hsz:eV P elem=some info.size:=by simp[eV,hi]
         obtain⟨m1,e1,e2,e3,e4,e5⟩:=wA hn QJ h
         cases hs with
         |os _ _ _ _ ad cap hps wo=>
         have Ar:VP g w (.ps len info.size cells) (.slice ad len cap):=iS hps (by
          rw[kd] at h1 ⊢
          refine h1.imp id fun k=> ?_
          simp only[di] at k ⊢
          exact⟨k.1,ri h2⟩)
         obtain⟨_,_,_,q,hcap⟩:=kZ Ar
         cases q
         rw[e1]
         by_cases dz:len+n≤cap
         ·
          obtain⟨vx,x1,x2,hone,x3,x4⟩:=dV (P:=P) h fm hx
          have x5:=x4 n (ch _)
          rw[ed (by omega)] at x5
          rcases wo with hfull | ⟨t,b,o,rfl,rfl,t1,t2,t3,t4⟩
          · have hn0:n=0:=by omega
            subst hn0
            have wB:vx=[]:=pk.1 (by simpa using x2)
            subst wB
            have Aq:bT=[]:=by cases bT with
             |nil=>rfl
             |cons _ _=>exact x1.elim
            subst Aq
            obtain⟨r1,r2⟩:=e3.o7 e2
            refine⟨.slice ad (len+0) cap,w,g,.inl ?_,?_,r1,Ext.refl g w,e4.trans r2⟩
            · simp only[vb,hs0,hx0,oi,np,nz,km,run_underlying hu,kv,aB hsz,run_underlying qC,kp,pC,if_false,x3,dz,if_true,qf,x5]
              cases ad<;>simp[storeCells]
            · rw[List.append_nil]
              exact .os _ _ _ _ _ _ (by simpa using Ar) (.inl (by simpa using hfull))
          ·
           obtain⟨P9,QK⟩:=e5 t rfl
           have hsize:sz=info.size:=by simpa using h1
           subst hsize
           obtain⟨DH,e,q,k1,k2,k3,k4⟩:=h.tok t b P9 t1
           have hmul:(len+n)*info.size=len*info.size+n*info.size:=re _ _ _
           have JN:(len+n)*info.size≤cap*info.size:=fx _ dz
           obtain⟨w',CM,p1,p2,p3,p4,p5,p6,p7,p8⟩:=fS (P:=P) b (o+len*info.size) vx 0 w DH e q k1 (fun j hj=>k3.imp id fun k3=>by omega) (by omega) hone
           simp only[rf] at p3
           have Oj:CM.size=DH.size:=by
            have:=congrArg pn p3
            rw[fY] at this;simpa using this
           have hsp:=h.spare (k:=n*info.size) P9 t1 hn k1 (by omega) p4 p5 p6 p7 p8 p2 Oj (fun c hc=>by
            have:CM.toList[c]? = DH.toList[c]? :=by rw[p3];exact uz _ _ _ _ (by omega)
            simpa using this)
           obtain⟨r1,r2,r3⟩:=hsp
           rw[QK]
           refine⟨.slice (some ⟨b,o,none⟩) (len+n) cap,w',_,.inl ?_,?_,r1,r2,r3⟩
           · have E7:(⟨b,o,none⟩:Addr).add (len*info.size)=⟨b,o+len*info.size,none⟩:=cm _ _ _
             simp only[vb,hs0,hx0,oi,np,nz,km,run_underlying hu,kv,aB hsz,run_underlying qC,kp,pC,if_false,x3,dz,if_true,qf,x5,E7,p1]
           · obtain⟨us,u1,u2,u3⟩:=E6 Ar b o (.inl rfl)
             refine .os _ _ _ _ _ _ (VP.mk (us:=us++vx) ((aV.mono (fun _ _=>VP.mono r2.pure) u1).append (aV.mono (fun _ _=>VP.mono r2.pure) x1)) (by simp;omega) dz h2 fun k v hk=> ?_) (.inr ⟨aK,b,o,rfl,rfl,by simp[Gh.put,Gh.more],by simp[Gh.put,Gh.more];omega,by simp[Gh.put,Gh.more,t3],dz⟩)
             rw[List.getElem?_append] at hk
             by_cases hlt:k<us.length
             · rw[if_pos hlt] at hk
               obtain⟨v1,v2,v3⟩:=u3 k v hk
               exact⟨(r2.pure _ _ v2).2.trans v1,(r2.pure _ _ v2).1,v3⟩
             · rw[if_neg hlt] at hk
               have hk':=aT hk
               have hnew:=Ak vx DH.toList (o+len*info.size) (k-us.length) hk' (by simp;omega)
               rw[←p3,hk] at hnew
               refine⟨?_,.inr ⟨rfl,by omega,by omega⟩,hone v (oe hk)⟩
               rw[aH p2]
               rw[show o+len*info.size+(k-us.length)=o+k by omega] at hnew
               simpa using hnew
         ·
          obtain⟨d1,d2,d3⟩:=h.jl (w':=w.drew) rfl rfl rfl rfl
          obtain⟨_,_,_,_,l3,_⟩:=dV (P:=P) h fm hx
          obtain⟨vx,x1,x2,hone,x3,x4⟩:=qy.drew (P:=P) h hx fm
          have x5:=x4 n (ch _)
          rw[ed (by omega)] at x5
          obtain⟨vs,s1,s2,HA,s3,s4⟩:=kB (P:=P) (Ar.mono d2.pure)
          have s5:=s4 len (ch _)
          rw[ed (by omega)] at s5
          have jQ:=j7 (len+n) cap elem (w.tape w.drawn (.appendCap (len+n) cap elem))
          generalize hnc:(ub (len+n) cap elem).cut (w.tape w.drawn (.appendCap (len+n) cap elem))=newCap at jQ
          have uF:(uv zv.cells (newCap-(len+n))).size=(newCap-(len+n))*info.size:=by simp[uv,hzs]
          have hall:(vs.toArray++vx.toArray++uv zv.cells (newCap-(len+n))).size=newCap*info.size:=by
           simp only[na,po,uF,s2,x2]
           rw[gl,re]
           have:=fx info.size jQ
           rw[re] at this
           omega
          generalize yN:vs.toArray++vx.toArray++uv zv.cells (newCap-(len+n))=all at hall
          have uG:om w (w.drew.alloc (.cells all elem)) (.cells all elem):=⟨rfl,rfl,rfl,rfl⟩
          have hmul:(len+n)*info.size=len*info.size+n*info.size:=re _ _ _
          have hle:(len+n)*info.size≤all.size:=by rw[hall];exact fx _ jQ
          obtain⟨r1,r2,r3⟩:=e3.fresh (k:=(len+n)*info.size) e2 uG hle (.inl (ch _))
          refine⟨.slice (some ⟨w.heap.size,0,none⟩) (len+n) newCap,_,_,.inl ?_,?_,r1,r2,e4.trans r3⟩
          · have JO : ¬(((len+n:Nat):Int)>tl.max):=by
             rw[show tl.max=9223372036854775807 from by decide];omega
            have hgrow : ¬(vj (len+n) cap*info.bytes>2 ^ 48):=by
             have:=growslice_fits (need:=len+n) (old:=cap) (bytes:=info.bytes) (by omega) (by omega)
             omega
            simp only[vb,hs0,hx0,oi,np,nz,km,run_underlying hu,kv,aB hsz,run_underlying qC,kp,pC,if_false,l3,dz,qf,JO,false_and,eE hi,hgrow,run_choose,ui,hnc,tc,run_askRoom,s5,x5,z1,yN,if_true,newRow,run_newObj,sT,s0]
          · have hnew:(w.drew.alloc (.cells all elem)).heap[w.heap.size]? = some (.cells all elem):=uG.new
            have mB:all.toList=vs++vx++(uv zv.cells (newCap-(len+n))).toList:=by rw[←yN];simp
            refine .os _ _ _ _ _ _ (VP.mk (us:=vs++vx) ?_ (by simp;omega) jQ h2 fun k v hk=> ?_) (.inr ⟨aK,w.heap.size,0,rfl,rfl,by simp[Gh.put,Gh.more],by simp[Gh.put,Gh.more],by simp[Gh.put,Gh.more,hall],jQ⟩)
            · exact(aV.mono (fun _ _=>VP.mono (g:=g) (w:=w.drew) (fun c o p=>⟨(r2.pure c o p).1,(r2.pure c o p).2⟩)) s1).append (aV.mono (fun _ _=>VP.mono (g:=g) (w:=w.drew) (fun c o p=>⟨(r2.pure c o p).1,(r2.pure c o p).2⟩)) x1)
            · have hk':=aT hk
              simp only[dC] at hk'
              refine⟨?_,.inr ⟨rfl,by omega,by omega⟩,?_⟩
              · rw[aH hnew,←nb,mB,rh,pf (by simpa using hk')]
                exact hk
              · rcases o0.1 (oe hk) with q | q
                · exact HA v q
                · exact hone v q
       · cases he
     · cases he
   · cases he
 · cases he
theorem yO (h:Rel g m w) {argTypes:Array TypeId} {ty:TypeId} {d s a:AV} {cd cx:Value} {us:lY}
  (hd:VA g w d cd) (hx:VA g w s cx) (he:qp P (fun i=>m.getD i .dead) argTypes d s=some (a,us,true)) :
  bQ g m w (((do pure (.value (←vt argTypes ty #[cd,cx])):Sem Next)).run P w) a (apply m us):=by
 unfold qp at he
 split at he
 · rename_i t ht
   split at he
   · rename_i elem hu
     split at he
     · rename_i size hsz
       split at he
       · rename_i n bT ok b off len sz cap fm
         split at he
         · rename_i l hl
           simp only[dk,kl,di] at he
           obtain⟨rfl,rfl,⟨rfl,h1⟩,h2⟩:=he
           have h1:=a8 h1
           have h2:=ft h2
           subst h1
           have hm:=getD_some hl (by simp)
           obtain⟨vx,x1,x2,hone,x3,x4⟩:=dV (P:=P) h fm hx
           have x5:=x4 (cp n len) (rn _ _)
           cases hd with
           |ms _ _ _ _ cap c hc hcap=>
           obtain⟨c',DH,e,q,k1,k2,k3,k4,k5⟩:=h.cells b _ _ hm rfl
           rw[hc] at k1;cases k1
           have hlen:=k4.1.len
           simp only[oR,ik] at hlen
           have hmin:cp n len*sz≤n*sz:=fx _ (rn _ _)
           have Qa:cp n len*sz≤len*sz:=fx _ (Nat.min_le_right _ _)
           have Jn:(vx.take (cp n len*sz)).length=cp n len*sz:=by rw[eQ,x2];exact rb hmin
           obtain⟨w',CM,p1,p2,p3,p4,p5,p6,p7,p8⟩:=fS (P:=P) c off (vx.take (cp n len*sz)) 0 w DH e q k2 (fun _ _=> .inl k3) (by omega) (fun v hv=>hone v (dt hv))
           simp only[rf] at p3
           have HB : ∀(new:List Value) (l:List Value) (o:Nat),o+new.length≤l.length→bK l o new=l.take o++new++l.drop (o+new.length):=by
            intro new
            induction new with
            |nil=>intro l o _;simp[bK]
            |cons x new ih=>
             intro l o ho
             simp only[od] at ho
             rw[bK,ih _ _ (by simp;omega)]
             have hlt:o<l.length:=by omega
             rw[List.drop_set_of_lt (by omega),List.take_add_one,List.take_set_of_le (ch _)]
             simp only[nd hlt,Option.toList_some,od,pr,List.singleton_append]
             rw[show o+(new.length+1)=o+1+new.length by omega]
           have QL:rJ g w (bT.take (cp n len*sz)) (vx.take (cp n len*sz)):=x1.take _
           have hmap : ∀{l:List PV} {vs:List Value},rJ g w l vs→bO g w (l.map .p) vs:=fun hh=>aV.LX _ (fun _ _ k=> .p _ _ k) hh
           have hcells:Ac g w ((l.take off++bT.take (cp n len*sz)++l.drop (off+cp n len*sz)).map .p) CM.toList:=by
            refine⟨?_,by rw[p3];exact iw _ _ _ k4.2 (fun v hv=>hone v (dt hv))⟩
            rw[p3,HB _ _ _ (by simp[Jn];omega),Jn]
            simp only[px,pA,List.map_drop]
            refine((k4.1.take off).append ?_).append (k4.1.drop _)
            rw[←pA];exact hmap QL
           obtain⟨r1,r2,r3⟩:=h.write (b':= .pc (l.take off++bT.take (cp n len*sz)++l.drop (off+cp n len*sz))) hm rfl hc rfl p4 p5 p6 p7 p8 p2 k3 hcells
           refine⟨goInt (cp n len),w',g,.inl ?_,.p _ _ (.sc _),r1,r2,r3⟩
           simp only[vt,ht,oi,np,nz,km,run_underlying hu,kv,x3,aB hsz,x5,p1,kp]
         · cases he
       · cases he
     · cases he
   · cases he
 · cases he
theorem E8 {bT:List PV} {vs:List Value} (h:rJ g w bT vs) (hb:bT.all isByte=true) : ∃ns:List Int,vs=ns.map (vz .u8)∧bT.map byteOf=ns.map fun n=>wc n.toNat:=by
 induction bT generalizing vs with
 |nil=>cases vs with
  |nil=>exact⟨[],rfl,rfl⟩
  |cons _ _=>exact h.elim
 |cons p bT ih=>
  cases vs with
  |nil=>exact h.elim
  |cons v vs=>
   simp only[ph,di] at hb
   obtain⟨ns,e1,e2⟩:=ih h.2 hb.2
   have h1:=h.1
   cases h1 with
   |sc=>
    cases v<;>simp only[isByte,pC,false_and] at hb
    rename_i k n
    cases k<;>simp only[pC,false_and] at hb
    exact⟨n::ns,by rw[e1];rfl,by rw[pj,e2];rfl⟩
   |_=>simp[isByte] at hb
theorem BP (w:World) (all:Array Value) (e:TypeId) :
  (w.alloc (.cells all e)).freeze {block:=w.heap.size,off:=all.size} 1={w with heap:=w.heap.push (.cells all e (all.size,all.size+1))}:=by
 simp only[tf,World.alloc]
 rw[if_neg (by decide)]
 congr 1
 apply Array.ext_getElem?
 intro j
 rw[my,im,im]
 by_cases hj:j=w.heap.size
 · subst hj;simp
 · rw[if_neg (fun h=>hj h.symm),if_neg hj,if_neg hj]
theorem DI (w:World) (all:Array Value) (e:TypeId):(w.alloc (.cells all e)).shape? w.heap.size=some (e,all.size):=by
 simp only[ta,(dM w (.cells all e)).new]
theorem foldl_push : ∀(ns:List Int) (s:ByteArray),ns.foldl (fun r n=>r.push (wc n.toNat)) s=⟨(s.data.toList++ns.map fun n=>wc n.toNat).toArray⟩
 |[],s=>by cases s;simp
 |n::ns,s=>by
  rw[List.foldl_cons,foldl_push ns]
  cases s
  simp[ByteArray.push]
theorem Rel.CN {m:Mem} (h:Rel g m w) {b c:Nat} {l:List PV} (hb:m[b]? = some (.pc l)) (hc:g.aN b=some c) :
  Rel (g.more c 0 l.length) (m.set b .dead) w∧Ext g w (g.more c 0 l.length) w∧b7 g m w (g.more c 0 l.length) (m.set b .dead) w:=by
 obtain⟨c',cs,e,n,k1,k2,k3,k4,k5⟩:=h.cells b _ _ hb rfl
 rw[hc] at k1;cases k1
 have hlen:=k4.1.len
 simp only[oR,ik] at hlen
 have ext:Ext g w (g.more c 0 l.length) w:=⟨fun _ _ h=>⟨h,rfl,rfl⟩,fun _ _ p=>⟨.inl p,rfl⟩⟩
 have ne : ∀j x c',j≠b→m[j]? = some x→x.bU=true→g.aN j=some c'→c'≠c:=fun j x c' lV hj ho dx e=>lV (h.inj j b x _ c hj hb ho rfl (e▸dx) hc)
 refine⟨⟨fun j hj=>h.qm j (by simpa using hj),fun j hj=> ?_,fun j x k hj hk=> ?_,fun j c' hj dx=> ?_,fun j k x x' c' hj hk ho ho' eL eS=> ?_,fun c' o p=> ?_,fun j kk ll hj=> ?_⟩,ext,⟨ch _,fun _ _ _=>rfl,fun _ _ p=>⟨.inl p,rfl⟩,fun c' o p=> ?_,fun c' ho=> ?_,rfl,rfl,rfl⟩⟩
 · rcases an hj with⟨_,e⟩ | ⟨_,e⟩
   · cases e
   · exact h.free j e
 · rcases an hj with⟨_,e⟩ | ⟨lV,e⟩
   · subst e;cases hk
   · obtain⟨c1,cs1,e1,n1,q1,q2,q3,q4,q5⟩:=h.cells j x k e hk
     refine⟨c1,cs1,e1,n1,q1,q2,q3,q4.mono ext,fun o p=> ?_⟩
     rcases p with p | ⟨rfl,_⟩
     · exact q5 o p
     · exact ne j x _ lV e (bV hk) q1 rfl
 · rcases an hj with⟨_,e⟩ | ⟨lV,e⟩
   · cases e
   · obtain⟨cs1,e1,n1,q2,q3,q4,q5⟩:=h.tok j c' e dx
     refine⟨cs1,e1,n1,q2,q3,q4,fun o a b p=> ?_⟩
     rcases p with p | ⟨rfl,_⟩
     · exact q5 o a b p
     · exact ne j _ _ lV e rfl dx rfl
 · rcases an hj with⟨_,e⟩ | ⟨_,e⟩
   · subst e;simp[aF.bU] at ho
   · rcases an hk with⟨_,e'⟩ | ⟨_,e'⟩
     · subst e';simp[aF.bU] at ho'
     · exact h.inj j k x x' c' e e' ho ho' eL eS
 · rcases p with p | ⟨rfl,_,p⟩
   · exact h.there c' o p
   · exact⟨cs[o],by rw[aH k2,ie (by omega)]⟩
 · rcases an hj with⟨_,e⟩ | ⟨lV,e⟩
   · cases e
   · obtain⟨c1,o1,vs1,q1,q2,q3,q4,q5,q6⟩:=h.obs j kk ll e
     exact⟨c1,o1,vs1,q1,q2,q3.mono ext,q4,fun o p=>p.elim (q5 o) fun q=>ne j _ c1 lV e rfl q1 q.1,q6⟩
 · rcases p with p | ⟨rfl,_⟩
   · exact .inl p
   · exact .inr (.inl ⟨b,_,hb,rfl,hc⟩)
 · rcases nu ho with⟨q,_⟩ | ⟨j,x,_,q1,q2,q3⟩
   · simp[aF.bU] at q
   · exact .inl ⟨j,x,q1,q2,q3⟩
theorem Rel.JP {m:Mem} {w':World} {c:Nat} {cs:Array Value} {e:TypeId} {n n':Nat×Nat} (h:Rel g m w) (hno : ¬cj g m c) (h1:w.heap[c]? = some (.cells cs e n)) (h2:w'.heap[c]? = some (.cells cs e n'))
  (h3 : ∀k,k≠c→w'.heap[k]? = w.heap[k]?):Rel g m w'∧Ext g w g w':=by
 have hcell : ∀b o,w'.cell? ⟨b,o,none⟩=w.cell? ⟨b,o,none⟩:=by
  intro b o
  by_cases e:b=c
  · subst e;rw[aH h1,aH h2]
  · exact dg (h3 b e)
 have ext:Ext g w g w':=⟨fun _ _ q=>⟨q,rfl,rfl⟩,fun b o p=>⟨p,hcell b o⟩⟩
 have ne : ∀j x c',m[j]? = some x→x.bU=true→g.aN j=some c'→c'≠c:=fun j x c' hj ho dx e=>hno ⟨j,x,hj,ho,e▸dx⟩
 refine⟨⟨h.qm,h.free,fun j x k hj hk=> ?_,fun j c' hj dx=> ?_,h.inj,fun b o p=> ?_,fun j kk ll hj=> ?_⟩,ext⟩
 · obtain⟨c1,cs1,e1,n1,q1,q2,q3,q4,q5⟩:=h.cells j x k hj hk
   exact⟨c1,cs1,e1,n1,q1,(h3 c1 (ne j x c1 hj (bV hk) q1)).trans q2,q3,q4.mono ext,q5⟩
 · obtain⟨cs1,e1,n1,q2,q3,q4,q5⟩:=h.tok j c' hj dx
   exact⟨cs1,e1,n1,(h3 c' (ne j _ c' hj rfl dx)).trans q2,q3,q4,q5⟩
 · obtain⟨v,hv⟩:=h.there b o p
   exact⟨v,(hcell b o).trans hv⟩
 · obtain⟨c1,o1,vs1,q1,q2,q3,q4⟩:=h.obs j kk ll hj
   exact⟨c1,o1,vs1,q1,(h3 c1 (ne j _ c1 hj rfl q1)).trans q2,q3.mono ext,q4⟩
theorem yP (w:World) {c off:Nat} {cs:Array Value} {e:TypeId} {n:Nat×Nat} (h:w.heap[c]? = some (.cells cs e n)) :
  (∃n',(w.freeze ⟨c,off,none⟩ 1).heap[c]? = some (.cells cs e n'))∧(∀k,k≠c→(w.freeze ⟨c,off,none⟩ 1).heap[k]? = w.heap[k]?)∧(w.freeze ⟨c,off,none⟩ 1).heap.size=w.heap.size ∧
    (w.freeze ⟨c,off,none⟩ 1).os=w.os∧(w.freeze ⟨c,off,none⟩ 1).tape=w.tape∧(w.freeze ⟨c,off,none⟩ 1).output=w.output:=by
 unfold tf
 rw[if_neg (by decide)]
 refine⟨?_,fun k hk=> ?_,by simp,rfl,rfl,rfl⟩
 · obtain⟨lo,hi⟩:=n
   refine⟨if lo==hi then(off,off+1) else(min lo off,max hi (off+1)),?_⟩
   show(w.heap.modify c _)[c]? = _
   rw[my,if_pos rfl,h]
   rfl
 · show(w.heap.modify c _)[k]? = _
   rw[my,if_neg (fun e=>hk e.symm)]
theorem DJ {e count n:Nat} (hc:1≤P.cellsOf e) (hn:n≤count):liesAt P P.depth e count 0 e n=true:=by
 have hd:P.depth=(2*(P.types.size+Made.depth)+1)+1:=rfl
 rw[hd]
 simp only[liesAt,kd]
 left
 rw[hd]
 have h0 : ¬P.cellsOf e=0:=by omega
 simp[rowAt,hn,sameLayout,h0]
theorem sL (h:Rel g m w) {aK:Nat} (hn:m[aK]? = some .free) {ρ:Operand→AV} {bD:Operand→Value} {o:Oper} (hr : ∀x,VA g w (ρ x) (bD x)) {src dst:TypeId} {x:Operand}
  (ho:o.op = .convert src dst x) {a:AV} {us:lY} (he:convertOp P (fun i=>m.getD i .dead) aK ρ o src dst (ρ x)=some (a,us,true)) :
  bQ g m w ((execOp bD o).run P w) a (apply m us):=by
 have hx:=hr x
 have jR:(execOp bD o).run P w=((convert src dst (bD x)).run P w).andThen fun v w'=> .ok (.value v) w':=by simp only[execOp,ho,km,kp]
 unfold convertOp at he
 split at he
 · rename_i k k' n CO DK
   split at he
   · rename_i d yQ
     simp only[dk,kl,and_true] at he
     obtain⟨rfl,rfl⟩:=he
     rw[DK,VA.pv] at hx
     generalize hz:bD x=z at hx jR
     cases hx
     refine bQ.quiet h (v:= .int k (k.wrap n)) ?_ (.p _ _ (.sc _))
     rw[jR]
     simp[convert,run_underlying yQ,run_underlying CO,Conv.intToInt]
   · cases he
 · rename_i s CO DK
   split at he
   · rename_i yQ
     simp only[dk,kl,and_true] at he
     obtain⟨rfl,rfl⟩:=he
     rw[DK,VA.pv] at hx
     generalize hz:bD x=z at hx jR
     cases hx
     refine bQ.quiet h (v:= .string s) ?_ (.p _ _ (.sc _))
     rw[jR]
     simp[convert,run_underlying yQ,run_underlying CO]
   · cases he
 · rename_i e s CO DK
   split at he
   · rename_i yQ Ly
     simp only[dk,kl,and_true] at he
     obtain⟨rfl,rfl⟩:=he
     rw[DK,VA.pv] at hx
     generalize hz:bD x=z at hx jR
     cases hx
     have jQ:=j7 s.size 0 e (w.tape w.drawn (.appendCap s.size 0 e))
     generalize hnc:(ub s.size 0 e).cut (w.tape w.drawn (.appendCap s.size 0 e))=newCap at jQ
     generalize yN:(s.data.map fun b=>(vz .u8 b.toNat))++Array.replicate (newCap-s.size) (vz .u8 0)=all
     have hss:s.data.toList.length=s.size:=ik
     have hall:all.size=newCap:=by
      rw[←yN];simp only[na,Array.size_map,Array.size_replicate]
      have:s.data.size=s.size:=rfl
      omega
     have uG:om w ({w.drew with heap:=w.heap.push (.cells all e (all.size,all.size+1))}:World) (.cells all e (all.size,all.size+1)):=⟨rfl,rfl,rfl,rfl⟩
     obtain⟨r1,r2,r3⟩:=h.fresh (k:=s.size) hn uG (by omega) (.inr (ch _))
     refine⟨.slice (some ⟨w.heap.size,0,none⟩) s.size newCap,_,_,.inl ?_,?_,r1,r2,r3⟩
     · rw[jR]
       have hsh:=DI w.drew all e
       have hfz:=BP w.drew all e
       rw[s0] at hsh hfz
       simp only[convert,km,run_underlying yQ,run_underlying CO,run_underlying Ly,kv,Conv.stringToBytes,run_choose,ui,pC,if_false,hnc,tc,yN,newRow,run_newObj,sT,kp,markStringish,run_shape,s0,hsh,run_freeze,hfz]
       rfl
     · rw[hss]
       have mB:all.toList=(s.data.toList.map fun b=>(vz .u8 b.toNat))++db (newCap-s.size) (vz .u8 0):=by rw[←yN];simp
       refine .os _ _ _ _ _ _ (VP.mk (us:=s.data.toList.map fun b=>(vz .u8 b.toNat)) (aV.cP (by simp) fun i a b=>by simp only[dE];exact .sc _) (by simp[hss]) jQ (ch _) fun k v hk=> ?_) (.inr ⟨aK,w.heap.size,0,rfl,rfl,by simp[Gh.put,Gh.more],by simp[Gh.put,Gh.more],by simp[Gh.put,Gh.more,hall],jQ⟩)
       have hk':=aT hk
       rw[oR,hss] at hk'
       refine⟨?_,.inr ⟨rfl,by omega,by omega⟩,?_⟩
       · rw[aH uG.new,←nb,mB,rh,pf (by rw[oR,hss];exact hk')]
         exact hk
       · obtain⟨b,_,rfl⟩:=fi.1 (oe hk);rfl
   · cases he
 · rename_i e b off len sz cap CO DK
   split at he
   · rename_i e' l yQ Ly hb
     simp only[dk,kl,di] at he
     obtain⟨rfl,rfl,h1,h2,h3⟩:=he
     have h1:=a8 h1
     have h2:=a8 h2
     have h3:=ft h3
     subst h1;subst h2
     obtain rfl:e'=e:=by have:=yQ.symm.trans CO;cases this;rfl
     rw[DK] at hx
     generalize hz:bD x=z at hx jR
     cases hx with
     |ms _ _ _ _ cap c hc hcap=>
     have sM:=getD_some hb (by simp)
     obtain⟨c',cs,et,n,k1,k2,k3,k4,k5⟩:=h.cells b _ _ sM rfl
     rw[hc] at k1;cases k1
     have hlen:=k4.1.len
     simp only[oR,ik] at hlen
     obtain⟨r1,r2,r3⟩:=h.CN sM hc
     obtain⟨⟨n',f1⟩,f2,f3,f4,f5,f6⟩:=yP w (off:=cs.size) k2
     have hno : ¬cj (g.more c 0 l.length) (m.set b .dead) c:=by
      rintro ⟨j,x,hj,ho,qn⟩
      rcases an hj with⟨_,e⟩ | ⟨lV,e⟩
      · subst e;simp[aF.bU] at ho
      · exact lV (h.inj j b x _ c e sM ho rfl qn hc)
     obtain⟨s1,s2⟩:=r1.JP hno k2 f1 f2
     have Ol:rJ g w l cs.toList:=aV.cP (by simpa using k4.1.len) fun i a b=>by
      have:=k4.1.get i (by simpa using a) b
      rw[dE,VA.pv] at this
      exact this
     have hpure : ∀o,o<l.length→(g.more c 0 l.length).pure c o:=fun o ho=> .inr ⟨rfl,Nat.zero_le _,ho⟩
     refine⟨.slice (some ⟨c,off,none⟩) len cap,_,_,.inl ?_,.p _ _ (VP.mk (us:=(cs.toList.drop off).take len) (aV.mono (fun _ _ q=>VP.mono (r2.trans s2).pure q) ((Ol.drop off).take len)) (by simp;omega) hcap (ch _) fun k v hk=> ?_),s1,r2.trans s2,⟨by rw[f3];exact ch _,fun k _ hn=>f2 k fun e=>hn (e▸⟨b,_,sM,rfl,hc⟩),fun b o p=>(r2.trans s2).pure b o p,r3.fresh,r3.owned,f4,f5,f6⟩⟩
     · rw[jR]
       have hsh:w.shape? c=some (et,cs.size):=by simp only[ta,k2]
       simp only[convert,km,run_underlying yQ,run_underlying Ly,kv,beq_self_eq_true,markStringish,run_shape,hsh,run_freeze,kp]
     · rw[dq] at hk
       split at hk
       · rename_i hlt
         rw[dv] at hk
         have hk':=aT hk
         refine⟨by rw[aH f1];simpa using hk,hpure (off+k) (by omega),k4.2 v (oe hk)⟩
       · cases hk
   · cases he
 · rename_i b off CO DK
   split at he
   · rename_i t ty l yQ hb
     split at he
     · rename_i j hj
       simp only[dk,kl,di] at he
       obtain⟨rfl,rfl,h1,h2⟩:=he
       have h1:=ft h1
       have h2:=ft h2
       rw[DK] at hx
       generalize hz:bD x=z at hx jR
       cases hx with
       |mp _ _ c hc=>
       obtain⟨c',ob,vs,k1,k2,k3,k4,_,_⟩:=h.obs b _ _ (getD_some hb (by simp))
       rw[hc] at k1;cases k1
       obtain⟨cs,e,n,rfl,_,_,q1,q2,_⟩:=k4
       have hl:=k3.len
       have hsh:w.shape? c=some (e,cs.size):=by simp only[ta,k2]
       refine bQ.quiet h (v:= .pointer (some ⟨c,off,none⟩)) ?_ (.mp b off c hc)
       rw[jR,Lib.run_to_unsafe w ⟨c,off,none⟩ yQ CO hj (by omega) hsh (by show off<cs.size;omega)]
       rfl
     · cases he
   · cases he
 · rename_i u b CO DK
   split at he
   · rename_i ty l yQ hb
     split at he
     · rename_i j hj
       simp only[dk,kl,di] at he
       obtain⟨rfl,rfl,h1,h2,h3⟩:=he
       have h1:=a8 h1
       have h2:=ft h2
       have h3:=ft h3
       subst h1
       rw[DK] at hx
       generalize hz:bD x=z at hx jR
       cases hx with
       |mp _ _ c hc=>
       obtain⟨c',ob,vs,k1,k2,k3,k4,_,_⟩:=h.obs b _ _ (getD_some hb (by simp))
       rw[hc] at k1;cases k1
       obtain⟨cs,e,n,rfl,rfl,_,q1,q2,_⟩:=k4
       have hl:=k3.len
       have hsh:w.shape? c=some (e,cs.size):=by simp only[ta,k2]
       refine bQ.quiet h (v:= .pointer (some ⟨c,0,none⟩)) ?_ (.mp b 0 c hc)
       rw[jR,Lib.run_from_unsafe w ⟨c,0,none⟩ yQ CO hj hsh (DJ (by omega) ((Nat.le_div_iff_mul_le (by omega)).2 (by omega)))]
       rfl
     · cases he
   · cases he
 · rename_i CO hnot
   split at he
   · rename_i e yQ
     split at he
     · rename_i Ly
       split at he
       · rename_i n bT ok fm
         simp only[dk,kl,di] at he
         obtain⟨rfl,rfl,rfl,h1⟩:=he
         obtain⟨vs,s1,s2,_,s4,s5⟩:=dV (P:=P) h fm hx
         obtain⟨ns,n1,n2⟩:=E8 s1 h1
         have s6:=s5 n (ch _)
         rw[ed (by omega),n1] at s6
         have Lz:ns.length=n:=by rw[n1] at s2;simpa using s2
         generalize hz:bD x=z at hx jR s4 s6
         refine bQ.quiet h (v:= .string ⟨(ns.map fun n=>wc n.toNat).toArray⟩) ?_ (by rw[n2];exact .p _ _ (.sc _))
         rw[jR]
         cases z with
         |slice ad len cap=>
          have hlen:len=n:=by simpa[mi] using s4
          subst hlen
          cases ad with
          |none=>
           have:ns=[]:=by
            have:(#[]:Array Value)=(ns.map (vz .u8)).toArray:=by simpa[mf] using s6
            have:=congrArg Array.size this
            simp at this
            exact pk.1 (by omega)
           subst this
           simp[convert,run_underlying yQ,run_underlying CO,run_underlying Ly,Conv.bytesToString,xc,wy]
           rfl
          |some ad=>
           have jq:(loadCells ad len).run P w = .ok (ns.map (vz .u8)).toArray w:=by simpa[mf] using s6
           have:=run_bytesToString (P:=P) w ad len cap ns jq
           simp only[convert,km,run_underlying yQ,run_underlying CO,run_underlying Ly,kv,this,foldl_push]
           simp[xc,wy]
           rfl
         |string s=>
          exfalso
          generalize Sj:ρ x=xx at hx hnot fm
          cases hx with
          |p pv _ hp=>cases hp;exact hnot s rfl
          |af=>simp[contents] at fm
         |_=>simp[mi] at s4
       · cases he
     · cases he
   · cases he
 · simp only[ja,kl,and_true] at he
   obtain⟨v,h1,rfl,rfl⟩:=he
   obtain⟨cv,k1,k2⟩:=ej hr (fun _ _=>by rw[ho];exact fun e=>by cases e) h1
   exact bQ.quiet h k1 k2
end ops
section
variable {P:Program} {g:Gh} {m:Mem} {w:World}
theorem xz {kt:TypeId} (h:rH P kt=true):WideMaps.KeyLaw P kt:=by
 simp only[rH,di] at h
 exact deep_law (m:=20) (by omega) h.2.1 h.2.2 h.1
theorem ny {kt:TypeId} {v:Value} {b:List UInt8} (h:tY P kt v=some b):keyOf P kt v=some (.string b):=by
 unfold tY at h
 split at h
 · rename_i s hs
   simp only[dk] at h
   rw[hs,h]
 · cases h
theorem mC {kt:TypeId} (hl:WideMaps.KeyLaw P kt) {x:Value} {b:List UInt8} (hx:tY P kt x=some b) : ∀{ks:List Value} {vs r:List AV} {cs:List Value} {bs:List Nat},oU P kt b ks vs=some r→bO g w vs cs→bs.length=cs.length →
  (∀e∈entriesOf ks cs bs,∃l,keyOf P kt e.key=some l)∧(∀e∈entriesOf ks cs bs,e.key=x → ∃v∈r,VA g w v e.val) ∧ ∀v∈r,∃e∈entriesOf ks cs bs,e.key=x
 |[],[],r,[],[],h,_,_=>by
  simp only[oU,dk] at h
  subst h
  exact⟨fun e he=>by simp[entriesOf] at he,fun e he=>by simp[entriesOf] at he,fun v hv=>by cases hv⟩
 |k::ks,v::vs,r,c::cs,n::bs,h,hv,hb=>by
  simp only[oU] at h
  split at h
  · rename_i b' r' h1 h2
    simp only[dk] at h
    obtain⟨i1,i2,i3⟩:=mC hl hx h2 hv.2 (by simpa using hb)
    have hk:=ny h1
    have QM:=ny hx
    cases hq:jK b b' with
    |true=>
     rw[hq] at h
     simp only[cond_true] at h
     subst h
     have QN:=oh hq
     subst QN
     have hkk:k=x:=hl.inj hk QM
     refine⟨?_,?_,?_⟩
     · intro e he
       simp only[entriesOf,oT] at he
       rcases he with rfl | he
       · exact⟨_,hk⟩
       · exact i1 e he
     · intro e he LA
       simp only[entriesOf,oT] at he
       rcases he with rfl | he
       · exact⟨v,.head _,hv.1⟩
       · obtain⟨u,q1,q2⟩:=i2 e he LA
         exact⟨u,.tail _ q1,q2⟩
     · intro u _
       exact⟨_,.head _,hkk⟩
    |false=>
     rw[hq] at h
     simp only[cond_false] at h
     subst h
     refine⟨?_,?_,?_⟩
     · intro e he
       simp only[entriesOf,oT] at he
       rcases he with rfl | he
       · exact⟨_,hk⟩
       · exact i1 e he
     · intro e he LA
       simp only[entriesOf,oT] at he
       rcases he with rfl | he
       · exfalso
         have LA:k=x:=LA
         subst LA
         rw[hx] at h1
         cases h1
         have : ∀l:List UInt8,jK l l=true:=by
          intro l
          induction l with
          |nil=>rfl
          |cons a l ih=>simp[jK,ih]
         rw[this] at hq;cases hq
       · exact i2 e he LA
     · intro u hu
       obtain⟨e,q1,q2⟩:=i3 u hu
       exact⟨e,.tail _ q1,q2⟩
  · cases h
 |_,_::_,_,[],_,_,hv,_=>hv.elim
 |_,[],_,_::_,_,_,hv,_=>hv.elim
 |[],_::_,_,_::_,_,h,_,_=>by simp[oU] at h
 |_::_,[],_,[],_,h,_,_=>by simp[oU] at h
 |_,_,_,_::_,[],_,_,hb=>by simp at hb
 |_,_,_,[],_::_,_,_,hb=>by simp at hb
theorem uH {kt:TypeId} {b:List UInt8} {key:Value} {v:AV} {cv:Value} {n:Nat} (hv:VA g w v cv) : ∀{ks:List Value} {us:List AV} {cs:List Value} {bs:List Nat},bO g w us cs→ks.length=cs.length→bs.length=cs.length →
  ∃cs' bs',bO g w (we P kt b key v ks us).2 cs'∧(we P kt b key v ks us).1.length=cs'.length∧bs'.length=cs'.length ∧
   (entriesOf (we P kt b key v ks us).1 cs' bs').Perm ({key:=key,val:=cv,born:=n}::entriesOf ks cs bs)
 |[],[],[],[],_,_,_=>⟨[cv],[n],⟨hv,trivial⟩,rfl,rfl,.refl _⟩
 |k::ks,u::us,c::cs,q::bs,h,h1,h2=>by
  have front : ∃cs' bs',bO g w (v::u::us) cs'∧(key::k::ks).length=cs'.length∧bs'.length=cs'.length∧(entriesOf (key::k::ks) cs' bs').Perm ({key:=key,val:=cv,born:=n}::entriesOf (k::ks) (c::cs) (q::bs)):=
   ⟨cv::c::cs,n::q::bs,⟨hv,h⟩,by simpa using h1,by simpa using h2,.refl _⟩
  unfold we
  split
  · rename_i c' _
    cases yx b c' with
    |true=>exact front
    |false=>
     obtain⟨cs',bs',p1,p2,p3,p4⟩:=uH hv (ks:=ks) (us:=us) (cs:=cs) (bs:=bs) h.2 (by simpa using h1) (by simpa using h2)
     refine⟨c::cs',q::bs',⟨h.1,p1⟩,by simpa using p2,by simpa using p3,?_⟩
     simp only[cond_false,entriesOf]
     exact(p4.cons _).trans (.swap _ _ _)
  · exact front
 |_,_::_,[],_,h,_,_=>h.elim
 |_,[],_::_,_,h,_,_=>h.elim
 |[],_::_,_::_,_,_,h,_=>by simp at h
 |_::_,[],[],_,_,h,_=>by simp at h
 |_,_,_::_,[],_,_,h=>by simp at h
 |_,_,[],_::_,_,_,h=>by simp at h
theorem yR (h:Rel g m w) {x:AV} {cx:Value} (hx:VA g w x cx) {ks:List Value} {vs:List AV} (he:qq (fun i=>m.getD i .dead) x=some (ks,vs)) :
  ∃r es clock cs bs,cx = .map (some r)∧w.heap[r]? = some (.map es clock)∧bO g w vs cs∧ks.length=cs.length∧bs.length=cs.length∧es.toList.Perm (entriesOf ks cs bs):=by
 unfold qq at he
 split at he
 · rename_i b
   split at he
   · rename_i ks' vs' hb
     simp only[dk,kl] at he
     obtain⟨rfl,rfl⟩:=he
     obtain⟨c,ob,cs,k1,k2,k3,k4,_⟩:=h.obs b _ _ (getD_some hb (by simp))
     simp only[fF.is] at k4
     obtain⟨es,clock,bs,rfl,q1,q2,q3⟩:=k4
     cases hx with
     |vm _ c' hc=>
      rw[k1] at hc;cases hc
      exact⟨c,es,clock,cs,bs,rfl,k2,k3,q1,q2,q3⟩
   · cases he
 · cases he
theorem As {t:TypeId} {z:AV} (h:lP P t=some z) : ∃cz,(∀w,(zeroValue t).run P w = .ok cz w)∧VA g w z cz:=by
 unfold lP at h
 cases hi:P.info? t with
 |none=>simp[hi] at h
 |some i=>
  cases hz:i.zero with
  |none=>simp[hi,hz] at h
  |some c=>
   simp only[hi,hz,jn,dk] at h
   subst h
   exact⟨c,fun w=>by simp[zeroValue,typeInfo,hi,hz],VA.CA c⟩
theorem wC (h:Rel g m w) {x k a:AV} {cx ck:Value} {t:TypeId} {ok:Bool} (hx:VA g w x cx) (hk:VA g w k ck) (he:tA P (fun i=>m.getD i .dead) t x k ok=some a) :
  ∃v,(rv t cx ck ok).run P w = .ok v w∧VA g w a v:=by
 unfold tA at he
 split at he
 · rename_i key kt et hkey hm
   obtain rfl:=BK hkey hk
   split at he
   · rename_i z ks vs b hz hu hb
     cases hw:rH P kt with
     |false=>rw[hw] at he;cases he
     |true=>
      rw[hw] at he
      simp only[cond_true] at he
      have hl:=xz hw
      obtain⟨cz,CL,BN⟩:=As (g:=g) (w:=w) hz
      obtain⟨r,es,clock,cs,bs,rfl,hr,hcs,e1,e2,e3⟩:=yR h hx hu
      have hlk:=ny hb
      cases hf:oU P kt b ks vs with
      |none=>rw[hf] at he;cases he
      |some l=>
       rw[hf] at he
       obtain⟨f1,f2,f3⟩:=mC hl hb hf hcs e2
       have hc:=hl.check w es.isEmpty hlk
       rcases hl.find w hlk es.toList (fun e he=>f1 e (e3.mem_iff.1 he)) with⟨q1,q2⟩ | ⟨j,e,q1,q2,q3⟩
       · match l,he with
         |[],he=>
          simp only[dk] at he
          subst he
          refine⟨cond ok (.tuple #[cz,.bool false]) cz,?_,?_⟩
          · cases ok<;>simp[rv,run_underlying hm,xf hr,hc,q1,CL,ra]
          · cases ok with
            |true=>exact VA.iR.2 ⟨BN,.p _ _ (.sc _),trivial⟩
            |false=>exact BN
         |[v],_=>
          obtain⟨e,p1,p2⟩:=f3 v (.head _)
          exact absurd p2 (q2 e (e3.mem_iff.2 p1))
       · have hmem:e∈es.toList:=oe q2
         obtain⟨v,p1,p2⟩:=f2 e (e3.mem_iff.1 hmem) q3
         match l,he,p1 with
         |[u],he,p1=>
          obtain rfl:v=u:=by simpa using p1
          simp only[dk] at he
          subst he
          refine⟨cond ok (.tuple #[e.val,.bool true]) e.val,?_,?_⟩
          · cases ok<;>simp[rv,run_underlying hm,xf hr,hc,q1,ra]
          · cases ok with
            |true=>exact VA.iR.2 ⟨p2,.p _ _ (.sc _),trivial⟩
            |false=>exact p2
   · cases he
 · cases he
theorem qD (h:Rel g m w) {x k v a:AV} {cx ck cv:Value} {t:TypeId} {us:lY} (hx:VA g w x cx) (hk:VA g w k ck) (hv:VA g w v cv)
  (he:gO P (fun i=>m.getD i .dead) t x k v=some (a,us,true)) :
  ∃w',(sa t cx ck cv).run P w = .ok () w'∧a = .bn []∧Rel g (apply m us) w'∧Ext g w g w'∧b7 g m w g (apply m us) w':=by
 unfold gO at he
 split at he
 · rename_i b key kt et hkey hm
   obtain rfl:=BK hkey hk
   split at he
   · rename_i ks vs lb hb hlb
     cases hw:rH P kt with
     |false=>rw[hw] at he;cases he
     |true=>
      rw[hw] at he
      simp only[cond_true] at he
      have hl:=xz hw
      split at he
      · rename_i hf
        simp only[dk,kl,and_true] at he
        obtain⟨rfl,rfl⟩:=he
        have hib:=getD_some hb (by simp)
        obtain⟨c,ob,cs,k1,k2,k3,k4,_⟩:=h.obs b _ _ hib
        simp only[fF.is] at k4
        obtain⟨es,clock,bs,rfl,e1,e2,e3⟩:=k4
        cases hx with
        |vm _ c' hc=>
         rw[k1] at hc;cases hc
         have hlk:=ny hlb
         obtain⟨f1,f2,f3⟩:=mC hl hlb hf k3 e2
         have yS:=hl.check w false hlk
         rcases hl.find w hlk es.toList (fun e he=>f1 e (e3.mem_iff.1 he)) with⟨q1,q2⟩ | ⟨j,e,q1,q2,q3⟩
         · obtain⟨cs',bs',p1,p2,p3,p4⟩:=uH (P:=P) (kt:=kt) (b:=lb) (key:=ck) (n:=clock) hv (ks:=ks) (us:=vs) (cs:=cs) (bs:=bs) k3 e1 e2
           obtain⟨s1,s2,s3⟩:(∀j,j≠c→({w with heap:=w.heap.setIfInBounds c (.map (es.push {key:=ck,val:=cv,born:=clock}) (clock+1))}:World).heap[j]? = w.heap[j]?) ∧
            ({w with heap:=w.heap.setIfInBounds c (.map (es.push {key:=ck,val:=cv,born:=clock}) (clock+1))}:World).heap.size=w.heap.size ∧
            ({w with heap:=w.heap.setIfInBounds c (.map (es.push {key:=ck,val:=cv,born:=clock}) (clock+1))}:World).heap[c]? = some (.map (es.push {key:=ck,val:=cv,born:=clock}) (clock+1)):=
            ⟨fun j hj=>(yi k2).2 j hj,by simp,(yi k2).1⟩
           obtain⟨r1,r2,r3⟩:=h.eM (wh:= .yj (we P kt lb ck v ks vs).1) (l':=(we P kt lb ck v ks vs).2) (vs':=cs') hib k1 s1 s2 rfl rfl rfl s3
            ⟨_,_,bs',rfl,p2,p3,by
              rw[Array.toList_push]
              exact(List.perm_append_comm.trans ((e3.cons _).trans p4.symm))⟩ p1
           refine⟨_,?_,rfl,r1,r2,r3⟩
           simp[sa,run_underlying hm,xf k2,yS,q1,xo _ k2,ra]
         · obtain⟨v',p1,_⟩:=f2 e (e3.mem_iff.1 (oe q2)) q3
           cases p1
      · cases he
   · cases he
 · cases he
end
section
variable {P:Program} {g:Gh} {m:Mem} {w:World}
theorem rO {d:TypeDesc} {k:Value} (h:plainKey d k=true):yb d k:=by
 cases d<;>cases k<;>simp_all [plainKey,yb]
theorem jT {t:TypeId} {z:AV} (h:lP P t=some z) : ∃cz,(∀w,(zeroValue t).run P w = .ok cz w)∧VA g w z cz:=by
 unfold lP at h
 cases hi:P.info? t with
 |none=>simp[hi] at h
 |some i=>
  cases hz:i.zero with
  |none=>simp[hi,hz] at h
  |some c=>
   simp only[hi,hz,jn,dk] at h
   subst h
   exact⟨c,fun w=>by simp[zeroValue,typeInfo,hi,hz],VA.CA c⟩
theorem uI {t s xt:TypeId} {ok:Bool} {cv:Value} {d:TypeDesc} (hu:P.underlying t=some d) (hni : ∀ms,d ≠ .interface ms) :
  (se (.iface s cv) xt t ok).run P w=(if s=t then(.ok (if ok then .tuple #[cv,.bool true] else cv) w) else
    (do if ok then pure (.tuple #[←zeroValue t,.bool false]) else runtimePanic (.typeAssertion (some xt) (some s) t ""):Sem Value).run P w):=by
 unfold se
 simp only[km,run_underlying hu,kv]
 cases d<;>first
  |exact absurd rfl (hni _)
  |(by_cases e:s=t<;>simp[e])
theorem DL {t xt:TypeId} {d:TypeDesc} {ok:Bool} {v:AV} (hu:P.underlying t=some d) (HC : ∀ms,d ≠ .interface ms) (s:TypeId) (u:AV) (cu:Value) (hv:VA g w u cu) (h:(match a6 s t,ok with
  |true,true=>some (AV.bn [u,sB true])
  |true,false=>some u
  |false,true=>(lP P t).map fun z=> .bn [z,sB false]
  |false,false=>none)=some v) : ∃cv,(se (.iface s cu) xt t ok).run P w = .ok cv w∧VA g w v cv:=by
 rw[uI hu HC]
 cases hb:a6 s t with
 |true=>
  have e:=a8 hb
  rw[hb] at h
  rw[if_pos e]
  cases ok with
  |true=>
   simp only[dk] at h;subst h
   exact⟨_,rfl,VA.iR.2 ⟨hv,.p _ _ (.sc _),trivial⟩⟩
  |false=>
   simp only[dk] at h;subst h
   exact⟨_,rfl,hv⟩
 |false=>
  have e:s≠t:=fun e=>by subst e;rw[Nat.beq_refl] at hb;cases hb
  rw[hb] at h
  rw[if_neg e]
  cases ok with
  |true=>
   simp only[ja] at h
   obtain⟨z,hz,rfl⟩:=h
   obtain⟨cz,h1,h2⟩:=jT (g:=g) (w:=w) hz
   exact⟨.tuple #[cz,.bool false],by simp[h1],VA.iR.2 ⟨h2,.p _ _ (.sc _),trivial⟩⟩
  |false=>cases h
theorem uJ {t xt:TypeId} {x v:AV} {cx:Value} {ok:Bool} (he:ue P t x ok=some v) (hx:VA g w x cx) : ∃cv,(se cx xt t ok).run P w = .ok cv w∧VA g w v cv:=by
 unfold ue at he
 split at he
 · cases he
 · rename_i d hni hu
   have HC : ∀ms,d ≠ .interface ms:=fun ms e=>hni ms e
   have fin:= @DL P g w t xt d ok v hu HC
   split at he
   · cases hx with
     |p _ _ hx=>cases hx with
      |sc=>
       split at he
       · rename_i z hz
         simp only[dk] at he;subst he
         obtain⟨cz,h1,h2⟩:=jT (g:=g) (w:=w) hz
         refine⟨.tuple #[cz,.bool false],?_,VA.iR.2 ⟨h2,.p _ _ (.sc _),trivial⟩⟩
         unfold se
         simp only[km,run_underlying hu,kv]
         cases d<;>first
          |exact absurd rfl (HC _)
          |simp[h1]
       · cases he
   · cases hx with
     |p _ _ hx=>cases hx with
      |jF _ _ cv h=>exact fin _ _ cv (.p _ _ h) he
   · cases hx with
     |jF _ _ cv h=>exact fin _ _ cv h he
   · cases hx with
     |p _ _ hx=>cases hx with
      |sc=>exact fin _ _ _ (VA.CA _) he
   · cases he
 · cases he
theorem rP {d:TypeDesc} {k:Value} : ∀{ks:List Value} {vs:List AV} {bs:List Nat} {cs:List Value} {r:Option AV} (n:Nat),nO d k ks vs bs=some r→bO g w vs cs →
  match r with
  |some v=> ∃i cv,sb d k (entriesOf ks cs bs) n=some (some (i,cv))∧VA g w v cv
  |none=>sb d k (entriesOf ks cs bs) n=some none
 |[],[],[],[],r,n,h,_=>by
  simp only[nO,dk] at h
  subst h
  rfl
 |k'::ks,v::vs,b::bs,c::cs,r,n,h,hv=>by
  simp only[nO] at h
  simp only[entriesOf,sb]
  cases hs:sm d k k' with
  |none=>rw[hs] at h;cases h
  |some q=>
   rw[hs] at h
   cases q with
   |true=>
    simp only[dk] at h
    subst h
    exact⟨n,c,rfl,hv.1⟩
   |false=>exact rP (n+1) h hv.2
 |_,_::_,_,[],_,_,_,hv=>hv.elim
 |_,[],_,_::_,_,_,_,hv=>hv.elim
 |_::_,[],_,_,_,_,h,_=>by simp[nO] at h
 |[],_::_,_,_,_,_,h,_=>by simp[nO] at h
 |[],[],_::_,_,_,_,h,_=>by simp[nO] at h
 |_::_,_::_,[],_,_,_,h,_=>by simp[nO] at h
theorem key_eq {k:Value} {cv:Value} (h:VA g w (.p (.sc k)) cv):cv=k:=by
 rw[VA.pv] at h
 cases h
 rfl
theorem At (h:Rel g m w) {x:AV} {cx:Value} (hx:VA g w x cx) {ks:List Value} {vs:List AV} {bs:List Nat} (he:mapOf (fun i=>m.getD i .dead) x=some (ks,vs,bs)) :
  ∃cs,bO g w vs cs∧((cx = .map none∧ks=[]∧vs=[]∧bs=[]) ∨ ∃r clock,cx = .map (some r)∧w.heap[r]? = some (.map (entriesOf ks cs bs).toArray clock)):=by
 unfold mapOf at he
 split at he
 · simp only[dk,kl] at he
   obtain⟨rfl,rfl,rfl⟩:=he
   exact⟨[],trivial,.inl ⟨key_eq hx,rfl,rfl,rfl⟩⟩
 · rename_i b
   split at he
   · rename_i ks' bs' clock vs' hb
     simp only[dk,kl] at he
     obtain⟨rfl,rfl,rfl⟩:=he
     obtain⟨c,ob,cs,k1,k2,k3,k4,_⟩:=h.obs b _ _ (getD_some hb (by simp))
     simp only[fF.is] at k4
     subst k4
     cases hx with
     |vm _ c' hc=>
      rw[k1] at hc;cases hc
      exact⟨cs,k3,.inr ⟨c,clock,rfl,k2⟩⟩
   · cases he
 · cases he
theorem uK (h:Rel g m w) {x k a:AV} {cx ck:Value} {t:TypeId} {ok:Bool} (hx:VA g w x cx) (hk:VA g w k ck) (he:kr P (fun i=>m.getD i .dead) t x k ok=some a) :
  ∃v,(rv t cx ck ok).run P w = .ok v w∧VA g w a v:=by
 unfold kr at he
 split at he
 · rename_i key
   obtain rfl:=key_eq hk
   split at he
   · rename_i kt et hm
     split at he
     · rename_i d z ks vs bs hd hz hmap
       cases hp:plainKey d ck with
       |false=>simp[hp] at he
       |true=>
        simp only[hp,cond_true] at he
        have hik:=rO hp
        obtain⟨cz,CL,BN⟩:=jT (g:=g) (w:=w) hz
        obtain⟨cs,hcs,E9⟩:=At h hx hmap
        have hc : ∀e,(sg e 10000 kt ck).run P w = .ok () w:=fun e=>xv hd hik e 9999
        have L1:entriesOf [] cs []=[]:=by cases cs<;>rfl
        cases hf:nO d ck ks vs bs with
        |none=>simp[hf] at he
        |some r=>
         have hs:=rP (g:=g) (w:=w) 0 hf hcs
         cases r with
         |none=>
          simp only[hf,dk] at he
          subst he
          simp only at hs
          have hk:=xi (w:=w) hd hs
          refine⟨cond ok (.tuple #[cz,.bool false]) cz,?_,?_⟩
          · rcases E9 with⟨rfl,rfl,rfl,rfl⟩ | ⟨r,clock,rfl,hr⟩
            · rw[L1] at hk
              cases ok<;>simp[rv,run_underlying hm,hc,hk,CL,ra]
            · cases ok<;>simp[rv,run_underlying hm,xf hr,hc,hk,CL,ra]
          · cases ok with
            |true=>exact VA.iR.2 ⟨BN,.p _ _ (.sc _),trivial⟩
            |false=>exact BN
         |some u=>
          simp only[hf,dk] at he
          subst he
          obtain⟨i,cv,hs1,He⟩:=hs
          have hk:=xi (w:=w) hd hs1
          refine⟨cond ok (.tuple #[cv,.bool true]) cv,?_,?_⟩
          · rcases E9 with⟨rfl,rfl,rfl,rfl⟩ | ⟨r,clock,rfl,hr⟩
            · rw[L1] at hk
              cases ok<;>simp[rv,run_underlying hm,hc,hk,ra]
            · cases ok<;>simp[rv,run_underlying hm,xf hr,hc,hk,ra]
          · cases ok with
            |true=>exact VA.iR.2 ⟨He,.p _ _ (.sc _),trivial⟩
            |false=>exact He
     · cases he
   · cases he
 · exact wC h hx hk he
 · cases he
theorem uL {d:TypeDesc} {k:Value} {v:AV} {cv:Value} (hik:yb d k) (hv:VA g w v cv) : ∀{ks:List Value} {vs:List AV} {bs:List Nat} {cs:List Value} {r:Option (List AV)} (n:Nat),tZ d k v ks vs bs=some r→bO g w vs cs →
  match r with
  |some l=> ∃i o cs',sb d k (entriesOf ks cs bs) n=some (some (n+i,o))∧((entriesOf ks cs bs)[i]?).map (·.key)=some k∧(entriesOf ks cs bs).modify i (fun e=>{e with key:=k,val:=cv})=entriesOf ks cs' bs∧bO g w l cs'
  |none=>sb d k (entriesOf ks cs bs) n=some none∧ks.length=vs.length∧bs.length=vs.length
 |[],[],[],[],r,n,h,_=>by
  simp only[tZ,dk] at h
  subst h
  exact⟨rfl,rfl,rfl⟩
 |k'::ks,u::vs,b::bs,c::cs,r,n,h,hvs=>by
  simp only[tZ] at h
  simp only[entriesOf,sb]
  cases hs:sm d k k' with
  |none=>rw[hs] at h;cases h
  |some q=>
   rw[hs] at h
   cases q with
   |true=>
    simp only[dk] at h
    subst h
    have hkk:k'=k:=by
     cases d<;>cases k<;>simp only[yb] at hik<;>cases k'<;>simp only[sm] at hs<;>first
      |cases hs
      |(split at hs
        · rename_i e1;subst e1;simp at hs;subst hs;rfl
        · cases hs)
      |(simp only[dk,yn,beq_iff_eq] at hs;subst hs;rfl)
    subst hkk
    exact⟨0,c,cv::cs,rfl,rfl,rfl,hv,hvs.2⟩
   |false=>
    cases hr:tZ d k v ks vs bs with
    |none=>simp[hr] at h
    |some r'=>
     have ih:=uL hik hv (n+1) hr hvs.2
     cases r' with
     |none=>
      simp only[hr,dk] at h
      subst h
      exact⟨ih.1,by simp[ih.2.1],by simp[ih.2.2]⟩
     |some l=>
      simp only[hr,dk] at h
      subst h
      obtain⟨i,o,cs',q1,q2,q3,q4⟩:=ih
      refine⟨i+1,o,c::cs',by rw[q1];simp;omega,by simpa using q2,?_,hvs.1,q4⟩
      simp only[List.modify_succ_cons,entriesOf,q3]
 |_,_::_,_,[],_,_,_,hv=>hv.elim
 |_,[],_,_::_,_,_,_,hv=>hv.elim
 |_::_,[],_,_,_,_,h,_=>by simp[tZ] at h
 |[],_::_,_,_,_,_,h,_=>by simp[tZ] at h
 |[],[],_::_,_,_,_,h,_=>by simp[tZ] at h
 |_::_,_::_,[],_,_,_,h,_=>by simp[tZ] at h
theorem jr {k:Value} {cv:Value} {b:Nat} : ∀{ks cs:List Value} {bs:List Nat},ks.length=cs.length→bs.length=cs.length→entriesOf ks cs bs++[{key:=k,val:=cv,born:=b}]=entriesOf (ks++[k]) (cs++[cv]) (bs++[b])
 |[],[],[],_,_=>rfl
 |_::ks,_::cs,_::bs,h,h'=>by simp[entriesOf,jr (ks:=ks) (cs:=cs) (bs:=bs) (by simpa using h) (by simpa using h')]
 |[],_::_,_,h,_=>by simp at h
 |_::_,[],_,h,_=>by simp at h
 |[],[],_::_,_,h=>by simp at h
 |_::_,_::_,[],_,h=>by simp at h
theorem cw (w:World) {r:Nat} {o':Obj} {o:Obj} (hb:w.heap[r]? = some o) :
  (∀k,k≠r→({w with heap:=w.heap.setIfInBounds r o'}:World).heap[k]? = w.heap[k]?)∧({w with heap:=w.heap.setIfInBounds r o'}:World).heap.size=w.heap.size∧({w with heap:=w.heap.setIfInBounds r o'}:World).heap[r]? = some o':=
 ⟨fun k hk=>(yi hb).2 k hk,by simp,(yi hb).1⟩
theorem pH (h:Rel g m w) {x k v a:AV} {cx ck cv:Value} {t:TypeId} {us:lY} (hx:VA g w x cx) (hk:VA g w k ck) (hv:VA g w v cv)
  (he:fV P (fun i=>m.getD i .dead) t x k v=some (a,us,true)) :
  ∃w',(sa t cx ck cv).run P w = .ok () w'∧a = .bn []∧Rel g (apply m us) w'∧Ext g w g w'∧b7 g m w g (apply m us) w':=by
 unfold fV at he
 split at he
 · rename_i b key
   obtain rfl:=key_eq hk
   split at he
   · rename_i kt et ks bs clock vs hm hb
     split at he
     · rename_i d hd
       cases hp:plainKey d ck with
       |false=>simp[hp] at he
       |true=>
        simp only[hp,cond_true] at he
        have hik:=rO hp
        have hib:=getD_some hb (by simp)
        obtain⟨c,ob,cs,k1,k2,k3,k4,_⟩:=h.obs b _ _ hib
        simp only[fF.is] at k4
        subst k4
        cases hx with
        |vm _ c' hc=>
         rw[k1] at hc;cases hc
         have yS : ∀e,(sg e 10000 kt ck).run P w = .ok () w:=fun e=>xv hd hik e 9999
         cases hu:tZ d ck v ks vs bs with
         |none=>simp[hu] at he
         |some r=>
          have hs:=uL (g:=g) (w:=w) hik hv 0 hu k3
          cases r with
          |some l=>
           simp only[hu,dk,kl,and_true] at he
           obtain⟨rfl,rfl⟩:=he
           obtain⟨i,o,cs',q1,q2,q3,q4⟩:=hs
           rw[rh] at q1
           have hfind:=xi (w:=w) hd q1
           obtain⟨e1,e2,e3⟩:=cw w (o':= .map (entriesOf ks cs' bs).toArray clock) k2
           obtain⟨r1,r2,r3⟩:=h.eM (wh:= .map ks bs clock) (l':=l) (vs':=cs') hib k1 e1 e2 rfl rfl rfl e3 rfl q4
           refine⟨_,?_,rfl,r1,r2,r3⟩
           have hsame:si 10000 ck ck=true:=by
            cases d<;>cases ck<;>simp only[yb] at hik<;>simp[si,yn]
           have hmod:(entriesOf ks cs bs).toArray.modify i (fun e=>{e with key:=ck,val:=cv})=(entriesOf ks cs' bs).toArray:=by
            rw[←q3];simp
           simp[sa,run_underlying hm,xf k2,yS,hfind,ss,hsame,xo _ k2,ra,q2,q3]
          |none=>
           simp only[hu,dk,kl,and_true] at he
           obtain⟨rfl,rfl⟩:=he
           obtain⟨q1,q2,q3⟩:=hs
           have hlen:=k3.len
           have hfind:=xi (w:=w) hd q1
           obtain⟨e1,e2,e3⟩:=cw w (o':= .map (entriesOf (ks++[ck]) (cs++[cv]) (bs++[clock])).toArray (clock+1)) k2
           obtain⟨r1,r2,r3⟩:=h.eM (wh:= .map (ks++[ck]) (bs++[clock]) (clock+1)) (l':=vs++[v]) (vs':=cs++[cv]) hib k1 e1 e2 rfl rfl rfl e3 rfl (k3.append (⟨hv,trivial⟩:bO g w [v] [cv]))
           refine⟨_,?_,rfl,r1,r2,r3⟩
           have Fa:(entriesOf ks cs bs).toArray.push {key:=ck,val:=cv,born:=clock}=(entriesOf (ks++[ck]) (cs++[cv]) (bs++[clock])).toArray:=by
            rw[←jr (by omega) (by omega)];simp
           simp[sa,run_underlying hm,xf k2,yS,hfind,Fa,xo _ k2,ra]
     · cases he
   · cases he
 · exact qD h hx hk hv he
 · cases he
abbrev pI (ns:List ByteArray) (bs:List Nat):List MapEntry:=entriesOf (ns.map .string) (ns.map fun _=> .bool true) bs
theorem uM : ∀{ns:List ByteArray} {bs:List Nat} {e:MapEntry},e∈pI ns bs → ∃x∈ns,e.key = .string x∧e.val = .bool true
 |x::ns,b::bs,e,h=>by
  rcases oT.1 h with rfl | h
  · exact⟨x,.head _,rfl,rfl⟩
  · obtain⟨y,h1,h2⟩:=uM (ns:=ns) (bs:=bs) h
    exact⟨y,.tail _ h1,h2⟩
 |[],_,_,h=>by cases h
 |_::_,[],_,h=>by cases h
theorem CP : ∀{ns:List ByteArray} {bs:List Nat} {x:ByteArray},bs.length=ns.length→x∈ns → ∃e∈pI ns bs,e.key = .string x
 |y::ns,b::bs,x,hl,h=>by
  rcases oT.1 h with rfl | h
  · exact⟨_,.head _,rfl⟩
  · obtain⟨e,h1,h2⟩:=CP (ns:=ns) (bs:=bs) (by simpa using hl) h
    exact⟨e,.tail _ h1,h2⟩
 |[],_,_,_,h=>by cases h
 |_::_,[],_,hl,_=>by simp at hl
theorem Au {ns:List ByteArray} {s:ByteArray}:sG ns s=true↔s∈ns:=by
 have e : ∀x:ByteArray,(x.data.toList==s.data.toList)=true↔x=s:=fun x=>by
  rw[beq_iff_eq]
  constructor
  · intro h
    obtain⟨⟨a⟩⟩:=x
    obtain⟨⟨b⟩⟩:=s
    simpa using h
  · rintro rfl;rfl
 unfold sG
 rw[List.any_eq_true]
 constructor
 · rintro ⟨x,h1,h2⟩
   rwa [←(e x).1 h2]
 · intro h
   exact⟨s,h,(e s).2 rfl⟩
theorem xA {ns:List ByteArray} {bs:List Nat} (hl:bs.length=ns.length) (s:ByteArray) :
  (sG ns s=false∧sb .string (.string s) (pI ns bs) 0=some none) ∨
    (sG ns s=true ∧ ∃j e,sb .string (.string s) (pI ns bs) 0=some (some (j,.bool true))∧(pI ns bs)[j]? = some e∧e.key = .string s∧e.val = .bool true):=by
 have hk:yb .string (.string s):=trivial
 rcases MapKept.findNow_spec hk (pI ns bs) 0 (fun x hx=>by
  obtain⟨y,_,h2,_⟩:=uM hx
  rw[h2];trivial) with⟨h1,h2⟩ | ⟨j,e,h1,h2,h3⟩
 · refine .inl ⟨?_,h1⟩
   cases hh:sG ns s with
   |false=>rfl
   |true=>
    obtain⟨e,k1,k2⟩:=CP hl (Au.1 hh)
    exact absurd k2 (h2 e k1)
 · obtain⟨y,k1,k2,k3⟩:=uM (oe h2)
   refine .inr ⟨Au.2 ?_,j,e,?_,h2,h3,k3⟩
   · rw[k2] at h3
     cases h3
     exact k1
   · rw[h1,k3,rh]
theorem uN (g:Gh) (w0:World) {t:TypeId} (h:oV P t=true) : ∃kt et,P.underlying t=some (.map kt et)∧P.underlying kt=some .string ∧ ∀w,(zeroValue et).run P w = .ok (.bool false) w:=by
 unfold oV at h
 split at h
 · rename_i kt et hm
   split at h
   · rename_i h1 h2
     obtain⟨cz,z1,z2⟩:=jT (g:=g) (w:=w0) h2
     rw[VA.pv] at z2
     cases z2
     exact⟨kt,et,hm,h1,z1⟩
   · cases h
 · cases h
theorem pJ (h:Rel g m w) {x:AV} {cx:Value} (hx:VA g w x cx) {ns:List ByteArray} (he:oa (fun i=>m.getD i .dead) x=some ns) :
  ∃b r bs clock l,x = .vm b∧m[b]? = some (.ob (.smap ns) l)∧g.aN b=some r∧cx = .map (some r)∧w.heap[r]? = some (.map (pI ns bs).toArray clock)∧bs.length=ns.length∧bO g w l []:=by
 unfold oa at he
 split at he
 · rename_i b
   split at he
   · rename_i ns' l hb
     simp only[dk] at he
     subst he
     have hib:=getD_some hb (by simp)
     obtain⟨c,ob,cs,k1,k2,k3,k4,_⟩:=h.obs b _ _ hib
     simp only[fF.is] at k4
     obtain⟨rfl,bs,clock,rfl,k5⟩:=k4
     cases hx with
     |vm _ c' hc=>
      rw[k1] at hc;cases hc
      exact⟨b,c,bs,clock,l,rfl,hib,k1,rfl,k2,k5,k3⟩
   · cases he
 · cases he
theorem yT (h:Rel g m w) {x k a:AV} {cx ck:Value} {t:TypeId} {ok:Bool} (hx:VA g w x cx) (hk:VA g w k ck) (he:qu P (fun i=>m.getD i .dead) t x k ok=some a) :
  ∃v,(rv t cx ck ok).run P w = .ok v w∧VA g w a v:=by
 unfold qu at he
 split at he
 · rename_i ns hs
   obtain⟨b,r,bs,clock,l,rfl,h1,h2,rfl,h3,h4,h5⟩:=pJ h hx hs
   split at he
   · rename_i s
     obtain rfl:=key_eq hk
     split at he
     · rename_i ht
       obtain⟨kt,et,t1,t2,t3⟩:=uN g w ht
       simp only[dk] at he
       subst he
       have hc : ∀e,(sg e 10000 kt (.string s)).run P w = .ok () w:=fun e=>xv t2 (d:= .string) (k:= .string s) trivial e 9999
       refine⟨cond ok (.tuple #[.bool (sG ns s),.bool (sG ns s)]) (.bool (sG ns s)),?_,?_⟩
       · rcases xA h4 s with⟨q0,q1⟩ | ⟨q0,j,e,q1,q2,q3,q4⟩
         · have hf:=xi (w:=w) t2 q1
           cases ok<;>simp[rv,run_underlying t1,xf h3,hc,hf,t3,ra,q0]
         · have hf:=xi (w:=w) t2 q1
           cases ok<;>simp[rv,run_underlying t1,xf h3,hc,hf,ra,q0]
       · cases ok with
         |true=>exact VA.iR.2 ⟨.p _ _ (.sc _),.p _ _ (.sc _),trivial⟩
         |false=>exact .p _ _ (.sc _)
     · cases he
   · cases he
 · exact uK h hx hk he
theorem rQ (h:Rel g m w) {x k v a:AV} {cx ck cv:Value} {t:TypeId} {us:lY} (hx:VA g w x cx) (hk:VA g w k ck) (hv:VA g w v cv)
  (he:ud P (fun i=>m.getD i .dead) t x k v=some (a,us,true)) :
  ∃w',(sa t cx ck cv).run P w = .ok () w'∧a = .bn []∧Rel g (apply m us) w'∧Ext g w g w'∧b7 g m w g (apply m us) w':=by
 unfold ud at he
 split at he
 · rename_i ns hs
   obtain⟨b,r,bs,clock,l,rfl,h1,h2,rfl,h3,h4,h5⟩:=pJ h hx hs
   split at he
   · rename_i b' s DK
     cases DK
     obtain rfl:=key_eq hk
     obtain rfl:=key_eq hv
     split at he
     · rename_i ht
       obtain⟨kt,et,t1,t2,t3⟩:=uN g w ht
       simp only[dk,kl,and_true] at he
       obtain⟨rfl,rfl⟩:=he
       have hc : ∀e,(sg e 10000 kt (.string s)).run P w = .ok () w:=fun e=>xv t2 (d:= .string) (k:= .string s) trivial e 9999
       rcases xA h4 s with⟨q0,q1⟩ | ⟨q0,j,e,q1,q2,q3,q4⟩
       · have hf:=xi (w:=w) t2 q1
         have ea:EL ns s=ns++[s]:=by unfold EL;rw[q0];rfl
         rw[ea]
         have Fa:(pI ns bs).toArray.push {key:= .string s,val:= .bool true,born:=clock}=(pI (ns++[s]) (bs++[clock])).toArray:=by
          have k:=jr (k:= .string s) (cv:= .bool true) (b:=clock) (ks:=ns.map .string) (cs:=ns.map fun _=> .bool true) (bs:=bs) (by simp) (by simpa using h4)
          simp only[pI,px,pj,List.map_nil]
          rw[←k]
          simp
         obtain⟨e1,e2,e3⟩:=cw w (o':= .map (pI (ns++[s]) (bs++[clock])).toArray (clock+1)) h3
         obtain⟨r1,r2,r3⟩:=h.eM (wh:= .smap (ns++[s])) (l':=[]) (vs':=[]) h1 h2 e1 e2 rfl rfl rfl e3 ⟨rfl,bs++[clock],clock+1,rfl,by simp[h4]⟩ trivial
         refine⟨_,?_,rfl,r1,r2,r3⟩
         simp[sa,run_underlying t1,xf h3,hc,hf,Fa,xo _ h3,ra]
       · have hf:=xi (w:=w) t2 q1
         have ea:EL ns s=ns:=by unfold EL;rw[q0];rfl
         rw[ea]
         have hmod:((pI ns bs).modify j fun e=>{key:= .string s,val:= .bool true,born:=e.born})=pI ns bs:=by
          apply List.ext_getElem?
          intro i
          rw[List.getElem?_modify]
          by_cases ij:j=i
          · subst ij
            rw[q2]
            obtain⟨ek,ev,eb⟩:=e
            simp only at q3 q4
            subst q3 q4
            simp
          · simp[ij]
         obtain⟨e1,e2,e3⟩:=cw w (o':= .map (pI ns bs).toArray clock) h3
         obtain⟨r1,r2,r3⟩:=h.eM (wh:= .smap ns) (l':=[]) (vs':=[]) h1 h2 e1 e2 rfl rfl rfl e3 ⟨rfl,bs,clock,rfl,h4⟩ trivial
         refine⟨_,?_,rfl,r1,r2,r3⟩
         have hsame:si 10000 (.string s) (.string s)=true:=by simp[si,yn]
         simp[sa,run_underlying t1,xf h3,hc,hf,ss,hsame,xo _ h3,ra,q2,q3,hmod]
     · cases he
   · cases he
 · exact pH h hx hk hv he
theorem xB {t e:TypeId} (hd:P.underlying t=some (.pointer e)) (a:Addr):(yr t (.pointer (some a)) (.pointer none)).run P w = .ok false w∧(yr t (.pointer none) (.pointer (some a))).run P w = .ok false w:=by
 refine⟨?_,?_⟩
 · show(yo (9999+1) t _ _).run P w = .ok false w
   rw[yo];simp only[km,run_underlying hd,kv];rfl
 · show(yo (9999+1) t _ _).run P w = .ok false w
   rw[yo];simp only[km,run_underlying hd,kv];rfl
theorem xC {t k e:TypeId} (hd:P.underlying t=some (.map k e)) (a:Nat):(yr t (.map (some a)) (.map none)).run P w = .ok false w∧(yr t (.map none) (.map (some a))).run P w = .ok false w:=by
 refine⟨?_,?_⟩
 · show(yo (9999+1) t _ _).run P w = .ok false w
   rw[yo];simp only[km,run_underlying hd,kv];rfl
 · show(yo (9999+1) t _ _).run P w = .ok false w
   rw[yo];simp only[km,run_underlying hd,kv];rfl
theorem fo (op:BinOp) (t:TypeId) (a b:Operand):(∀p q,(eqGuard op t a b (.pointer p) (.pointer q)).run P w = .ok () w) ∧ ∀p q,(eqGuard op t a b (.map p) (.map q)).run P w = .ok () w:=by
 refine⟨fun p q=> ?_,fun p q=> ?_⟩<;>(unfold eqGuard;cases op<;>rfl)
theorem lp (t:TypeId) {cx cy:Value} (h:(∃p q,cx = .pointer p∧cy = .pointer q) ∨ ∃p q,cx = .map p∧cy = .map q) (op:BinOp) (ho:op = .eql∨op = .neq) :
  binOp op t cx cy=(do let r ←yr t cx cy;pure (.bool (if op = .eql then r else !r)):Sem Value):=by
 rcases h with⟨p,q,rfl,rfl⟩ | ⟨p,q,rfl,rfl⟩<;>rcases ho with rfl | rfl<;>rfl
theorem uO {d:TypeDesc} {x y:AV} {cx cy:Value} (hx:VA g w x cx) (hy:VA g w y cy) (h:w9 d x y=true) :
  (∃e a,d = .pointer e∧cx = .pointer (some a)∧cy = .pointer none) ∨ ∃k e a,d = .map k e∧cx = .map (some a)∧cy = .map none:=by
 unfold w9 at h
 split at h
 · split at h
   · obtain rfl:=key_eq hy
     split at h
     · rw[VA.pv] at hx
       cases hx
       exact .inl ⟨_,_,rfl,rfl,rfl⟩
     · cases hx
       exact .inl ⟨_,_,rfl,rfl,rfl⟩
     · cases h
   · cases h
 · split at h
   · obtain rfl:=key_eq hy
     split at h
     · cases hx
       exact .inr ⟨_,_,_,rfl,rfl,rfl⟩
     · cases h
   · cases h
 · cases h
theorem Av {ρ:Operand→AV} {bD:Operand→Value} (hr : ∀x,VA g w (ρ x) (bD x)) {o:Oper} {op:BinOp} {t yt:TypeId} {x y:Operand} (ho:o.op = .binOp op t x y yt) {a:AV} {us:lY} {ok:Bool} (he:CE P op t (ρ x) (ρ y)=some (a,us,ok)) :
  us=[] ∧ ∃v,(execOp bD o).run P w = .ok (.value v) w∧VA g w a v:=by
 unfold CE at he
 split at he
 · rename_i d hd
   have key:w9 d (ρ x) (ρ y)=true∨w9 d (ρ y) (ρ x)=true→(∀op':BinOp,(eqGuard op' t x y (bD x) (bD y)).run P w = .ok () w)∧(yr t (bD x) (bD y)).run P w = .ok false w∧((∃p q,bD x = .pointer p∧bD y = .pointer q) ∨ ∃p q,bD x = .map p∧bD y = .map q):=by
    rintro (h | h)
    · rcases uO (hr x) (hr y) h with⟨e,a,rfl,e1,e2⟩ | ⟨k,e,a,rfl,e1,e2⟩
      · rw[e1,e2]
        exact⟨fun op'=>(fo op' t x y).1 _ _,(xB hd _).1,.inl ⟨_,_,rfl,rfl⟩⟩
      · rw[e1,e2]
        exact⟨fun op'=>(fo op' t x y).2 _ _,(xC hd _).1,.inr ⟨_,_,rfl,rfl⟩⟩
    · rcases uO (hr y) (hr x) h with⟨e,a,rfl,e1,e2⟩ | ⟨k,e,a,rfl,e1,e2⟩
      · rw[e1,e2]
        exact⟨fun op'=>(fo op' t x y).1 _ _,(xB hd _).2,.inl ⟨_,_,rfl,rfl⟩⟩
      · rw[e1,e2]
        exact⟨fun op'=>(fo op' t x y).2 _ _,(xC hd _).2,.inr ⟨_,_,rfl,rfl⟩⟩
   split at he
   · rename_i hok
     rw[kd] at hok
     obtain⟨k1,k2,k3⟩:=key hok
     simp only[dk,kl] at he
     obtain⟨rfl,rfl,_⟩:=he
     refine⟨rfl,.bool false,?_,.p _ _ (.sc _)⟩
     simp only[execOp,ho,km,k1,kv,lp t k3 _ (.inl rfl),k2,kp]
     rfl
   · rename_i hok
     rw[kd] at hok
     obtain⟨k1,k2,k3⟩:=key hok
     simp only[dk,kl] at he
     obtain⟨rfl,rfl,_⟩:=he
     refine⟨rfl,.bool true,?_,.p _ _ (.sc _)⟩
     simp only[execOp,ho,km,k1,kv,lp t k3 _ (.inr rfl),k2,kp]
     rfl
   · cases he
 · cases he
end
section
variable {P:Program} {g:Gh} {m:Mem} {w:World}
theorem Rel.move (h:Rel g m w) {b aK c:Nat} {k:fF} {l:List AV} (hb:m[b]? = some (.ob k l)) (hc:g.aN b=some c) (hn:m[aK]? = some .free) :
  Rel (g.put aK c (g.lo b) (g.hi b)) ((m.set b .dead).set aK (.ob k l)) w∧Ext g w (g.put aK c (g.lo b) (g.hi b)) w∧b7 g m w (g.put aK c (g.lo b) (g.hi b)) ((m.set b .dead).set aK (.ob k l)) w:=by
 have hne:b≠aK:=fun e=>by subst e;rw[hb] at hn;cases hn
 have hf:=h.free aK hn
 have get : ∀j x,((m.set b .dead).set aK (.ob k l))[j]? = some x→(j=aK∧x = .ob k l)∨x = .dead∨(j≠aK∧j≠b∧m[j]? = some x):=by
  intro j x hj
  rcases an hj with⟨e,q⟩ | ⟨hjn,q⟩
  · exact .inl ⟨e,q⟩
  · rcases an q with⟨_,q⟩ | ⟨lV,q⟩
    · exact .inr (.inl q)
    · exact .inr (.inr ⟨hjn,lV,q⟩)
 have bo : ∀j,j≠aK→(g.put aK c (g.lo b) (g.hi b)).aN j=g.aN j:=fun j hj=>by simp[Gh.put,hj]
 have bi:(g.put aK c (g.lo b) (g.hi b)).aN aK=some c:=by simp[Gh.put]
 have ext:Ext g w (g.put aK c (g.lo b) (g.hi b)) w:=⟨fun j c' hj=>by
  have:j≠aK:=fun e=>by subst e;rw[hf] at hj;cases hj
  simp[Gh.put,this,hj],fun _ _ p=>⟨p,rfl⟩⟩
 have ne : ∀j x c',j≠b→m[j]? = some x→x.bU=true→g.aN j=some c'→c'≠c:=fun j x c' lV hj ho dx e=>lV (h.inj j b x _ c hj hb ho rfl (e▸dx) hc)
 obtain⟨c0,ob,vs,h1,h2,h3,h4,h5,h6⟩:=h.obs b _ _ hb
 rw[hc] at h1;cases h1
 refine⟨⟨fun j hj=> ?_,fun j hj=> ?_,fun j x kk hj hk=> ?_,fun j c' hj dx=> ?_,fun j q x x' c' hj hk ho ho' eL eS=> ?_,h.there,fun j kk ll hj=> ?_⟩,ext,⟨ch _,fun _ _ _=>rfl,fun _ _ p=>⟨p,rfl⟩,fun _ _ p=> .inl p,fun c' ho=> ?_,rfl,rfl,rfl⟩⟩
 · have hl:=aT hn
   simp only[eh] at hj
   rw[bo j (by omega)];exact h.qm j hj
 · rcases get j _ hj with⟨_,e⟩ | e | ⟨hjn,_,e⟩
   · cases e
   · cases e
   · rw[bo j hjn];exact h.free j e
 · rcases get j _ hj with⟨_,e⟩ | e | ⟨hjn,lV,e⟩
   · subst e;cases hk
   · subst e;cases hk
   · obtain⟨c1,cs1,e1,n1,q1,q2,q3,q4,q5⟩:=h.cells j x kk e hk
     exact⟨c1,cs1,e1,n1,(bo j hjn).trans q1,q2,q3,q4.mono ext,q5⟩
 · rcases get j _ hj with⟨_,e⟩ | e | ⟨hjn,lV,e⟩
   · cases e
   · cases e
   · rw[bo j hjn] at dx
     obtain⟨cs1,e1,n1,q2,q3,q4,q5⟩:=h.tok j c' e dx
     have e1:(g.put aK c (g.lo b) (g.hi b)).hi j=g.hi j:=by simp[Gh.put,hjn]
     have e2:(g.put aK c (g.lo b) (g.hi b)).lo j=g.lo j:=by simp[Gh.put,hjn]
     rw[e1,e2]
     exact⟨cs1,_,n1,q2,q3,q4,q5⟩
 · rcases get j _ hj with⟨rfl,e⟩ | e | ⟨hjn,lV,e⟩
   · rcases get q _ hk with⟨rfl,_⟩ | e' | ⟨Fb,L2,e'⟩
     · rfl
     · subst e';simp[aF.bU] at ho'
     · rw[bi] at eL;cases eL
       rw[bo q Fb] at eS
       exact absurd rfl (ne q x' _ L2 e' ho' eS)
   · subst e;simp[aF.bU] at ho
   · rcases get q _ hk with⟨rfl,_⟩ | e' | ⟨Fb,L2,e'⟩
     · rw[bi] at eS;cases eS
       rw[bo j hjn] at eL
       exact absurd rfl (ne j x _ lV e ho eL)
     · subst e';simp[aF.bU] at ho'
     · rw[bo j hjn] at eL;rw[bo q Fb] at eS
       exact h.inj j q x x' c' e e' ho ho' eL eS
 · rcases get j _ hj with⟨rfl,e⟩ | e | ⟨hjn,lV,e⟩
   · cases e
     exact⟨c,ob,vs,bi,h2,h3.mono ext,h4,h5,by simpa[Gh.put] using h6⟩
   · cases e
   · obtain⟨c1,o1,vs1,q1,q2,q3,q4,q5,q6⟩:=h.obs j kk ll e
     exact⟨c1,o1,vs1,(bo j hjn).trans q1,q2,q3.mono ext,q4,q5,by simpa[Gh.put,hjn] using q6⟩
 · obtain⟨j,x,hj,hx,qn⟩:=ho
   rcases get j _ hj with⟨rfl,e⟩ | e | ⟨hjn,lV,e⟩
   · rw[bi] at qn;cases qn
     exact .inl ⟨b,_,hb,rfl,hc⟩
   · subst e;simp[aF.bU] at hx
   · rw[bo j hjn] at qn
     exact .inl ⟨j,x,e,hx,qn⟩
theorem uP {α:Type} : ∀(n l:List α) (o:Nat),o+n.length≤l.length→(bK l o n).take (o+n.length)=l.take o++n
 |[],l,o,_=>by simp[bK]
 |v::n,l,o,h=>by
  simp only[od] at h
  have:=uP n (l.set o v) (o+1) (by simp;omega)
  simp only[bK,od]
  rw[show o+(n.length+1)=o+1+n.length by omega,this,List.take_succ_eq_append_getElem (by simp;omega),py,List.set_eq_of_length_le (by simp;omega)]
  simp
theorem Aw (h:Rel g m w) {b c:Nat} {l:List AV} (hl:iW (m.getD b .dead)=some l) (hc:g.aN b=some c) :
  ∃cs e n,w.heap[c]? = some (.cells cs e n)∧n.2≤n.1∧bO g w l (cs.toList.take l.length)∧l.length≤cs.size ∧ ∀v∈cs.toList,v.oneCell'=true:=by
 have cells : ∀x,m[b]? = some x→x.cells?=some l → ∃cs e n,w.heap[c]? = some (.cells cs e n)∧n.2≤n.1∧bO g w l (cs.toList.take l.length)∧l.length≤cs.size ∧ ∀v∈cs.toList,v.oneCell'=true:=by
  intro x hx hxl
  obtain⟨c',cs,e,n,k1,k2,k3,k4,k5⟩:=h.cells b x l hx hxl
  rw[hc] at k1;cases k1
  have hlen:=k4.1.len
  simp only[ik] at hlen
  exact⟨cs,e,n,k2,k3,by rw[hlen,ed (by simp)];exact k4.1,by omega,k4.2⟩
 generalize hx:m.getD b .dead=x at hl
 unfold iW at hl
 split at hl
 · simp only[dk] at hl;subst hl
   exact cells _ (getD_some hx (by simp)) rfl
 · simp only[dk] at hl;subst hl
   exact cells _ (getD_some hx (by simp)) rfl
 · simp only[dk] at hl;subst hl
   obtain⟨c',ob,vs,k1,k2,k3,k4,_,_⟩:=h.obs b _ _ (getD_some hx (by simp))
   rw[hc] at k1;cases k1
   obtain⟨cs,e,n,rfl,_,q0,q1,q2,q3⟩:=k4
   have hlen:=k3.len
   exact⟨cs,e,n,k2,q0,by rw[hlen,←q1];exact k3,by omega,q3⟩
 · cases hl
theorem bO.L3 {l:List PV} {vs:List Value} (h:rJ g w l vs):bO g w (l.map .p) vs:=aV.cP (by simpa using h.len) fun i a b=>by
 have:=h.get i (by simpa using a) b
 rw[dE];exact .p _ _ this
theorem ew (h:Rel g m w) {sz n:Nat} {x:AV} {cx:Value} {l:List AV} (he:cg (fun i=>m.getD i .dead) sz x=some (n,l,true)) (hx:VA g w x cx) :
  ∃vs:List Value,bO g w l vs∧vs.length=n*sz∧(∀v∈vs,v.oneCell'=true)∧(mi cx).run P w = .ok n w ∧ ∀k,k≤n→(mf sz k cx).run P w = .ok (vs.take (k*sz)).toArray w:=by
 unfold cg at he
 split at he
 · rename_i n' bT ok hc
   simp only[dk,kl] at he
   obtain⟨rfl,rfl,rfl⟩:=he
   obtain⟨vs,h1,h2,h3,h4,h5⟩:=dV (P:=P) h hc hx
   exact⟨vs,bO.L3 h1,h2,h3,h4,h5⟩
 · split at he
   · rename_i b off len s cap _
     split at he
     · rename_i l0 hb
       simp only[dk,kl,di,fw] at he
       obtain⟨rfl,rfl,rfl,h1⟩:=he
       have h1:=ft h1
       cases hx with
       |ms _ _ _ _ cap c hc hcap=>
       obtain⟨c',cs,e,q,k1,k2,k3,k4,k5⟩:=h.cells b _ _ (getD_some hb (by simp)) rfl
       rw[hc] at k1;cases k1
       have hone:=k4.2
       have yM:=k4.1
       have hlen:=yM.len
       simp only[ik] at hlen
       have hvl:((cs.toList.drop off).take (len*s)).length=len*s:=by
        rw[eQ,List.length_drop,ik];omega
       refine⟨(cs.toList.drop off).take (len*s),mA ((yM.drop off).take (len*s)),hvl,fun v hv=>hone v (List.mem_of_mem_drop (dt hv)),by simp[mi],fun k hk=> ?_⟩
       have hl:(((cs.toList.drop off).take (len*s)).take (k*s)).length=k*s:=by
        rw[eQ,hvl];exact rb (fx _ hk)
       have:=run_loadCells_list (P:=P) w ⟨c,off,none⟩ (((cs.toList.drop off).take (len*s)).take (k*s)) (fun j v hj=>by
        rw[cm,aH k2]
        rw[dq] at hj
        split at hj
        · rw[dq] at hj
          split at hj
          · rw[dv] at hj;simpa using hj
          · cases hj
        · cases hj)
       rw[hl] at this
       simpa[mf] using this
     · cases he
   · cases he
theorem uQ (h:Rel g m w) {sz n:Nat} {x:AV} {cx:Value} {l:List AV} (he:cg (fun i=>m.getD i .dead) sz x=some (n,l,true)) (hx:VA g w x cx) :
  ∃vs:List Value,bO g w l vs∧vs.length=n*sz∧(∀v∈vs,v.oneCell'=true)∧(mi cx).run P w.drew = .ok n w.drew ∧ ∀k,k≤n→(mf sz k cx).run P w.drew = .ok (vs.take (k*sz)).toArray w.drew:=by
 obtain⟨h1,h2,_⟩:=h.jl (w':=w.drew) rfl rfl rfl rfl
 obtain⟨vs,k1,k2,k3,k4,k5⟩:=ew (P:=P) h1 he (hx.mono h2)
 exact⟨vs,bO.mono (g:=g) (w:=w.drew) ⟨fun _ _ q=>⟨q,rfl,rfl⟩,fun c o p=>⟨p,(h2.pure c o p).2.symm⟩⟩ k1,k2,k3,k4,k5⟩
theorem Ax (K:fF) (h:Rel g m w) {aK:Nat} (hn:m[aK]? = some .free) {argTypes:Array TypeId} {ty sType xType elem:TypeId} {d:TypeDesc} {info:TypeInfo} {z:List AV} {x:AV} {cx:Value} {n:Nat} {bT:List AV} {ad:Option Addr} {len cap:Nat} {l:List AV} {vs:List Value}
  (hs0:argTypes[0]? = some sType) (hx0:argTypes[1]? = some xType) (hu:P.underlying sType=some (.slice elem)) (qC:P.underlying xType=some d) (hd : ∀k,d ≠ .int k) (hi:P.info? elem=some info) (hz:zeroCells P elem=some z)
  (hx:VA g w x cx) (fm:cg (fun i=>m.getD i .dead) info.size x=some (n,bT,true)) (h2:1≤info.size) (h3:z.length=info.size) (h4:(len+n)*info.bytes≤cE) (h5:len+n≤cE)
  (hl:bO g w l vs) (hone : ∀v∈vs,v.oneCell'=true) (hvl:vs.length=len*info.size) (jq:(mf info.size len (.slice ad len cap)).run P w.drew = .ok vs.toArray w.drew) (dz : ¬len+n≤cap)
  (hK : ∀(all:Array Value) (vx zs:List Value),bO g w bT vx→all.toList=vs++vx++zs→(vs++vx).length≤all.size→(∀v∈all.toList,v.oneCell'=true)→(∀v∈zs,∃a∈z,VA g w a v)→all.size≤9223372036854775807*info.size→K.is (.cells all elem) (vs++vx)∧K.room (.cells all elem) all.size) :
  ∃newCap g' w',(((do pure (.value (←vb argTypes ty #[.slice ad len cap,cx])):Sem Next)).run P w) = .ok (.value (.slice (some ⟨w.heap.size,0,none⟩) (len+n) newCap)) w' ∧
   Rel g' (m.set aK (.ob K (l++bT))) w'∧Ext g w g' w'∧b7 g m w g' (m.set aK (.ob K (l++bT))) w'∧VA g' w' (.ms aK 0 (len+n) info.size none) (.slice (some ⟨w.heap.size,0,none⟩) (len+n) newCap):=by
 obtain⟨zv,z1,z2⟩:=bY (g:=g) (w:=w) hz
 have hzl:=z2.1.len
 simp only[ik] at hzl
 have hzs:zv.cells.size=info.size:=by omega
 have hsz:eV P elem=some info.size:=by simp[eV,hi]
 unfold cE at h4 h5
 obtain⟨_,_,_,_,l3,_⟩:=ew (P:=P) h fm hx
 obtain⟨vx,x1,x2,wD,x3,x4⟩:=uQ (P:=P) h fm hx
 have x5:=x4 n (ch _)
 rw[ed (by omega)] at x5
 obtain⟨d1,d2,d3⟩:=h.jl (w':=w.drew) rfl rfl rfl rfl
 have jQ:=j7 (len+n) cap elem (w.tape w.drawn (.appendCap (len+n) cap elem))
 have L4:(ub (len+n) cap elem).cut (w.tape w.drawn (.appendCap (len+n) cap elem))≤9223372036854775807:=by
  have hlt:=rp (w.tape w.drawn (.appendCap (len+n) cap elem)) (show 0<2 ^ 63-(len+n) by omega)
  show len+n+w.tape w.drawn (.appendCap (len+n) cap elem)%(2 ^ 63-(len+n))≤9223372036854775807
  omega
 generalize hnc:(ub (len+n) cap elem).cut (w.tape w.drawn (.appendCap (len+n) cap elem))=newCap at jQ L4
 have uF:(uv zv.cells (newCap-(len+n))).size=(newCap-(len+n))*info.size:=by simp[uv,hzs]
 have hmul:(len+n)*info.size=len*info.size+n*info.size:=re _ _ _
 have hall:(vs.toArray++vx.toArray++uv zv.cells (newCap-(len+n))).size=newCap*info.size:=by
  simp only[na,po,uF,hvl,x2]
  rw[gl,hmul]
  have:=fx info.size jQ
  rw[hmul] at this
  omega
 have L5 : ∀v∈(uv zv.cells (newCap-(len+n))).toList,v.oneCell'=true:=by
  intro v hv
  simp only[uv,iv,fi] at hv
  obtain⟨i,_,rfl⟩:=hv
  have hlt:i%zv.cells.size<zv.cells.size:=rp _ (by omega)
  rw[getElem!_pos zv.cells _ hlt]
  exact z2.2 _ (by simp)
 have Om : ∀v∈(uv zv.cells (newCap-(len+n))).toList,∃a∈z,VA g w a v:=by
  intro v hv
  simp only[uv,iv,fi] at hv
  obtain⟨i,_,rfl⟩:=hv
  have hlt:i%zv.cells.size<zv.cells.size:=rp _ (by omega)
  rw[getElem!_pos zv.cells _ hlt]
  have Qb:i%zv.cells.size<z.length:=by omega
  exact⟨z[i%zv.cells.size],List.getElem_mem Qb,by have:=z2.1.get (i%zv.cells.size) Qb (by simpa using hlt);rwa [Array.getElem_toList] at this⟩
 generalize yN:vs.toArray++vx.toArray++uv zv.cells (newCap-(len+n))=all at hall
 have mB:all.toList=vs++vx++(uv zv.cells (newCap-(len+n))).toList:=by rw[←yN];simp
 have uG:om w (w.drew.alloc (.cells all elem)) (.cells all elem):=⟨rfl,rfl,rfl,rfl⟩
 have yM:bO g w (l++bT) (vs++vx):=hl.append x1
 have HD : ∀v∈all.toList,v.oneCell'=true:=fun v hv=>by
  rw[mB] at hv
  rcases o0.1 hv with q | q
  · rcases o0.1 q with q | q
    · exact hone v q
    · exact wD v q
  · exact L5 v q
 have Qc:=hK all vx _ x1 mB (by rw[hall,dC,hvl,x2,←hmul];exact fx _ jQ) HD Om (by rw[hall];exact fx _ L4)
 obtain⟨r1,r2,r3⟩:=h.o8 all.size (ob:=K) (l:=l++bT) (vs:=vs++vx) hn yM uG
  Qc.1 Qc.2
 refine⟨newCap,_,_,?_,r1,r2,r3,.mg aK 0 _ _ newCap w.heap.size (by simp[Gh.put]) jQ (by simp[Gh.put,hall])⟩
 have JO : ¬(((len+n:Nat):Int)>tl.max):=by
  rw[show tl.max=9223372036854775807 from by decide];omega
 have hgrow : ¬(vj (len+n) cap*info.bytes>2 ^ 48):=by
  have:=growslice_fits (need:=len+n) (old:=cap) (bytes:=info.bytes) (by omega) (by omega)
  omega
 simp only[vb,hs0,hx0,oi,np,nz,km,run_underlying hu,kv,aB hsz,run_underlying qC,kp,pC,if_false,l3,dz,qf,JO,false_and,eE hi,hgrow,run_choose,ui,hnc,tc,run_askRoom,jq,x5,z1,yN,if_true,newRow,run_newObj,sT,s0]
theorem yU (pq:Bool) (h:Rel g m w) {aK:Nat} (hn:m[aK]? = some .free) {argTypes:Array TypeId} {ty sType xType elem:TypeId} {d:TypeDesc} {info:TypeInfo} {z:List AV} {x:AV} {cx:Value} {n:Nat} {bT:List AV} {ad:Option Addr} {len cap:Nat} {l:List AV} {vs:List Value}
  (hs0:argTypes[0]? = some sType) (hx0:argTypes[1]? = some xType) (hu:P.underlying sType=some (.slice elem)) (qC:P.underlying xType=some d) (hd : ∀k,d ≠ .int k) (hi:P.info? elem=some info) (hz:zeroCells P elem=some z)
  (hx:VA g w x cx) (fm:cg (fun i=>m.getD i .dead) info.size x=some (n,bT,true)) (h2:1≤info.size) (h3:z.length=info.size) (h4:(len+n)*info.bytes≤cE) (h5:len+n≤cE)
  (hl:bO g w l vs) (hone : ∀v∈vs,v.oneCell'=true) (hvl:vs.length=len*info.size) (jq:(mf info.size len (.slice ad len cap)).run P w.drew = .ok vs.toArray w.drew) (dz : ¬len+n≤cap) :
  ∃newCap g' w',(((do pure (.value (←vb argTypes ty #[.slice ad len cap,cx])):Sem Next)).run P w) = .ok (.value (.slice (some ⟨w.heap.size,0,none⟩) (len+n) newCap)) w' ∧
   Rel g' (m.set aK (.ob (.gr elem pq) (l++bT))) w'∧Ext g w g' w'∧b7 g m w g' (m.set aK (.ob (.gr elem pq) (l++bT))) w'∧VA g' w' (.ms aK 0 (len+n) info.size none) (.slice (some ⟨w.heap.size,0,none⟩) (len+n) newCap):=
 Ax (.gr elem pq) h hn hs0 hx0 hu qC hd hi hz hx fm h2 h3 h4 h5 hl hone hvl jq dz fun all vx zs _ mB hle L6 _ _=>
  ⟨⟨all,elem,(0,0),rfl,rfl,ch _,by rw[mB,pb (ch _),pw],hle,L6⟩,rfl⟩
theorem iy : ∀{l:List AV} {vs:List Value},allBy l=true→bO g w l vs → ∀v∈vs,∃k,v = .int .u8 k
 |[],[],_,_=>fun v hv=>by cases hv
 |a::l,v::vs,h,k=>by
  simp only[allBy,di] at h
  intro u hu
  cases hu with
  |head=>
   have hk:=k.1
   have h1:=h.1
   match a,h1,hk with
   |.p (.sc (.int .u8 n)),_,hk=>
    rw[VA.pv] at hk
    cases hk
    exact⟨n,rfl⟩
  |tail _ hu=>exact iy h.2 k.2 u hu
 |[],_::_,_,h=>h.elim
 |_::_,[],_,h=>h.elim
theorem xD : ∀{l:List AV},allBy l=true → ∀a∈l,allBy [a]=true
 |x::l,h,a,ha=>by
  simp only[allBy,di] at h
  cases ha with
  |head=>simp[allBy,h.1]
  |tail _ ha=>exact xD h.2 a ha
theorem Ay (h:Rel g m w) {aK:Nat} (hn:m[aK]? = some .free) {argTypes:Array TypeId} {ty sType xType elem:TypeId} {d:TypeDesc} {info:TypeInfo} {z:List AV} {x:AV} {cx:Value} {n:Nat} {bT:List AV} {ad:Option Addr} {len cap:Nat} {l:List AV} {vs:List Value}
  (hs0:argTypes[0]? = some sType) (hx0:argTypes[1]? = some xType) (hu:P.underlying sType=some (.slice elem)) (qC:P.underlying xType=some d) (hd : ∀k,d ≠ .int k) (hi:P.info? elem=some info) (hz:zeroCells P elem=some z)
  (hx:VA g w x cx) (fm:cg (fun i=>m.getD i .dead) info.size x=some (n,bT,true)) (h2:1≤info.size) (h3:z.length=info.size) (h4:(len+n)*info.bytes≤cE) (h5:len+n≤cE)
  (hl:bO g w l vs) (sM : ∀v∈vs,∃k,v = .int .u8 k) (JQ:info.size=1) (hbz:allBy z=true) (NX:allBy bT=true) (hvl:vs.length=len*info.size) (jq:(mf info.size len (.slice ad len cap)).run P w.drew = .ok vs.toArray w.drew) (dz : ¬len+n≤cap) :
  ∃newCap g' w',(((do pure (.value (←vb argTypes ty #[.slice ad len cap,cx])):Sem Next)).run P w) = .ok (.value (.slice (some ⟨w.heap.size,0,none⟩) (len+n) newCap)) w' ∧
   Rel g' (m.set aK (.ob (.gb elem) (l++bT))) w'∧Ext g w g' w'∧b7 g m w g' (m.set aK (.ob (.gb elem) (l++bT))) w'∧VA g' w' (.ms aK 0 (len+n) info.size none) (.slice (some ⟨w.heap.size,0,none⟩) (len+n) newCap):=
 Ax (.gb elem) h hn hs0 hx0 hu qC hd hi hz hx fm h2 h3 h4 h5 hl (fun v hv=>by obtain⟨k,rfl⟩:=sM v hv;rfl) hvl jq dz fun all vx zs hx1 mB hle _ hzs hsz=>
  ⟨⟨all,elem,(0,0),rfl,rfl,ch _,by rw[mB,pb (ch _),pw],hle,fun v hv=>by
    rw[mB] at hv
    rcases o0.1 hv with q | q
    · rcases o0.1 q with q | q
      · exact sM v q
      · exact iy NX hx1 v q
    · obtain⟨a,ha,yM⟩:=hzs v q
      exact iy (l:=[a]) (vs:=[v]) (xD hbz a ha) ⟨yM,trivial⟩ v (.head _),by rw[JQ,Nat.mul_one] at hsz;exact hsz⟩,rfl⟩
theorem run_append_room (h:Rel g m w) {argTypes:Array TypeId} {ty sType xType elem:TypeId} {d:TypeDesc} {info:TypeInfo} {x:AV} {cx:Value} {n:Nat} {bT:List AV} {c len cap:Nat} {cs:Array Value} {e:TypeId} {q:Nat×Nat}
  (hs0:argTypes[0]? = some sType) (hx0:argTypes[1]? = some xType) (hu:P.underlying sType=some (.slice elem)) (qC:P.underlying xType=some d) (hd : ∀k,d ≠ .int k) (hi:P.info? elem=some info)
  (hx:VA g w x cx) (fm:cg (fun i=>m.getD i .dead) info.size x=some (n,bT,true)) (hc:w.heap[c]? = some (.cells cs e q)) (hq:q.2≤q.1) (hroom:(len+n)*info.size≤cs.size) (dz:len+n≤cap) :
  ∃w' cs' vx,(((do pure (.value (←vb argTypes ty #[.slice (some ⟨c,0,none⟩) len cap,cx])):Sem Next)).run P w) = .ok (.value (.slice (some ⟨c,0,none⟩) (len+n) cap)) w' ∧
   bO g w bT vx∧vx.length=n*info.size∧(∀v∈vx,v.oneCell'=true)∧cs'.toList=bK cs.toList (len*info.size) vx∧w'.heap[c]? = some (.cells cs' e q) ∧
   (∀k,k≠c→w'.heap[k]? = w.heap[k]?)∧w'.heap.size=w.heap.size∧w'.os=w.os∧w'.tape=w.tape∧w'.output=w.output:=by
 have hsz:eV P elem=some info.size:=by simp[eV,hi]
 obtain⟨vx,x1,x2,wD,x3,x4⟩:=ew (P:=P) h fm hx
 have x5:=x4 n (ch _)
 rw[ed (by omega)] at x5
 have hmul:(len+n)*info.size=len*info.size+n*info.size:=re _ _ _
 obtain⟨w',cs',p1,p2,p3,p4,p5,p6,p7,p8⟩:=fS (P:=P) c (len*info.size) vx 0 w cs e q hc (fun j hj=> .inl hq) (by omega) wD
 simp only[rf] at p3
 refine⟨w',cs',vx,?_,x1,x2,wD,p3,p2,p4,p5,p6,p7,p8⟩
 have E7:(⟨c,0,none⟩:Addr).add (len*info.size)=⟨c,len*info.size,none⟩:=by rw[cm,rh]
 simp only[vb,hs0,hx0,oi,np,nz,km,run_underlying hu,kv,aB hsz,run_underlying qC,kp,pC,if_false,x3,dz,if_true,qf,x5,E7,p1]
theorem mD {c len cap sz:Nat} {cs:Array Value} {e:TypeId} {q:Nat×Nat} (hc:w.heap[c]? = some (.cells cs e q)) (hl:len*sz≤cs.size) :
  (mf sz len (.slice (some ⟨c,0,none⟩) len cap)).run P w = .ok (cs.toList.take (len*sz)).toArray w:=by
 have:=run_loadCells_list (P:=P) w ⟨c,0,none⟩ (cs.toList.take (len*sz)) (fun j v hj=>by
  rw[cm,rh,aH hc]
  rw[dq] at hj
  split at hj
  · simpa using hj
  · cases hj)
 rw[eQ,ik,rb hl] at this
 simpa[mf] using this
theorem mE (h:Rel g m w) {aK:Nat} (hn:m[aK]? = some .free) {argTypes:Array TypeId} {ty sType xType elem t:TypeId} {d:TypeDesc} {info:TypeInfo} {z:List AV} {x:AV} {cs cx:Value} {b len n:Nat} {pq:Bool} {l bT:List AV}
  (hs0:argTypes[0]? = some sType) (hx0:argTypes[1]? = some xType) (hu:P.underlying sType=some (.slice elem)) (qC:P.underlying xType=some d) (hd' : ∀k,d ≠ .int k) (hi:P.info? elem=some info) (hz:zeroCells P elem=some z)
  (hs:VA g w (.ms b 0 len info.size none) cs) (hx:VA g w x cx) (fm:cg (fun i=>m.getD i .dead) info.size x=some (n,bT,true)) (sM:m[b]? = some (.ob (.gr t pq) l))
  (h2:1≤info.size) (h3:z.length=info.size) (h4:(len+n)*info.bytes≤cE) (h5:len+n≤cE) (h7:len*info.size≤l.length) (h8:t=elem) :
  bQ g m w (((do pure (.value (←vb argTypes ty #[cs,cx])):Sem Next)).run P w) (.ms aK 0 (len+n) info.size none) (apply m [(b,.dead),(aK,.ob (.gr t (pq&&je (fun i=>m.getD i .dead) info.size x)) (l.take (len*info.size)++bT))]):=by
 subst h8
 cases hs with
 |mg _ _ _ _ cap c hc hcap hroom=>
 have hne:b≠aK:=fun e=>by subst e;rw[sM] at hn;cases hn
 obtain⟨c',ob,vs,k1,k2,k3,k4,k5,k6⟩:=h.obs b _ _ sM
 rw[hc] at k1;cases k1
 obtain⟨cells,e,q,rfl,qt,q0,q1,q2,q3⟩:=k4
 have An:=k3.len
 have k6:cells.size=g.hi b:=k6
 have hmul:(len+n)*info.size=len*info.size+n*info.size:=re _ _ _
 by_cases dz:len+n≤cap
 · have JN:(len+n)*info.size≤cap*info.size:=fx _ dz
   obtain⟨w',cs',vx,r0,x1,x2,wD,p3,p2,p4,p5,p6,p7,p8⟩:=run_append_room (P:=P) (ty:=ty) h hs0 hx0 hu qC hd' hi hx fm k2 q0 (by omega) dz
   have Eu:=x1.len
   have hsize:cs'.size=cells.size:=by
    have:=congrArg pn p3
    rw[fY] at this;simpa using this
   have yM:bO g w (l.take (len*info.size)++bT) (vs.take (len*info.size)++vx):=(k3.take _).append x1
   have Jn:(vs.take (len*info.size)).length=len*info.size:=by rw[eQ];omega
   obtain⟨r1,r2,r3⟩:=h.eM (wh:= .gr t (pq&&je (fun i=>m.getD i .dead) info.size x)) (l':=l.take (len*info.size)++bT) (vs':=vs.take (len*info.size)++vx) sM hc p4 p5 p6 p7 p8 p2
    ⟨cs',e,q,rfl,qt,q0,by
      rw[dC,Jn,p3,uP vx cells.toList _ (by simp;omega),q1,pa,rb (by omega)],by rw[dC,Jn,x2,hsize];omega,fun v hv=>by
      rw[p3] at hv
      exact iw _ _ _ q3 wD v hv⟩ yM (by show cs'.size=g.hi b;rw[hsize];exact k6)
   have hb':(m.set b (.ob (.gr t (pq&&je (fun i=>m.getD i .dead) info.size x)) (l.take (len*info.size)++bT)))[b]? = some (.ob (.gr t (pq&&je (fun i=>m.getD i .dead) info.size x)) (l.take (len*info.size)++bT)):=by rw[nd (aT sM)]
   obtain⟨s1,s2,s3⟩:=r1.move hb' hc (by rw[ov hne];exact hn)
   rw[o6] at s1 s3
   exact⟨_,w',_,.inl r0,.mg aK 0 _ _ cap c (by simp[Gh.put]) dz (by simp[Gh.put];omega),s1,r2.trans s2,r3.trans s3⟩
 · have jq:=mD (P:=P) (w:=w.drew) (c:=c) (len:=len) (cap:=cap) (sz:=info.size) k2 (by omega)
   have On:vs.take (len*info.size)=cells.toList.take (len*info.size):=by rw[q1,pa,rb (by omega)]
   obtain⟨newCap,g',w',r0,r1,r2,r3,r4⟩:=yU (P:=P) (pq&&je (fun i=>m.getD i .dead) info.size x) (ty:=ty) (l:=l.take (len*info.size)) (vs:=cells.toList.take (len*info.size)) h hn hs0 hx0 hu qC hd' hi hz hx fm h2 h3 h4 h5 (by rw[←On];exact k3.take _)
    (fun v hv=>q3 v (dt hv)) (by rw[eQ,ik];omega) jq dz
   obtain⟨t1,t2⟩:=r1.kill b
   have e1:((m.set aK (.ob (.gr t (pq&&je (fun i=>m.getD i .dead) info.size x)) (l.take (len*info.size)++bT))).set b .dead)=apply m [(b,.dead),(aK,.ob (.gr t (pq&&je (fun i=>m.getD i .dead) info.size x)) (l.take (len*info.size)++bT))]:=by
    simp only[apply]
    exact pB _ _ (fun e=>hne e.symm)
   rw[e1] at t1 t2
   exact⟨_,w',g',.inl r0,r4,t1,r2,r3.trans t2⟩
theorem uR (h:Rel g m w) {aK:Nat} (hn:m[aK]? = some .free) {argTypes:Array TypeId} {ty sType xType elem t:TypeId} {d:TypeDesc} {info:TypeInfo} {z:List AV} {x:AV} {cs cx:Value} {b len n:Nat} {l bT:List AV}
  (hs0:argTypes[0]? = some sType) (hx0:argTypes[1]? = some xType) (hu:P.underlying sType=some (.slice elem)) (qC:P.underlying xType=some d) (hd' : ∀k,d ≠ .int k) (hi:P.info? elem=some info) (hz:zeroCells P elem=some z)
  (hs:VA g w (.ms b 0 len info.size none) cs) (hx:VA g w x cx) (fm:cg (fun i=>m.getD i .dead) info.size x=some (n,bT,true)) (sM:m[b]? = some (.ob (.gb t) l)) (JQ:info.size=1) (hbz:allBy z=true) (NX:allBy bT=true)
  (h2:1≤info.size) (h3:z.length=info.size) (h4:(len+n)*info.bytes≤cE) (h5:len+n≤cE) (h7:len*info.size≤l.length) (h8:t=elem) :
  bQ g m w (((do pure (.value (←vb argTypes ty #[cs,cx])):Sem Next)).run P w) (.ms aK 0 (len+n) info.size none) (apply m [(b,.dead),(aK,.ob (.gb t) (l.take (len*info.size)++bT))]):=by
 subst h8
 cases hs with
 |mg _ _ _ _ cap c hc hcap hroom=>
 have hne:b≠aK:=fun e=>by subst e;rw[sM] at hn;cases hn
 obtain⟨c',ob,vs,k1,k2,k3,k4,k5,k6⟩:=h.obs b _ _ sM
 rw[hc] at k1;cases k1
 obtain⟨cells,e,q,rfl,qt,q0,q1,q2,q3,q4⟩:=k4
 have An:=k3.len
 have k6:cells.size=g.hi b:=k6
 have hmul:(len+n)*info.size=len*info.size+n*info.size:=re _ _ _
 by_cases dz:len+n≤cap
 · have JN:(len+n)*info.size≤cap*info.size:=fx _ dz
   obtain⟨w',cs',vx,r0,x1,x2,wD,p3,p2,p4,p5,p6,p7,p8⟩:=run_append_room (P:=P) (ty:=ty) h hs0 hx0 hu qC hd' hi hx fm k2 q0 (by omega) dz
   have Eu:=x1.len
   have hsize:cs'.size=cells.size:=by
    have:=congrArg pn p3
    rw[fY] at this;simpa using this
   have yM:bO g w (l.take (len*info.size)++bT) (vs.take (len*info.size)++vx):=(k3.take _).append x1
   have Jn:(vs.take (len*info.size)).length=len*info.size:=by rw[eQ];omega
   obtain⟨r1,r2,r3⟩:=h.eM (wh:= .gb t) (l':=l.take (len*info.size)++bT) (vs':=vs.take (len*info.size)++vx) sM hc p4 p5 p6 p7 p8 p2
    ⟨cs',e,q,rfl,qt,q0,by
      rw[dC,Jn,p3,uP vx cells.toList _ (by simp;omega),q1,pa,rb (by omega)],by rw[dC,Jn,x2,hsize];omega,fun v hv=>by
      rw[p3] at hv
      exact iw (p:=fun v=> ∃k,v = .int .u8 k) _ _ _ q3 (iy NX x1) v hv,by rw[hsize];exact q4⟩ yM (by show cs'.size=g.hi b;rw[hsize];exact k6)
   have hb':(m.set b (.ob (.gb t) (l.take (len*info.size)++bT)))[b]? = some (.ob (.gb t) (l.take (len*info.size)++bT)):=by rw[nd (aT sM)]
   obtain⟨s1,s2,s3⟩:=r1.move hb' hc (by rw[ov hne];exact hn)
   rw[o6] at s1 s3
   exact⟨_,w',_,.inl r0,.mg aK 0 _ _ cap c (by simp[Gh.put]) dz (by simp[Gh.put];omega),s1,r2.trans s2,r3.trans s3⟩
 · have jq:=mD (P:=P) (w:=w.drew) (c:=c) (len:=len) (cap:=cap) (sz:=info.size) k2 (by omega)
   have On:vs.take (len*info.size)=cells.toList.take (len*info.size):=by rw[q1,pa,rb (by omega)]
   obtain⟨newCap,g',w',r0,r1,r2,r3,r4⟩:=Ay (P:=P) (ty:=ty) (l:=l.take (len*info.size)) (vs:=cells.toList.take (len*info.size)) h hn hs0 hx0 hu qC hd' hi hz hx fm h2 h3 h4 h5 (by rw[←On];exact k3.take _)
    (fun v hv=>q3 v (dt hv)) JQ hbz NX (by rw[eQ,ik];omega) jq dz
   obtain⟨t1,t2⟩:=r1.kill b
   have e1:((m.set aK (.ob (.gb t) (l.take (len*info.size)++bT))).set b .dead)=apply m [(b,.dead),(aK,.ob (.gb t) (l.take (len*info.size)++bT))]:=by
    simp only[apply]
    exact pB _ _ (fun e=>hne e.symm)
   rw[e1] at t1 t2
   exact⟨_,w',g',.inl r0,r4,t1,r2,r3.trans t2⟩
theorem wG {m:Mem} {b sz:Nat} {t:TypeId} {pre:List Value} {l:List AV} {X:aF} {x:AV} {r:Nat×List AV×Bool} (hb:m[b]? = some (.ob (.stk t pre) l)) (h:cg (fun i=>m.getD i .dead) sz x=some r) :
  cg (fun i=>(m.set b X).getD i .dead) sz x=some r:=by
 have hd:m.getD b .dead = .ob (.stk t pre) l:=by rw[dd,hb];rfl
 have off : ∀i,i≠b→(m.set b X).getD i .dead=m.getD i .dead:=fun i hi=>by
  rw[dd,ov (fun e=>hi e.symm),dd]
 have same : ∀y,(∀o len s cap,y ≠ .ms b o len s cap)→contents (fun i=>(m.set b X).getD i .dead) sz y=contents (fun i=>m.getD i .dead) sz y:=fun y hy=>by
  cases y with
  |p v=>
   cases v with
   |sc u=>cases u<;>rfl
   |_=>rfl
  |ms b' o len s cap=>
   have hb':b'≠b:=fun e=>hy o len s cap (e▸rfl)
   cases cap with
   |none=>
    unfold contents
    dsimp only
    rw[off b' hb']
   |some q=>
    unfold contents
    dsimp only
    rw[off b' hb']
  |_=>rfl
 by_cases hx : ∃o len s cap,x = .ms b o len s cap
 · obtain⟨o,len,s,cap,rfl⟩:=hx
   exfalso
   unfold cg at h
   cases cap with
   |none=>
    have e:contents (fun i=>m.getD i .dead) sz (.ms b o len s none)=none:=by
     unfold contents
     dsimp only
     rw[hd]
    rw[e] at h
    cases h
   |some q=>
    have e:contents (fun i=>m.getD i .dead) sz (.ms b o len s (some q))=none:=by
     unfold contents
     dsimp only
     rw[hd]
    rw[e] at h
    dsimp only at h
    rw[hd] at h
    cases h
 · rw[←h]
   unfold cg
   rw[same x fun o len s cap e=>hx ⟨o,len,s,cap,e⟩]
   cases x with
   |ms b' o len s cap=>
    have hb':b'≠b:=fun e=>hx ⟨o,len,s,cap,e▸rfl⟩
    cases cap with
    |none=>rfl
    |some q=>
     dsimp only
     rw[off b' hb']
   |_=>rfl
theorem uS (h:Rel g m w) {aK:Nat} (hn:m[aK]? = some .free) {argTypes:Array TypeId} {ty:TypeId} {s x a:AV} {cs cx:Value} {us:lY}
  (hs:VA g w s cs) (hx:VA g w x cx) (he:eW P (fun i=>m.getD i .dead) aK argTypes s x=some (a,us,true)) :
  bQ g m w (((do pure (.value (←vb argTypes ty #[cs,cx])):Sem Next)).run P w) a (apply m us):=by
 unfold eW at he
 split at he
 · rename_i sType xType hs0 hx0
   split at he
   · cases he
   · rename_i elem d hd hu qC
     have hd' : ∀k,d ≠ .int k:=fun k e=>hd k e
     split at he
     · rename_i info z hi hz
       split at he
       · rename_i n bT ok fm
         dsimp only at he
         split at he
         ·
          rename_i b len sz
          split at he
          · rename_i t pq l hb
            simp only[dk,kl,di] at he
            obtain⟨rfl,rfl,⟨rfl,h2,h3,h4,h5⟩,h6,h7,h8⟩:=he
            have h6:=a8 h6
            subst h6
            exact mE h hn hs0 hx0 hu qC hd' hi hz hs hx fm (getD_some hb (by simp)) (ft h2) (a8 h3) (ft h4) (ft h5) (ft h7) (a8 h8)
          ·
           rename_i t l hb
           simp only[dk,kl,di] at he
           obtain⟨rfl,rfl,⟨rfl,h2,h3,h4,h5⟩,h6,h7,h8,JQ,h9,h10⟩:=he
           have h6:=a8 h6
           subst h6
           have h7:=a8 h7
           have Lv:=uR (ty:=ty) h hn hs0 hx0 hu qC hd' hi hz hs hx fm (getD_some hb (by simp)) (a8 JQ) h9 h10 (ft h2) (a8 h3) (ft h4) (ft h5) (rr h7) (a8 h8)
           rwa [ed (rr h7.symm)] at Lv
          ·
           rename_i t pre l hb
           simp only[dk,kl,di] at he
           obtain⟨rfl,rfl,⟨rfl,h2,h3,h4,h5⟩,h6,h7,h8,h9⟩:=he
           have h6:=a8 h6
           subst h6
           have sM:=getD_some hb (by simp)
           have Hy:=aT sM
           have hne:b≠aK:=fun e=>by subst e;rw[sM] at hn;cases hn
           have QO:=ft h7
           have NY:=ft h9
           obtain⟨hg,hst⟩:=h.BL sM
           have QS:(m.set b (.ob (.gr t false) (exactly pre++l)))[aK]? = some .free:=by rw[ov hne];exact hn
           obtain⟨v,w',g',o1,o2,o3,o4,o5⟩:=mE (P:=P) (ty:=ty) hg QS hs0 hx0 hu qC hd' hi hz hs hx (wG (X:= .ob (.gr t false) (exactly pre++l)) sM fm) (by rw[nd Hy]) (ft h2) (a8 h3) (ft h4) (ft h5)
            (by rw[dC,bq];exact QO) (a8 h8)
           have L7:(exactly pre++l).take (len*info.size)++bT=exactly pre++(l.take (len*info.size-pre.length)++bT):=by
            rw[List.take_append,bq,ed (by rw[bq];exact NY),pr]
           simp only[apply,o6] at o3 o5
           rw[L7] at o3 o5
           have Lz:aK<(m.set b .dead).length:=by rw[eh];exact aT hn
           obtain⟨z1,z2⟩:=o3.BM (b:=aK) (by rw[nd Lz])
           rw[o6] at z1 z2
           exact⟨v,w',g',o1,o2,z1,o4,(hst.trans o5).trans z2⟩
          · cases he
         ·
          rename_i len sz cells
          split at he
          · rename_i hn0
            simp only[dk,kl,di] at he
            obtain⟨rfl,rfl,rfl,_⟩:=he
            have hn0:=a8 hn0
            subst hn0
            have hvs:=hs
            cases hs with
            |os _ _ _ _ ad cap hps wo=>
            have hcap:cap=len:=by
             rcases wo with e | ⟨t,b,o,e,_⟩
             · exact e
             · cases e
            subst hcap
            have hsz:eV P elem=some info.size:=by simp[eV,hi]
            obtain⟨vx,_,_,_,x3,x4⟩:=ew (P:=P) h fm hx
            have x5:=x4 0 (ch _)
            simp only[Nat.zero_mul,List.take_zero] at x5
            refine bQ.quiet h (v:= .slice ad cap cap) ?_ hvs
            cases ad with
            |none=>simp[vb,hs0,hx0,run_underlying hu,aB hsz,run_underlying qC,x3,x5,ra]
            |some ad=>simp[vb,hs0,hx0,run_underlying hu,aB hsz,run_underlying qC,x3,x5,storeCells,ra]
          rename_i hn0
          split at he
          · rename_i QT
            simp only[dk,kl,di] at he
            obtain⟨rfl,rfl,⟨rfl,h2,h3,h4,h5⟩,h6,Az,JQ,Qd,QU⟩:=he
            have h1:1≤n:=by
             rcases rk n with e | e
             · subst e;cases hn0
             · exact e
            have h2:=ft h2
            have h3:=a8 h3
            have h4:=ft h4
            have h5:=ft h5
            cases hs with
            |os _ _ _ _ ad cap hps wo=>
            have hcap:cap=len:=by
             rcases wo with e | ⟨t,b,o,e,_⟩
             · exact e
             · cases e
            subst hcap
            have Ar:=iS hps h6
            obtain⟨d1,d2,d3⟩:=h.jl (w':=w.drew) rfl rfl rfl rfl
            obtain⟨vs,s1,s2,HA,s3,s4⟩:=kB (P:=P) (Ar.mono d2.pure)
            have s5:=s4 cap (ch _)
            rw[ed (by omega)] at s5
            have Hz:=s1.len
            have yM:bO g w (cells.map .p) vs:=aV.cP (by simpa using Hz) fun i a b=>by
             have:=s1.get i (by simpa using a) b
             rw[dE]
             exact .p _ _ (this.mono (g:=g) (w:=w.drew) fun c o p=>⟨p,(d2.pure c o p).2.symm⟩)
            obtain⟨newCap,g',w',r0,r1,r2,r3,r4⟩:=Ay (P:=P) (ty:=ty) (l:=cells.map .p) (vs:=vs) (cap:=cap) h hn hs0 hx0 hu qC hd' hi hz hx fm h2 h3 h4 h5 yM (iy Az yM) (a8 JQ) Qd QU s2 s5 (by omega)
            exact⟨_,w',g',.inl r0,r4,r1,r2,r3⟩
          · rename_i QT
            simp only[dk,kl,di] at he
            obtain⟨rfl,rfl,⟨rfl,h2,h3,h4,h5⟩,h6⟩:=he
            have h1:1≤n:=by
             rcases rk n with e | e
             · subst e;cases hn0
             · exact e
            have h2:=ft h2
            have h3:=a8 h3
            have h4:=ft h4
            have h5:=ft h5
            cases hs with
            |os _ _ _ _ ad cap hps wo=>
            have hcap:cap=len:=by
             rcases wo with e | ⟨t,b,o,e,_⟩
             · exact e
             · cases e
            subst hcap
            have Ar:=iS hps h6
            obtain⟨d1,d2,d3⟩:=h.jl (w':=w.drew) rfl rfl rfl rfl
            obtain⟨vs,s1,s2,HA,s3,s4⟩:=kB (P:=P) (Ar.mono d2.pure)
            have s5:=s4 cap (ch _)
            rw[ed (by omega)] at s5
            have Hz:=s1.len
            have yM:bO g w (cells.map .p) vs:=aV.cP (by simpa using Hz) fun i a b=>by
             have:=s1.get i (by simpa using a) b
             rw[dE]
             exact .p _ _ (this.mono (g:=g) (w:=w.drew) fun c o p=>⟨p,(d2.pure c o p).2.symm⟩)
            obtain⟨newCap,g',w',r0,r1,r2,r3,r4⟩:=yU (P:=P) (je (fun i=>m.getD i .dead) info.size x) (ty:=ty) (l:=cells.map .p) (vs:=vs) (cap:=cap) h hn hs0 hx0 hu qC hd' hi hz hx fm h2 h3 h4 h5 yM HA s2 s5 (by omega)
            exact⟨_,w',g',.inl r0,r4,r1,r2,r3⟩
         ·
          rename_i b len sz cap
          split at he
          · rename_i l hl
            cases hs with
            |ms _ _ _ _ cap c hc hcap=>
            obtain⟨cells,e,q,k2,q0,k3,q2,q3⟩:=Aw h hl hc
            have hmul:(len+n)*info.size=len*info.size+n*info.size:=re _ _ _
            cases hr:a7 (len+n) cap with
            |true=>
             have dz:=ft hr
             simp only[hr,cond_true] at he
             split at he
             · rename_i b' ok' hp
               simp only[dk,kl,di] at he
               obtain⟨rfl,rfl,⟨rfl,h2,h3,h4,h5⟩,rfl,h6⟩:=he
               have h6:=a8 h6
               subst h6
               obtain⟨Sk,x0,Sl,_⟩:=ew (P:=P) h fm hx
               have QV:=x0.len
               have hroom:len*info.size+bT.length≤l.length:=by
                rcases jo hp with⟨l',sJ,_,hroom⟩ | ⟨t0,pq,l',sJ,_,hroom⟩ | ⟨t0,pre,l',sJ,_,_,hroom⟩
                rotate_left 2
                · have sJ:m.getD b .dead = .ob (.stk t0 pre) l':=sJ
                  rw[sJ] at hl;cases hl
                · have:l'=l:=by
                   generalize m.getD b .dead=B at hl sJ
                   cases B<;>simp_all [iW,aF.cells?]
                  rw[←this];exact hroom
                · have sJ:m.getD b .dead = .ob (.gr t0 pq) l':=sJ
                  have:l'=l:=by
                   have hl:iW (m.getD b .dead)=some l:=hl
                   rw[sJ] at hl;simpa[iW] using hl
                  rw[←this];rw[uB] at hroom;exact hroom
               have JR:(len+n)*info.size≤cells.size:=by omega
               obtain⟨w',cs',vx,r0,x1,x2,wD,p3,p2,p4,p5,p6,p7,p8⟩:=run_append_room (P:=P) (ty:=ty) h hs0 hx0 hu qC hd' hi hx fm k2 q0 JR dz
               have Eu:=x1.len
               have Qe:bO g w bT vx:=x1
               rcases jo hp with⟨l',sJ,Fc,BQ⟩ | ⟨t0,pq,l',sJ,rfl,BQ⟩ | ⟨t0,pre,l',sJ,rfl,_,BQ⟩
               rotate_left 2
               · have sJ:m.getD b .dead = .ob (.stk t0 pre) l':=sJ
                 rw[sJ] at hl;cases hl
               · have hm:m[b]? = some (m.getD b .dead):=getD_some rfl (fun e=>by
                  have sJ:(m.getD b .dead).cells?=some l':=sJ
                  rw[e] at sJ;cases sJ)
                 obtain⟨c',cs0,e0,Sm,y1,y2,y3,y4,y5⟩:=h.cells b _ l' hm sJ
                 rw[hc] at y1;cases y1
                 rw[k2] at y2;cases y2
                 obtain⟨r1,r2,r3⟩:=h.write (b':=b') hm sJ hc Fc p4 p5 p6 p7 p8 p2 y3 (by rw[p3];exact⟨y4.1.bK _ Qe,iw _ _ _ y4.2 wD⟩)
                 exact⟨_,w',g,.inl r0,.ms b 0 _ _ cap c hc dz,r1,r2,r3⟩
               · have hm:m[b]? = some (.ob (.gr t0 pq) l'):=getD_some sJ (by simp)
                 obtain⟨r1,r2,r3⟩:=h.uC hm hc k2 (uA Qe) wD BQ p3 p4 p5 p6 p7 p8 p2
                 exact⟨_,w',g,.inl r0,.ms b 0 _ _ cap c hc dz,r1,r2,r3⟩
             · cases he
            |false=>
             have dz : ¬len+n≤cap:=fun k=>by rw[ri k] at hr;cases hr
             simp only[hr,cond_false,dk,kl,di] at he
             obtain⟨rfl,rfl,⟨rfl,h2,h3,h4,h5⟩,h6,h7⟩:=he
             have h2:=ft h2
             have h3:=a8 h3
             have h4:=ft h4
             have h5:=ft h5
             have h6:=a8 h6
             have h7:=ft h7
             subst h6
             have jq:=mD (P:=P) (w:=w.drew) (c:=c) (len:=len) (cap:=cap) (sz:=info.size) k2 (by omega)
             obtain⟨newCap,g',w',r0,r1,r2,r3,r4⟩:=yU (P:=P) (LP (m.getD b .dead)&&je (fun i=>m.getD i .dead) info.size x) (ty:=ty) (l:=l.take (len*info.size)) (vs:=cells.toList.take (len*info.size)) h hn hs0 hx0 hu qC hd' hi hz hx fm h2 h3 h4 h5
              (by have:=k3.take (len*info.size);rwa [pa,rb h7] at this)
              (fun v hv=>q3 v (dt hv)) (by rw[eQ,ik];omega) jq dz
             exact⟨_,w',g',.inl r0,r4,r1,r2,r3⟩
          · cases he
         · cases he
       · cases he
     · cases he
   · cases he
 · cases he
theorem rR {s:AV} {cs:Value} (h:VA g w s cs):VA g w (l5 s) cs:=by
 unfold l5
 split
 · rw[VA.pv] at h
   cases h with
   |ps _ _ _ b o cap f hl hc hz hp hv=>omega
   |lU sz a cap hz=>
    obtain⟨rfl,rfl⟩:=hz.resolve_left (by omega)
    exact .os none 0 0 [] none 0 (.lU 0 none 0 (.inr ⟨rfl,rfl⟩)) (.inl rfl)
 · exact h
end
section
variable {P:Program} {g:Gh} {m:Mem} {w:World}
theorem rT {x:AV} {cx:Value} {b:Bool} (hx:VA g w x cx) (h:xd x=some b) : ∃a len cap,cx = .slice a len cap∧a.isNone=b:=by
 have key : ∀{len sz:Nat} {cs:List PV} {cx:Value},VP g w (.ps len sz cs) cx→cond (a7 1 len) (some false) (cond (a6 sz 0) (some true) none)=some b → ∃a len cap,cx = .slice a len cap∧a.isNone=b:=by
  intro len sz cs cx hx h
  cases hl:a7 1 len with
  |true=>
   simp only[hl,cond_true,dk] at h
   subst h
   have hl:=ft hl
   cases hx with
   |ps _ _ _ b o cap f hl hc hz hp hv=>exact⟨_,_,_,rfl,rfl⟩
   |lU sz a cap hz=>omega
  |false=>
   simp only[hl,cond_false] at h
   cases hs:a6 sz 0 with
   |false=>simp[hs] at h
   |true=>
    simp only[hs,cond_true,dk] at h
    subst h
    have hs:=a8 hs
    subst hs
    cases hx with
    |ps _ _ _ b o cap f hl hc hz hp hv=>omega
    |lU sz a cap hz=>
     obtain⟨rfl,_⟩:=hz.resolve_left (by omega)
     exact⟨_,_,_,rfl,rfl⟩
 unfold xd at h
 split at h
 · rw[VA.pv] at hx;exact key hx h
 · cases hx with
   |os _ _ _ _ a cap hx hr=>exact key hx h
 · cases hx with
   |ms _ _ _ _ cap c hc hcap=>
    simp only[dk] at h
    exact⟨_,_,_,rfl,h⟩
   |mg _ _ _ _ cap c hc hcap=>
    simp only[dk] at h
    exact⟨_,_,_,rfl,h⟩
 · cases h
theorem BR {x:AV} {cx:Value} (hx:VA g w x cx) (h:xd x=some true) : ∃n c,cx = .slice none n c:=by
 obtain⟨a,len,cap,rfl,ha⟩:=rT hx h
 cases a with
 |none=>exact⟨len,cap,rfl⟩
 |some a=>cases ha
theorem CQ : ∀{bT:List PV} {vs:List Value},rJ g w bT vs→bT.all Hu=true → ∀{j:Nat} {y:UInt8},(bT.map byteOf)[j]? = some y→vs[j]? = some (.int .u8 y.toNat)
 |[],[],_,_,j,y,hj=>by simp at hj
 |p::bT,v::vs,h,hb,j,y,hj=>by
  simp only[ph,di] at hb
  cases j with
  |zero=>
   simp only[pj,np,dk] at hj ⊢
   have h1:=h.1
   unfold Hu at hb
   split at hb
   · rename_i n
     simp only[di] at hb
     have k1:=of_decide_eq_true hb.1.1
     have k2:=of_decide_eq_true hb.1.2
     cases h1
     subst hj
     obtain⟨q,rfl⟩ : ∃q:Nat,n=q:=⟨n.toNat,by omega⟩
     have hq:q<256:=by omega
     simp[byteOf,Nat.mod_eq_of_lt hq]
   · cases hb.1
  |succ j=>
   simp only[pj,nz] at hj ⊢
   exact CQ h.2 hb.2 hj
 |[],_::_,h,_,_,_,_=>h.elim
 |_::_,[],h,_,_,_,_=>h.elim
theorem sO {ρ:Operand→AV} {bD:Operand→Value} (hr : ∀x,VA g w (ρ x) (bD x)) {o:Oper} {op:BinOp} {t yt:TypeId} {x y:Operand} (ho:o.op = .binOp op t x y yt) (hsame:tB (ρ x) (ρ y)=true)
  {a:AV} {us:lY} {ok:Bool} (he:nj P op t=some (a,us,ok)):us=[] ∧ ∃v,(execOp bD o).run P w = .ok (.value v) w∧VA g w a v:=by
 have hp : ∃p,bD x = .pointer (some p)∧bD y = .pointer (some p):=by
  have h1:=hr x
  have h2:=hr y
  unfold tB at hsame
  split at hsame
  · rename_i b o' c q e1 e2
    rw[e1] at h1
    rw[e2] at h2
    simp only[di] at hsame
    have k1:=a8 hsame.1
    have k2:=a8 hsame.2
    subst k1;subst k2
    generalize bD x=cx at *
    generalize bD y=cy at *
    cases h1 with
    |mp _ _ c1 eL=>
    cases h2 with
    |mp _ _ c2 eS=>
     rw[eL] at eS;cases eS
     exact⟨_,rfl,rfl⟩
  · cases hsame
 obtain⟨p,hx,hy⟩:=hp
 unfold nj at he
 split at he
 · rename_i e hu
   have heq : ∀j,P.info? e=some j→(yr t (.pointer (some p)) (.pointer (some p))).run P w = .ok true w:=by
    intro j hj
    have h : ∀d:Nat,(yo (d+1) t (.pointer (some p)) (.pointer (some p))).run P w = .ok true w:=fun d=>by
     simp[yo,run_underlying hu,sizeOf,typeInfo,hj,run_sameAddr_same]
    exact h 9999
   split at he
   · rename_i j hj
     simp only[dk,kl] at he
     obtain⟨rfl,rfl,_⟩:=he
     refine⟨rfl,.bool true,?_,.p _ _ (.sc _)⟩
     simp only[execOp,ho,hx,hy,km,(fo (P:=P) (w:=w) .eql t x y).1,kv,lp t (.inl ⟨some p,some p,rfl,rfl⟩) _ (.inl rfl),heq j hj,kp]
     rfl
   · rename_i j hj
     simp only[dk,kl] at he
     obtain⟨rfl,rfl,_⟩:=he
     refine⟨rfl,.bool false,?_,.p _ _ (.sc _)⟩
     simp only[execOp,ho,hx,hy,km,(fo (P:=P) (w:=w) .neq t x y).1,kv,lp t (.inl ⟨some p,some p,rfl,rfl⟩) _ (.inr rfl),heq j hj,kp]
     rfl
   · cases he
 · cases he
theorem pK {x a:AV} {cx:Value} (hx:VA g w x cx) {us:lY} {ts:Array TypeId} {ty:TypeId} (he:l7 x=some (a,us,true)) :
  us=[] ∧ ∃v,(Builtin.unsafeSliceData_ ts ty #[cx]).run P w = .ok v w∧VA g w a v:=by
 unfold l7 at he
 split at he
 · rename_i hn
   simp only[dk,kl,and_true] at he
   obtain⟨rfl,rfl⟩:=he
   obtain⟨n,c,rfl⟩:=BR hx hn
   exact⟨rfl,_,Lib.run_unsafeSliceData_nil w ts ty n c,.p _ _ (.sc _)⟩
 · split at he
   · rename_i b off len sz cap _
     simp only[dk,kl] at he
     obtain⟨rfl,rfl,h1⟩:=he
     have h1:=ft h1
     cases hx with
     |ms _ _ _ _ cap c hc hcap=>exact⟨rfl,_,Lib.run_unsafeSliceData_row w ts ty ⟨c,off,none⟩ len cap (by omega),.mp b off c hc⟩
     |mg _ _ _ _ cap c hc hcap _=>exact⟨rfl,_,Lib.run_unsafeSliceData_row w ts ty ⟨c,off,none⟩ len cap (by omega),.mp b off c hc⟩
   · cases he
theorem yV (w:World) {c off k:Nat} {cs:Array Value} {e:TypeId} {n:Nat×Nat} (h:w.heap[c]? = some (.cells cs e n)) :
  (∃n',(w.freeze ⟨c,off,none⟩ k).heap[c]? = some (.cells cs e n'))∧(∀j,j≠c→(w.freeze ⟨c,off,none⟩ k).heap[j]? = w.heap[j]?)∧(w.freeze ⟨c,off,none⟩ k).heap.size=w.heap.size ∧
    (w.freeze ⟨c,off,none⟩ k).os=w.os∧(w.freeze ⟨c,off,none⟩ k).tape=w.tape∧(w.freeze ⟨c,off,none⟩ k).output=w.output:=by
 unfold tf
 split
 · exact⟨⟨n,h⟩,fun _ _=>rfl,rfl,rfl,rfl,rfl⟩
 · refine⟨?_,fun j hj=> ?_,by simp,rfl,rfl,rfl⟩
   · obtain⟨lo,hi⟩:=n
     refine⟨if lo==hi then(off,off+k) else(min lo off,max hi (off+k)),?_⟩
     show(w.heap.modify c _)[c]? = _
     rw[my,if_pos rfl,h]
     rfl
   · show(w.heap.modify c _)[j]? = _
     rw[my,if_neg (fun e=>hj e.symm)]
theorem rU : ∀{l:List AV},l.all EM=true → ∃bT,iN l=some bT∧bT.all Hu=true∧bT.map byteOf=l.map EN
 |[],_=>⟨[],rfl,rfl,rfl⟩
 |a::l,h=>by
  simp only[ph,di] at h
  obtain⟨bT,h1,h2,h3⟩:=rU h.2
  cases a with
  |p v=>exact⟨v::bT,by simp[iN,yl,h1],by simp only[ph,di];exact⟨h.1,h2⟩,by simp[EN,h3]⟩
  |_=>exact absurd h.1 (by simp[EM])
theorem mF (h:Rel g m w) {x n a:AV} {cx cn:Value} (hx:VA g w x cx) (hn:VA g w n cn) {us:lY} {ts:Array TypeId} {ty:TypeId} (he:dS P (fun i=>m.getD i .dead) ts.toList x n=some (a,us,true)) :
  bQ g m w (((do pure (.value (←Builtin.unsafeString_ ts ty #[cx,cn])):Sem Next)).run P w) a (apply m us):=by
 unfold dS at he
 split at he
 · rename_i k
   obtain rfl:=key_eq hn
   split at he
   · rename_i pt it hts
     have hts:ts = #[pt,it]:=by have:=congrArg List.toArray hts;simpa using this
     subst hts
     split at he
     · rename_i hk
       split at he
       · simp only[dk,kl,and_true] at he
         obtain⟨rfl,rfl⟩:=he
         have hk:=of_decide_eq_true hk
         subst hk
         obtain rfl:=key_eq hx
         refine bQ.quiet h (v:= .string .empty) ?_ (.p _ _ (.sc _))
         simp only[km,Lib.run_unsafeString_none,kv,kp]
       · cases he
     · rename_i hk
       split at he
       · rename_i e b t l hp JS
         have hb:x = .mp b 0 ∧ ∃pq,m.getD b .dead = .ob (.gr t pq) l:=by
          unfold EO at JS
          split at JS
          · split at JS
            · rename_i hq
              simp only[dk,kl] at JS
              obtain⟨rfl,rfl,rfl⟩:=JS
              exact⟨rfl,_,hq⟩
            · cases JS
          · cases JS
         obtain⟨rfl,pq,hb⟩:=hb
         · simp only[dk,kl,di] at he
           obtain⟨rfl,rfl,h1,h2,h3,h4,h5,h6⟩:=he
           obtain⟨bT,Aq,hu,hby⟩:=rU h1
           rw[←hby]
           have h2:=a8 h2
           have h3:=a8 h3
           have h4:=of_decide_eq_true h4
           have h5:=ft h5
           have h6:=ft h6
           subst h2
           obtain⟨q,rfl⟩ : ∃q:Nat,k=q:=⟨k.toNat,by omega⟩
           simp only[Int.toNat_natCast] at *
           cases hx with
           |mp _ _ c hc=>
           have sM:=getD_some hb (by simp)
           obtain⟨c',ob,vs,k1,k2,k3,k4,_,_⟩:=h.obs b _ _ sM
           rw[hc] at k1;cases k1
           obtain⟨cs,e,fr,rfl,rfl,q0,q1,q2,q3⟩:=k4
           have hl:=k3.len
           have hsub:rJ g w bT (vs.take q):=cQ Aq (k3.take q)
           have Lz:=hsub.len
           generalize Qf:bT.map byteOf=bs at *
           have L8:bs.length=q:=by rw[←Qf,oR,Lz,eQ];omega
           have hcells : ∀j y,bs[j]? = some y→w.cell? ((⟨c,0,none⟩:Addr).add j)=some (.int .u8 y.toNat):=by
            intro j y hj
            have hjl:=aT hj
            have hcell:w.cell? ⟨c,j,none⟩=(vs.take q)[j]? :=by
             rw[aH k2,dq,if_pos (by omega),q1,dq,if_pos (by omega)]
             simp
            have E7:(⟨c,0,none⟩:Addr).add j=⟨c,j,none⟩:=by
             unfold Addr.add
             by_cases hj0:j=0
             · subst hj0;simp
             · simp[hj0]
            rw[E7,hcell]
            have hbyte:=CQ hsub hu (j:=j) (y:=y) (by rw[Qf];exact hj)
            exact hbyte
           have hsh:w.shape? c=some (e,cs.size):=by simp only[ta,k2]
           have hrun:=Lib.run_unsafeString_row (P:=P) w pt it ty e hp h3 c cs.size hsh bs (by intro q;subst q;simp at L8;omega) (by omega) (by unfold cE at h6;omega) hcells
           rw[L8] at hrun
           obtain⟨⟨n',f1⟩,f2,f3,f4,f5,f6⟩:=yV w (off:=0) (k:=q) k2
           obtain⟨r1,r2,r3⟩:=h.eM (wh:= .Jh) (l':=[]) (vs':=[]) sM hc f2 f3 f4 f5 f6 f1 rfl trivial
           refine⟨.string ⟨bs.toArray⟩,_,g,.inl ?_,.p _ _ (.sc _),r1,r2,r3⟩
           simp only[km,hrun,kv,kp]
       · cases he
   · cases he
 · cases he
end
end Go.Am
end
