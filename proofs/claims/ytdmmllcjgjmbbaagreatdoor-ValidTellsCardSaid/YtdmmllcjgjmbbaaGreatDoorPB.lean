import Derived.Test.YtdmmllcjgjmbbaaGreatDoorPA
import Derived.IntWalk
import Derived.Lib.Builder
import Derived.DeepKeys3
import Derived.MapKept
import Derived.Lib.UnsafeStr
import Derived.WideMake
import Derived.AtR
import Derived.Recover
open Array renaming length_toList→ie,getD_eq_getD_getElem?→lv,toList_map→ja,getElem?_eq_getElem→ic,size_append→lL,getElem?_modify→ma,getElem?_toList→mb,getElem?_push→im,range→jb,getD→mc
open List renaming take_of_length_le→dE,mem_of_getElem?→mf,map_cons→mi,getElem?_cons_zero→ml,getElem?_cons_succ→mr,map_toArray→mv,map_nil→my,length_cons→na,length_append→du,getElem?_toArray→nb,getElem?_eq_none→dT,length_take→eh,getElem?_set_self→nc,toArray→np,getD_eq_getElem?_getD→de,getElem?_eq_some_iff→dt,getElem?_append_left→od,getElem?_eq_getElem→df,getElem_map→dv,getElem?_set_ne→oe,getElem?_append→oi,mem_of_mem_take→dk,length_set→ed,length_map→ov,mem_append→oE,getElem?_take→di,pairwise_iff_getElem→oR,getElem?_map→en,append_assoc→pa,length_eq_zero_iff→pb,take_take→pf,set_set→pj,size_toArray→pk,mem_map→fg,nodup_append→pn,foldlM_cons→po,length→pt,range'→pw,foldlM_nil→px,nodup_cons→py,take_set→pA,mem_cons→pB
open Go.Sem renaming run_bind→kv,run_pure→kx,run→pC
open Bool renaming and_eq_true→jn,false_eq_true→pD,not_false→qf,or_eq_false_iff→qs,eq_false_iff→j2
open Go.Result renaming andThen_ok→ky,andThen→ra
open Nat renaming le_of_ble_eq_true→ae,eq_of_beq_eq_true→ag,le_refl→aw,mul_le_mul_right→a8,add_mul→rb,min_eq_left→re,add_zero→rh,zero_add→ri,blt_eq→db,lt_of_succ_lt_succ→cb,ble_eq_true_of_le→rk,beq→ai,beq_refl→rl,mul_eq_zero→rp,not_lt_zero→rr,mod_lt→rv,not_lt→da,ble→ar,sub_mul→bj,beq_eq→bc
open Option.some renaming injEq→kb,inj→kc
open Prod.mk renaming injEq→kp
open Go.Instr renaming lookup→sa,mapUpdate→sb,findNow→sd,buildSlice→se,makeSlice→sf,sureAddr→fx,checkKey→sg,sameBits→si,storeAt→sm,sameNow→hX,keyThatStays→ss,next→sR,alloc→sT
open Option renaming map_eq_some_iff→kd,bind_some→s0
open Go.World renaming alloc_eq→ta,size_drew→tc,drew_eq→tf
open Go.IntKind renaming i64→tp
open Go.Question renaming appendCap→tz,forced→ua
open Go.Builtin renaming zeroCells→ui,append_→uv,firstCells→lh,lenOf→lj,nextslicecap→vb
open Go.Value renaming int→vd
open UInt8 renaming ofNat→vj
open ByteArray renaming emptyWithCapacity→vt,empty→vz
open Go.MapKept renaming run_getObj_map→wb,run_findKey→wc,run_setObj_map→wi,run_checkKey→wx,IsKey→wy,bytes_beq→xa,heap_set→xb
open Go.Frame renaming enter→xc
open Go.Region renaming wanted→xf
section
namespace Go.Am
open Go.RowKit
theorem heap_setCell {w:World} {c o:Nat} {v:Value} {cs:Array Value} {e:TypeId} {n:Nat×Nat} (h:w.heap[c]? = some (.cells cs e n)) :
  (w.setCell ⟨c,o,none⟩ v).heap[c]? = some (.cells (cs.setIfInBounds o v) e n) ∧ ∀k,k≠c→(w.setCell ⟨c,o,none⟩ v).heap[k]? = w.heap[k]? :=by
 refine⟨?_,fun k hk=>Below.heap_setCell _ _ _ _ hk⟩
 simp[World.setCell,ma,h]
section ops
variable {P:Program} {g:Gh} {m:Mem} {w:World}
theorem kL (c off:Nat) : ∀(vs:List Value) (i:Nat) (w:World) (cs:Array Value) (e:TypeId) (n:Nat×Nat),w.heap[c]? = some (.cells cs e n) →
  (∀j,j<vs.length→n.2≤n.1∨off+i+j<n.1)→off+i+vs.length≤cs.size→(∀v∈vs,v.oneCell'=true) →
  ∃w' cs',(storeCells ⟨c,off,none⟩ vs i).run P w = .ok () w'∧w'.heap[c]? = some (.cells cs' e n)∧cs'.toList=dJ cs.toList (off+i) vs∧(∀k,k≠c→w'.heap[k]? = w.heap[k]?) ∧
   w'.heap.size=w.heap.size∧w'.os=w.os∧w'.tape=w.tape∧w'.output=w.output
 |[],i,w,cs,e,n,h,_,_,_=>⟨w,cs,rfl,h,rfl,fun _ _=>rfl,rfl,rfl,rfl,rfl⟩
 |v::vs,i,w,cs,e,n,h,hf,hl,h1=>by
  simp only[na] at hl
  obtain⟨k1,k2⟩:=heap_setCell (o:=off+i) (v:=v) h
  have hcell:w.cell? ⟨c,off+i,none⟩=some cs[off+i]:=by rw[bG h,ic (by omega)]
  have hfz:w.frozen? ⟨c,off+i,none⟩=false:=by
   have:=hf 0 (by simp)
   simp only[World.frozen?,h,Bool.and_eq_false_iff,decide_eq_false_iff_not]
   omega
  obtain⟨w',cs',q1,q2,q3,q4,q5,q6,q7,q8⟩:=kL c off vs (i+1) (w.setCell ⟨c,off+i,none⟩ v) (cs.setIfInBounds (off+i) v) e n k1
   (fun j hj=>by have:=hf (j+1) (by simp;omega);omega) (by simp;omega) (fun u hu=>h1 u (.tail _ hu))
  refine⟨w',cs',?_,q2,?_,fun k hk=>(q4 k hk).trans (k2 k hk),q5.trans (by simp),q6,q7,q8⟩
  · simp only[storeCells,kv,dD,run_store P w _ v _ (h1 v (.head _)),hcell,hfz,pD,if_false,ky,q1]
  · rw[q3];simp[dJ,Nat.add_assoc]
theorem GQ {α:Type} (f:Nat→α) (n:Nat) (h:n=0):((jb n).map f).toList=[]:=by subst h;simp
theorem lE {α:Type} : ∀(n l:List α) (o:Nat),(dJ l o n).length=l.length
 |[],_,_=>rfl
 |x::n,l,o=>by simp[dJ,lE n]
theorem GR {α β:Type} (f:α→β) : ∀(n l:List α) (o:Nat),(dJ l o n).map f=dJ (l.map f) o (n.map f)
 |[],_,_=>rfl
 |x::n,l,o=>by simp[dJ,GR f n,List.map_set]
theorem AR {α:Type} : ∀(n l:List α) (o k:Nat),k<o∨o+n.length≤k→(dJ l o n)[k]? = l[k]?
 |[],_,_,_,_=>rfl
 |x::n,l,o,k,h=>by
  simp only[na] at h
  rw[dJ,AR n _ (o+1) k (by omega),oe (by omega)]
theorem GS {α:Type} : ∀(n l:List α) (o k:Nat) (_:k<n.length),o+n.length≤l.length→(dJ l o n)[o+k]? = n[k]?
 |x::n,l,o,0,_,h=>by
  simp only[na] at h
  simp only[dJ,rh]
  rw[AR n _ (o+1) o (.inl (Nat.lt_succ_self _)),nc (by omega)]
  rfl
 |x::n,l,o,k+1,hk,h=>by
  simp only[na] at h
  have hk:k<n.length:=by simpa using hk
  simp only[dJ,show o+(k+1)=o+1+k by omega]
  rw[GS n _ (o+1) k hk (by rw[ed];omega)]
  simp
 |[],_,_,_,hk,_=>by simp at hk
theorem GU {g:Gh} {w:World} {v:AV} {cv:Value} (h:VA g w v cv):VA g w (GA v) cv:=by
 unfold GA
 split
 · cases h with
   |os tok len sz cells a cap h hr=>exact .p _ _ h
 · exact h
theorem rB {g:Gh} {w:World} : ∀{l:List AV} {cs:List Value},dz g w l cs→dz g w (l.map GA) cs
 |[],[],_=>trivial
 |_::_,_::_,h=>⟨GU h.1,rB h.2⟩
 |[],_::_,h=>h.elim
 |_::_,[],h=>h.elim
theorem AS {g:Gh} {w:World} {q:Bool} {l:List AV} {cs:List Value} (h:dz g w l cs):dz g w (PJ q l) cs:=by
 cases q with
 |true=>exact rB h
 |false=>exact h
theorem AT (q:Bool) (l:List AV):(PJ q l).length=l.length:=by
 cases q with
 |true=>exact ov ..
 |false=>rfl
theorem m6 {b b':bf} {off:Nat} {vs:List AV} (h:vf b off vs=some (b',true)):(∃l,b.cells?=some l∧b'.cells?=some (dJ l off vs)∧off+vs.length≤l.length) ∨
  (∃t q l,b = .ob (.gr t q) l∧b' = .ob (.gr t q) (dJ l off (PJ q vs))∧off+(PJ q vs).length≤l.length) ∨
  ∃t pre l,b = .ob (.stk t pre) l∧b' = .ob (.stk t pre) (dJ l (off-pre.length) vs)∧pre.length≤off∧off-pre.length+vs.length≤l.length:=by
 unfold vf at h
 split at h
 · rename_i l
   split at h
   · rename_i aH hp
     simp only[kb,kp] at h
     obtain⟨rfl,h1⟩:=h
     refine .inl ⟨l.map .p,rfl,?_,by simpa using ae h1⟩
     simp[bf.cells?,GR,vo hp]
   · simp only[kb,kp] at h
     obtain⟨rfl,h1⟩:=h
     exact .inl ⟨l.map .p,rfl,rfl,by simpa using ae h1⟩
 · rename_i l
   simp only[kb,kp] at h
   obtain⟨rfl,h1⟩:=h
   exact .inl ⟨l,rfl,rfl,ae h1⟩
 · rename_i t pq l
   simp only[kb,kp] at h
   obtain⟨rfl,h1⟩:=h
   exact .inr (.inl ⟨_,_,l,rfl,rfl,by rw[AT];exact ae h1⟩)
 · rename_i t pre l
   simp only[kb,kp,jn] at h
   obtain⟨rfl,h1,h2⟩:=h
   exact .inr (.inr ⟨_,_,l,rfl,rfl,ae h1,ae h2⟩)
 · cases h
theorem yM {α:Type} : ∀(n pre l:List α) (o:Nat),pre.length≤o→dJ (pre++l) o n=pre++dJ l (o-pre.length) n
 |[],_,_,_,_=>rfl
 |v::n,pre,l,o,h=>by
  simp only[dJ]
  rw[List.set_append_right _ _ h,yM n pre _ (o+1) (by omega)]
  congr 2
  omega
theorem Dk {α:Type} : ∀(n l:List α) (o k:Nat),o+n.length≤k→(dJ l o n).take k=dJ (l.take k) o n
 |[],_,_,_,_=>rfl
 |v::n,l,o,k,h=>by
  simp only[na] at h
  simp only[dJ]
  rw[Dk n (l.set o v) (o+1) k (by omega),pA]
theorem Rel.AU {m:Mem} {w w':World} (h:Rel g m w) {b c:Nat} {k xs:List AV} {us:List Value} {off:Nat} {cs cs':Array Value} {e t:TypeId} {pq:Bool} {n:Nat×Nat} (hb:m[b]? = some (.ob (.gr t pq) k)) (hc:g.cm b=some c) (hcs:w.heap[c]? = some (.cells cs e n))
  (hx:dz g w xs us) (hone : ∀v∈us,v.oneCell'=true) (hroom:off+xs.length≤k.length) (hl:cs'.toList=dJ cs.toList off us)
  (hw : ∀j,j≠c→w'.heap[j]? = w.heap[j]?) (hs:w'.heap.size=w.heap.size) (ho:w'.os=w.os) (ht:w'.tape=w.tape) (hu:w'.output=w.output) (hh:w'.heap[c]? = some (.cells cs' e n)) :
  Rel g (m.set b (.ob (.gr t pq) (dJ k off xs))) w'∧Ext g w g w'∧dU g m w g (m.set b (.ob (.gr t pq) (dJ k off xs))) w':=by
 obtain⟨c',ob,vs,h1,h2,h3,h4,h5,h6⟩:=h.obs b _ _ hb
 rw[hc] at h1;cases h1
 obtain⟨cs0,e0,n0,rfl,qt,q0,q1,q2,q3⟩:=h4
 rw[hcs] at h2;cases h2
 have nM:=h3.len
 have hxl:=hx.len
 have hsz:cs'.size=cs.size:=by
  have:=congrArg pt hl
  rw[lE] at this;simpa using this
 have hvl:(dJ vs off us).length=vs.length:=lE _ _ _
 refine h.jV (JH:= .gr t pq) (l':=dJ k off xs) (vs':=dJ vs off us) hb hc hw hs ho ht hu hh ⟨cs',e,n,rfl,qt,q0,?_,by omega,fun v hv=> ?_⟩ (h3.dJ off hx) (by show cs'.size=g.hi b;rw[hsz];exact h6)
 · rw[hvl,hl,Dk us cs.toList off vs.length (by omega),←q1]
 · rw[hl] at hv
   exact oK _ _ _ q3 hone v hv
theorem CB (h:Rel g m w) {t:TypeId} {a v r:AV} {ca cv:Value} {us:qR} (ha:VA g w a ca) (hv:VA g w v cv) (he:vg P (fun i=>m.getD i .dead) t a v=some (r,us,true)) :
  ∃w',(sm t ca cv).run P w = .ok () w'∧r = .aD []∧Rel g (apply m us) w'∧Ext g w g w'∧dU g m w g (apply m us) w':=by
 unfold vg at he
 split at he
 · rename_i b off n hsz
   split at he
   · rename_i b' ok hp
     simp only[kb,kp,jn,bc] at he
     obtain⟨rfl,rfl,⟨rfl,h1⟩,h2⟩:=he
     obtain⟨k1,k2⟩:=oq h1 hv
     cases ha with
     |mp _ _ c hc=>
     have hsize:cv.cells.size=n:=by have nM:=k1.len;simp at nM;omega
     rcases m6 hp with⟨l,hl,hl',hroom⟩ | ⟨t0,pq,l,hl,rfl,hroom⟩ | ⟨t0,pre,l,hl,rfl,hpre,hroom⟩
     case inr.inr=>
      have hm:m[b]? = some (.ob (.stk t0 pre) l):=getD_some hl (by simp)
      obtain⟨hg,hs0⟩:=h.P9 hm
      have acL:=bX hm
      have hgb:(m.set b (.ob (.gr t0 false) (exactly pre++l)))[b]? = some (.ob (.gr t0 false) (exactly pre++l)):=by rw[nc acL]
      obtain⟨c',ob,vs,h1',h2',h3',h4',h5',h6'⟩:=hg.obs b _ _ hgb
      rw[hc] at h1';cases h1'
      obtain⟨cs,e,q,rfl,_,q0,q1,q2,q3⟩:=h4'
      have hlen:=h3'.len
      have nM:=k1.len
      rw[du,cK] at hlen
      simp at nM
      obtain⟨w',cs',p1,p2,p3,p4,p5,p6,p7,p8⟩:=kL (P:=P) c off cv.cells.toList 0 w cs e q h2' (fun _ _=> .inl q0) (by simp;omega) k2
      simp only[rh] at p3
      obtain⟨r1,r2,r3⟩:=hg.AU hgb hc h2' k1 k2 (by rw[du,cK];omega) p3 p4 p5 p6 p7 p8 p2
      rw[yM _ _ _ _ (by rw[cK];exact hpre),cK,pj] at r1 r3
      obtain⟨z1,z2⟩:=r1.ZG (b:=b) (by rw[nc acL])
      rw[pj] at z1 z2
      exact⟨w',by simp[sm,fx,storeVar,bu hsz,hsize,p1],rfl,z1,r2,(hs0.trans r3).trans z2⟩
     case inr.inl=>
      have hm:m[b]? = some (.ob (.gr t0 pq) l):=getD_some hl (by simp)
      obtain⟨c',ob,vs,h1',h2',h3',h4',h5',h6'⟩:=h.obs b _ _ hm
      rw[hc] at h1';cases h1'
      obtain⟨cs,e,q,rfl,_,q0,q1,q2,q3⟩:=h4'
      have hlen:=h3'.len
      have nM:=k1.len
      have ZJ:=hroom
      rw[AT] at ZJ
      simp at nM
      obtain⟨w',cs',p1,p2,p3,p4,p5,p6,p7,p8⟩:=kL (P:=P) c off cv.cells.toList 0 w cs e q h2' (fun _ _=> .inl q0) (by simp;omega) k2
      simp only[rh] at p3
      obtain⟨r1,r2,r3⟩:=h.AU hm hc h2' (AS k1) k2 hroom p3 p4 p5 p6 p7 p8 p2
      exact⟨w',by simp[sm,fx,storeVar,bu hsz,hsize,p1],rfl,r1,r2,r3⟩
     have hm:m[b]? = some (m.getD b .dead):=getD_some rfl (fun e=>by
      have hl:(m.getD b .dead).cells?=some l:=hl
      rw[e] at hl;cases hl)
     obtain⟨c',cs,e,q,q1,q2,q3,q4,q5⟩:=h.cells b _ l hm hl
     rw[hc] at q1;cases q1
     have hlen:=q4.1.len
     have nM:=k1.len
     simp at hlen nM
     obtain⟨w',cs',p1,p2,p3,p4,p5,p6,p7,p8⟩:=kL (P:=P) c off cv.cells.toList 0 w cs e q q2 (fun _ _=> .inl q3) (by simp;omega) k2
     simp only[rh] at p3
     obtain⟨r1,r2,r3⟩:=h.write (b':=b') hm hl hc hl' p4 p5 p6 p7 p8 p2 q3 (by rw[p3];exact⟨q4.1.dJ off k1,oK _ _ _ q4.2 k2⟩)
     refine⟨w',?_,rfl,r1,r2,r3⟩
     simp[sm,fx,storeVar,bu hsz,hsize,p1]
   · cases he
 · cases he
theorem CC (h:Rel g m w) {bM:Nat} (hn:m[bM]? = some .free) {t:TypeId} {a:AV} {us:qR} {ok:Bool} (he:Fg P bM t=some (a,us,ok)) {ty:TypeId} {pos:String} {o:Oper} {dm:Operand→Value} (ho:o.op = .alloc t) (_:ty=ty) (_:pos=pos) :
  cZ g m w ((execOp dm o).run P w) a (apply m us):=by
 unfold Fg at he
 simp only[kd,kp] at he
 obtain⟨l,hz,rfl,rfl,rfl⟩:=he
 obtain⟨z,Px,Py⟩:=dK (g:=g) (w:=w) hz
 refine cZ.alloc h hn (rq l) Py (e:=t) (v:= .pointer (some ⟨w.heap.size,0,none⟩)) ?_ fun g' hg=> .mp bM 0 _ hg
 simp[execOp,ho,sT,Px,newVar,newRow]
theorem AW (h:Rel g m w) {bM:Nat} (hn:m[bM]? = some .free) {t:TypeId} {a:AV} {us:qR} {ok:Bool} (he:Au P bM t=some (a,us,ok)) {o:Oper} {dm:Operand→Value} (ho:o.op = .alloc t) :
  cZ g m w ((execOp dm o).run P w) a (apply m us):=by
 unfold Au at he
 simp only[kd,kp] at he
 obtain⟨l,hz,rfl,rfl,rfl⟩:=he
 obtain⟨z,Px,Py⟩:=dK (g:=g) (w:=w) hz
 have hlen:=Py.1.len
 obtain⟨r1,r2,r3⟩:=h.vr z.cells.size (ob:= .gr t false) (l:=l) (vs:=z.cells.toList) hn Py.1 (fN w (.cells z.cells t)) ⟨z.cells,t,(0,0),rfl,rfl,aw _,(dE (aw _)).symm,by simp,Py.2⟩ rfl
 refine⟨.pointer (some ⟨w.heap.size,0,none⟩),_,_,.inl ?_,.mp bM 0 _ (by simp[Gh.put]),r1,r2,r3⟩
 simp[execOp,ho,sT,Px,newVar,newRow]
theorem GV (h:Rel g m w) {bM:Nat} (hn:m[bM]? = some .free) {v a:AV} {cv:Value} {us:qR} (hv:VA g w v cv) (he:PK bM v=some (a,us,true)) {t:TypeId} {r:Result Next} (hr:r = .ok (.value (.pointer (some ⟨w.heap.size,0,none⟩))) (w.alloc (.cells cv.cells t))) :
  cZ g m w r a (apply m us):=by
 unfold PK at he
 simp only[kb,kp] at he
 obtain⟨rfl,rfl,h1⟩:=he
 exact cZ.alloc h hn (rq _) (oq h1 hv) (e:=t) hr fun g' hg=> .mp bM 0 _ hg
theorem cZ.M0 (h:Rel g m w) {len size:Nat} {aH:List PV} {cs:Array Value} {e:TypeId} (hv:MX g w aH cs.toList) (ho : ∀v∈cs.toList,v.oneCell'=true) (hl:cs.size=len*size) (Px:1≤size) {r:Result Next}
  (hr:r = .ok (.value (.slice (some ⟨w.heap.size,0,none⟩) len len)) (w.alloc (.cells cs e))):cZ g m w r (.os none len size aH) m:=by
 obtain⟨h1,h2,h3⟩:=h.vq (fN w (.cells cs e))
 have GP:=hv.len
 simp at GP
 refine⟨_,_,_,.inl hr,.os none len size aH _ len ?_ (.inl rfl),h1,h2,h3⟩
 refine .ps len size aH w.heap.size 0 len (fun k=>cs.getD k undef) (by omega) (aw _) Px (fun k hk=> ?_) fun k hk=> ?_
 · have:k<cs.size:=by omega
   refine⟨.inr ⟨rfl,by omega,by omega⟩,?_,by simpa[mc,this] using ho cs[k] (by simp)⟩
   rw[bG (fN w (.cells cs e)).new]
   simp[mc,this]
 · have:k<cs.size:=by omega
   have hk2:=hv.get k hk (by simpa using this)
   simp only[mc,this,dite_true]
   exact hk2.mono h2.pure
theorem yN {elem:TypeId} {wr:Bool} {cells:List AV} {aH:List PV} (h:Jz P elem wr cells=some aH):qB cells=some aH:=by
 unfold Jz at h
 split at h
 · cases h
 · exact h
theorem uC (h:Rel g m w) {bM:Nat} (hn:m[bM]? = some .free) {wr:Bool} {t:TypeId} {len:Nat} {parts:List (Nat×AV)} {m5:Array (Nat×Value)} {a:AV} {us:qR}
  (he:pJ P wr bM t len parts=some (a,us,true)) (hp:bN (fun a b=>a.1=b.1∧VA g w a.2 b.2) parts m5.toList) :
  cZ g m w (((do pure (.value (←se t len m5)):Sem Next)).run P w) a (apply m us):=by
 unfold pJ at he
 split at he
 · rename_i elem hu
   split at he
   · rename_i size z hsz hz
     split at he
     · rename_i cells ok hf
       obtain⟨size',z0,e1,e2,e3,e4,rfl⟩:=Qa hz
       rw[hsz] at e1;cases e1
       obtain⟨zv,z1,z2⟩:=dK (g:=g) (w:=w) e2
       have hzl:=z2.1.len
       simp at hzl
       have hzs:zv.cells.size=size:=by omega
       have key : ∀(b:Bool),ok=true→ar (len*size) 16777216=true →
        ∃FC,(se t len m5).run P w = .ok (.slice (some ⟨w.heap.size,0,none⟩) len len) (w.alloc (.cells FC elem))∧JF g w cells FC.toList∧FC.size=len*size:=by
        intro _ hok hle
        subst hok
        have hle:=ae hle
        have Wk:JF g w (dQ z0 len) ((jb (len*size)).map ((if len*size=0 then #[] else zv.cells)[· % (if len*size=0 then #[] else zv.cells).size]!)).toList:=by
         by_cases e:len*size=0
         · have:len=0:=by rcases rp.1 e with k | k<;>omega
           rw[GQ _ _ e,this];exact⟨trivial,fun _ h=>by cases h⟩
         · simp only[e,if_false]
           have h1:=Dj z2.1 len
           have h2:=LS z2.2 len
           rw[hzs] at h1 h2 ⊢;exact⟨h1,h2⟩
        obtain⟨FC,f1,f2,f3⟩:=nV hp Wk hf
        refine⟨FC,?_,f2,by rw[f3];simp⟩
        have hnot : ¬(len*size>2 ^ 24):=by omega
        clear Wk f2 f3
        by_cases e:len*size=0
        · simp only[e,if_true] at f1 hnot
          simp only[se,kv,run_underlying hu,ky,bu hsz,hnot,if_false,e,if_true,f1,newRow,run_newObj,ta,kx]
        · simp only[e,if_false] at f1
          simp only[se,kv,run_underlying hu,ky,bu hsz,hnot,if_false,e,z1,f1,newRow,run_newObj,ta,kx]
       split at he
       · rename_i aH M4
         simp only[kb,kp,jn] at he
         obtain⟨rfl,rfl,hok,hle⟩:=he
         obtain⟨FC,k1,k2,k3⟩:=key true hok hle
         exact cZ.M0 (e:=elem) h (fD (yN M4) k2.1) k2.2 k3 (by omega) (by simp[k1])
       · rename_i aH M4
         simp only[kb,kp,jn] at he
         obtain⟨rfl,rfl,hok,hle⟩:=he
         obtain⟨FC,k1,k2,k3⟩:=key true hok hle
         have hpp:=fD (yN M4) k2.1
         have LU:dz g w (aH.map .p) FC.toList:=bN.dY (by simpa using hpp.len) fun i a b=>by
          have:=hpp.get i (by simpa using a) b
          rw[dv];exact .p _ _ this
         obtain⟨r1,r2,r3⟩:=h.vr FC.size (ob:= .gr elem true) (l:=aH.map .p) (vs:=FC.toList) hn LU (fN w (.cells FC elem)) ⟨FC,elem,(0,0),rfl,rfl,aw _,(dE (aw _)).symm,by simp,k2.2⟩ rfl
         exact⟨_,_,_,.inl (by simp[k1]),.mg bM 0 len size len w.heap.size (by simp[Gh.put]) (aw _) (by simp[Gh.put];omega),r1,r2,r3⟩
       · simp only[kb,kp,jn] at he
         obtain⟨rfl,rfl,hok,hle⟩:=he
         obtain⟨FC,k1,k2,k3⟩:=key true hok hle
         exact cZ.alloc h hn (rq _) k2 (e:=elem) (v:= .slice (some ⟨w.heap.size,0,none⟩) len len) (by simp[k1]) fun g' hg=> .ms bM 0 len size len _ hg (aw _)
     · cases he
   · cases he
 · cases he
theorem Dl {n:Int} (h0:0≤n) (h1:n≤9223372036854775807):tp.wrap n=n:=IntWalk.i64_in n ⟨by omega,h1⟩
theorem vD (h:Rel g m w) {bM:Nat} (hn:m[bM]? = some .free) {t:TypeId} {len cap a:AV} {cl cc:Value} {us:qR}
  (hl:VA g w len cl) (hc:VA g w cap cc) (he:qT P bM t len cap=some (a,us,true)) :
  cZ g m w (((do pure (.value (←sf t cl cc)):Sem Next)).run P w) a (apply m us):=by
 unfold qT at he
 split at he
 · rename_i elem k l k' c hu
   rw[VA.pv] at hl hc
   cases hl;cases hc
   split at he
   · rename_i info cm hi hb
     simp only[kb,kp,jn,decide_eq_true_eq] at he
     obtain⟨rfl,rfl,⟨⟨h0,h1⟩,h2⟩,h3⟩:=he
     have h2:=ae h2
     have h3:=ae h3
     unfold eY at h2 h3
     obtain⟨size,z,e1,e2,e3,e4,e5⟩:=Qb hb
     have hsize:size=info.size:=by simp[iU,hi] at e1;exact e1.symm
     obtain⟨zv,z1,z2⟩:=dK (g:=g) (w:=w) e2
     have hzl:=z2.1.len
     simp at hzl
     have hzs:zv.cells.size=size:=by omega
     have hw1:tp.wrap l=l:=Dl h0 (by omega)
     have hw2:tp.wrap c=c:=Dl (by omega) (by omega)
     have hcn:(c.toNat:Int)=c:=Int.toNat_of_nonneg (by omega)
     have GW:(info.bytes:Int)*c≤70368744177664:=by
      have:((info.bytes*c.toNat:Nat):Int)≤70368744177664:=Int.ofNat_le.2 h3
      rwa [Int.natCast_mul,hcn] at this
     have Wk:JF g w (dQ z c.toNat) ((jb (c.toNat*size)).map ((if c.toNat*size=0 then #[] else zv.cells)[· % (if c.toNat*size=0 then #[] else zv.cells).size]!)).toList:=by
      by_cases e:c.toNat*size=0
      · have:c.toNat=0:=by rcases rp.1 e with k | k<;>omega
        rw[GQ _ _ e,this];exact⟨trivial,fun _ h=>by cases h⟩
      · simp only[e,if_false]
        have h1:=Dj z2.1 c.toNat
        have h2:=LS z2.2 c.toNat
        rw[hzs] at h1 h2 ⊢;exact⟨h1,h2⟩
     have hsz:iU P elem=some size:=e1
     refine cZ.alloc h hn e5 Wk (e:=elem) (v:= .slice (some ⟨w.heap.size,0,none⟩) l.toNat c.toNat) ?_ fun g' hg=>hsize ▸ .ms bM 0 l.toNat size c.toNat _ hg (by omega)
     have t1:(decide (c<0)||decide ((info.bytes:Int)*c>2 ^ 48))=false:=by simp only[qs,decide_eq_false_iff_not];omega
     have t2:((decide (c<0)||decide ((info.bytes:Int)*c>2 ^ 48))||decide (l<0)||decide (l>c))=false:=by rw[t1,Bool.false_or,qs,decide_eq_false_iff_not,decide_eq_false_iff_not];exact⟨by omega,by omega⟩
     by_cases e:c.toNat*size=0
     · simp only[sf,kv,run_underlying hu,ky,asInt,asIntOf,kx,lf hi,hw1,hw2,t2,pD,if_false,run_askRoom,bu hsz,e,if_true,newRow,run_newObj,ta]
     · simp only[sf,kv,run_underlying hu,ky,asInt,asIntOf,kx,lf hi,hw1,hw2,t2,pD,if_false,run_askRoom,bu hsz,e,z1,newRow,run_newObj,ta]
   · cases he
 · cases he
set_option linter.unusedVariables false in
theorem xH (h:Rel g m w) {t:TypeId} {len cap a:AV} {cl cc:Value} {us:qR}
  (hl:VA g w len cl) (hc:VA g w cap cc) (he:uu P t len cap=some (a,us,true)) :
  cZ g m w (((do pure (.value (←sf t cl cc)):Sem Next)).run P w) a (apply m us):=by
 unfold uu at he
 cases he
end ops
section ops
variable {P:Program} {g:Gh} {m:Mem} {w:World}
theorem VP.mk {len sz cap b o:Nat} {cells:List PV} {us:List Value} (h:MX g w cells us) (hl:us.length=len*sz) (hc:len≤cap) (hz:1≤sz)
  (hu : ∀k v,us[k]? = some v→w.cell? ⟨b,o+k,none⟩=some v∧g.pure b (o+k)∧v.oneCell'=true):VP g w (.ps len sz cells) (.slice (some ⟨b,o,none⟩) len cap):=by
 have Wl:=h.len
 refine .ps len sz cells b o cap (fun k=>us.getD k undef) (by omega) hc hz (fun k hk=> ?_) fun k hk=> ?_
 · have:us[k]? = some us[k]:=df (by omega)
   obtain⟨h1,h2,h3⟩:=hu k _ this
   exact⟨h2,by rw[h1,de,this];rfl,by rw[de,this];exact h3⟩
 · have:us[k]? = some us[k]:=df (by omega)
   rw[de,this]
   exact h.get k hk (by omega)
theorem Qc {len sz cap:Nat} {cs:List PV} {ad:Option Addr} (h:VP g w (.ps len sz cs) (.slice ad len cap)) : ∀b o,(ad=some ⟨b,o,none⟩∨len=0) →
  ∃us,MX g w cs us∧us.length=len*sz ∧ ∀k v,us[k]? = some v→w.cell? ⟨b,o+k,none⟩=some v∧g.pure b (o+k)∧v.oneCell'=true:=by
 intro b o ha
 cases h with
 |ps _ _ _ b' o' cap f hl hc hz hp hv=>
  rcases ha with ha | rfl
  · cases ha
    refine⟨(List.range cs.length).map f,bN.dY (by simp) fun i hi _=>by simpa using hv i hi,by simp[hl],fun k v hk=> ?_⟩
    simp only[en,kd] at hk
    obtain⟨j,hj,rfl⟩:=hk
    obtain⟨hlt,hj⟩:=dt.1 hj
    simp at hlt hj;subst hj
    exact⟨(hp k hlt).2.1,(hp k hlt).1,(hp k hlt).2.2⟩
  · simp at hl;subst hl
    exact⟨[],trivial,by simp,fun k v hk=>by simp at hk⟩
 |xD=>exact⟨[],trivial,by simp,fun k v hk=>by simp at hk⟩
theorem CD {bM:Nat} {tok:Option Nat} {us:qR} (hn:m[bM]? = some .free) (h:sO (fun i=>m.getD i .dead) bM tok=some us) (hr:Rel g m w) :
  ∃m1:Mem,apply m us=m1.set bM .tok∧m1[bM]? = some .free∧Rel g m1 w∧dU g m w g m1 w ∧ ∀t,tok=some t→m[t]? = some .tok∧m1=m.set t .dead:=by
 unfold sO at h
 split at h
 · simp only[kb] at h;subst h
   exact⟨m,rfl,hn,hr,dU.refl g m w,fun t e=>by cases e⟩
 · rename_i t
   split at h
   · rename_i ht
     simp only[kb] at h;subst h
     have ht:=getD_some ht (by simp)
     have hne:t≠bM:=fun e=>by subst e;rw[ht] at hn;cases hn
     obtain⟨k1,k2⟩:=hr.kill t
     refine⟨m.set t .dead,rfl,by rw[oe hne];exact hn,k1,k2,fun t' e=>by cases e;exact⟨ht,rfl⟩⟩
   · cases h
theorem xG.drew {sz n:Nat} {x:AV} {cx:Value} {aH:List PV} (h:Rel g m w) (hx:VA g w x cx) (he:contents (fun i=>m.getD i .dead) sz x=some (n,aH,true)):xG P g w.drew sz n aH cx:=by
 obtain⟨h1,h2,_⟩:=h.oI (w':=w.drew) rfl rfl rfl rfl
 exact gZ h1 he (hx.mono h2)
theorem ot (need old:Nat) (elem:TypeId) (t:Nat):need≤(tz need old elem).cut t:=by simp[Question.cut]
theorem AX (h:Rel g m w) {bM:Nat} (hn:m[bM]? = some .free) {argTypes:Array TypeId} {ty:TypeId} {s x a:AV} {cs cx:Value} {us:qR}
  (hs:VA g w s cs) (hx:VA g w x cx) (he:lB P (fun i=>m.getD i .dead) bM argTypes s x=some (a,us,true)) :
  cZ g m w (((do pure (.value (←uv argTypes ty #[cs,cx])):Sem Next)).run P w) a (apply m us):=by
 unfold lB at he
 split at he
 · rename_i sType xType hs0 hx0
   split at he
   · cases he
   · rename_i elem d hd hu FD
     split at he
     · rename_i info z hi hz
       split at he
       · rename_i n aH ok tok len sz cells mD
         simp only[kd,kp,jn] at he
         obtain⟨us',ZK,rfl,rfl,⟨⟨⟨⟨rfl,h1⟩,h2⟩,h3⟩,h4⟩,h5⟩:=he
         have h2:=ae h2
         have h3:=ag h3
         have h4:=ae h4
         have h5:=ae h5
         unfold eY at h4 h5
         obtain⟨zv,z1,z2⟩:=dK (g:=g) (w:=w) hz
         have hzl:=z2.1.len
         simp only[ie] at hzl
         have hzs:zv.cells.size=info.size:=by omega
         have hsz:iU P elem=some info.size:=by simp[iU,hi]
         obtain⟨m1,e1,e2,e3,e4,e5⟩:=CD hn ZK h
         cases hs with
         |os _ _ _ _ ad cap hps GM=>
         have M5:VP g w (.ps len info.size cells) (.slice ad len cap):=pS hps (by
          rw[Bool.or_eq_true] at h1 ⊢
          refine h1.imp id fun k=> ?_
          simp only[jn] at k ⊢
          exact⟨k.1,rk h2⟩)
         obtain⟨_,_,_,q,hcap⟩:=ru M5
         cases q
         rw[e1]
         by_cases hH:len+n≤cap
         ·
          obtain⟨vx,x1,x2,hone,x3,x4⟩:=gZ (P:=P) h mD hx
          have x5:=x4 n (aw _)
          rw[dE (by omega)] at x5
          rcases GM with hfull | ⟨t,b,o,rfl,rfl,t1,t2,t3,t4⟩
          · have hn0:n=0:=by omega
            subst hn0
            have CE:vx=[]:=pb.1 (by simpa using x2)
            subst CE
            have M4:aH=[]:=by cases aH with
             |nil=>rfl
             |cons _ _=>exact x1.elim
            subst M4
            obtain⟨r1,r2⟩:=e3.Wi e2
            refine⟨.slice ad (len+0) cap,w,g,.inl ?_,?_,r1,Ext.refl g w,e4.trans r2⟩
            · simp only[uv,hs0,hx0,nb,ml,mr,kv,run_underlying hu,ky,bu hsz,run_underlying FD,kx,pD,if_false,x3,hH,if_true,qf,x5]
              cases ad<;>simp[storeCells]
            · rw[List.append_nil]
              exact .os _ _ _ _ _ _ (by simpa using M5) (.inl (by simpa using hfull))
          ·
           obtain⟨m1t,m1e⟩:=e5 t rfl
           have hsize:sz=info.size:=by simpa using h1
           subst hsize
           obtain⟨Wm,e,q,k1,k2,k3,k4⟩:=h.tok t b m1t t1
           have hmul:(len+n)*info.size=len*info.size+n*info.size:=rb _ _ _
           have acM:(len+n)*info.size≤cap*info.size:=a8 _ hH
           obtain⟨w',Y2,p1,p2,p3,p4,p5,p6,p7,p8⟩:=kL (P:=P) b (o+len*info.size) vx 0 w Wm e q k1 (fun j hj=>k3.imp id fun k3=>by omega) (by omega) hone
           simp only[rh] at p3
           have aeU:Y2.size=Wm.size:=by
            have:=congrArg pt p3
            rw[lE] at this;simpa using this
           have hsp:=h.spare (k:=n*info.size) m1t t1 hn k1 (by omega) p4 p5 p6 p7 p8 p2 aeU (fun c hc=>by
            have:Y2.toList[c]? = Wm.toList[c]? :=by rw[p3];exact AR _ _ _ _ (by omega)
            simpa using this)
           obtain⟨r1,r2,r3⟩:=hsp
           rw[m1e]
           refine⟨.slice (some ⟨b,o,none⟩) (len+n) cap,w',_,.inl ?_,?_,r1,r2,r3⟩
           · have ZL:(⟨b,o,none⟩:Addr).add (len*info.size)=⟨b,o+len*info.size,none⟩:=dD _ _ _
             simp only[uv,hs0,hx0,nb,ml,mr,kv,run_underlying hu,ky,bu hsz,run_underlying FD,kx,pD,if_false,x3,hH,if_true,qf,x5,ZL,p1]
           · obtain⟨us,u1,u2,u3⟩:=Qc M5 b o (.inl rfl)
             refine .os _ _ _ _ _ _ (VP.mk (us:=us++vx) ((bN.mono (fun _ _=>VP.mono r2.pure) u1).append (bN.mono (fun _ _=>VP.mono r2.pure) x1)) (by simp;omega) hH h2 fun k v hk=> ?_) (.inr ⟨bM,b,o,rfl,rfl,by simp[Gh.put,Gh.more],by simp[Gh.put,Gh.more];omega,by simp[Gh.put,Gh.more,t3],hH⟩)
             rw[oi] at hk
             by_cases hlt:k<us.length
             · rw[if_pos hlt] at hk
               obtain⟨v1,v2,v3⟩:=u3 k v hk
               exact⟨(r2.pure _ _ v2).2.trans v1,(r2.pure _ _ v2).1,v3⟩
             · rw[if_neg hlt] at hk
               have hk':=bX hk
               have hnew:=GS vx Wm.toList (o+len*info.size) (k-us.length) hk' (by simp;omega)
               rw[←p3,hk] at hnew
               refine⟨?_,.inr ⟨rfl,by omega,by omega⟩,hone v (mf hk)⟩
               rw[bG p2]
               rw[show o+len*info.size+(k-us.length)=o+k by omega] at hnew
               simpa using hnew
         ·
          obtain⟨d1,d2,d3⟩:=h.oI (w':=w.drew) rfl rfl rfl rfl
          obtain⟨_,_,_,_,l3,_⟩:=gZ (P:=P) h mD hx
          obtain⟨vx,x1,x2,hone,x3,x4⟩:=xG.drew (P:=P) h hx mD
          have x5:=x4 n (aw _)
          rw[dE (by omega)] at x5
          obtain⟨vs,s1,s2,ZM,s3,s4⟩:=sW (P:=P) (M5.mono d2.pure)
          have s5:=s4 len (aw _)
          rw[dE (by omega)] at s5
          have nW:=ot (len+n) cap elem (w.tape w.drawn (.appendCap (len+n) cap elem))
          generalize hnc:(tz (len+n) cap elem).cut (w.tape w.drawn (.appendCap (len+n) cap elem))=newCap at nW
          have Qd:(ui zv.cells (newCap-(len+n))).size=(newCap-(len+n))*info.size:=by simp[ui,hzs]
          have hall:(vs.toArray++vx.toArray++ui zv.cells (newCap-(len+n))).size=newCap*info.size:=by
           simp only[lL,pk,Qd,s2,x2]
           rw[bj,rb]
           have:=a8 info.size nW
           rw[rb] at this
           omega
          generalize FE:vs.toArray++vx.toArray++ui zv.cells (newCap-(len+n))=all at hall
          have AY:uz w (w.drew.alloc (.cells all elem)) (.cells all elem):=⟨rfl,rfl,rfl,rfl⟩
          have hmul:(len+n)*info.size=len*info.size+n*info.size:=rb _ _ _
          have hle:(len+n)*info.size≤all.size:=by rw[hall];exact a8 _ nW
          obtain⟨r1,r2,r3⟩:=e3.fresh (k:=(len+n)*info.size) e2 AY hle (.inl (aw _))
          refine⟨.slice (some ⟨w.heap.size,0,none⟩) (len+n) newCap,_,_,.inl ?_,?_,r1,r2,e4.trans r3⟩
          · have ZN : ¬(((len+n:Nat):Int)>tp.max):=by
             rw[show tp.max=9223372036854775807 from by decide];omega
            have hgrow : ¬(vb (len+n) cap*info.bytes>2 ^ 48):=by
             have:=growslice_fits (need:=len+n) (old:=cap) (bytes:=info.bytes) (by omega) (by omega)
             omega
            simp only[uv,hs0,hx0,nb,ml,mr,kv,run_underlying hu,ky,bu hsz,run_underlying FD,kx,pD,if_false,l3,hH,qf,ZN,false_and,lf hi,hgrow,run_choose,ua,hnc,tf,run_askRoom,s5,x5,z1,FE,if_true,newRow,run_newObj,ta,tc]
          · have hnew:(w.drew.alloc (.cells all elem)).heap[w.heap.size]? = some (.cells all elem):=AY.new
            have yO:all.toList=vs++vx++(ui zv.cells (newCap-(len+n))).toList:=by rw[←FE];simp
            refine .os _ _ _ _ _ _ (VP.mk (us:=vs++vx) ?_ (by simp;omega) nW h2 fun k v hk=> ?_) (.inr ⟨bM,w.heap.size,0,rfl,rfl,by simp[Gh.put,Gh.more],by simp[Gh.put,Gh.more],by simp[Gh.put,Gh.more,hall],nW⟩)
            · exact(bN.mono (fun _ _=>VP.mono (g:=g) (w:=w.drew) (fun c o p=>⟨(r2.pure c o p).1,(r2.pure c o p).2⟩)) s1).append (bN.mono (fun _ _=>VP.mono (g:=g) (w:=w.drew) (fun c o p=>⟨(r2.pure c o p).1,(r2.pure c o p).2⟩)) x1)
            · have hk':=bX hk
              simp only[du] at hk'
              refine⟨?_,.inr ⟨rfl,by omega,by omega⟩,?_⟩
              · rw[bG hnew,←mb,yO,ri,od (by simpa using hk')]
                exact hk
              · rcases oE.1 (mf hk) with q | q
                · exact ZM v q
                · exact hone v q
       · cases he
     · cases he
   · cases he
 · cases he
set_option linter.unusedVariables false in
theorem FF (h:Rel g m w) {argTypes:Array TypeId} {ty:TypeId} {d s a:AV} {cd cx:Value} {us:qR}
  (hd:VA g w d cd) (hx:VA g w s cx) (he:xy P (fun i=>m.getD i .dead) argTypes d s=some (a,us,true)) :
  cZ g m w (((do pure (.value (←Builtin.copy_ argTypes ty #[cd,cx])):Sem Next)).run P w) a (apply m us):=by
 unfold xy at he
 cases he
theorem Qe {aH:List PV} {vs:List Value} (h:MX g w aH vs) (hb:aH.all isByte=true) : ∃ns:List Int,vs=ns.map (vd .u8)∧aH.map byteOf=ns.map fun n=>vj n.toNat:=by
 induction aH generalizing vs with
 |nil=>cases vs with
  |nil=>exact⟨[],rfl,rfl⟩
  |cons _ _=>exact h.elim
 |cons p aH ih=>
  cases vs with
  |nil=>exact h.elim
  |cons v vs=>
   simp only[List.all_cons,jn] at hb
   obtain⟨ns,e1,e2⟩:=ih h.2 hb.2
   have h1:=h.1
   cases h1 with
   |sc=>
    cases v<;>simp only[isByte,pD,false_and] at hb
    rename_i k n
    cases k<;>simp only[pD,false_and] at hb
    exact⟨n::ns,by rw[e1];rfl,by rw[mi,e2];rfl⟩
   |_=>simp[isByte] at hb
theorem JJ (w:World) (all:Array Value) (e:TypeId) :
  (w.alloc (.cells all e)).freeze {block:=w.heap.size,off:=all.size} 1={w with heap:=w.heap.push (.cells all e (all.size,all.size+1))}:=by
 simp only[World.freeze,World.alloc]
 rw[if_neg (by decide)]
 congr 1
 apply Array.ext_getElem?
 intro j
 rw[ma,im,im]
 by_cases hj:j=w.heap.size
 · subst hj;simp
 · rw[if_neg (fun h=>hj h.symm),if_neg hj,if_neg hj]
theorem M6 (w:World) (all:Array Value) (e:TypeId):(w.alloc (.cells all e)).shape? w.heap.size=some (e,all.size):=by
 simp only[World.shape?,(fN w (.cells all e)).new]
theorem foldl_push : ∀(ns:List Int) (s:ByteArray),ns.foldl (fun r n=>r.push (vj n.toNat)) s=⟨(s.data.toList++ns.map fun n=>vj n.toNat).toArray⟩
 |[],s=>by cases s;simp
 |n::ns,s=>by
  rw[List.foldl_cons,foldl_push ns]
  cases s
  simp[ByteArray.push]
theorem Rel.Wn {m:Mem} (h:Rel g m w) {b c:Nat} {l:List PV} (hb:m[b]? = some (.pc l)) (hc:g.cm b=some c) :
  Rel (g.more c 0 l.length) (m.set b .dead) w∧Ext g w (g.more c 0 l.length) w∧dU g m w (g.more c 0 l.length) (m.set b .dead) w:=by
 obtain⟨c',cs,e,n,k1,k2,k3,k4,k5⟩:=h.cells b _ _ hb rfl
 rw[hc] at k1;cases k1
 have hlen:=k4.1.len
 simp only[ov,ie] at hlen
 have ext:Ext g w (g.more c 0 l.length) w:=⟨fun _ _ h=>⟨h,rfl,rfl⟩,fun _ _ p=>⟨.inl p,rfl⟩⟩
 have ne : ∀j x c',j≠b→m[j]? = some x→x.ep=true→g.cm j=some c'→c'≠c:=fun j x c' GX hj ho iS e=>GX (h.inj j b x _ c hj hb ho rfl (e▸iS) hc)
 refine⟨⟨fun j hj=>h.Cp j (by simpa using hj),fun j hj=> ?_,fun j x k hj hk=> ?_,fun j c' hj iS=> ?_,fun j k x x' c' hj hk ho ho' jG kB=> ?_,fun c' o p=> ?_,fun j kk ll hj=> ?_⟩,ext,⟨aw _,fun _ _ _=>rfl,fun _ _ p=>⟨.inl p,rfl⟩,fun c' o p=> ?_,fun c' ho=> ?_,rfl,rfl,rfl⟩⟩
 · rcases bn hj with⟨_,e⟩ | ⟨_,e⟩
   · cases e
   · exact h.free j e
 · rcases bn hj with⟨_,e⟩ | ⟨GX,e⟩
   · subst e;cases hk
   · obtain⟨c1,cs1,e1,n1,q1,q2,q3,q4,q5⟩:=h.cells j x k e hk
     refine⟨c1,cs1,e1,n1,q1,q2,q3,q4.mono ext,fun o p=> ?_⟩
     rcases p with p | ⟨rfl,_⟩
     · exact q5 o p
     · exact ne j x _ GX e (ej hk) q1 rfl
 · rcases bn hj with⟨_,e⟩ | ⟨GX,e⟩
   · cases e
   · obtain⟨cs1,e1,n1,q2,q3,q4,q5⟩:=h.tok j c' e iS
     refine⟨cs1,e1,n1,q2,q3,q4,fun o a b p=> ?_⟩
     rcases p with p | ⟨rfl,_⟩
     · exact q5 o a b p
     · exact ne j _ _ GX e rfl iS rfl
 · rcases bn hj with⟨_,e⟩ | ⟨_,e⟩
   · subst e;simp[bf.ep] at ho
   · rcases bn hk with⟨_,e'⟩ | ⟨_,e'⟩
     · subst e';simp[bf.ep] at ho'
     · exact h.inj j k x x' c' e e' ho ho' jG kB
 · rcases p with p | ⟨rfl,_,p⟩
   · exact h.there c' o p
   · exact⟨cs[o],by rw[bG k2,ic (by omega)]⟩
 · rcases bn hj with⟨_,e⟩ | ⟨GX,e⟩
   · cases e
   · obtain⟨c1,o1,vs1,q1,q2,q3,q4,q5,q6⟩:=h.obs j kk ll e
     exact⟨c1,o1,vs1,q1,q2,q3.mono ext,q4,fun o p=>p.elim (q5 o) fun q=>ne j _ c1 GX e rfl q1 q.1,q6⟩
 · rcases p with p | ⟨rfl,_⟩
   · exact .inl p
   · exact .inr (.inl ⟨b,_,hb,rfl,hc⟩)
 · rcases xE ho with⟨q,_⟩ | ⟨j,x,_,q1,q2,q3⟩
   · simp[bf.ep] at q
   · exact .inl ⟨j,x,q1,q2,q3⟩
theorem zN (h:Rel g m w) {bM:Nat} (hn:m[bM]? = some .free) {ρ:Operand→AV} {dm:Operand→Value} {o:Oper} (hr : ∀x,VA g w (ρ x) (dm x)) {src dst:TypeId} {x:Operand}
  (ho:o.op = .convert src dst x) {a:AV} {us:qR} (he:convertOp P (fun i=>m.getD i .dead) bM ρ o src dst (ρ x)=some (a,us,true)) :
  cZ g m w ((execOp dm o).run P w) a (apply m us):=by
 have hx:=hr x
 have yP:(execOp dm o).run P w=((convert src dst (dm x)).run P w).andThen fun v w'=> .ok (.value v) w':=by simp only[execOp,ho,kv,kx]
 unfold convertOp at he
 split at he
 · rename_i k k' n Y3 ZO
   split at he
   · rename_i d Pz
     simp only[kb,kp,and_true] at he
     obtain⟨rfl,rfl⟩:=he
     rw[ZO,VA.pv] at hx
     generalize hz:dm x=z at hx yP
     cases hx
     refine cZ.quiet h (v:= .int k (k.wrap n)) ?_ (.p _ _ (.sc _))
     rw[yP]
     simp[convert,run_underlying Pz,run_underlying Y3,Conv.intToInt]
   · cases he
 · rename_i s Y3 ZO
   split at he
   · rename_i Pz
     simp only[kb,kp,and_true] at he
     obtain⟨rfl,rfl⟩:=he
     rw[ZO,VA.pv] at hx
     generalize hz:dm x=z at hx yP
     cases hx
     refine cZ.quiet h (v:= .string s) ?_ (.p _ _ (.sc _))
     rw[yP]
     simp[convert,run_underlying Pz,run_underlying Y3]
   · cases he
 · rename_i e s Y3 ZO
   split at he
   · rename_i Pz hue
     simp only[kb,kp,and_true] at he
     obtain⟨rfl,rfl⟩:=he
     rw[ZO,VA.pv] at hx
     generalize hz:dm x=z at hx yP
     cases hx
     have nW:=ot s.size 0 e (w.tape w.drawn (.appendCap s.size 0 e))
     generalize hnc:(tz s.size 0 e).cut (w.tape w.drawn (.appendCap s.size 0 e))=newCap at nW
     generalize FE:(s.data.map fun b=>(vd .u8 b.toNat))++Array.replicate (newCap-s.size) (vd .u8 0)=all
     have hss:s.data.toList.length=s.size:=ie
     have hall:all.size=newCap:=by
      rw[←FE];simp only[lL,Array.size_map,Array.size_replicate]
      have:s.data.size=s.size:=rfl
      omega
     have AY:uz w ({w.drew with heap:=w.heap.push (.cells all e (all.size,all.size+1))}:World) (.cells all e (all.size,all.size+1)):=⟨rfl,rfl,rfl,rfl⟩
     obtain⟨r1,r2,r3⟩:=h.fresh (k:=s.size) hn AY (by omega) (.inr (aw _))
     refine⟨.slice (some ⟨w.heap.size,0,none⟩) s.size newCap,_,_,.inl ?_,?_,r1,r2,r3⟩
     · rw[yP]
       have hsh:=M6 w.drew all e
       have hfz:=JJ w.drew all e
       rw[tc] at hsh hfz
       simp only[convert,kv,run_underlying Pz,run_underlying Y3,run_underlying hue,ky,Conv.stringToBytes,run_choose,ua,pD,if_false,hnc,tf,FE,newRow,run_newObj,ta,kx,markStringish,run_shape,tc,hsh,run_freeze,hfz]
       rfl
     · rw[hss]
       have yO:all.toList=(s.data.toList.map fun b=>(vd .u8 b.toNat))++List.replicate (newCap-s.size) (vd .u8 0):=by rw[←FE];simp
       refine .os _ _ _ _ _ _ (VP.mk (us:=s.data.toList.map fun b=>(vd .u8 b.toNat)) (bN.dY (by simp) fun i a b=>by simp only[dv];exact .sc _) (by simp[hss]) nW (aw _) fun k v hk=> ?_) (.inr ⟨bM,w.heap.size,0,rfl,rfl,by simp[Gh.put,Gh.more],by simp[Gh.put,Gh.more],by simp[Gh.put,Gh.more,hall],nW⟩)
       have hk':=bX hk
       rw[ov,hss] at hk'
       refine⟨?_,.inr ⟨rfl,by omega,by omega⟩,?_⟩
       · rw[bG AY.new,←mb,yO,ri,od (by rw[ov,hss];exact hk')]
         exact hk
       · obtain⟨b,_,rfl⟩:=fg.1 (mf hk);rfl
   · cases he
 · rename_i Y3 hnot
   split at he
   · rename_i e Pz
     split at he
     · rename_i hue
       split at he
       · rename_i n aH ok mD
         simp only[kb,kp,jn] at he
         obtain⟨rfl,rfl,rfl,h1⟩:=he
         obtain⟨vs,s1,s2,_,s4,s5⟩:=gZ (P:=P) h mD hx
         obtain⟨ns,n1,n2⟩:=Qe s1 h1
         have s6:=s5 n (aw _)
         rw[dE (by omega),n1] at s6
         have hnl:ns.length=n:=by rw[n1] at s2;simpa using s2
         generalize hz:dm x=z at hx yP s4 s6
         refine cZ.quiet h (v:= .string ⟨(ns.map fun n=>vj n.toNat).toArray⟩) ?_ (by rw[n2];exact .p _ _ (.sc _))
         rw[yP]
         cases z with
         |slice ad len cap=>
          have hlen:len=n:=by simpa[lj] using s4
          subst hlen
          cases ad with
          |none=>
           have:ns=[]:=by
            have:(#[]:Array Value)=(ns.map (vd .u8)).toArray:=by simpa[lh] using s6
            have:=congrArg Array.size this
            simp at this
            exact pb.1 (by omega)
           subst this
           simp[convert,run_underlying Pz,run_underlying Y3,run_underlying hue,Conv.bytesToString,vz,vt]
           rfl
          |some ad=>
           have rC:(loadCells ad len).run P w = .ok (ns.map (vd .u8)).toArray w:=by simpa[lh] using s6
           have:=run_bytesToString (P:=P) w ad len cap ns rC
           simp only[convert,kv,run_underlying Pz,run_underlying Y3,run_underlying hue,ky,this,foldl_push]
           simp[vz,vt]
           rfl
         |string s=>
          exfalso
          generalize hxx:ρ x=xx at hx hnot mD
          cases hx with
          |p pv _ hp=>cases hp;exact hnot s rfl
          |az=>simp[contents] at mD
         |_=>simp[lj] at s4
       · cases he
     · cases he
   · cases he
 · simp only[kd,kp,and_true] at he
   obtain⟨v,h1,rfl,rfl⟩:=he
   obtain⟨cv,k1,k2⟩:=gq hr (fun _ _=>by rw[ho];exact fun e=>by cases e) h1
   exact cZ.quiet h k1 k2
end ops
section
variable {P:Program} {g:Gh} {m:Mem} {w:World}
set_option linter.unusedVariables false in
theorem CF (h:Rel g m w) {x k a:AV} {cx ck:Value} {t:TypeId} {ok:Bool} (hx:VA g w x cx) (hk:VA g w k ck) (he:z7 P (fun i=>m.getD i .dead) t x k ok=some a) :
  ∃v,(sa t cx ck ok).run P w = .ok v w∧VA g w a v:=by
 unfold z7 at he
 cases he
set_option linter.unusedVariables false in
theorem xI (h:Rel g m w) {x k v a:AV} {cx ck cv:Value} {t:TypeId} {us:qR} (hx:VA g w x cx) (hk:VA g w k ck) (hv:VA g w v cv)
  (he:kH P (fun i=>m.getD i .dead) t x k v=some (a,us,true)) :
  ∃w',(sb t cx ck cv).run P w = .ok () w'∧a = .aD []∧Rel g (apply m us) w'∧Ext g w g w'∧dU g m w g (apply m us) w':=by
 unfold kH at he
 cases he
end
section
variable {P:Program} {g:Gh} {m:Mem} {w:World}
theorem yQ {d:TypeDesc} {k:Value} (h:plainKey d k=true):wy d k:=by
 cases d<;>cases k<;>simp_all [plainKey,wy]
theorem yR {t:TypeId} {z:AV} (h:LG P t=some z) : ∃cz,(∀w,(zeroValue t).run P w = .ok cz w)∧VA g w z cz:=by
 unfold LG at h
 cases hi:P.info? t with
 |none=>simp[hi] at h
 |some i=>
  cases hz:i.zero with
  |none=>simp[hi,hz] at h
  |some c=>
   simp only[hi,hz,Option.map_some,kb] at h
   subst h
   exact⟨c,fun w=>by simp[zeroValue,typeInfo,hi,hz],VA.VW c⟩
set_option linter.unusedVariables false in
theorem AZ {t xt:TypeId} {x v:AV} {cx:Value} {ok:Bool} (he:AA P t x ok=some v) (hx:VA g w x cx) : ∃cv,(Instr.typeAssert cx xt t ok).run P w = .ok cv w∧VA g w v cv:=by
 unfold AA at he
 cases he
theorem yS {d:TypeDesc} {k:Value} : ∀{ks:List Value} {vs:List AV} {bs:List Nat} {cs:List Value} {r:Option AV} (n:Nat),tT d k ks vs bs=some r→dz g w vs cs →
  match r with
  |some v=> ∃i cv,sd d k (entriesOf ks cs bs) n=some (some (i,cv))∧VA g w v cv
  |none=>sd d k (entriesOf ks cs bs) n=some none
 |[],[],[],[],r,n,h,_=>by
  simp only[tT,kb] at h
  subst h
  rfl
 |k'::ks,v::vs,b::bs,c::cs,r,n,h,hv=>by
  simp only[tT] at h
  simp only[entriesOf,sd]
  cases hs:hX d k k' with
  |none=>rw[hs] at h;cases h
  |some q=>
   rw[hs] at h
   cases q with
   |true=>
    simp only[kb] at h
    subst h
    exact⟨n,c,rfl,hv.1⟩
   |false=>exact yS (n+1) h hv.2
 |_,_::_,_,[],_,_,_,hv=>hv.elim
 |_,[],_,_::_,_,_,_,hv=>hv.elim
 |_::_,[],_,_,_,_,h,_=>by simp[tT] at h
 |[],_::_,_,_,_,_,h,_=>by simp[tT] at h
 |[],[],_::_,_,_,_,h,_=>by simp[tT] at h
 |_::_,_::_,[],_,_,_,h,_=>by simp[tT] at h
theorem key_eq {k:Value} {cv:Value} (h:VA g w (.p (.sc k)) cv):cv=k:=by
 rw[VA.pv] at h
 cases h
 rfl
theorem GY (h:Rel g m w) {x:AV} {cx:Value} (hx:VA g w x cx) {ks:List Value} {vs:List AV} {bs:List Nat} (he:mapOf (fun i=>m.getD i .dead) x=some (ks,vs,bs)) :
  ∃cs,dz g w vs cs∧((cx = .map none∧ks=[]∧vs=[]∧bs=[]) ∨ ∃r clock,cx = .map (some r)∧w.heap[r]? = some (.map (entriesOf ks cs bs).toArray clock)):=by
 unfold mapOf at he
 split at he
 · simp only[kb,kp] at he
   obtain⟨rfl,rfl,rfl⟩:=he
   exact⟨[],trivial,.inl ⟨key_eq hx,rfl,rfl,rfl⟩⟩
 · rename_i b
   split at he
   · rename_i ks' bs' clock vs' hb
     simp only[kb,kp] at he
     obtain⟨rfl,rfl,rfl⟩:=he
     obtain⟨c,ob,cs,k1,k2,k3,k4,_⟩:=h.obs b _ _ (getD_some hb (by simp))
     simp only[eG.is] at k4
     subst k4
     cases hx with
     |vm _ c' hc=>
      rw[k1] at hc;cases hc
      exact⟨cs,k3,.inr ⟨c,clock,rfl,k2⟩⟩
   · cases he
 · cases he
theorem A0 (h:Rel g m w) {x k a:AV} {cx ck:Value} {t:TypeId} {ok:Bool} (hx:VA g w x cx) (hk:VA g w k ck) (he:oG P (fun i=>m.getD i .dead) t x k ok=some a) :
  ∃v,(sa t cx ck ok).run P w = .ok v w∧VA g w a v:=by
 unfold oG at he
 split at he
 · rename_i key
   obtain rfl:=key_eq hk
   split at he
   · rename_i kt et hm
     split at he
     · rename_i d z ks vs bs hd hz hmap
       cases hp:plainKey d ck with
       |false=>simp[hp] at he
       |true=>
        simp only[hp,cond_true] at he
        have hik:=yQ hp
        obtain⟨cz,Px,Py⟩:=yR (g:=g) (w:=w) hz
        obtain⟨cs,hcs,Qf⟩:=GY h hx hmap
        have hc : ∀e,(sg e 10000 kt ck).run P w = .ok () w:=fun e=>wx hd hik e 9999
        have acN:entriesOf [] cs []=[]:=by cases cs<;>rfl
        cases hf:tT d ck ks vs bs with
        |none=>simp[hf] at he
        |some r=>
         have hs:=yS (g:=g) (w:=w) 0 hf hcs
         cases r with
         |none=>
          simp only[hf,kb] at he
          subst he
          simp only at hs
          have hk:=wc (w:=w) hd hs
          refine⟨cond ok (.tuple #[cz,.bool false]) cz,?_,?_⟩
          · rcases Qf with⟨rfl,rfl,rfl,rfl⟩ | ⟨r,clock,rfl,hr⟩
            · rw[acN] at hk
              cases ok<;>simp[sa,run_underlying hm,hc,hk,Px,ra]
            · cases ok<;>simp[sa,run_underlying hm,wb hr,hc,hk,Px,ra]
          · cases ok with
            |true=>exact VA.pP.2 ⟨Py,.p _ _ (.sc _),trivial⟩
            |false=>exact Py
         |some u=>
          simp only[hf,kb] at he
          subst he
          obtain⟨i,cv,hs1,hs2⟩:=hs
          have hk:=wc (w:=w) hd hs1
          refine⟨cond ok (.tuple #[cv,.bool true]) cv,?_,?_⟩
          · rcases Qf with⟨rfl,rfl,rfl,rfl⟩ | ⟨r,clock,rfl,hr⟩
            · rw[acN] at hk
              cases ok<;>simp[sa,run_underlying hm,hc,hk,ra]
            · cases ok<;>simp[sa,run_underlying hm,wb hr,hc,hk,ra]
          · cases ok with
            |true=>exact VA.pP.2 ⟨hs2,.p _ _ (.sc _),trivial⟩
            |false=>exact hs2
     · cases he
   · cases he
 · exact CF h hx hk he
 · cases he
theorem A1 {d:TypeDesc} {k:Value} {v:AV} {cv:Value} (hik:wy d k) (hv:VA g w v cv) : ∀{ks:List Value} {vs:List AV} {bs:List Nat} {cs:List Value} {r:Option (List AV)} (n:Nat),Ax d k v ks vs bs=some r→dz g w vs cs →
  match r with
  |some l=> ∃i o cs',sd d k (entriesOf ks cs bs) n=some (some (n+i,o))∧((entriesOf ks cs bs)[i]?).map (·.key)=some k∧(entriesOf ks cs bs).modify i (fun e=>{e with key:=k,val:=cv})=entriesOf ks cs' bs∧dz g w l cs'
  |none=>sd d k (entriesOf ks cs bs) n=some none∧ks.length=vs.length∧bs.length=vs.length
 |[],[],[],[],r,n,h,_=>by
  simp only[Ax,kb] at h
  subst h
  exact⟨rfl,rfl,rfl⟩
 |k'::ks,u::vs,b::bs,c::cs,r,n,h,hvs=>by
  simp only[Ax] at h
  simp only[entriesOf,sd]
  cases hs:hX d k k' with
  |none=>rw[hs] at h;cases h
  |some q=>
   rw[hs] at h
   cases q with
   |true=>
    simp only[kb] at h
    subst h
    have hkk:k'=k:=by
     cases d<;>cases k<;>simp only[wy] at hik<;>cases k'<;>simp only[hX] at hs<;>first
      |cases hs
      |(split at hs
        · rename_i e1;subst e1;simp at hs;subst hs;rfl
        · cases hs)
      |(simp only[kb,xa,beq_iff_eq] at hs;subst hs;rfl)
    subst hkk
    exact⟨0,c,cv::cs,rfl,rfl,rfl,hv,hvs.2⟩
   |false=>
    cases hr:Ax d k v ks vs bs with
    |none=>simp[hr] at h
    |some r'=>
     have ih:=A1 hik hv (n+1) hr hvs.2
     cases r' with
     |none=>
      simp only[hr,kb] at h
      subst h
      exact⟨ih.1,by simp[ih.2.1],by simp[ih.2.2]⟩
     |some l=>
      simp only[hr,kb] at h
      subst h
      obtain⟨i,o,cs',q1,q2,q3,q4⟩:=ih
      refine⟨i+1,o,c::cs',by rw[q1];simp;omega,by simpa using q2,?_,hvs.1,q4⟩
      simp only[List.modify_succ_cons,entriesOf,q3]
 |_,_::_,_,[],_,_,_,hv=>hv.elim
 |_,[],_,_::_,_,_,_,hv=>hv.elim
 |_::_,[],_,_,_,_,h,_=>by simp[Ax] at h
 |[],_::_,_,_,_,_,h,_=>by simp[Ax] at h
 |[],[],_::_,_,_,_,h,_=>by simp[Ax] at h
 |_::_,_::_,[],_,_,_,h,_=>by simp[Ax] at h
theorem m7 {k:Value} {cv:Value} {b:Nat} : ∀{ks cs:List Value} {bs:List Nat},ks.length=cs.length→bs.length=cs.length→entriesOf ks cs bs++[{key:=k,val:=cv,born:=b}]=entriesOf (ks++[k]) (cs++[cv]) (bs++[b])
 |[],[],[],_,_=>rfl
 |_::ks,_::cs,_::bs,h,h'=>by simp[entriesOf,m7 (ks:=ks) (cs:=cs) (bs:=bs) (by simpa using h) (by simpa using h')]
 |[],_::_,_,h,_=>by simp at h
 |_::_,[],_,h,_=>by simp at h
 |[],[],_::_,_,h=>by simp at h
 |_::_,_::_,[],_,h=>by simp at h
theorem dF (w:World) {r:Nat} {o':Obj} {o:Obj} (hb:w.heap[r]? = some o) :
  (∀k,k≠r→({w with heap:=w.heap.setIfInBounds r o'}:World).heap[k]? = w.heap[k]?)∧({w with heap:=w.heap.setIfInBounds r o'}:World).heap.size=w.heap.size∧({w with heap:=w.heap.setIfInBounds r o'}:World).heap[r]? = some o':=
 ⟨fun k hk=>(xb hb).2 k hk,by simp,(xb hb).1⟩
theorem vE (h:Rel g m w) {x k v a:AV} {cx ck cv:Value} {t:TypeId} {us:qR} (hx:VA g w x cx) (hk:VA g w k ck) (hv:VA g w v cv)
  (he:jE P (fun i=>m.getD i .dead) t x k v=some (a,us,true)) :
  ∃w',(sb t cx ck cv).run P w = .ok () w'∧a = .aD []∧Rel g (apply m us) w'∧Ext g w g w'∧dU g m w g (apply m us) w':=by
 unfold jE at he
 split at he
 · rename_i b key
   obtain rfl:=key_eq hk
   split at he
   · rename_i kt et ks bs clock vs hm hb
     split at he
     · rename_i d hd
       cases hp:plainKey d ck with
       |false=>simp[hp] at he
       |true=>
        simp only[hp,cond_true] at he
        have hik:=yQ hp
        have hib:=getD_some hb (by simp)
        obtain⟨c,ob,cs,k1,k2,k3,k4,_⟩:=h.obs b _ _ hib
        simp only[eG.is] at k4
        subst k4
        cases hx with
        |vm _ c' hc=>
         rw[k1] at hc;cases hc
         have Qg : ∀e,(sg e 10000 kt ck).run P w = .ok () w:=fun e=>wx hd hik e 9999
         cases hu:Ax d ck v ks vs bs with
         |none=>simp[hu] at he
         |some r=>
          have hs:=A1 (g:=g) (w:=w) hik hv 0 hu k3
          cases r with
          |some l=>
           simp only[hu,kb,kp,and_true] at he
           obtain⟨rfl,rfl⟩:=he
           obtain⟨i,o,cs',q1,q2,q3,q4⟩:=hs
           rw[ri] at q1
           have hfind:=wc (w:=w) hd q1
           obtain⟨e1,e2,e3⟩:=dF w (o':= .map (entriesOf ks cs' bs).toArray clock) k2
           obtain⟨r1,r2,r3⟩:=h.jV (JH:= .map ks bs clock) (l':=l) (vs':=cs') hib k1 e1 e2 rfl rfl rfl e3 rfl q4
           refine⟨_,?_,rfl,r1,r2,r3⟩
           have hsame:si 10000 ck ck=true:=by
            cases d<;>cases ck<;>simp only[wy] at hik<;>simp[si,xa]
           have hmod:(entriesOf ks cs bs).toArray.modify i (fun e=>{e with key:=ck,val:=cv})=(entriesOf ks cs' bs).toArray:=by
            rw[←q3];simp
           simp[sb,run_underlying hm,wb k2,Qg,hfind,ss,hsame,wi _ k2,ra,q2,q3]
          |none=>
           simp only[hu,kb,kp,and_true] at he
           obtain⟨rfl,rfl⟩:=he
           obtain⟨q1,q2,q3⟩:=hs
           have hlen:=k3.len
           have hfind:=wc (w:=w) hd q1
           obtain⟨e1,e2,e3⟩:=dF w (o':= .map (entriesOf (ks++[ck]) (cs++[cv]) (bs++[clock])).toArray (clock+1)) k2
           obtain⟨r1,r2,r3⟩:=h.jV (JH:= .map (ks++[ck]) (bs++[clock]) (clock+1)) (l':=vs++[v]) (vs':=cs++[cv]) hib k1 e1 e2 rfl rfl rfl e3 rfl (k3.append (⟨hv,trivial⟩:dz g w [v] [cv]))
           refine⟨_,?_,rfl,r1,r2,r3⟩
           have Qh:(entriesOf ks cs bs).toArray.push {key:=ck,val:=cv,born:=clock}=(entriesOf (ks++[ck]) (cs++[cv]) (bs++[clock])).toArray:=by
            rw[←m7 (by omega) (by omega)];simp
           simp[sb,run_underlying hm,wb k2,Qg,hfind,Qh,wi _ k2,ra]
     · cases he
   · cases he
 · exact xI h hx hk hv he
 · cases he
abbrev vF (ns:List ByteArray) (bs:List Nat):List MapEntry:=entriesOf (ns.map .string) (ns.map fun _=> .bool true) bs
theorem A2 : ∀{ns:List ByteArray} {bs:List Nat} {e:MapEntry},e∈vF ns bs → ∃x∈ns,e.key = .string x∧e.val = .bool true
 |x::ns,b::bs,e,h=>by
  rcases pB.1 h with rfl | h
  · exact⟨x,.head _,rfl,rfl⟩
  · obtain⟨y,h1,h2⟩:=A2 (ns:=ns) (bs:=bs) h
    exact⟨y,.tail _ h1,h2⟩
 |[],_,_,h=>by cases h
 |_::_,[],_,h=>by cases h
theorem LV : ∀{ns:List ByteArray} {bs:List Nat} {x:ByteArray},bs.length=ns.length→x∈ns → ∃e∈vF ns bs,e.key = .string x
 |y::ns,b::bs,x,hl,h=>by
  rcases pB.1 h with rfl | h
  · exact⟨_,.head _,rfl⟩
  · obtain⟨e,h1,h2⟩:=LV (ns:=ns) (bs:=bs) (by simpa using hl) h
    exact⟨e,.tail _ h1,h2⟩
 |[],_,_,_,h=>by cases h
 |_::_,[],_,hl,_=>by simp at hl
theorem GZ {ns:List ByteArray} {s:ByteArray}:fy ns s=true↔s∈ns:=by
 have e : ∀x:ByteArray,(x.data.toList==s.data.toList)=true↔x=s:=fun x=>by
  rw[beq_iff_eq]
  constructor
  · intro h
    obtain⟨⟨a⟩⟩:=x
    obtain⟨⟨b⟩⟩:=s
    simpa using h
  · rintro rfl;rfl
 unfold fy
 rw[List.any_eq_true]
 constructor
 · rintro ⟨x,h1,h2⟩
   rwa [←(e x).1 h2]
 · intro h
   exact⟨s,h,(e s).2 rfl⟩
theorem Dm {ns:List ByteArray} {bs:List Nat} (hl:bs.length=ns.length) (s:ByteArray) :
  (fy ns s=false∧sd .string (.string s) (vF ns bs) 0=some none) ∨
    (fy ns s=true ∧ ∃j e,sd .string (.string s) (vF ns bs) 0=some (some (j,.bool true))∧(vF ns bs)[j]? = some e∧e.key = .string s∧e.val = .bool true):=by
 have hk:wy .string (.string s):=trivial
 rcases MapKept.findNow_spec hk (vF ns bs) 0 (fun x hx=>by
  obtain⟨y,_,h2,_⟩:=A2 hx
  rw[h2];trivial) with⟨h1,h2⟩ | ⟨j,e,h1,h2,h3⟩
 · refine .inl ⟨?_,h1⟩
   cases hh:fy ns s with
   |false=>rfl
   |true=>
    obtain⟨e,k1,k2⟩:=LV hl (GZ.1 hh)
    exact absurd k2 (h2 e k1)
 · obtain⟨y,k1,k2,k3⟩:=A2 (mf h2)
   refine .inr ⟨GZ.2 ?_,j,e,?_,h2,h3,k3⟩
   · rw[k2] at h3
     cases h3
     exact k1
   · rw[h1,k3,ri]
theorem A3 (g:Gh) (w0:World) {t:TypeId} (h:vi P t=true) : ∃kt et,P.underlying t=some (.map kt et)∧P.underlying kt=some .string ∧ ∀w,(zeroValue et).run P w = .ok (.bool false) w:=by
 unfold vi at h
 split at h
 · rename_i kt et hm
   split at h
   · rename_i h1 h2
     obtain⟨cz,z1,z2⟩:=yR (g:=g) (w:=w0) h2
     rw[VA.pv] at z2
     cases z2
     exact⟨kt,et,hm,h1,z1⟩
   · cases h
 · cases h
theorem vG (h:Rel g m w) {x:AV} {cx:Value} (hx:VA g w x cx) {ns:List ByteArray} (he:uw (fun i=>m.getD i .dead) x=some ns) :
  ∃b r bs clock l,x = .vm b∧m[b]? = some (.ob (.smap ns) l)∧g.cm b=some r∧cx = .map (some r)∧w.heap[r]? = some (.map (vF ns bs).toArray clock)∧bs.length=ns.length∧dz g w l []:=by
 unfold uw at he
 split at he
 · rename_i b
   split at he
   · rename_i ns' l hb
     simp only[kb] at he
     subst he
     have hib:=getD_some hb (by simp)
     obtain⟨c,ob,cs,k1,k2,k3,k4,_⟩:=h.obs b _ _ hib
     simp only[eG.is] at k4
     obtain⟨rfl,bs,clock,rfl,k5⟩:=k4
     cases hx with
     |vm _ c' hc=>
      rw[k1] at hc;cases hc
      exact⟨b,c,bs,clock,l,rfl,hib,k1,rfl,k2,k5,k3⟩
   · cases he
 · cases he
theorem FG (h:Rel g m w) {x k a:AV} {cx ck:Value} {t:TypeId} {ok:Bool} (hx:VA g w x cx) (hk:VA g w k ck) (he:xA P (fun i=>m.getD i .dead) t x k ok=some a) :
  ∃v,(sa t cx ck ok).run P w = .ok v w∧VA g w a v:=by
 unfold xA at he
 split at he
 · rename_i ns hs
   obtain⟨b,r,bs,clock,l,rfl,h1,h2,rfl,h3,h4,h5⟩:=vG h hx hs
   split at he
   · rename_i s
     obtain rfl:=key_eq hk
     split at he
     · rename_i ht
       obtain⟨kt,et,t1,t2,t3⟩:=A3 g w ht
       simp only[kb] at he
       subst he
       have hc : ∀e,(sg e 10000 kt (.string s)).run P w = .ok () w:=fun e=>wx t2 (d:= .string) (k:= .string s) trivial e 9999
       refine⟨cond ok (.tuple #[.bool (fy ns s),.bool (fy ns s)]) (.bool (fy ns s)),?_,?_⟩
       · rcases Dm h4 s with⟨q0,q1⟩ | ⟨q0,j,e,q1,q2,q3,q4⟩
         · have hf:=wc (w:=w) t2 q1
           cases ok<;>simp[sa,run_underlying t1,wb h3,hc,hf,t3,ra,q0]
         · have hf:=wc (w:=w) t2 q1
           cases ok<;>simp[sa,run_underlying t1,wb h3,hc,hf,ra,q0]
       · cases ok with
         |true=>exact VA.pP.2 ⟨.p _ _ (.sc _),.p _ _ (.sc _),trivial⟩
         |false=>exact .p _ _ (.sc _)
     · cases he
   · cases he
 · exact A0 h hx hk he
theorem yT (h:Rel g m w) {x k v a:AV} {cx ck cv:Value} {t:TypeId} {us:qR} (hx:VA g w x cx) (hk:VA g w k ck) (hv:VA g w v cv)
  (he:Az P (fun i=>m.getD i .dead) t x k v=some (a,us,true)) :
  ∃w',(sb t cx ck cv).run P w = .ok () w'∧a = .aD []∧Rel g (apply m us) w'∧Ext g w g w'∧dU g m w g (apply m us) w':=by
 unfold Az at he
 split at he
 · rename_i ns hs
   obtain⟨b,r,bs,clock,l,rfl,h1,h2,rfl,h3,h4,h5⟩:=vG h hx hs
   split at he
   · rename_i b' s ZO
     cases ZO
     obtain rfl:=key_eq hk
     obtain rfl:=key_eq hv
     split at he
     · rename_i ht
       obtain⟨kt,et,t1,t2,t3⟩:=A3 g w ht
       simp only[kb,kp,and_true] at he
       obtain⟨rfl,rfl⟩:=he
       have hc : ∀e,(sg e 10000 kt (.string s)).run P w = .ok () w:=fun e=>wx t2 (d:= .string) (k:= .string s) trivial e 9999
       rcases Dm h4 s with⟨q0,q1⟩ | ⟨q0,j,e,q1,q2,q3,q4⟩
       · have hf:=wc (w:=w) t2 q1
         have ea:xz ns s=ns++[s]:=by unfold xz;rw[q0];rfl
         rw[ea]
         have Qh:(vF ns bs).toArray.push {key:= .string s,val:= .bool true,born:=clock}=(vF (ns++[s]) (bs++[clock])).toArray:=by
          have k:=m7 (k:= .string s) (cv:= .bool true) (b:=clock) (ks:=ns.map .string) (cs:=ns.map fun _=> .bool true) (bs:=bs) (by simp) (by simpa using h4)
          simp only[vF,List.map_append,mi,my]
          rw[←k]
          simp
         obtain⟨e1,e2,e3⟩:=dF w (o':= .map (vF (ns++[s]) (bs++[clock])).toArray (clock+1)) h3
         obtain⟨r1,r2,r3⟩:=h.jV (JH:= .smap (ns++[s])) (l':=[]) (vs':=[]) h1 h2 e1 e2 rfl rfl rfl e3 ⟨rfl,bs++[clock],clock+1,rfl,by simp[h4]⟩ trivial
         refine⟨_,?_,rfl,r1,r2,r3⟩
         simp[sb,run_underlying t1,wb h3,hc,hf,Qh,wi _ h3,ra]
       · have hf:=wc (w:=w) t2 q1
         have ea:xz ns s=ns:=by unfold xz;rw[q0];rfl
         rw[ea]
         have hmod:((vF ns bs).modify j fun e=>{key:= .string s,val:= .bool true,born:=e.born})=vF ns bs:=by
          apply List.ext_getElem?
          intro i
          rw[List.getElem?_modify]
          by_cases ij:j=i
          · subst ij
            rw[q2]
            obtain⟨ek,ev,eb⟩:=e
            simp only at q3 q4
            subst q3 q4
            simp
          · simp[ij]
         obtain⟨e1,e2,e3⟩:=dF w (o':= .map (vF ns bs).toArray clock) h3
         obtain⟨r1,r2,r3⟩:=h.jV (JH:= .smap ns) (l':=[]) (vs':=[]) h1 h2 e1 e2 rfl rfl rfl e3 ⟨rfl,bs,clock,rfl,h4⟩ trivial
         refine⟨_,?_,rfl,r1,r2,r3⟩
         have hsame:si 10000 (.string s) (.string s)=true:=by simp[si,xa]
         simp[sb,run_underlying t1,wb h3,hc,hf,ss,hsame,wi _ h3,ra,q2,q3,hmod]
     · cases he
   · cases he
 · exact vE h hx hk hv he
set_option linter.unusedVariables false in
theorem G0 {ρ:Operand→AV} {dm:Operand→Value} (hr : ∀x,VA g w (ρ x) (dm x)) {o:Oper} {op:BinOp} {t yt:TypeId} {x y:Operand} (ho:o.op = .binOp op t x y yt) {a:AV} {us:qR} {ok:Bool} (he:LI P op t (ρ x) (ρ y)=some (a,us,ok)) :
  us=[] ∧ ∃v,(execOp dm o).run P w = .ok (.value v) w∧VA g w a v:=by
 unfold LI at he
 cases he
end
section
variable {P:Program} {g:Gh} {m:Mem} {w:World}
theorem Rel.move (h:Rel g m w) {b bM c:Nat} {k:eG} {l:List AV} (hb:m[b]? = some (.ob k l)) (hc:g.cm b=some c) (hn:m[bM]? = some .free) :
  Rel (g.put bM c (g.lo b) (g.hi b)) ((m.set b .dead).set bM (.ob k l)) w∧Ext g w (g.put bM c (g.lo b) (g.hi b)) w∧dU g m w (g.put bM c (g.lo b) (g.hi b)) ((m.set b .dead).set bM (.ob k l)) w:=by
 have hne:b≠bM:=fun e=>by subst e;rw[hb] at hn;cases hn
 have hf:=h.free bM hn
 have get : ∀j x,((m.set b .dead).set bM (.ob k l))[j]? = some x→(j=bM∧x = .ob k l)∨x = .dead∨(j≠bM∧j≠b∧m[j]? = some x):=by
  intro j x hj
  rcases bn hj with⟨e,q⟩ | ⟨hjn,q⟩
  · exact .inl ⟨e,q⟩
  · rcases bn q with⟨_,q⟩ | ⟨GX,q⟩
    · exact .inr (.inl q)
    · exact .inr (.inr ⟨hjn,GX,q⟩)
 have bo : ∀j,j≠bM→(g.put bM c (g.lo b) (g.hi b)).cm j=g.cm j:=fun j hj=>by simp[Gh.put,hj]
 have bi:(g.put bM c (g.lo b) (g.hi b)).cm bM=some c:=by simp[Gh.put]
 have ext:Ext g w (g.put bM c (g.lo b) (g.hi b)) w:=⟨fun j c' hj=>by
  have:j≠bM:=fun e=>by subst e;rw[hf] at hj;cases hj
  simp[Gh.put,this,hj],fun _ _ p=>⟨p,rfl⟩⟩
 have ne : ∀j x c',j≠b→m[j]? = some x→x.ep=true→g.cm j=some c'→c'≠c:=fun j x c' GX hj ho iS e=>GX (h.inj j b x _ c hj hb ho rfl (e▸iS) hc)
 obtain⟨c0,ob,vs,h1,h2,h3,h4,h5,h6⟩:=h.obs b _ _ hb
 rw[hc] at h1;cases h1
 refine⟨⟨fun j hj=> ?_,fun j hj=> ?_,fun j x kk hj hk=> ?_,fun j c' hj iS=> ?_,fun j q x x' c' hj hk ho ho' jG kB=> ?_,h.there,fun j kk ll hj=> ?_⟩,ext,⟨aw _,fun _ _ _=>rfl,fun _ _ p=>⟨p,rfl⟩,fun _ _ p=> .inl p,fun c' ho=> ?_,rfl,rfl,rfl⟩⟩
 · have hl:=bX hn
   simp only[ed] at hj
   rw[bo j (by omega)];exact h.Cp j hj
 · rcases get j _ hj with⟨_,e⟩ | e | ⟨hjn,_,e⟩
   · cases e
   · cases e
   · rw[bo j hjn];exact h.free j e
 · rcases get j _ hj with⟨_,e⟩ | e | ⟨hjn,GX,e⟩
   · subst e;cases hk
   · subst e;cases hk
   · obtain⟨c1,cs1,e1,n1,q1,q2,q3,q4,q5⟩:=h.cells j x kk e hk
     exact⟨c1,cs1,e1,n1,(bo j hjn).trans q1,q2,q3,q4.mono ext,q5⟩
 · rcases get j _ hj with⟨_,e⟩ | e | ⟨hjn,GX,e⟩
   · cases e
   · cases e
   · rw[bo j hjn] at iS
     obtain⟨cs1,e1,n1,q2,q3,q4,q5⟩:=h.tok j c' e iS
     have e1:(g.put bM c (g.lo b) (g.hi b)).hi j=g.hi j:=by simp[Gh.put,hjn]
     have e2:(g.put bM c (g.lo b) (g.hi b)).lo j=g.lo j:=by simp[Gh.put,hjn]
     rw[e1,e2]
     exact⟨cs1,_,n1,q2,q3,q4,q5⟩
 · rcases get j _ hj with⟨rfl,e⟩ | e | ⟨hjn,GX,e⟩
   · rcases get q _ hk with⟨rfl,_⟩ | e' | ⟨hqn,hqb,e'⟩
     · rfl
     · subst e';simp[bf.ep] at ho'
     · rw[bi] at jG;cases jG
       rw[bo q hqn] at kB
       exact absurd rfl (ne q x' _ hqb e' ho' kB)
   · subst e;simp[bf.ep] at ho
   · rcases get q _ hk with⟨rfl,_⟩ | e' | ⟨hqn,hqb,e'⟩
     · rw[bi] at kB;cases kB
       rw[bo j hjn] at jG
       exact absurd rfl (ne j x _ GX e ho jG)
     · subst e';simp[bf.ep] at ho'
     · rw[bo j hjn] at jG;rw[bo q hqn] at kB
       exact h.inj j q x x' c' e e' ho ho' jG kB
 · rcases get j _ hj with⟨rfl,e⟩ | e | ⟨hjn,GX,e⟩
   · cases e
     exact⟨c,ob,vs,bi,h2,h3.mono ext,h4,h5,by simpa[Gh.put] using h6⟩
   · cases e
   · obtain⟨c1,o1,vs1,q1,q2,q3,q4,q5,q6⟩:=h.obs j kk ll e
     exact⟨c1,o1,vs1,(bo j hjn).trans q1,q2,q3.mono ext,q4,q5,by simpa[Gh.put,hjn] using q6⟩
 · obtain⟨j,x,hj,hx,Wh⟩:=ho
   rcases get j _ hj with⟨rfl,e⟩ | e | ⟨hjn,GX,e⟩
   · rw[bi] at Wh;cases Wh
     exact .inl ⟨b,_,hb,rfl,hc⟩
   · subst e;simp[bf.ep] at hx
   · rw[bo j hjn] at Wh
     exact .inl ⟨j,x,e,hx,Wh⟩
theorem G1 {α:Type} : ∀(n l:List α) (o:Nat),o+n.length≤l.length→(dJ l o n).take (o+n.length)=l.take o++n
 |[],l,o,_=>by simp[dJ]
 |v::n,l,o,h=>by
  simp only[na] at h
  have:=G1 n (l.set o v) (o+1) (by simp;omega)
  simp only[dJ,na]
  rw[show o+(n.length+1)=o+1+n.length by omega,this,List.take_succ_eq_append_getElem (by simp;omega),pA,List.set_eq_of_length_le (by simp;omega)]
  simp
theorem G2 (h:Rel g m w) {b c:Nat} {l:List AV} (hl:mN (m.getD b .dead)=some l) (hc:g.cm b=some c) :
  ∃cs e n,w.heap[c]? = some (.cells cs e n)∧n.2≤n.1∧dz g w l (cs.toList.take l.length)∧l.length≤cs.size ∧ ∀v∈cs.toList,v.oneCell'=true:=by
 have cells : ∀x,m[b]? = some x→x.cells?=some l → ∃cs e n,w.heap[c]? = some (.cells cs e n)∧n.2≤n.1∧dz g w l (cs.toList.take l.length)∧l.length≤cs.size ∧ ∀v∈cs.toList,v.oneCell'=true:=by
  intro x hx hxl
  obtain⟨c',cs,e,n,k1,k2,k3,k4,k5⟩:=h.cells b x l hx hxl
  rw[hc] at k1;cases k1
  have hlen:=k4.1.len
  simp only[ie] at hlen
  exact⟨cs,e,n,k2,k3,by rw[hlen,dE (by simp)];exact k4.1,by omega,k4.2⟩
 generalize hx:m.getD b .dead=x at hl
 unfold mN at hl
 split at hl
 · simp only[kb] at hl;subst hl
   exact cells _ (getD_some hx (by simp)) rfl
 · simp only[kb] at hl;subst hl
   exact cells _ (getD_some hx (by simp)) rfl
 · simp only[kb] at hl;subst hl
   obtain⟨c',ob,vs,k1,k2,k3,k4,_,_⟩:=h.obs b _ _ (getD_some hx (by simp))
   rw[hc] at k1;cases k1
   obtain⟨cs,e,n,rfl,_,q0,q1,q2,q3⟩:=k4
   have hlen:=k3.len
   exact⟨cs,e,n,k2,q0,by rw[hlen,←q1];exact k3,by omega,q3⟩
 · cases hl
theorem dz.acO {l:List PV} {vs:List Value} (h:MX g w l vs):dz g w (l.map .p) vs:=bN.dY (by simpa using h.len) fun i a b=>by
 have:=h.get i (by simpa using a) b
 rw[dv];exact .p _ _ this
theorem gE (h:Rel g m w) {sz n:Nat} {x:AV} {cx:Value} {l:List AV} (he:fU (fun i=>m.getD i .dead) sz x=some (n,l,true)) (hx:VA g w x cx) :
  ∃vs:List Value,dz g w l vs∧vs.length=n*sz∧(∀v∈vs,v.oneCell'=true)∧(lj cx).run P w = .ok n w ∧ ∀k,k≤n→(lh sz k cx).run P w = .ok (vs.take (k*sz)).toArray w:=by
 unfold fU at he
 split at he
 · rename_i n' aH ok hc
   simp only[kb,kp] at he
   obtain⟨rfl,rfl,rfl⟩:=he
   obtain⟨vs,h1,h2,h3,h4,h5⟩:=gZ (P:=P) h hc hx
   exact⟨vs,dz.acO h1,h2,h3,h4,h5⟩
 · split at he
   · rename_i b off len s cap _
     split at he
     · rename_i l0 hb
       simp only[kb,kp,jn,bc] at he
       obtain⟨rfl,rfl,rfl,h1⟩:=he
       have h1:=ae h1
       cases hx with
       |ms _ _ _ _ cap c hc hcap=>
       obtain⟨c',cs,e,q,k1,k2,k3,k4,k5⟩:=h.cells b _ _ (getD_some hb (by simp)) rfl
       rw[hc] at k1;cases k1
       have hone:=k4.2
       have LU:=k4.1
       have hlen:=LU.len
       simp only[ie] at hlen
       have hvl:((cs.toList.drop off).take (len*s)).length=len*s:=by
        rw[eh,List.length_drop,ie];omega
       refine⟨(cs.toList.drop off).take (len*s),rB ((LU.drop off).take (len*s)),hvl,fun v hv=>hone v (List.mem_of_mem_drop (dk hv)),by simp[lj],fun k hk=> ?_⟩
       have hl:(((cs.toList.drop off).take (len*s)).take (k*s)).length=k*s:=by
        rw[eh,hvl];exact re (a8 _ hk)
       have:=run_loadCells_list (P:=P) w ⟨c,off,none⟩ (((cs.toList.drop off).take (len*s)).take (k*s)) (fun j v hj=>by
        rw[dD,bG k2]
        rw[di] at hj
        split at hj
        · rw[di] at hj
          split at hj
          · rw[List.getElem?_drop] at hj;simpa using hj
          · cases hj
        · cases hj)
       rw[hl] at this
       simpa[lh] using this
     · cases he
   · cases he
theorem A4 (h:Rel g m w) {sz n:Nat} {x:AV} {cx:Value} {l:List AV} (he:fU (fun i=>m.getD i .dead) sz x=some (n,l,true)) (hx:VA g w x cx) :
  ∃vs:List Value,dz g w l vs∧vs.length=n*sz∧(∀v∈vs,v.oneCell'=true)∧(lj cx).run P w.drew = .ok n w.drew ∧ ∀k,k≤n→(lh sz k cx).run P w.drew = .ok (vs.take (k*sz)).toArray w.drew:=by
 obtain⟨h1,h2,_⟩:=h.oI (w':=w.drew) rfl rfl rfl rfl
 obtain⟨vs,k1,k2,k3,k4,k5⟩:=gE (P:=P) h1 he (hx.mono h2)
 exact⟨vs,dz.mono (g:=g) (w:=w.drew) ⟨fun _ _ q=>⟨q,rfl,rfl⟩,fun c o p=>⟨p,(h2.pure c o p).2.symm⟩⟩ k1,k2,k3,k4,k5⟩
theorem Qi (K:eG) (h:Rel g m w) {bM:Nat} (hn:m[bM]? = some .free) {argTypes:Array TypeId} {ty sType xType elem:TypeId} {d:TypeDesc} {info:TypeInfo} {z:List AV} {x:AV} {cx:Value} {n:Nat} {aH:List AV} {ad:Option Addr} {len cap:Nat} {l:List AV} {vs:List Value}
  (hs0:argTypes[0]? = some sType) (hx0:argTypes[1]? = some xType) (hu:P.underlying sType=some (.slice elem)) (FD:P.underlying xType=some d) (hd : ∀k,d ≠ .int k) (hi:P.info? elem=some info) (hz:zeroCells P elem=some z)
  (hx:VA g w x cx) (mD:fU (fun i=>m.getD i .dead) info.size x=some (n,aH,true)) (h2:1≤info.size) (h3:z.length=info.size) (h4:(len+n)*info.bytes≤eY) (h5:len+n≤eY)
  (hl:dz g w l vs) (hone : ∀v∈vs,v.oneCell'=true) (hvl:vs.length=len*info.size) (rC:(lh info.size len (.slice ad len cap)).run P w.drew = .ok vs.toArray w.drew) (hH : ¬len+n≤cap)
  (hK : ∀(all:Array Value) (vx zs:List Value),dz g w aH vx→all.toList=vs++vx++zs→(vs++vx).length≤all.size→(∀v∈all.toList,v.oneCell'=true)→(∀v∈zs,∃a∈z,VA g w a v)→all.size≤9223372036854775807*info.size→K.is (.cells all elem) (vs++vx)∧K.room (.cells all elem) all.size) :
  ∃newCap g' w',(((do pure (.value (←uv argTypes ty #[.slice ad len cap,cx])):Sem Next)).run P w) = .ok (.value (.slice (some ⟨w.heap.size,0,none⟩) (len+n) newCap)) w' ∧
   Rel g' (m.set bM (.ob K (l++aH))) w'∧Ext g w g' w'∧dU g m w g' (m.set bM (.ob K (l++aH))) w'∧VA g' w' (.ms bM 0 (len+n) info.size none) (.slice (some ⟨w.heap.size,0,none⟩) (len+n) newCap):=by
 obtain⟨zv,z1,z2⟩:=dK (g:=g) (w:=w) hz
 have hzl:=z2.1.len
 simp only[ie] at hzl
 have hzs:zv.cells.size=info.size:=by omega
 have hsz:iU P elem=some info.size:=by simp[iU,hi]
 unfold eY at h4 h5
 obtain⟨_,_,_,_,l3,_⟩:=gE (P:=P) h mD hx
 obtain⟨vx,x1,x2,FH,x3,x4⟩:=A4 (P:=P) h mD hx
 have x5:=x4 n (aw _)
 rw[dE (by omega)] at x5
 obtain⟨d1,d2,d3⟩:=h.oI (w':=w.drew) rfl rfl rfl rfl
 have nW:=ot (len+n) cap elem (w.tape w.drawn (.appendCap (len+n) cap elem))
 have hub:(tz (len+n) cap elem).cut (w.tape w.drawn (.appendCap (len+n) cap elem))≤9223372036854775807:=by
  have hlt:=rv (w.tape w.drawn (.appendCap (len+n) cap elem)) (show 0<2 ^ 63-(len+n) by omega)
  show len+n+w.tape w.drawn (.appendCap (len+n) cap elem)%(2 ^ 63-(len+n))≤9223372036854775807
  omega
 generalize hnc:(tz (len+n) cap elem).cut (w.tape w.drawn (.appendCap (len+n) cap elem))=newCap at nW hub
 have Qd:(ui zv.cells (newCap-(len+n))).size=(newCap-(len+n))*info.size:=by simp[ui,hzs]
 have hmul:(len+n)*info.size=len*info.size+n*info.size:=rb _ _ _
 have hall:(vs.toArray++vx.toArray++ui zv.cells (newCap-(len+n))).size=newCap*info.size:=by
  simp only[lL,pk,Qd,hvl,x2]
  rw[bj,hmul]
  have:=a8 info.size nW
  rw[hmul] at this
  omega
 have acQ : ∀v∈(ui zv.cells (newCap-(len+n))).toList,v.oneCell'=true:=by
  intro v hv
  simp only[ui,ja,fg] at hv
  obtain⟨i,_,rfl⟩:=hv
  have hlt:i%zv.cells.size<zv.cells.size:=rv _ (by omega)
  rw[getElem!_pos zv.cells _ hlt]
  exact z2.2 _ (by simp)
 have aeW : ∀v∈(ui zv.cells (newCap-(len+n))).toList,∃a∈z,VA g w a v:=by
  intro v hv
  simp only[ui,ja,fg] at hv
  obtain⟨i,_,rfl⟩:=hv
  have hlt:i%zv.cells.size<zv.cells.size:=rv _ (by omega)
  rw[getElem!_pos zv.cells _ hlt]
  have hz':i%zv.cells.size<z.length:=by omega
  exact⟨z[i%zv.cells.size],List.getElem_mem hz',by have:=z2.1.get (i%zv.cells.size) hz' (by simpa using hlt);rwa [Array.getElem_toList] at this⟩
 generalize FE:vs.toArray++vx.toArray++ui zv.cells (newCap-(len+n))=all at hall
 have yO:all.toList=vs++vx++(ui zv.cells (newCap-(len+n))).toList:=by rw[←FE];simp
 have AY:uz w (w.drew.alloc (.cells all elem)) (.cells all elem):=⟨rfl,rfl,rfl,rfl⟩
 have LU:dz g w (l++aH) (vs++vx):=hl.append x1
 have Wo : ∀v∈all.toList,v.oneCell'=true:=fun v hv=>by
  rw[yO] at hv
  rcases oE.1 hv with q | q
  · rcases oE.1 q with q | q
    · exact hone v q
    · exact FH v q
  · exact acQ v q
 have hKK:=hK all vx _ x1 yO (by rw[hall,du,hvl,x2,←hmul];exact a8 _ nW) Wo aeW (by rw[hall];exact a8 _ hub)
 obtain⟨r1,r2,r3⟩:=h.vr all.size (ob:=K) (l:=l++aH) (vs:=vs++vx) hn LU AY
  hKK.1 hKK.2
 refine⟨newCap,_,_,?_,r1,r2,r3,.mg bM 0 _ _ newCap w.heap.size (by simp[Gh.put]) nW (by simp[Gh.put,hall])⟩
 have ZN : ¬(((len+n:Nat):Int)>tp.max):=by
  rw[show tp.max=9223372036854775807 from by decide];omega
 have hgrow : ¬(vb (len+n) cap*info.bytes>2 ^ 48):=by
  have:=growslice_fits (need:=len+n) (old:=cap) (bytes:=info.bytes) (by omega) (by omega)
  omega
 simp only[uv,hs0,hx0,nb,ml,mr,kv,run_underlying hu,ky,bu hsz,run_underlying FD,kx,pD,if_false,l3,hH,qf,ZN,false_and,lf hi,hgrow,run_choose,ua,hnc,tf,run_askRoom,rC,x5,z1,FE,if_true,newRow,run_newObj,ta,tc]
theorem FI (pq:Bool) (h:Rel g m w) {bM:Nat} (hn:m[bM]? = some .free) {argTypes:Array TypeId} {ty sType xType elem:TypeId} {d:TypeDesc} {info:TypeInfo} {z:List AV} {x:AV} {cx:Value} {n:Nat} {aH:List AV} {ad:Option Addr} {len cap:Nat} {l:List AV} {vs:List Value}
  (hs0:argTypes[0]? = some sType) (hx0:argTypes[1]? = some xType) (hu:P.underlying sType=some (.slice elem)) (FD:P.underlying xType=some d) (hd : ∀k,d ≠ .int k) (hi:P.info? elem=some info) (hz:zeroCells P elem=some z)
  (hx:VA g w x cx) (mD:fU (fun i=>m.getD i .dead) info.size x=some (n,aH,true)) (h2:1≤info.size) (h3:z.length=info.size) (h4:(len+n)*info.bytes≤eY) (h5:len+n≤eY)
  (hl:dz g w l vs) (hone : ∀v∈vs,v.oneCell'=true) (hvl:vs.length=len*info.size) (rC:(lh info.size len (.slice ad len cap)).run P w.drew = .ok vs.toArray w.drew) (hH : ¬len+n≤cap) :
  ∃newCap g' w',(((do pure (.value (←uv argTypes ty #[.slice ad len cap,cx])):Sem Next)).run P w) = .ok (.value (.slice (some ⟨w.heap.size,0,none⟩) (len+n) newCap)) w' ∧
   Rel g' (m.set bM (.ob (.gr elem pq) (l++aH))) w'∧Ext g w g' w'∧dU g m w g' (m.set bM (.ob (.gr elem pq) (l++aH))) w'∧VA g' w' (.ms bM 0 (len+n) info.size none) (.slice (some ⟨w.heap.size,0,none⟩) (len+n) newCap):=
 Qi (.gr elem pq) h hn hs0 hx0 hu FD hd hi hz hx mD h2 h3 h4 h5 hl hone hvl rC hH fun all vx zs _ yO hle acR _ _=>
  ⟨⟨all,elem,(0,0),rfl,rfl,aw _,by rw[yO,List.take_append_of_le_length (aw _),List.take_length],hle,acR⟩,rfl⟩
theorem run_append_room (h:Rel g m w) {argTypes:Array TypeId} {ty sType xType elem:TypeId} {d:TypeDesc} {info:TypeInfo} {x:AV} {cx:Value} {n:Nat} {aH:List AV} {c len cap:Nat} {cs:Array Value} {e:TypeId} {q:Nat×Nat}
  (hs0:argTypes[0]? = some sType) (hx0:argTypes[1]? = some xType) (hu:P.underlying sType=some (.slice elem)) (FD:P.underlying xType=some d) (hd : ∀k,d ≠ .int k) (hi:P.info? elem=some info)
  (hx:VA g w x cx) (mD:fU (fun i=>m.getD i .dead) info.size x=some (n,aH,true)) (hc:w.heap[c]? = some (.cells cs e q)) (hq:q.2≤q.1) (hroom:(len+n)*info.size≤cs.size) (hH:len+n≤cap) :
  ∃w' cs' vx,(((do pure (.value (←uv argTypes ty #[.slice (some ⟨c,0,none⟩) len cap,cx])):Sem Next)).run P w) = .ok (.value (.slice (some ⟨c,0,none⟩) (len+n) cap)) w' ∧
   dz g w aH vx∧vx.length=n*info.size∧(∀v∈vx,v.oneCell'=true)∧cs'.toList=dJ cs.toList (len*info.size) vx∧w'.heap[c]? = some (.cells cs' e q) ∧
   (∀k,k≠c→w'.heap[k]? = w.heap[k]?)∧w'.heap.size=w.heap.size∧w'.os=w.os∧w'.tape=w.tape∧w'.output=w.output:=by
 have hsz:iU P elem=some info.size:=by simp[iU,hi]
 obtain⟨vx,x1,x2,FH,x3,x4⟩:=gE (P:=P) h mD hx
 have x5:=x4 n (aw _)
 rw[dE (by omega)] at x5
 have hmul:(len+n)*info.size=len*info.size+n*info.size:=rb _ _ _
 obtain⟨w',cs',p1,p2,p3,p4,p5,p6,p7,p8⟩:=kL (P:=P) c (len*info.size) vx 0 w cs e q hc (fun j hj=> .inl hq) (by omega) FH
 simp only[rh] at p3
 refine⟨w',cs',vx,?_,x1,x2,FH,p3,p2,p4,p5,p6,p7,p8⟩
 have ZL:(⟨c,0,none⟩:Addr).add (len*info.size)=⟨c,len*info.size,none⟩:=by rw[dD,ri]
 simp only[uv,hs0,hx0,nb,ml,mr,kv,run_underlying hu,ky,bu hsz,run_underlying FD,kx,pD,if_false,x3,hH,if_true,qf,x5,ZL,p1]
theorem yU {c len cap sz:Nat} {cs:Array Value} {e:TypeId} {q:Nat×Nat} (hc:w.heap[c]? = some (.cells cs e q)) (hl:len*sz≤cs.size) :
  (lh sz len (.slice (some ⟨c,0,none⟩) len cap)).run P w = .ok (cs.toList.take (len*sz)).toArray w:=by
 have:=run_loadCells_list (P:=P) w ⟨c,0,none⟩ (cs.toList.take (len*sz)) (fun j v hj=>by
  rw[dD,ri,bG hc]
  rw[di] at hj
  split at hj
  · simpa using hj
  · cases hj)
 rw[eh,ie,re hl] at this
 simpa[lh] using this
theorem A5 (h:Rel g m w) {bM:Nat} (hn:m[bM]? = some .free) {argTypes:Array TypeId} {ty sType xType elem t:TypeId} {d:TypeDesc} {info:TypeInfo} {z:List AV} {x:AV} {cs cx:Value} {b len n:Nat} {pq:Bool} {l aH:List AV}
  (hs0:argTypes[0]? = some sType) (hx0:argTypes[1]? = some xType) (hu:P.underlying sType=some (.slice elem)) (FD:P.underlying xType=some d) (hd' : ∀k,d ≠ .int k) (hi:P.info? elem=some info) (hz:zeroCells P elem=some z)
  (hs:VA g w (.ms b 0 len info.size none) cs) (hx:VA g w x cx) (mD:fU (fun i=>m.getD i .dead) info.size x=some (n,aH,true)) (hbl:m[b]? = some (.ob (.gr t pq) l))
  (h2:1≤info.size) (h3:z.length=info.size) (h4:(len+n)*info.bytes≤eY) (h5:len+n≤eY) (h7:len*info.size≤l.length) (h8:t=elem) :
  cZ g m w (((do pure (.value (←uv argTypes ty #[cs,cx])):Sem Next)).run P w) (.ms bM 0 (len+n) info.size none) (apply m [(b,.dead),(bM,.ob (.gr t (pq&&mT (fun i=>m.getD i .dead) info.size x)) (l.take (len*info.size)++aH))]):=by
 subst h8
 cases hs with
 |mg _ _ _ _ cap c hc hcap hroom=>
 have hne:b≠bM:=fun e=>by subst e;rw[hbl] at hn;cases hn
 obtain⟨c',ob,vs,k1,k2,k3,k4,k5,k6⟩:=h.obs b _ _ hbl
 rw[hc] at k1;cases k1
 obtain⟨cells,e,q,rfl,qt,q0,q1,q2,q3⟩:=k4
 have nM:=k3.len
 have k6:cells.size=g.hi b:=k6
 have hmul:(len+n)*info.size=len*info.size+n*info.size:=rb _ _ _
 by_cases hH:len+n≤cap
 · have acM:(len+n)*info.size≤cap*info.size:=a8 _ hH
   obtain⟨w',cs',vx,r0,x1,x2,FH,p3,p2,p4,p5,p6,p7,p8⟩:=run_append_room (P:=P) (ty:=ty) h hs0 hx0 hu FD hd' hi hx mD k2 q0 (by omega) hH
   have GP:=x1.len
   have hsize:cs'.size=cells.size:=by
    have:=congrArg pt p3
    rw[lE] at this;simpa using this
   have LU:dz g w (l.take (len*info.size)++aH) (vs.take (len*info.size)++vx):=(k3.take _).append x1
   have htl:(vs.take (len*info.size)).length=len*info.size:=by rw[eh];omega
   obtain⟨r1,r2,r3⟩:=h.jV (JH:= .gr t (pq&&mT (fun i=>m.getD i .dead) info.size x)) (l':=l.take (len*info.size)++aH) (vs':=vs.take (len*info.size)++vx) hbl hc p4 p5 p6 p7 p8 p2
    ⟨cs',e,q,rfl,qt,q0,by
      rw[du,htl,p3,G1 vx cells.toList _ (by simp;omega),q1,pf,re (by omega)],by rw[du,htl,x2,hsize];omega,fun v hv=>by
      rw[p3] at hv
      exact oK _ _ _ q3 FH v hv⟩ LU (by show cs'.size=g.hi b;rw[hsize];exact k6)
   have hb':(m.set b (.ob (.gr t (pq&&mT (fun i=>m.getD i .dead) info.size x)) (l.take (len*info.size)++aH)))[b]? = some (.ob (.gr t (pq&&mT (fun i=>m.getD i .dead) info.size x)) (l.take (len*info.size)++aH)):=by rw[nc (bX hbl)]
   obtain⟨s1,s2,s3⟩:=r1.move hb' hc (by rw[oe hne];exact hn)
   rw[pj] at s1 s3
   exact⟨_,w',_,.inl r0,.mg bM 0 _ _ cap c (by simp[Gh.put]) hH (by simp[Gh.put];omega),s1,r2.trans s2,r3.trans s3⟩
 · have rC:=yU (P:=P) (w:=w.drew) (c:=c) (len:=len) (cap:=cap) (sz:=info.size) k2 (by omega)
   have hvt:vs.take (len*info.size)=cells.toList.take (len*info.size):=by rw[q1,pf,re (by omega)]
   obtain⟨newCap,g',w',r0,r1,r2,r3,r4⟩:=FI (P:=P) (pq&&mT (fun i=>m.getD i .dead) info.size x) (ty:=ty) (l:=l.take (len*info.size)) (vs:=cells.toList.take (len*info.size)) h hn hs0 hx0 hu FD hd' hi hz hx mD h2 h3 h4 h5 (by rw[←hvt];exact k3.take _)
    (fun v hv=>q3 v (dk hv)) (by rw[eh,ie];omega) rC hH
   obtain⟨t1,t2⟩:=r1.kill b
   have e1:((m.set bM (.ob (.gr t (pq&&mT (fun i=>m.getD i .dead) info.size x)) (l.take (len*info.size)++aH))).set b .dead)=apply m [(b,.dead),(bM,.ob (.gr t (pq&&mT (fun i=>m.getD i .dead) info.size x)) (l.take (len*info.size)++aH))]:=by
    simp only[apply]
    exact List.set_comm _ _ (fun e=>hne e.symm)
   rw[e1] at t1 t2
   exact⟨_,w',g',.inl r0,r4,t1,r2,r3.trans t2⟩
theorem A6 (h:Rel g m w) {bM:Nat} (hn:m[bM]? = some .free) {argTypes:Array TypeId} {ty:TypeId} {s x a:AV} {cs cx:Value} {us:qR}
  (hs:VA g w s cs) (hx:VA g w x cx) (he:gW P (fun i=>m.getD i .dead) bM argTypes s x=some (a,us,true)) :
  cZ g m w (((do pure (.value (←uv argTypes ty #[cs,cx])):Sem Next)).run P w) a (apply m us):=by
 unfold gW at he
 split at he
 · rename_i sType xType hs0 hx0
   split at he
   · cases he
   · rename_i elem d hd hu FD
     have hd' : ∀k,d ≠ .int k:=fun k e=>hd k e
     split at he
     · rename_i info z hi hz
       split at he
       · rename_i n aH ok mD
         dsimp only at he
         split at he
         ·
          rename_i b len sz
          split at he
          · rename_i t pq l hb
            simp only[kb,kp,jn] at he
            obtain⟨rfl,rfl,⟨rfl,h2,h3,h4,h5⟩,h6,h7,h8⟩:=he
            have h6:=ag h6
            subst h6
            exact A5 h hn hs0 hx0 hu FD hd' hi hz hs hx mD (getD_some hb (by simp)) (ae h2) (ag h3) (ae h4) (ae h5) (ae h7) (ag h8)
          · cases he
         ·
          rename_i len sz cells
          split at he
          · rename_i hn0
            simp only[kb,kp,jn] at he
            obtain⟨rfl,rfl,rfl,_⟩:=he
            have hn0:=ag hn0
            subst hn0
            have hvs:=hs
            cases hs with
            |os _ _ _ _ ad cap hps GM=>
            have hcap:cap=len:=by
             rcases GM with e | ⟨t,b,o,e,_⟩
             · exact e
             · cases e
            subst hcap
            have hsz:iU P elem=some info.size:=by simp[iU,hi]
            obtain⟨vx,_,_,_,x3,x4⟩:=gE (P:=P) h mD hx
            have x5:=x4 0 (aw _)
            simp only[Nat.zero_mul,List.take_zero] at x5
            refine cZ.quiet h (v:= .slice ad cap cap) ?_ hvs
            cases ad with
            |none=>simp[uv,hs0,hx0,run_underlying hu,bu hsz,run_underlying FD,x3,x5,ra]
            |some ad=>simp[uv,hs0,hx0,run_underlying hu,bu hsz,run_underlying FD,x3,x5,storeCells,ra]
          rename_i hn0
          split at he
          · cases he
          · rename_i hu8
            simp only[kb,kp,jn] at he
            obtain⟨rfl,rfl,⟨rfl,h2,h3,h4,h5⟩,h6⟩:=he
            have h1:1≤n:=by
             rcases Nat.eq_zero_or_pos n with e | e
             · subst e;cases hn0
             · exact e
            have h2:=ae h2
            have h3:=ag h3
            have h4:=ae h4
            have h5:=ae h5
            cases hs with
            |os _ _ _ _ ad cap hps GM=>
            have hcap:cap=len:=by
             rcases GM with e | ⟨t,b,o,e,_⟩
             · exact e
             · cases e
            subst hcap
            have M5:=pS hps h6
            obtain⟨d1,d2,d3⟩:=h.oI (w':=w.drew) rfl rfl rfl rfl
            obtain⟨vs,s1,s2,ZM,s3,s4⟩:=sW (P:=P) (M5.mono d2.pure)
            have s5:=s4 cap (aw _)
            rw[dE (by omega)] at s5
            have Wl:=s1.len
            have LU:dz g w (cells.map .p) vs:=bN.dY (by simpa using Wl) fun i a b=>by
             have:=s1.get i (by simpa using a) b
             rw[dv]
             exact .p _ _ (this.mono (g:=g) (w:=w.drew) fun c o p=>⟨p,(d2.pure c o p).2.symm⟩)
            obtain⟨newCap,g',w',r0,r1,r2,r3,r4⟩:=FI (P:=P) (mT (fun i=>m.getD i .dead) info.size x) (ty:=ty) (l:=cells.map .p) (vs:=vs) (cap:=cap) h hn hs0 hx0 hu FD hd' hi hz hx mD h2 h3 h4 h5 LU ZM s2 s5 (by omega)
            exact⟨_,w',g',.inl r0,r4,r1,r2,r3⟩
         ·
          rename_i b len sz cap
          split at he
          · rename_i l hl
            cases hs with
            |ms _ _ _ _ cap c hc hcap=>
            obtain⟨cells,e,q,k2,q0,k3,q2,q3⟩:=G2 h hl hc
            have hmul:(len+n)*info.size=len*info.size+n*info.size:=rb _ _ _
            cases hr:ar (len+n) cap with
            |true=>
             have hH:=ae hr
             simp only[hr,cond_true] at he
             split at he
             · rename_i b' ok' hp
               simp only[kb,kp,jn] at he
               obtain⟨rfl,rfl,⟨rfl,h2,h3,h4,h5⟩,rfl,h6⟩:=he
               have h6:=ag h6
               subst h6
               obtain⟨vx0,x0,x2',_⟩:=gE (P:=P) h mD hx
               have aih:=x0.len
               have hroom:len*info.size+aH.length≤l.length:=by
                rcases m6 hp with⟨l',uB,_,hroom⟩ | ⟨t0,pq,l',uB,_,hroom⟩ | ⟨t0,pre,l',uB,_,_,hroom⟩
                rotate_left 2
                · have uB:m.getD b .dead = .ob (.stk t0 pre) l':=uB
                  rw[uB] at hl;cases hl
                · have:l'=l:=by
                   generalize m.getD b .dead=B at hl uB
                   cases B<;>simp_all [mN,bf.cells?]
                  rw[←this];exact hroom
                · have uB:m.getD b .dead = .ob (.gr t0 pq) l':=uB
                  have:l'=l:=by
                   have hl:mN (m.getD b .dead)=some l:=hl
                   rw[uB] at hl;simpa[mN] using hl
                  rw[←this];rw[AT] at hroom;exact hroom
               have ZP:(len+n)*info.size≤cells.size:=by omega
               obtain⟨w',cs',vx,r0,x1,x2,FH,p3,p2,p4,p5,p6,p7,p8⟩:=run_append_room (P:=P) (ty:=ty) h hs0 hx0 hu FD hd' hi hx mD k2 q0 ZP hH
               have GP:=x1.len
               have hxa:dz g w aH vx:=x1
               rcases m6 hp with⟨l',uB,PA,JK⟩ | ⟨t0,pq,l',uB,rfl,JK⟩ | ⟨t0,pre,l',uB,rfl,_,JK⟩
               rotate_left 2
               · have uB:m.getD b .dead = .ob (.stk t0 pre) l':=uB
                 rw[uB] at hl;cases hl
               · have hm:m[b]? = some (m.getD b .dead):=getD_some rfl (fun e=>by
                  have uB:(m.getD b .dead).cells?=some l':=uB
                  rw[e] at uB;cases uB)
                 obtain⟨c',cs0,e0,q0',y1,y2,y3,y4,y5⟩:=h.cells b _ l' hm uB
                 rw[hc] at y1;cases y1
                 rw[k2] at y2;cases y2
                 obtain⟨r1,r2,r3⟩:=h.write (b':=b') hm uB hc PA p4 p5 p6 p7 p8 p2 y3 (by rw[p3];exact⟨y4.1.dJ _ hxa,oK _ _ _ y4.2 FH⟩)
                 exact⟨_,w',g,.inl r0,.ms b 0 _ _ cap c hc hH,r1,r2,r3⟩
               · have hm:m[b]? = some (.ob (.gr t0 pq) l'):=getD_some uB (by simp)
                 obtain⟨r1,r2,r3⟩:=h.AU hm hc k2 (AS hxa) FH JK p3 p4 p5 p6 p7 p8 p2
                 exact⟨_,w',g,.inl r0,.ms b 0 _ _ cap c hc hH,r1,r2,r3⟩
             · cases he
            |false=>
             have hH : ¬len+n≤cap:=fun k=>by rw[rk k] at hr;cases hr
             simp only[hr,cond_false,kb,kp,jn] at he
             obtain⟨rfl,rfl,⟨rfl,h2,h3,h4,h5⟩,h6,h7⟩:=he
             have h2:=ae h2
             have h3:=ag h3
             have h4:=ae h4
             have h5:=ae h5
             have h6:=ag h6
             have h7:=ae h7
             subst h6
             have rC:=yU (P:=P) (w:=w.drew) (c:=c) (len:=len) (cap:=cap) (sz:=info.size) k2 (by omega)
             obtain⟨newCap,g',w',r0,r1,r2,r3,r4⟩:=FI (P:=P) (acG (m.getD b .dead)&&mT (fun i=>m.getD i .dead) info.size x) (ty:=ty) (l:=l.take (len*info.size)) (vs:=cells.toList.take (len*info.size)) h hn hs0 hx0 hu FD hd' hi hz hx mD h2 h3 h4 h5
              (by have:=k3.take (len*info.size);rwa [pf,re h7] at this)
              (fun v hv=>q3 v (dk hv)) (by rw[eh,ie];omega) rC hH
             exact⟨_,w',g',.inl r0,r4,r1,r2,r3⟩
          · cases he
         · cases he
       · cases he
     · cases he
   · cases he
 · cases he
theorem yV {s:AV} {cs:Value} (h:VA g w s cs):VA g w (qU s) cs:=by
 unfold qU
 split
 · rw[VA.pv] at h
   cases h with
   |ps _ _ _ b o cap f hl hc hz hp hv=>omega
   |xD sz a cap hz=>
    obtain⟨rfl,rfl⟩:=hz.resolve_left (by omega)
    exact .os none 0 0 [] none 0 (.xD 0 none 0 (.inr ⟨rfl,rfl⟩)) (.inl rfl)
 · exact h
end
section
variable {P:Program} {g:Gh} {m:Mem} {w:World}
theorem G3 {x:AV} {cx:Value} {b:Bool} (hx:VA g w x cx) (h:LJ x=some b) : ∃a len cap,cx = .slice a len cap∧a.isNone=b:=by
 have key : ∀{len sz:Nat} {cs:List PV} {cx:Value},VP g w (.ps len sz cs) cx→cond (ar 1 len) (some false) (cond (ai sz 0) (some true) none)=some b → ∃a len cap,cx = .slice a len cap∧a.isNone=b:=by
  intro len sz cs cx hx h
  cases hl:ar 1 len with
  |true=>
   simp only[hl,cond_true,kb] at h
   subst h
   have hl:=ae hl
   cases hx with
   |ps _ _ _ b o cap f hl hc hz hp hv=>exact⟨_,_,_,rfl,rfl⟩
   |xD sz a cap hz=>omega
  |false=>
   simp only[hl,cond_false] at h
   cases hs:ai sz 0 with
   |false=>simp[hs] at h
   |true=>
    simp only[hs,cond_true,kb] at h
    subst h
    have hs:=ag hs
    subst hs
    cases hx with
    |ps _ _ _ b o cap f hl hc hz hp hv=>omega
    |xD sz a cap hz=>
     obtain⟨rfl,_⟩:=hz.resolve_left (by omega)
     exact⟨_,_,_,rfl,rfl⟩
 unfold LJ at h
 split at h
 · rw[VA.pv] at hx;exact key hx h
 · cases hx with
   |os _ _ _ _ a cap hx hr=>exact key hx h
 · cases hx with
   |ms _ _ _ _ cap c hc hcap=>
    simp only[kb] at h
    exact⟨_,_,_,rfl,h⟩
   |mg _ _ _ _ cap c hc hcap=>
    simp only[kb] at h
    exact⟨_,_,_,rfl,h⟩
 · cases h
set_option linter.unusedVariables false in
theorem zO {ρ:Operand→AV} {dm:Operand→Value} (hr : ∀x,VA g w (ρ x) (dm x)) {o:Oper} {op:BinOp} {t yt:TypeId} {x y:Operand} (ho:o.op = .binOp op t x y yt) (hsame:Fk (ρ x) (ρ y)=true)
  {a:AV} {us:qR} {ok:Bool} (he:sQ P op t=some (a,us,ok)):us=[] ∧ ∃v,(execOp dm o).run P w = .ok (.value v) w∧VA g w a v:=by
 unfold sQ at he
 cases he
set_option linter.unusedVariables false in
theorem vH {x a:AV} {cx:Value} (hx:VA g w x cx) {us:qR} {ts:Array TypeId} {ty:TypeId} (he:qX x=some (a,us,true)) :
  us=[] ∧ ∃v,(Builtin.unsafeSliceData_ ts ty #[cx]).run P w = .ok v w∧VA g w a v:=by
 unfold qX at he
 cases he
set_option linter.unusedVariables false in
theorem rD (h:Rel g m w) {x n a:AV} {cx cn:Value} (hx:VA g w x cx) (hn:VA g w n cn) {us:qR} {ts:Array TypeId} {ty:TypeId} (he:fW P (fun i=>m.getD i .dead) ts.toList x n=some (a,us,true)) :
  cZ g m w (((do pure (.value (←Builtin.unsafeString_ ts ty #[cx,cn])):Sem Next)).run P w) a (apply m us):=by
 unfold fW at he
 cases he
end
section ops
variable {P:Program} {g:Gh} {m:Mem} {w:World}
theorem rE {ρ:Operand→AV} {dm:Operand→Value} (hr : ∀x,VA g w (ρ x) (dm x)) : ∀(l:List (Nat×Operand)),
  bN (fun a b=>a.1=b.1∧VA g w a.2 b.2) (l.map fun q=>(q.1,ρ q.2)) (l.map fun(i,x)=>(i,dm x))
 |[]=>trivial
 |(_,x)::l=>⟨⟨rfl,hr x⟩,rE hr l⟩
theorem jy {ρ:Operand→AV} {dm:Operand→Value} (hr : ∀x,VA g w (ρ x) (dm x)) : ∀(l:List Operand),dz g w (l.map ρ) (l.map dm)
 |[]=>trivial
 |x::l=>⟨hr x,jy hr l⟩
theorem cZ.of {h:Rel g m w} {s:Sem Value} {r:Result Next} {a:AV} (hr:r=(s.run P w).andThen fun v w'=> .ok (.value v) w') (hs : ∃v,s.run P w = .ok v w∧VA g w a v):cZ g m w r a m:=by
 obtain⟨v,h1,h2⟩:=hs
 exact cZ.quiet h (by rw[hr,h1];rfl) h2
theorem iX {r:Option AV} {a:AV} {us:qR} {ok:Bool} (h:mw r=some (a,us,ok)):r=some a∧us=[]:=by
 simp only[mw,kd,kp] at h
 obtain⟨v,h1,rfl,rfl,_⟩:=h
 exact⟨h1,rfl⟩
theorem lF {r:Option (AV×Bool)} {a:AV} {us:qR} {ok:Bool} (h:jS r=some (a,us,ok)):r=some (a,ok)∧us=[]:=by
 simp only[jS,kd,kp] at h
 obtain⟨⟨v,b⟩,h1,rfl,rfl,rfl⟩:=h
 exact⟨h1,rfl⟩
theorem CG (h:Rel g m w) {dm:Operand→Value} {o:Oper} {bM:Nat} (hn:m[bM]? = some .free) {t:TypeId} {x:Operand} {ax a:AV} {us:qR} (hx:VA g w ax (dm x)) (ho:o.op = .range t x)
  (he:Fm P bM t ax=some (a,us,true)):cZ g m w ((execOp dm o).run P w) a (apply m us):=by
 unfold Fm at he
 split at he
 · rename_i s hd
   simp only[kb,kp,and_true] at he
   obtain⟨rfl,rfl⟩:=he
   rw[VA.pv] at hx
   generalize hz:dm x=z at hx
   cases hx
   obtain⟨h1,h2,h3⟩:=h.Af (ob:= .iter s 0) (l:=[]) (vs:=[]) hn trivial (fN w (.stringIter s 0)) ⟨rfl,rfl⟩
   refine⟨.pointer (some ⟨w.heap.size,0,none⟩),_,_,.inl ?_,.mp bM 0 _ (by simp[Gh.put]),h1,h2,h3⟩
   simp[execOp,ho,hz,Instr.range,kv,run_underlying hd,ra]
 · cases he
theorem FJ (h:Rel g m w) {dm:Operand→Value} {o:Oper} {x:Operand} {s:Bool} {ax a:AV} {us:qR} (hx:VA g w ax (dm x)) (ho:o.op = .next x s)
  (he:JD (fun i=>m.getD i .dead) ax s=some (a,us,true)):cZ g m w ((execOp dm o).run P w) a (apply m us):=by
 cases s with
 |false=>cases he
 |true=>
  simp only[JD] at he
  split at he
  · rename_i b
    split at he
    · rename_i str pos l hb
      have hib:=getD_some hb (by simp)
      obtain⟨c,ob,vs,k1,k2,k3,k4,_⟩:=h.obs b _ _ hib
      obtain⟨rfl,rfl⟩:=k4
      generalize hz:dm x=z at hx
      cases hx with
      |mp _ _ c' hc=>
       rw[k1] at hc;cases hc
       have mE:(getObj c).run P w = .ok (.stringIter str pos) w:=by simp[getObj,pC,k2]
       split at he
       · rename_i hlt
         rw[db] at hlt
         generalize ZQ:Utf8.decode str pos=q at he
         obtain⟨cc,width⟩:=q
         simp only[kb,kp,and_true] at he
         obtain⟨rfl,rfl⟩:=he
         obtain⟨e1,e2,e3⟩:=dF w (o':= .stringIter str (pos+width)) k2
         obtain⟨r1,r2,r3⟩:=h.jV (JH:= .iter str (pos+width)) (l':=[]) (vs':=[]) hib k1 e1 e2 rfl rfl rfl e3 ⟨rfl,rfl⟩ trivial
         have Cz:(setObj c (.stringIter str (pos+width))).run P w = .ok () {w with heap:=w.heap.setIfInBounds c (.stringIter str (pos+width))}:=by simp[setObj,pC,k2]
         refine⟨.tuple #[.bool true,goInt pos,.int .i32 cc],_,g,.inl ?_,VA.pP.2 ⟨.p _ _ (.sc _),.p _ _ (.sc _),.p _ _ (.sc _),trivial⟩,r1,r2,r3⟩
         simp only[execOp,ho,hz,sR,kv,mE,ky,hlt,if_true,ZQ,Cz,kx]
       · rename_i hlt
         have hlt' : ¬pos<str.size:=fun q=>by rw[←db] at q;rw[q] at hlt;cases hlt
         simp only[kb,kp,and_true] at he
         obtain⟨rfl,rfl⟩:=he
         refine cZ.quiet h (v:= .tuple #[.bool false]) ?_ (VA.pP.2 ⟨.p _ _ (.sc _),trivial⟩)
         simp only[execOp,ho,hz,sR,kv,mE,ky,hlt',if_false,kx]
    · rename_i str pos more l hb
      have hib:=getD_some hb (by simp)
      obtain⟨c,ob,vs,k1,k2,k3,k4,_⟩:=h.obs b _ _ hib
      obtain⟨rfl,rfl,k5⟩:=k4
      generalize hz:dm x=z at hx
      cases hx with
      |mp _ _ c' hc=>
       rw[k1] at hc;cases hc
       have mE:(getObj c).run P w = .ok (.stringIter str pos) w:=by simp[getObj,pC,k2]
       split at he
       · have hlt:pos<str.size:=by rw[db] at k5;exact k5
         generalize ZQ:Utf8.decode str pos=q at he
         obtain⟨cc,width⟩:=q
         simp only[kb,kp,and_true] at he
         obtain⟨rfl,rfl⟩:=he
         obtain⟨e1,e2,e3⟩:=dF w (o':= .stringIter str (pos+width)) k2
         obtain⟨r1,r2,r3⟩:=h.jV (JH:= .iter str (pos+width)) (l':=[]) (vs':=[]) hib k1 e1 e2 rfl rfl rfl e3 ⟨rfl,rfl⟩ trivial
         have Cz:(setObj c (.stringIter str (pos+width))).run P w = .ok () {w with heap:=w.heap.setIfInBounds c (.stringIter str (pos+width))}:=by simp[setObj,pC,k2]
         refine⟨.tuple #[.bool true,goInt pos,.int .i32 cc],_,g,.inl ?_,VA.pP.2 ⟨.p _ _ (.sc _),.p _ _ (.sc _),.p _ _ (.sc _),trivial⟩,r1,r2,r3⟩
         simp only[execOp,ho,hz,sR,kv,mE,ky,hlt,if_true,ZQ,Cz,kx]
       · have hlt' : ¬pos<str.size:=fun q=>by rw[←db,k5] at q;cases q
         simp only[kb,kp,and_true] at he
         obtain⟨rfl,rfl⟩:=he
         refine cZ.quiet h (v:= .tuple #[.bool false]) ?_ (VA.pP.2 ⟨.p _ _ (.sc _),trivial⟩)
         simp only[execOp,ho,hz,sR,kv,mE,ky,hlt',if_false,kx]
    · cases he
  · cases he
theorem CH {ρ:Operand→AV} {dm:Operand→Value} (hr : ∀x,VA g w (ρ x) (dm x)) {o:Oper} {op:BinOp} {t yt:TypeId} {x y:Operand} {l c:Nat} (hy:dm y = .slice none l c) (ho:o.op = .binOp op t x y yt) {a:AV} {us:qR} {ok:Bool} (he:z8 P op t (ρ x)=some (a,us,ok)) :
  us=[] ∧ ∃v,(execOp dm o).run P w = .ok (.value v) w∧VA g w a v:=by
 unfold z8 at he
 split at he
 · rename_i e hd
   have key : ∀{b:Bool},LJ (ρ x)=some b→(∀op':BinOp,(eqGuard op' t x y (dm x) (dm y)).run P w = .ok () w)∧(Op.equal t (dm x) (dm y)).run P w = .ok b w ∧ ∀op',op' = .eql∨op' = .neq→binOp op' t (dm x) (dm y)=(do let r ←Op.equal t (dm x) (dm y);pure (.bool (if op' = .eql then r else !r)):Sem Value):=by
    intro b hb
    obtain⟨ad,len,cap,hx,hn⟩:=G3 (hr x) hb
    rw[hx,hy]
    refine⟨fun op'=>by unfold eqGuard;cases op'<;>rfl,?_,fun op' hop=>by rcases hop with rfl | rfl<;>rfl⟩
    show(Op.equalIn (9999+1) t _ _).run P w = .ok b w
    rw[Op.equalIn];simp only[kv,run_underlying hd,ky]
    subst hn
    cases ad<;>rfl
   split at he
   · rename_i b hb
     obtain⟨k1,k2,k3⟩:=key hb
     simp only[kb,kp] at he
     obtain⟨rfl,rfl,_⟩:=he
     refine⟨rfl,.bool b,?_,.p _ _ (.sc _)⟩
     simp only[execOp,ho,kv,k1,ky,k3 _ (.inl rfl),k2,kx]
     rfl
   · rename_i b hb
     obtain⟨k1,k2,k3⟩:=key hb
     simp only[kb,kp] at he
     obtain⟨rfl,rfl,_⟩:=he
     refine⟨rfl,.bool (!b),?_,.p _ _ (.sc _)⟩
     simp only[execOp,ho,kv,k1,ky,k3 _ (.inr rfl),k2,kx]
     rfl
   · cases he
 · cases he
theorem ZR (x y:Int):(if y<x then y else x)=min x y:=by
 rcases Int.lt_or_le y x with h | h
 · rw[if_pos h];omega
 · rw[if_neg (by omega)];omega
theorem ZS (x y:Int):(if y>x then y else x)=max x y:=by
 rcases Int.lt_or_le x y with h | h
 · rw[if_pos h];omega
 · rw[if_neg (by omega)];omega
theorem Dn {ρ:Operand→AV} {dm:Operand→Value} (hr : ∀x,VA g w (ρ x) (dm x)) {mn:Bool} {l:List Operand} {v:AV} (h:MV mn (l.map ρ)=some v) :
  ∃cx cy k k' x y,l=[cx,cy]∧dm cx = .int k x∧dm cy = .int k' y∧v = .p (.sc (.int k (cond mn (min x y) (max x y)))):=by
 match l,h with
 |[cx,cy],h=>
  have h1:=hr cx
  have h2:=hr cy
  simp only[mi,my] at h
  generalize ρ cx=ax at h h1
  generalize ρ cy=ay at h h2
  unfold MV at h
  split at h
  · rename_i k a k' b heq
    simp only[List.cons.injEq,and_true] at heq
    obtain⟨rfl,rfl⟩:=heq
    simp only[kb] at h
    rw[VA.pv] at h1 h2
    generalize jG:dm cx=c1 at h1
    generalize kB:dm cy=c2 at h2
    cases h1;cases h2
    exact⟨cx,cy,k,k',a,b,rfl,jG,kB,h.symm⟩
  · cases h
 |[],h=>simp[MV] at h
 |[_],h=>simp[MV] at h
 |_::_::_::_,h=>simp[MV] at h
theorem sX (h:Rel g m w) {ρ:Operand→AV} {dm:Operand→Value} (hr : ∀x,VA g w (ρ x) (dm x)) (hrc : ∀v,dm (.const v)=v) {o:Oper} {bM:Nat} (hn:makes o=true→m[bM]? = some .free) {wr:Bool} {a:AV} {us:qR}
  (he:yJ P (fun i=>m.getD i .dead) wr bM ρ o=some (a,us,true)):cZ g m w ((execOp dm o).run P w) a (apply m us):=by
 have he' : ∀y,Fl y=true → ∃l c,dm y = .slice none l c:=by
  intro y hy
  unfold Fl at hy
  split at hy
  · exact⟨_,_,hrc _⟩
  · cases hy
 have hmk : ∀{b:Bool},makes o=b→b=true→m[bM]? = some .free:=fun e e'=>hn (e.trans e')
 unfold yJ at he
 split at he
 · rename_i x ho
   simp only[kb,kp,and_true] at he
   obtain⟨rfl,rfl⟩:=he
   exact cZ.quiet h (v:=dm x) (by simp[execOp,ho]) (hr x)
 · rename_i x ho
   simp only[kb,kp,and_true] at he
   obtain⟨rfl,rfl⟩:=he
   exact cZ.quiet h (v:=dm x) (by simp[execOp,ho]) (hr x)
 · rename_i c x y ho
   split at he
   · rename_i t hc
     simp only[kb,kp,and_true] at he
     obtain⟨rfl,rfl⟩:=he
     have hb:dm c = .bool t:=by have:=hr c;rw[hc,VA.pv] at this;generalize dm c=z at this;cases this;rfl
     cases t
     · exact cZ.quiet h (v:=dm y) (by simp[execOp,ho,hb,asBool]) (hr y)
     · exact cZ.quiet h (v:=dm x) (by simp[execOp,ho,hb,asBool]) (hr x)
   · cases he
 · rename_i t ho
   split at he
   · exact AW h (hmk (by simp only[makes,ho]) rfl) he ho
   · exact CC h (hmk (by simp only[makes,ho]) rfl) he (ty:=0) (pos:= "") ho rfl rfl
 · rename_i t x ho
   exact GV h (hmk (by simp only[makes,ho]) rfl) (hr x) he (t:=t) (by simp[execOp,ho,Instr.box,newVar,newRow])
 · rename_i t parts ho
   obtain⟨h1,rfl⟩:=lF he
   refine cZ.of (h:=h) (s:=Instr.build t (parts.map fun(i,x)=>(i,dm x))) (P:=P) (by simp only[execOp,ho,kv,kx]) (CA h1 ?_)
   rw[ja];exact rE hr parts.toList
 · rename_i t len parts ho
   have:=uC (m5:=parts.map fun(i,x)=>(i,dm x)) h (hmk (by simp only[makes,ho]) rfl) he (by rw[ja];exact rE hr parts.toList)
   simpa only[execOp,ho] using this
 · rename_i t x ho
   obtain⟨h1,rfl⟩:=lF he
   obtain⟨c,o',cv,k1,k2,k3⟩:=vv h (hr x) h1
   exact cZ.quiet h (v:=cv) (by simp[execOp,ho,Instr.loadAt,k1,fx,k2]) k3
 · rename_i t x v ho
   obtain⟨w',k1,rfl,k2,k3,k4⟩:=CB h (hr x) (hr v) he
   exact⟨undef,w',g,.inr ⟨by simp[execOp,ho,k1],rfl⟩,VA.pP.2 trivial,k2,k3,k4⟩
 · rename_i x ho
   obtain⟨h1,rfl⟩:=iX he
   obtain⟨v,k1,k2⟩:=xF hr ho h1
   exact cZ.quiet h k1 k2
 · rename_i op t x y yt ho
   split at he
   · rename_i hy
     obtain⟨l,c,hyc⟩:=he' y hy
     obtain⟨rfl,v,k1,k2⟩:=CH hr hyc ho he
     exact cZ.quiet h k1 k2
   · split at he
     · obtain⟨rfl,v,k1,k2⟩:=G0 hr ho he
       exact cZ.quiet h k1 k2
     · split at he
       · rename_i hsame
         obtain⟨rfl,v,k1,k2⟩:=zO hr ho hsame he
         exact cZ.quiet h k1 k2
       · obtain⟨h1,rfl⟩:=lF he
         obtain⟨v,k1,k2⟩:=Cy hr ho h1
         exact cZ.quiet h k1 k2
 · rename_i t x ho
   exact CG h (hmk (by simp only[makes,ho]) rfl) (hr x) ho he
 · rename_i x s ho
   exact FJ h (hr x) ho he
 · rename_i t ho
   have fin : ∀ob:eG,ob.is (.map #[] 0) []→ob.room (.map #[] 0) 0→some (AV.vm bM,[(bM,bf.ob ob [])],true)=some (a,us,true)→cZ g m w ((execOp dm o).run P w) a (apply m us):=by
    intro ob hob hroom he
    simp only[kb,kp,and_true] at he
    obtain⟨rfl,rfl⟩:=he
    obtain⟨h1,h2,h3⟩:=h.Af (ob:=ob) (l:=[]) (vs:=[]) (hmk (by simp only[makes,ho]) rfl) trivial (fN w (.map #[] 0)) hob hroom
    exact⟨.map (some w.heap.size),_,_,.inl (by simp[execOp,ho,run_makeMap_plain,ra]),.vm bM _ (by simp[Gh.put]),h1,h2,h3⟩
   split at he
   · unfold Ay at he
     split at he
     · exact fin (.smap []) ⟨rfl,[],0,rfl,rfl⟩ trivial he
     · cases he
   unfold C8 at he
   split at he
   · split at he
     · exact fin (.MR []) ⟨_,_,[],rfl,rfl,rfl,.refl _⟩ trivial he
     · exact fin (.map [] [] 0) rfl trivial he
   · exact fin (.map [] [] 0) rfl trivial he
 · rename_i t x i ok ho
   obtain⟨h1,rfl⟩:=iX he
   exact cZ.of (h:=h) (s:=sa t (dm x) (dm i) ok) (P:=P) (by simp only[execOp,ho,kv,kx]) (FG h (hr x) (hr i) h1)
 · rename_i t x k v ho
   obtain⟨w',k1,rfl,k2,k3,k4⟩:=yT h (hr x) (hr k) (hr v) he
   exact⟨undef,w',g,.inr ⟨by simp[execOp,ho,k1],rfl⟩,VA.pP.2 trivial,k2,k3,k4⟩
 · rename_i t x k v ho
   obtain⟨w',k1,rfl,k2,k3,k4⟩:=yT h (hr x) (hr k) (hr v) he
   exact⟨undef,w',g,.inr ⟨by simp[execOp,ho,k1],rfl⟩,VA.pP.2 trivial,k2,k3,k4⟩
 · rename_i op t x ho
   obtain⟨h1,rfl⟩:=lF he
   obtain⟨v,k1,k2⟩:=FB hr ho h1
   exact cZ.quiet h k1 k2
 · rename_i src dst x ho
   exact zN h (hmk (by simp only[makes,ho]) rfl) hr ho he
 · rename_i t x ho
   obtain⟨h1,rfl⟩:=iX he
   exact cZ.of (h:=h) (s:=Instr.makeInterface t (dm x)) (P:=P) (by simp only[execOp,ho,kv,kx]) (vC h1 (hr x))
 · rename_i f first captured ho
   simp only[kb,kp,and_true] at he
   obtain⟨rfl,rfl⟩:=he
   refine cZ.quiet h (v:= .func f (first.map dm) (captured.map dm)) (by simp[execOp,ho,Instr.makeFunc]) (VA.fns.2 ⟨_,_,rfl,?_,?_⟩)
   · rw[ja];exact jy hr _
   · rw[ja];exact jy hr _
 · rename_i t l c ho
   split at he
   · have:=xH h (hr l) (hr c) he
     simpa only[execOp,ho] using this
   · have:=vD h (hmk (by simp only[makes,ho]) rfl) (hr l) (hr c) he
     simpa only[execOp,ho] using this
 · rename_i t x lo hi mx ho
   obtain⟨h1,rfl⟩:=lF he
   exact cZ.of (h:=h) (s:=Instr.sliceAt t (dm x) (lo.map dm) (hi.map dm) (mx.map dm)) (P:=P) (by simp only[execOp,ho,kv,kx]) (Cx hr h1 (hr x))
 · rename_i t x f ho
   obtain⟨h1,rfl⟩:=iX he
   exact cZ.of (h:=h) (s:=Instr.fieldAt t (dm x) f) (P:=P) (by simp only[execOp,ho,kv,kx]) (vw h1 (hr x))
 · rename_i t x f ho
   obtain⟨h1,rfl⟩:=lF he
   exact cZ.of (h:=h) (s:=Instr.field t (dm x) f) (P:=P) (by simp only[execOp,ho,kv,kx]) (Cv h1 (hr x))
 · rename_i t x i ho
   obtain⟨h1,rfl⟩:=lF he
   exact cZ.of (h:=h) (s:=Instr.indexAt t (dm x) (dm i)) (P:=P) (by simp only[execOp,ho,kv,kx]) (vA h1 (hr x) (hr i))
 · rename_i t x i ho
   obtain⟨h1,rfl⟩:=lF he
   exact cZ.of (h:=h) (s:=Instr.index t (dm x) (dm i)) (P:=P) (by simp only[execOp,ho,kv,kx]) (Cw h1 (hr x) (hr i))
 · rename_i x i ho
   split at he
   · rename_i vs hx
     obtain⟨h1,rfl⟩:=iX he
     have hv:=hr x
     rw[hx] at hv
     generalize hz:dm x=z at hv
     cases hv with
     |aD _ cs hl hh=>
      obtain⟨b,hb,hv⟩:=bN.get? (bN.dY hl hh) h1
      exact cZ.quiet h (v:=b) (by simp only[execOp,ho,hz,Instr.extract];simp at hb;simp[hb]) hv
   · cases he
 · rename_i x xt t ok ho
   obtain⟨h1,rfl⟩:=iX he
   obtain⟨cv,k1,k2⟩:=AZ (xt:=xt) h1 (hr x)
   exact cZ.quiet h (v:=cv) (by simp only[execOp,ho,kv,k1,ky,kx]) k2
 · rename_i c ho
   split at he
   · rename_i s x hc ha
     have nO:c.args = #[s,x]:=by have:=congrArg np ha;simpa using this
     have acS:makes o=true:=by simp only[makes,ho,hc]
     split at he
     · have:=A6 (ty:=o.type) h (hn acS) (yV (hr s)) (hr x) he
       simpa only[execOp,ho,resolve,hc,nO,kv,kx,ky,invoke,builtin,mv,mi,my] using this
     · have:=AX (ty:=o.type) h (hn acS) (yV (hr s)) (hr x) he
       simpa only[execOp,ho,resolve,hc,nO,kv,kx,ky,invoke,builtin,mv,mi,my] using this
   · rename_i d s hc ha
     have nO:c.args = #[d,s]:=by have:=congrArg np ha;simpa using this
     have:=FF (ty:=o.type) h (hr d) (hr s) he
     simpa only[execOp,ho,resolve,hc,nO,kv,kx,ky,invoke,builtin,mv,mi,my] using this
   · rename_i x hc ha
     have nO:c.args = #[x]:=by have:=congrArg np ha;simpa using this
     obtain⟨h1,rfl⟩:=iX he
     refine cZ.of (h:=h) (s:=Builtin.len_ c.argTypes o.type #[dm x]) (P:=P) ?_ (GN h1 (hr x))
     simp only[execOp,ho,resolve,hc,nO,kv,kx,ky,invoke,builtin,mv,mi,my]
   · rename_i x hc ha
     have nO:c.args = #[x]:=by have:=congrArg np ha;simpa using this
     obtain⟨h1,rfl⟩:=iX he
     refine cZ.of (h:=h) (s:=Builtin.cap_ c.argTypes o.type #[dm x]) (P:=P) ?_ (GO h1 (hr x))
     simp only[execOp,ho,resolve,hc,nO,kv,kx,ky,invoke,builtin,mv,mi,my]
   · rename_i x hc ha
     have nO:c.args = #[x]:=by have:=congrArg np ha;simpa using this
     obtain⟨rfl,v,k1,k2⟩:=vH (P:=P) (ts:=c.argTypes) (ty:=o.type) (hr x) he
     refine cZ.quiet h (v:=v) ?_ k2
     simp only[execOp,ho,resolve,hc,nO,kv,kx,ky,invoke,builtin,mv,mi,my,k1]
   · rename_i x n hc ha
     have nO:c.args = #[x,n]:=by have:=congrArg np ha;simpa using this
     have:=rD (ty:=o.type) h (hr x) (hr n) he
     simpa only[execOp,ho,resolve,hc,nO,kv,kx,ky,invoke,builtin,mv,mi,my] using this
   · rename_i hc
     obtain⟨h1,rfl⟩:=iX he
     unfold mW at h1
     split at h1
     · rename_i v hm
       simp only[kb] at h1;subst h1
       obtain⟨cx,cy,k,k',x,y,ha,e1,e2,rfl⟩:=Dn hr hm
       have nO:c.args = #[cx,cy]:=by have:=congrArg np ha;simpa using this
       refine cZ.quiet h (v:= .int k (min x y)) ?_ (.p _ _ (.sc _))
       simp only[execOp,ho,resolve,hc,nO,kv,kx,ky,invoke,builtin,mv,mi,my,e1,e2,Builtin.min_,po,px,Builtin.min2,ZR]
     · obtain⟨v,k1,k2⟩:=gq hr (fun _ _=>by rw[ho];exact fun e=>by cases e) h1
       exact cZ.quiet h k1 k2
   · rename_i hc
     obtain⟨h1,rfl⟩:=iX he
     unfold mW at h1
     split at h1
     · rename_i v hm
       simp only[kb] at h1;subst h1
       obtain⟨cx,cy,k,k',x,y,ha,e1,e2,rfl⟩:=Dn hr hm
       have nO:c.args = #[cx,cy]:=by have:=congrArg np ha;simpa using this
       refine cZ.quiet h (v:= .int k (max x y)) ?_ (.p _ _ (.sc _))
       simp only[execOp,ho,resolve,hc,nO,kv,kx,ky,invoke,builtin,mv,mi,my,e1,e2,Builtin.max_,po,px,Builtin.max2,ZS]
     · obtain⟨v,k1,k2⟩:=gq hr (fun _ _=>by rw[ho];exact fun e=>by cases e) h1
       exact cZ.quiet h k1 k2
   · cases he
 · cases he
end ops
structure dS (ρ:Nat→Option Nat) (g g':Gh):Prop where
 at' : ∀i k,ρ i=some k→g'.cm k=g.cm i∧g'.lo k=g.lo i∧g'.hi k=g.hi i
 pure:g'.pure=g.pure
theorem VP.JM {g g':Gh} {w:World} (h:g'.pure=g.pure) {v:PV} {cv:Value} (hv:VP g w v cv):VP g' w v cv:=hv.mono fun c o p=>⟨by rw[h];exact p,rfl⟩
theorem fF (ρ:Nat→Option Nat) : ∀l:List AV,(fL ρ l).length=l.length
 |[]=>rfl
 |a::l=>by simp[fL,fF ρ l]
theorem rF (ρ:Nat→Option Nat) : ∀(l:List AV) (i:Nat) (h:i<(fL ρ l).length) (h':i<l.length),(fL ρ l)[i]=kr ρ l[i]
 |_::_,0,_,_=>rfl
 |_::l,i+1,h,h'=>rF ρ l i (cb h) (cb h')
 |[],_,_,h'=>absurd h' (rr _)
theorem VA.kr {ρ:Nat→Option Nat} {g g':Gh} {w:World} (hr:dS ρ g g') {a:AV} {v:Value} (h:VA g w a v):VA g' w (Am.kr ρ a) v:=by
 induction h with
 |az v=>exact .az v
 |p v cv h=>exact .p v cv (h.JM hr.pure)
 |os tok len sz cells a cap h ht=>
  have h':=h.JM hr.pure
  cases tok with
  |none=>exact .os none len sz cells a cap h' (ht.imp id fun⟨t,_,_,e,_⟩=>by cases e)
  |some t=>
   simp only[Am.kr]
   cases hρ:ρ t with
   |none=>exact .p _ _ h'
   |some k=>
    obtain⟨e1,e2,e3⟩:=hr.at' t k hρ
    refine .os (some k) len sz cells a cap h' (ht.imp id ?_)
    rintro ⟨t',b,o,e,rfl,q1,q2,q3,q4⟩
    cases e
    exact⟨k,b,o,rfl,rfl,e1.trans q1,e2.trans q2,e3.trans q3,q4⟩
 |mp b off c h=>
  simp only[Am.kr]
  cases hρ:ρ b with
  |none=>exact .az _
  |some k=>exact .mp k off c ((hr.at' b k hρ).1.trans h)
 |ms b off len sz cap c h hc=>
  simp only[Am.kr]
  cases hρ:ρ b with
  |none=>exact .az _
  |some k=>exact .ms k off len sz cap c ((hr.at' b k hρ).1.trans h) hc
 |mg b off len sz cap c h hc hh=>
  simp only[Am.kr]
  cases hρ:ρ b with
  |none=>exact .az _
  |some k=>exact .mg k off len sz cap c ((hr.at' b k hρ).1.trans h) hc (by rw[(hr.at' b k hρ).2.2];exact hh)
 |vm b c h=>
  simp only[Am.kr]
  cases hρ:ρ b with
  |none=>exact .az _
  |some k=>exact .vm k c ((hr.at' b k hρ).1.trans h)
 |vy b c h=>
  simp only[Am.kr]
  cases hρ:ρ b with
  |none=>exact .az _
  |some k=>exact .vy k c ((hr.at' b k hρ).1.trans h)
 |fn f l k fa ca hl hk h h2 ih ih2=>
  simp only[Am.kr]
  exact .fn f _ _ fa ca (by rw[fF];exact hl) (by rw[fF];exact hk)
   (fun i a b=>by rw[rF ρ l i a (by rwa [fF] at a)];exact ih i _ b) (fun i a b=>by rw[rF ρ k i a (by rwa [fF] at a)];exact ih2 i _ b)
 |agg l cs hl h ih=>
  simp only[Am.kr]
  exact .agg _ cs (by rw[fF];exact hl) (fun i a b=>by rw[rF ρ l i a (by rwa [fF] at a)];exact ih i _ b)
 |aD l cs hl h ih=>
  simp only[Am.kr]
  exact .aD _ cs (by rw[fF];exact hl) (fun i a b=>by rw[rF ρ l i a (by rwa [fF] at a)];exact ih i _ b)
 |qQ t v cv h ih=>exact .qQ t _ cv ih
theorem dz.kr {ρ:Nat→Option Nat} {g g':Gh} {w:World} (hr:dS ρ g g') : ∀{l:List AV} {vs:List Value},dz g w l vs→dz g' w (fL ρ l) vs
 |[],[],_=>trivial
 |_::_,_::_,h=>⟨h.1.kr hr,dz.kr hr h.2⟩
 |[],_::_,h=>h.elim
 |_::_,[],h=>h.elim
theorem dz.aC {ρ:Nat→Option Nat} {g g':Gh} {w:World} (hr:dS ρ g g') : ∀{l:List AV} {vs:List Value},dz g w l vs→dz g' w (l.map aC) vs
 |[],[],_=>trivial
 |a::_,_::_,h=>⟨by
   cases a with
   |p v=>exact h.1.kr hr
   |_=>exact .az _,dz.aC hr h.2⟩
 |[],_::_,h=>h.elim
 |_::_,[],h=>h.elim
theorem dz.Y4 {ρ:Nat→Option Nat} {g g':Gh} {w:World} (hr:dS ρ g g') {l l':List AV} {vs:List Value} (h:dz g w l vs) (hl:l'=fL ρ l∨l'=l.map Am.aC):dz g' w l' vs:=by
 rcases hl with rfl | rfl
 · exact h.kr hr
 · exact dz.aC hr h
theorem Qj (ρ:Nat→Option Nat) : ∀l:List PV,fL ρ (l.map .p)=l.map .p
 |[]=>rfl
 |v::l=>by simp[fL,Am.kr,Qj ρ l]
theorem M7 (ρ:Nat→Option Nat) (k:eG) (vals:List AV) : ∃l,gX ρ (.ob k vals) = .ob k l:=by
 cases k with
 |gr t q=>cases q<;>exact⟨_,rfl⟩
 |_=>exact⟨_,rfl⟩
theorem A7 {ρ:Nat→Option Nat} {b:bf} {l':List AV} (h:(gX ρ b).cells?=some l') : ∃l,b.cells?=some l∧l'=fL ρ l:=by
 cases b with
 |pc l=>simp only[gX,bf.cells?,kb] at h;exact⟨_,rfl,by rw[Qj];exact h.symm⟩
 |ac l=>simp only[gX,bf.cells?,kb] at h;exact⟨l,rfl,h.symm⟩
 |ob k vals=>
  obtain⟨l0,e⟩:=M7 ρ k vals
  rw[e] at h
  cases h
 |_=>simp[gX,bf.cells?] at h
theorem oL {ρ:Nat→Option Nat} {b:bf}:(gX ρ b).ep=b.ep:=by unfold gX;split<;>rfl
theorem LW {ρ:Nat→Option Nat} {b:bf} {k:eG} {l:List AV} (h:gX ρ b = .ob k l) : ∃l0,b = .ob k l0∧(l=fL ρ l0∨l=l0.map aC):=by
 unfold gX at h
 split at h<;>cases h
 · exact⟨_,rfl,.inr rfl⟩
 · exact⟨_,rfl,.inr rfl⟩
 · exact⟨_,rfl,.inl rfl⟩
 · rename_i hne
   exact(hne _ _ rfl).elim
theorem xJ {ρ:Nat→Option Nat} {b:bf} (h:gX ρ b = .free):b = .free:=by unfold gX at h;split at h<;>first | exact h | cases h
theorem G4 {ρ:Nat→Option Nat} {b:bf} (h:gX ρ b = .tok):b = .tok:=by unfold gX at h;split at h<;>first | exact h | cases h
theorem LX {ord:List Nat} {i k:Nat} (h:idx ord i=some k):ord[k]? = some i:=by
 induction ord generalizing k with
 |nil=>simp[idx] at h
 |cons j ord ih=>
  simp only[idx] at h
  cases hb:ai i j with
  |true=>simp only[hb,cond_true,kb] at h;subst h;rw[ag hb];rfl
  |false=>
   simp only[hb,cond_false,kd] at h
   obtain⟨k',h1,rfl⟩:=h
   exact ih h1
def Gh.pack (g:Gh) (ord:List Nat):Gh where
 cm k:=(ord[k]?).bind g.cm
 lo k:=match ord[k]? with | some i=>g.lo i | none=>0
 hi k:=match ord[k]? with | some i=>g.hi i | none=>0
 pure:=g.pure
theorem dS.pack (g:Gh) (ord:List Nat):dS (idx ord) g (g.pack ord):=
 ⟨fun i k h=>by have:=LX h;simp[Gh.pack,this],rfl⟩
theorem m8 {m:Mem} {ord:List Nat} {k:Nat} {b:bf} (h:(pack m ord)[k]? = some b) : ∃i,ord[k]? = some i∧b=gX (idx ord) (m.getD i .dead):=by
 simp only[pack,en,kd] at h
 obtain⟨i,h1,h2⟩:=h
 exact⟨i,h1,h2.symm⟩
theorem JN {m:Mem} {i:Nat} {l:List AV} (h:(m.getD i .dead).cells?=some l):m[i]? = some (m.getD i .dead):=
 getD_some rfl fun e=>by rw[e] at h;cases h
theorem Dp {m:Mem} {i:Nat} (h:(m.getD i .dead).ep=true):m[i]? = some (m.getD i .dead):=
 getD_some rfl fun e=>by rw[e] at h;cases h
theorem M8 {l:List Nat} (h:l.Nodup) {j k i:Nat} (hj:l[j]? = some i) (hk:l[k]? = some i):j=k:=by
 obtain⟨a,ha⟩:=dt.1 hj
 obtain⟨b,hb⟩:=dt.1 hk
 rcases Nat.lt_trichotomy j k with q | q | q
 · exact absurd (ha.trans hb.symm) (oR.1 h j k a b q)
 · exact q
 · exact absurd (hb.trans ha.symm) (oR.1 h k j b a q)
theorem Rel.pack {g:Gh} {m:Mem} {w:World} (h:Rel g m w) {ord:List Nat} (hnd:ord.Nodup) :
  Rel (g.pack ord) (Am.pack m ord) w∧(∀c,jU (g.pack ord) (Am.pack m ord) c→jU g m c):=by
 have own : ∀k b c,(Am.pack m ord)[k]? = some b→b.ep=true→(g.pack ord).cm k=some c → ∃i,ord[k]? = some i∧m[i]? = some (m.getD i .dead)∧(m.getD i .dead).ep=true∧g.cm i=some c:=by
  intro k b c hk ho hc
  obtain⟨i,h1,rfl⟩:=m8 hk
  rw[oL] at ho
  exact⟨i,h1,Dp ho,ho,by simpa[Gh.pack,h1] using hc⟩
 refine⟨⟨fun k hk=> ?_,fun k hk=> ?_,fun k b l hk hl=> ?_,fun k c hk hc=> ?_,fun j k b b' c hj hk ho ho' hc iS=> ?_,h.there,fun k ob l hk=> ?_⟩,fun c ho=> ?_⟩
 · have:ord[k]? = none:=dT (by simpa[Am.pack] using hk)
   simp[Gh.pack,this]
 · obtain⟨i,h1,h2⟩:=m8 hk
   have h2:=xJ h2.symm
   have:=h.free i (getD_some h2 (by simp))
   simp[Gh.pack,h1,this]
 · obtain⟨i,h1,rfl⟩:=m8 hk
   obtain⟨l0,h2,rfl⟩:=A7 hl
   obtain⟨c,cs,e,n,k1,k2,k3,k4,k5⟩:=h.cells i _ _ (JN h2) h2
   exact⟨c,cs,e,n,by simpa[Gh.pack,h1] using k1,k2,k3,⟨k4.1.kr (dS.pack g ord),k4.2⟩,k5⟩
 · obtain⟨i,h1,h2⟩:=m8 hk
   have h2:=G4 h2.symm
   have hc:g.cm i=some c:=by simpa[Gh.pack,h1] using hc
   have:=h.tok i c (getD_some h2 (by simp)) hc
   simpa[Gh.pack,h1] using this
 · obtain⟨i,h1,h2,h3,h4⟩:=own j b c hj ho hc
   obtain⟨i',h1',h2',h3',h4'⟩:=own k b' c hk ho' iS
   have:=h.inj i i' _ _ c h2 h2' h3 h3' h4 h4'
   subst this
   exact M8 hnd h1 h1'
 · obtain⟨i,h1,h2⟩:=m8 hk
   obtain⟨l0,h3,hl0⟩:=LW h2.symm
   obtain⟨c,o,vs,k1,k2,k3,k4,k5,k6⟩:=h.obs i ob l0 (getD_some h3 (by simp))
   exact⟨c,o,vs,by simpa[Gh.pack,h1] using k1,k2,k3.Y4 (dS.pack g ord) hl0,k4,k5,by simpa[Gh.pack,h1] using k6⟩
 · obtain⟨k,b,hk,ho,hc⟩:=ho
   obtain⟨i,_,h2,h3,h4⟩:=own k b c hk ho hc
   exact⟨i,_,h2,h3,h4⟩
theorem LY {l:List Nat} {i:Nat}:has l i=true↔i∈l:=by
 induction l with
 |nil=>simp[has]
 |cons j l ih=>
  simp only[has]
  cases hb:ai j i with
  |true=>simp[ag hb]
  |false=>
   have:j≠i:=fun e=>by subst e;simp[rl] at hb
   simp[ih,Ne.symm this]
theorem eL : ∀(l ord:List Nat),ord.Nodup→(kI ord l).Nodup ∧ ∃t,kI ord l=ord++t
 |[],ord,h=>⟨h,[],by simp[kI]⟩
 |i::l,ord,h=>by
  simp only[kI]
  cases hb:has ord i with
  |true=>exact eL l ord h
  |false=>
   have hni:i∉ord:=fun k=>by rw[LY.2 k] at hb;cases hb
   obtain⟨h1,t,h2⟩:=eL l (ord++[i]) (pn.2 ⟨h,by simp,fun a ha b hb=>by simp at hb;subst hb;exact fun e=>hni (e▸ha)⟩)
   exact⟨h1,i::t,by simp only[cond_false,h2,pa,List.singleton_append]⟩
theorem pV (m:Mem) : ∀(f:Nat) (ord:List Nat) (k:Nat),ord.Nodup→(reach m f ord k).Nodup ∧ ∃t,reach m f ord k=ord++t
 |0,ord,_,h=>⟨h,[],by simp[reach]⟩
 |f+1,ord,k,h=>by
  simp only[reach]
  cases hk:ord[k]? with
  |none=>exact⟨h,[],by simp⟩
  |some i=>
   obtain⟨h1,t,h2⟩:=eL (C9 (m.getD i .dead)) ord h
   obtain⟨h3,t',h4⟩:=pV m f (kI ord (C9 (m.getD i .dead))) (k+1) h1
   refine⟨h3,t++t',?_⟩
   show reach m f (kI ord (C9 (m.getD i .dead))) (k+1)=_
   rw[h4,h2,pa]
theorem lG : ∀n,(upTo n).length=n
 |0=>rfl
 |n+1=>by simp[upTo,lG n]
theorem A8 : ∀(n k:Nat),k<n→(upTo n)[k]? = some k
 |0,_,h=>absurd h (rr _)
 |n+1,k,h=>by
  simp only[upTo,oi,lG]
  by_cases hk:k<n
  · rw[if_pos hk,A8 n k hk]
  · have:k=n:=by omega
    subst this;simp
theorem Qk {n i:Nat} (h:i∈upTo n):i<n:=by
 induction n with
 |zero=>simp[upTo] at h
 |succ n ih=>
  simp only[upTo,oE,List.mem_singleton] at h
  rcases h with h | rfl
  · have:=ih h;omega
  · omega
theorem m9 : ∀n,(upTo n).Nodup
 |0=>by simp[upTo]
 |n+1=>pn.2 ⟨m9 n,by simp,fun a ha b hb=>by simp at hb;subst hb;have:=Qk ha;omega⟩
theorem gu (m:Mem) (fix:Nat) (vs:List AV):(close m fix vs).Nodup ∧ ∀k,k<fix→(close m fix vs)[k]? = some k:=by
 obtain⟨h1,t,h2⟩:=eL (kq vs) (upTo fix) (m9 fix)
 obtain⟨h3,t',h4⟩:=pV m (m.length+1) (kI (upTo fix) (kq vs)) 0 h1
 refine⟨h3,fun k hk=> ?_⟩
 unfold close
 rw[h4,h2,pa,od (by rw[lG];exact hk),A8 fix k hk]
theorem iz : ∀{l:List Nat} {n:Nat},lC l n=true → ∀i∈l,i<n
 |[],_,_,_,h=>by cases h
 |j::l,n,h,i,hi=>by
  simp only[lC,jn] at h
  cases hi with
  |head=>simpa[db] using h.1
  |tail _ hi=>exact iz h.2 i hi
theorem yW (ρ:Nat→Option Nat) : ∀(ord:List Nat) (m1 m:Mem),ord.Nodup→(∀i∈ord,i<m.length)→ord.length≤m1.length → ∀(i:Nat) (b:bf),(dR ρ ord m1 m)[i]? = some b →
  (i<m.length∧i∉ord∧m[i]? = some b)∨(∃(k:Nat) (b1:bf),ord[k]? = some i∧m1[k]? = some b1∧b=gX ρ b1)∨(m.length≤i ∧ ∃b1:bf,m1[ord.length+(i-m.length)]? = some b1∧b=gX ρ b1)
 |[],m1,m,_,_,_,i,b,h=>by
  simp only[dR,oi] at h
  by_cases hi:i<m.length
  · rw[if_pos hi] at h;exact .inl ⟨hi,by simp,h⟩
  · rw[if_neg hi,en,kd] at h
    obtain⟨b1,h1,h2⟩:=h
    exact .inr (.inr ⟨by omega,b1,by simpa using h1,h2.symm⟩)
 |j::ord,[],m,_,_,hl,_,_,_=>by simp at hl
 |j::ord,b0::m1,m,hnd,hlt,hl,i,b,h=>by
  simp only[dR] at h
  have JO:=py.1 hnd
  rcases yW ρ ord m1 (m.set j (gX ρ b0)) JO.2 (fun i hi=>by simpa using hlt i (.tail _ hi)) (by simpa using hl) i b h with⟨h1,h2,h3⟩ | ⟨k,b1,h1,h2,h3⟩ | ⟨h1,b1,h2,h3⟩
  · rw[ed] at h1
    rcases bn h3 with⟨rfl,e⟩ | ⟨hne,e⟩
    · exact .inr (.inl ⟨0,b0,rfl,rfl,e⟩)
    · exact .inl ⟨h1,fun hm=>by cases hm with
       |head=>exact hne rfl
       |tail _ hm=>exact h2 hm,e⟩
  · exact .inr (.inl ⟨k+1,b1,h1,h2,h3⟩)
  · rw[ed] at h1 h2
    exact .inr (.inr ⟨h1,b1,by rw[show(j::ord).length+(i-m.length)=(ord.length+(i-m.length))+1 by simp;omega];exact h2,h3⟩)
theorem eR (ρ:Nat→Option Nat) : ∀(ord:List Nat) (m1 m:Mem),ord.length≤m1.length→(dR ρ ord m1 m).length=m.length+(m1.length-ord.length)
 |[],m1,m,_=>by simp[dR]
 |_::_,[],_,h=>by simp at h
 |j::ord,b::m1,m,h=>by
  simp only[dR]
  rw[eR ρ ord m1 _ (by simpa using h)]
  simp
theorem uD : ∀{ord:List Nat} {k i:Nat},ord.Nodup→ord[k]? = some i→idx ord i=some k
 |[],_,_,_,h=>by simp at h
 |j::ord,0,i,_,h=>by
  simp only[ml,kb] at h;subst h
  simp[idx,rl]
 |j::ord,k+1,i,hnd,h=>by
  have JO:=py.1 hnd
  simp only[mr] at h
  have hne:ai i j=false:=by
   rw[j2];intro e
   have:=ag e
   subst this
   exact JO.1 (mf h)
  simp[idx,hne,uD JO.2 h]
theorem G5 {ord:List Nat} {i:Nat} (h:i∉ord):idx ord i=none:=by
 cases hq:idx ord i with
 |none=>rfl
 |some k=>exact absurd (mf (LX hq)) h
def Gh.back (g g1:Gh) (ord:List Nat) (n:Nat):Gh where
 cm i:=match idx ord i with | some k=>g1.cm k | none=>if i<n then g.cm i else g1.cm (ord.length+(i-n))
 lo i:=match idx ord i with | some k=>g1.lo k | none=>if i<n then g.lo i else g1.lo (ord.length+(i-n))
 hi i:=match idx ord i with | some k=>g1.hi k | none=>if i<n then g.hi i else g1.hi (ord.length+(i-n))
 pure:=g1.pure
def bZ (g g':Gh) (n:Nat):Prop:= ∀k c,k<n→g.cm k=some c→g'.cm k=some c∧g'.lo k=g.lo k∧g'.hi k=g.hi k
theorem bZ.refl (g:Gh) (n:Nat):bZ g g n:=fun _ _ _ h=>⟨h,rfl,rfl⟩
theorem bZ.trans {g g' g'':Gh} {n:Nat} (h:bZ g g' n) (k:bZ g' g'' n):bZ g g'' n:=fun i c hi hc=>
 let⟨h1,h2,h3⟩:=h i c hi hc
 let⟨k1,k2,k3⟩:=k i c hi h1
 ⟨k1,k2.trans h2,k3.trans h3⟩
theorem bZ.vI {g g':Gh} {w w':World} (h:Ext g w g' w') (n:Nat):bZ g g' n:=fun i c _ hc=>h.cm i c hc
theorem Rel.back {g oD:Gh} {m M9:Mem} {w w':World} (h:Rel g m w) {ord:List Nat} (hnd:ord.Nodup) (hlt : ∀i∈ord,i<m.length)
  (h1:Rel oD M9 w') (hs:dU (g.pack ord) (Am.pack m ord) w oD M9 w') (hf:bZ (g.pack ord) oD ord.length) (hl:ord.length≤M9.length) :
  Rel (g.back oD ord m.length) (dR (bI ord m.length) ord M9 m) w'∧Ext g w (g.back oD ord m.length) w'∧dU g m w (g.back oD ord m.length) (dR (bI ord m.length) ord M9 m) w' ∧
   dS (bI ord m.length) oD (g.back oD ord m.length):=by
 obtain⟨Ql,Qm⟩:=h.pack hnd
 have LZ : ∀k i,ord[k]? = some i→i<m.length∧k<ord.length∧(g.back oD ord m.length).cm i=oD.cm k∧(g.back oD ord m.length).lo i=oD.lo k∧(g.back oD ord m.length).hi i=oD.hi k:=by
  intro k i hk
  have hx:=uD hnd hk
  exact⟨hlt i (mf hk),bX hk,by simp only[Gh.back,hx],by simp only[Gh.back,hx],by simp only[Gh.back,hx]⟩
 have JP : ∀i,i∉ord→i<m.length→(g.back oD ord m.length).cm i=g.cm i∧(g.back oD ord m.length).lo i=g.lo i∧(g.back oD ord m.length).hi i=g.hi i:=by
  intro i hi hlt
  have hx:=G5 hi
  simp only[Gh.back,hx,hlt,if_true,and_self]
 have Wp : ∀i,m.length≤i→(g.back oD ord m.length).cm i=oD.cm (ord.length+(i-m.length))∧(g.back oD ord m.length).lo i=oD.lo (ord.length+(i-m.length))∧(g.back oD ord m.length).hi i=oD.hi (ord.length+(i-m.length)):=by
  intro i hi
  have hx:=G5 (ord:=ord) (i:=i) fun hm=>by have:=hlt i hm;omega
  simp only[Gh.back,hx,da.2 hi,if_false,and_self]
 have pW:dS (bI ord m.length) oD (g.back oD ord m.length):=by
  refine⟨fun j k hj=> ?_,rfl⟩
  unfold bI at hj
  cases ho:ord[j]? with
  |some i=>
   simp only[ho,kb] at hj;subst hj
   exact(LZ j i ho).2.2
  |none=>
   simp only[ho,kb] at hj;subst hj
   have:ord.length≤j:=List.getElem?_eq_none_iff.1 ho
   have e:ord.length+(m.length+(j-ord.length)-m.length)=j:=by omega
   have:=Wp (m.length+(j-ord.length)) (by omega)
   rwa [e] at this
 have ZT:Ext g w (g.back oD ord m.length) w':=by
  refine⟨fun i c hc=> ?_,fun c o p=>hs.pure c o p⟩
  have hi:i<m.length:=by
   rcases Nat.lt_or_ge i m.length with q | q
   · exact q
   · rw[h.Cp i q] at hc;cases hc
  by_cases hm:i∈ord
  · obtain⟨k,hk1,hk2⟩:=List.getElem_of_mem hm
    have hk:ord[k]? = some i:=by rw[df hk1,hk2]
    obtain⟨_,_,e1,e2,e3⟩:=LZ k i hk
    obtain⟨f1,f2,f3⟩:=hf k c hk1 (by simpa[Gh.pack,hk] using hc)
    rw[e1,e2,e3,f1,f2,f3]
    simp[Gh.pack,hk]
  · obtain⟨e1,e2,e3⟩:=JP i hm hi
    exact⟨e1.trans hc,e2,e3⟩
 have rG : ∀i b c,i∉ord→m[i]? = some b→b.ep=true→g.cm i=some c → ¬jU (g.pack ord) (Am.pack m ord) c:=by
  intro i b c hi hb ho hc hO
  obtain⟨k,b',hk,ho',iS⟩:=hO
  obtain⟨i',q1,rfl⟩:=m8 hk
  rw[oL] at ho'
  have iS:g.cm i'=some c:=by simpa[Gh.pack,q1] using iS
  have:=h.inj i i' _ _ c hb (Dp ho') ho ho' hc iS
  subst this
  exact hi (mf q1)
 have FK : ∀i b c,i∉ord→m[i]? = some b→b.ep=true→g.cm i=some c → ∀o,oD.pure c o→g.pure c o:=by
  intro i b c hi hb ho hc o p
  rcases hs.fresh c o p with q | q | q
  · exact q
  · exact absurd q (rG i b c hi hb ho hc)
  · exact absurd (h.oH ⟨i,b,hb,ho,hc⟩) (da.2 q)
 have get:=yW (bI ord m.length) ord M9 m hnd hlt hl
 have ZU : ∀i b c,(dR (bI ord m.length) ord M9 m)[i]? = some b→b.ep=true→(g.back oD ord m.length).cm i=some c →
   (i∉ord∧m[i]? = some b∧g.cm i=some c)∨(∃k b1,bI ord m.length k=some i∧M9[k]? = some b1∧b1.ep=true∧oD.cm k=some c):=by
  intro i b c hi ho hc
  rcases get i b hi with⟨q1,q2,q3⟩ | ⟨k,b1,q1,q2,rfl⟩ | ⟨q1,b1,q2,rfl⟩
  · exact .inl ⟨q2,q3,by rw[(JP i q2 q1).1] at hc;exact hc⟩
  · rw[oL] at ho
    exact .inr ⟨k,b1,by simp[bI,q1],q2,ho,by rw[(LZ k i q1).2.2.1] at hc;exact hc⟩
  · rw[oL] at ho
    rw[(Wp i q1).1] at hc
    have hn:ord[ord.length+(i-m.length)]? = none:=dT (by omega)
    refine .inr ⟨_,b1,?_,q2,ho,hc⟩
    simp only[bI,hn,kb];omega
 refine⟨⟨fun i hi=> ?_,fun i hi=> ?_,fun i b l hi hb=> ?_,fun i c hi hc=> ?_,fun i j b b' c hi hj ho ho' hc iS=> ?_,h1.there,fun i ob l hi=> ?_⟩,ZT,⟨hs.size,fun c hc hn=>hs.keep c hc fun ho=>hn (Qm c ho),hs.pure,fun c o p=> ?_,fun c ho=> ?_,hs.os,hs.tape,hs.output⟩,pW⟩
 · rw[eR _ _ _ _ hl] at hi
   rw[(Wp i (by omega)).1]
   exact h1.Cp _ (by omega)
 · rcases get i _ hi with⟨q1,q0,q3⟩ | ⟨k,b1,q1,q2,q3⟩ | ⟨q1,b1,q2,q3⟩
   · rw[(JP i q0 q1).1];exact h.free i q3
   · have q3:=xJ q3.symm
     subst q3
     rw[(LZ k i q1).2.2.1];exact h1.free k q2
   · have q3:=xJ q3.symm
     subst q3
     rw[(Wp i q1).1];exact h1.free _ q2
 · have back : ∀k b1,bI ord m.length k=some i→M9[k]? = some b1→b=gX (bI ord m.length) b1 →
    ∃c cs e n,(g.back oD ord m.length).cm i=some c∧w'.heap[c]? = some (.cells cs e n)∧n.2≤n.1∧JF (g.back oD ord m.length) w' l cs.toList ∧ ∀o,¬(g.back oD ord m.length).pure c o:=by
    rintro k b1 hk ZV rfl
    obtain⟨l0,q,rfl⟩:=A7 hb
    obtain⟨c,cs,e,n,k1,k2,k3,k4,k5⟩:=h1.cells k b1 l0 ZV q
    exact⟨c,cs,e,n,(pW.at' k i hk).1.trans k1,k2,k3,⟨k4.1.kr pW,k4.2⟩,k5⟩
   rcases get i _ hi with⟨q1,q2,q3⟩ | ⟨k,b1,q1,q2,q3⟩ | ⟨q1,b1,q2,q3⟩
   · obtain⟨c,cs,e,n,k1,k2,k3,k4,k5⟩:=h.cells i b l q3 hb
     have ho:=ej hb
     exact⟨c,cs,e,n,(JP i q2 q1).1.trans k1,(hs.keep c (bW k2) (rG i b c q2 q3 ho k1)).trans k2,k3,k4.mono ZT,fun o p=>k5 o (FK i b c q2 q3 ho k1 o p)⟩
   · exact back k b1 (by simp[bI,q1]) q2 q3
   · have hn:ord[ord.length+(i-m.length)]? = none:=dT (by omega)
     exact back _ b1 (by simp only[bI,hn,kb];omega) q2 q3
 · have back : ∀k b1,bI ord m.length k=some i→M9[k]? = some b1→bf.tok=gX (bI ord m.length) b1 →
    ∃cs e n,w'.heap[c]? = some (.cells cs e n)∧(g.back oD ord m.length).hi i≤cs.size∧(n.2≤n.1∨(g.back oD ord m.length).hi i≤n.1) ∧ ∀o,(g.back oD ord m.length).lo i≤o→o<(g.back oD ord m.length).hi i → ¬(g.back oD ord m.length).pure c o:=by
    intro k b1 hk ZV hq
    have hq:=G4 hq.symm
    subst hq
    obtain⟨e1,e2,e3⟩:=pW.at' k i hk
    rw[e2,e3]
    rw[e1] at hc
    exact h1.tok k c ZV hc
   rcases get i _ hi with⟨q1,q2,q3⟩ | ⟨k,b1,q1,q2,q3⟩ | ⟨q1,b1,q2,q3⟩
   · obtain⟨e0,e2,e1⟩:=JP i q2 q1
     have hc:g.cm i=some c:=e0.symm.trans hc
     obtain⟨cs,e,n,k2,k3,k4,k5⟩:=h.tok i c q3 hc
     rw[e1,e2]
     exact⟨cs,e,n,(hs.keep c (bW k2) (rG i _ c q2 q3 rfl hc)).trans k2,k3,k4,fun o a b p=>k5 o a b (FK i _ c q2 q3 rfl hc o p)⟩
   · exact back k b1 (by simp[bI,q1]) q2 q3
   · have hn:ord[ord.length+(i-m.length)]? = none:=dT (by omega)
     exact back _ b1 (by simp only[bI,hn,kb];omega) q2 q3
 · have apart : ∀i b,i∉ord→m[i]? = some b→b.ep=true→g.cm i=some c → ∀k b1,M9[k]? = some b1→b1.ep=true→oD.cm k=some c→False:=by
    intro i b q2 q3 ho hc k b1 hk ho1 jG
    rcases hs.owned c ⟨k,b1,hk,ho1,jG⟩ with q | q
    · exact rG i b c q2 q3 ho hc q
    · exact absurd (h.oH ⟨i,b,q3,ho,hc⟩) (da.2 q)
   rcases ZU i b c hi ho hc with⟨p1,p2,p3⟩ | ⟨k,b1,p1,p2,p3,p4⟩<;>rcases ZU j b' c hj ho' iS with⟨q1,q2,q3⟩ | ⟨k',b1',q1,q2,q3,q4⟩
   · exact h.inj i j b b' c p2 q2 ho ho' p3 q3
   · exact(apart i b p1 p2 ho p3 k' b1' q2 q3 q4).elim
   · exact(apart j b' q1 q2 ho' q3 k b1 p2 p3 p4).elim
   · have:=h1.inj k k' b1 b1' c p2 q2 p3 q3 p4 q4
     subst this
     rw[p1] at q1;exact kc q1
 · have back : ∀k b1,bI ord m.length k=some i→M9[k]? = some b1→bf.ob ob l=gX (bI ord m.length) b1 →
    ∃c o vs,(g.back oD ord m.length).cm i=some c∧w'.heap[c]? = some o∧dz (g.back oD ord m.length) w' l vs∧ob.is o vs∧(∀o',¬(g.back oD ord m.length).pure c o')∧ob.room o ((g.back oD ord m.length).hi i):=by
    intro k b1 hk ZV hq
    obtain⟨l0,rfl,hl0⟩:=LW hq.symm
    obtain⟨c,o,vs,k1,k2,k3,k4,k5,k6⟩:=h1.obs k ob l0 ZV
    exact⟨c,o,vs,(pW.at' k i hk).1.trans k1,k2,k3.Y4 pW hl0,k4,k5,by rw[(pW.at' k i hk).2.2];exact k6⟩
   rcases get i _ hi with⟨q1,q2,q3⟩ | ⟨k,b1,q1,q2,q3⟩ | ⟨q1,b1,q2,q3⟩
   · obtain⟨c,o,vs,k1,k2,k3,k4,k5,k6⟩:=h.obs i ob l q3
     exact⟨c,o,vs,(JP i q2 q1).1.trans k1,(hs.keep c (bW k2) (rG i _ c q2 q3 rfl k1)).trans k2,k3.mono ZT,k4,fun o' p=>k5 o' (FK i _ c q2 q3 rfl k1 o' p),by rw[(JP i q2 q1).2.2];exact k6⟩
   · exact back k b1 (by simp[bI,q1]) q2 q3
   · have hn:ord[ord.length+(i-m.length)]? = none:=dT (by omega)
     exact back _ b1 (by simp only[bI,hn,kb];omega) q2 q3
 · rcases hs.fresh c o p with q | q | q
   · exact .inl q
   · exact .inr (.inl (Qm c q))
   · exact .inr (.inr q)
 · obtain⟨i,b,hi,hb,hc⟩:=ho
   rcases ZU i b c hi hb hc with⟨_,p2,p3⟩ | ⟨k,b1,p1,p2,p3,p4⟩
   · exact .inl ⟨i,b,p2,hb,p3⟩
   · rcases hs.owned c ⟨k,b1,p2,p3,p4⟩ with q | q
     · exact .inl (Qm c q)
     · exact .inr q
def er:It→List Item
 |.code _ c=>[.code c]
 |.ops _ ops k _=>[.inRegion ops (pw k (ops.size-k))]
 |.inBlock id=>[.inBlock id]
 |.inLoop _ b=>[.inLoop b]
 |.inScope b=>[.inScope b]
 |.forget _=>[]
 |.fin=>[]
 |.begin=>[.beginRound]
 |.Cu _=>[]
 |.jT _=>[]
 |.leave=>[]
def It.pl:It→Prop
 |.fin | .Cu _ | .jT _ | .leave=>False
 |_=>True
def eM:List It→List Item
 |[]=>[]
 |x::k=>er x++eM k
def iO (E:Env) (g:Gh) (w:World):Prop:= ∀i cs,E.cX i=some cs→VP g w (.pp 0 cs) (.pointer (some ⟨i,0,none⟩))
theorem iO.mono {E:Env} {g g':Gh} {w w':World} (h:iO E g w) (e : ∀c o,g.pure c o→g'.pure c o∧w'.cell? ⟨c,o,none⟩=w.cell? ⟨c,o,none⟩):iO E g' w':=fun i cs hi=>(h i cs hi).mono e
structure dc (E:Env) (g:Gh) (st:St) (a:Act) (w:World):Prop where
 tm : ∀k,VA g w (look st.tm k) (a.tmps.getD k undef)
 nt:a.tmps.size=st.nt
 rel:Rel g st.mem w
 fix:st.fix≤st.mem.length
 cX:iO E g w
def fQ (g:Gh) (r:YX) (b:Frame):Prop:=match r with
 |.call=>b.kind = .normal∧b.roundOf=none
 |.round i=>b.kind = .normal ∧ ∃l,g.cm i=some l∧b.roundOf=some l
 |.late=>b.kind = .deferred∧b.roundOf=none
theorem fQ.ext {g g':Gh} (e : ∀i c,g.cm i=some c→g'.cm i=some c) {r:YX} {b:Frame} (h:fQ g r b):fQ g' r b:=by
 cases r with
 |call=>exact h
 |late=>exact h
 |round i=>
  obtain⟨h1,l,q1,q2⟩:=h
  exact⟨h1,l,e i l q1,q2⟩
theorem fQ.FL {g:Gh} {r:YX} {b:Frame} (h:fQ g r b) (hn : ∀i,r ≠ .round i):b.roundOf=none:=by
 cases r with
 |call=>exact h.2
 |late=>exact h.2
 |round i=>exact absurd rfl (hn i)
def Mps (g:Gh) (l:List (Nat×Nat)) (cs:List Value):Prop:=bN (fun q v=> ∃c,g.cm q.1=some c∧v = .pointer (some ⟨c,q.2,none⟩)) l cs
def Mark.Ok (g:Gh):Mark→Deferred→Prop
 |.range b,d=> ∃D,g.cm b=some D∧d={target:= .collected D,args:= #[]}
 |.late f l m,d=> ∃fa ca:Array Value,Mps g l fa.toList∧Mps g m ca.toList∧d={target:= .fn (.func f) ca,args:=fa}
theorem Mark.Ok.ext {g g':Gh} (e : ∀i c,g.cm i=some c→g'.cm i=some c) {mk:Mark} {d:Deferred} (h:mk.Ok g d):mk.Ok g' d:=by
 cases mk with
 |range b=>
  obtain⟨D,q1,q2⟩:=h
  exact⟨D,e _ D q1,q2⟩
 |late f l m=>
  obtain⟨fa,ca,q1,q2,q3⟩:=h
  exact⟨fa,ca,bN.mono (fun _ _ ⟨c,k1,k2⟩=>⟨c,e _ c k1,k2⟩) q1,bN.mono (fun _ _ ⟨c,k1,k2⟩=>⟨c,e _ c k1,k2⟩) q2,q3⟩
def Mk (g:Gh) (mk:List Mark) (ds:List Deferred):Prop:=bN (fun b d=>b.Ok g d) mk ds
theorem Mk.ext {g g':Gh} (e : ∀i c,g.cm i=some c→g'.cm i=some c) {mk:List Mark} {ds:List Deferred} (h:Mk g mk ds):Mk g' mk ds:=
 bN.mono (fun _ _ q=>q.ext e) h
def Qn (P:Program) (r:YX) (fr:Frame) (w:World) (cv:Value) (w2:World):Prop:=match r with
 |.call=>fr.leaving P w (.returned cv)∧w2=w
 |.late=>(fr.going P w (.returned cv)∧fr.kind = .deferred)∧w2=w
 |.round _=> ∀(c:Frame) (cs:List Frame),Steps P (lone fr (c::cs) w) (lone (c.finish cv) cs w2)
def dG:Option Value→Bool→FrameMode
 |none,_=> .returning
 |some v,b=> .panicking [{v:=v,recovered:=b}]
def dZ (P:Program) (E:Env) (g:Gh) (c:cw) (fr:Frame) (w:World):Prop:=
 match c.todo with
 |.fin::_=>fr.fn=c.f ∧ ∃cv w2,Qn P c.st.cR fr w cv w2∧VA g w2 (look c.st.tm 0) cv∧Rel g c.st.mem w2∧dU g c.st.mem w g c.st.mem w2∧c.st.fix≤c.st.mem.length
 |.Cu u::_=>fr.fn=c.f ∧ ∃cv,fr.leaving P w (.panicked [{v:=cv,recovered:=false}])∧VA g w u cv∧Rel g c.st.mem w∧c.st.fix≤c.st.mem.length
 |.jT u::_=> ∃(b:Frame) (a:Act) (todo:List Item) (cv:Value),fr={b.atR a todo with mode:=dG (some cv) false}∧b.fn=c.f∧fQ g c.st.cR b∧Mk g c.st.dj a.defers∧dc E g c.st a w∧VA g w u cv
 |.leave::_=> ∃(b:Frame) (a:Act) (todo:List Item),fr={b.atR a todo with mode:= .returning}∧b.fn=c.f∧fQ g c.st.cR b∧(∀i,c.st.cR ≠ .round i)∧c.st.dj=[]∧a.defers=[]∧dc E g c.st a w
 |_=> ∃(b:Frame) (a:Act),fr=b.atR a (eM c.todo)∧b.fn=c.f∧fQ g c.st.cR b∧Mk g c.st.dj a.defers∧dc E g c.st a w ∧ ∀x∈c.todo,It.pl x
def fY (P:Program) (E:Env) (g:Gh) (c:cw) (fr:Frame) (w:World) (c':cw):Prop:=
 ∀cs,∃g' fr' w',Steps P (lone fr cs w) (lone fr' cs w')∧dZ P E g' c' fr' w'∧dU g c.st.mem w g' c'.st.mem w'∧bZ g g' c.st.fix∧c'.f=c.f∧c'.st.fix=c.st.fix∧c'.st.cR=c.st.cR
def an (P:Program) (E:Env) (f:FuncId) (args:List AV) (m:Mem) (v:AV) (m':Mem):Prop:=
 (∃fn,P.funcs[f]? = some fn∧fn.body.isSome=true∧(fn.name == "runtime.NumGoroutine")=false) ∧
 ∀(g:Gh) (w:World) (dL:Array Value) (cs:List Frame),Rel g m w→dz g w args dL.toList→iO E g w →
  ∃w' g' cv fr,Steps P (lone (xc P f dL .normal) cs w) (lone fr cs w')∧fr.leaving P w' (.returned cv)∧fr.fn=f ∧
   VA g' w' v cv∧Rel g' m' w'∧dU g m w g' m' w'∧bZ g g' m.length∧m.length≤m'.length
def Qo (P:Program) (E:Env) (f:FuncId) (args:List AV) (m:Mem) (v:AV) (m':Mem):Prop:=
 (∃fn,P.funcs[f]? = some fn∧fn.body.isSome=true∧(fn.name == "runtime.NumGoroutine")=false) ∧
 ∀(g:Gh) (w:World) (dL:Array Value) (cs:List Frame),Rel g m w→dz g w args dL.toList→iO E g w →
  ∃w' g' cv fr,Steps P (lone (xc P f dL .normal) cs w) (lone fr cs w')∧fr.leaving P w' (.panicked [{v:=cv,recovered:=false}])∧fr.fn=f ∧
   VA g' w' v cv∧Rel g' m' w'∧dU g m w g' m' w'∧bZ g g' m.length∧m.length≤m'.length
def Qp (g:Gh) (w:World):Option AV→Option Value→Prop
 |none,none=>True
 |some u,some v=>VA g w u v
 |_,_=>False
def Qq (P:Program) (E:Env) (f:FuncId) (args:List AV) (m:Mem) (pv:Option AV) (m':Mem):Prop:=
 (∃fn,P.funcs[f]? = some fn∧fn.body.isSome=true∧(fn.name == "runtime.NumGoroutine")=false) ∧
 ∀(g:Gh) (w:World) (dL:Array Value) (vJ:Option Value) (c0:Frame) (cs:List Frame),c0.mode=dG vJ false→Qp g w pv vJ→Rel g m w→dz g w args dL.toList→iO E g w →
  ∃w' g' cv fr,Steps P (lone (xc P f dL .deferred) (c0::cs) w) (lone fr ({c0 with mode:=dG vJ true}::cs) w')∧fr.going P w' (.returned cv)∧fr.kind = .deferred ∧
   Rel g' m' w'∧dU g m w g' m' w'∧bZ g g' m.length∧m.length≤m'.length
def L2 (P:Program) (E:Env) (args:List AV) (m:Mem) (v:AV) (m':Mem):Prop:=
 ∀(g:Gh) (w:World) (i l:Nat) (xs:List AV) (Wq:Array Value) (c:Frame) (cs:List Frame),args = .vy i::xs→Rel g m w→g.cm i=some l→dz g w xs Wq.toList→iO E g w →
  ∃f tmps as bd w' g' cv,(Instr.yield l Wq).run P w = .ok (.round l f tmps as bd) w∧Steps P (lone (Frame.round l f tmps as bd .normal) (c::cs) w) (lone (c.finish cv) cs w') ∧
   VA g' w' v cv∧Rel g' m' w'∧dU g m w g' m' w'∧bZ g g' m.length∧m.length≤m'.length
section
variable {P:Program} {E:Env} {g:Gh} {w:World}
theorem iY {st:St} {a:Act} (h:dc E g st a w) (x:Operand):VA g w (ev E st.tm x) (a.eval x):=by
 cases x with
 |tmp t=>exact h.tm t
 |const v=>exact VA.VW v
 |global i=>
  simp only[ev,Act.eval]
  cases hg:E.cX i with
  |none=>exact .p _ _ (.sc _)
  |some cs=>exact .p _ _ (h.cX i cs hg)
 |func f=>exact VA.fns.2 ⟨#[],#[],rfl,trivial,trivial⟩
theorem mO (tm:zV) (d k:Nat) (v:AV):look ((d,v)::tm) k=if d=k then v else look tm k:=by
 simp only[look]
 by_cases h:d=k
 · subst h;simp[rl]
 · have:ai d k=false:=by rw[j2];intro e;exact h (ag e)
   simp[this,h]
theorem dc.put {st:St} {a:Act} {g':Gh} {w':World} {m':Mem} (h:dc E g st a w) {dst:Option Tmp} {v:AV} {cv:Value} (hf:fits st dst=true) (hv:VA g' w' v cv) (he:Ext g w g' w') (hr:Rel g' m' w') (hx:st.fix≤m'.length) :
  dc E g' (Am.put {st with mem:=m'} dst v) (a.put dst cv) w':=by
 cases dst with
 |none=>exact⟨fun k=>(h.tm k).mono he,h.nt,hr,hx,h.cX.mono he.pure⟩
 |some d=>
  have hd:d<a.tmps.size:=by rw[h.nt];simpa[fits,db] using hf
  refine⟨fun k=> ?_,by simp[Act.put,Am.put,h.nt],hr,hx,h.cX.mono he.pure⟩
  simp only[Am.put,mO,Act.put]
  by_cases hk:d=k
  · subst hk
    simp only[if_true,lv,Array.getElem?_setIfInBounds_self_of_lt hd,Option.getD_some]
    exact hv
  · simp only[hk,if_false,lv]
    rw[Array.getElem?_setIfInBounds_ne hk,←lv]
    exact(h.tm k).mono he
theorem dc.known {st:St} {a:Act} (h:dc E g st a w) {d:Nat} {v:AV} (hv:VA g w v (a.tmps.getD d undef)):dc E g (Am.put st (some d) v) a w:=by
 refine⟨fun k=> ?_,h.nt,h.rel,h.fix,h.cX⟩
 simp only[Am.put,mO]
 by_cases hk:d=k
 · subst hk;simp only[if_true];exact hv
 · simp only[hk,if_false];exact h.tm k
theorem rH {k n:Nat} (h:k<n):pw k (n-k)=k::pw (k+1) (n-(k+1)):=by
 rw[show n-k=(n-(k+1))+1 by omega,List.range'_succ]
theorem semAt_eq {o:Oper} {ro:Option Nat} {ρ:Operand→Value} {n:Next} {w':World} (hr:(execOp ρ o).run P w = .ok n w') (hn : ∀d,n ≠ .defer d):o.semAt ro ρ=execOp ρ o:=by
 unfold Oper.semAt
 cases ro with
 |none=>rfl
 |some l=>
  cases ho:o.op<;>first
   |rfl
   |(exfalso
     simp only[execOp,ho,kv] at hr
     revert hr
     cases(resolve ρ _ o.type).run P w<;>intro hr<;>simp[ra] at hr
     exact hn _ hr.1.symm)
theorem vK {b:Frame} {a:Act} {k:List Item} {cs:List Frame} {w':World} {ops:Array Oper} {i:Nat} {rest:List Nat} {o:Oper} {v:Value} (ho:ops[i]? = some o) (hw:xf o (yielded ops a.tmps)=true)
  (hr:(execOp a.eval o).run P w = .ok (.value v) w'∨((execOp a.eval o).run P w = .ok .skip w'∧v=undef)) :
  _root_.Go.step P (lone (b.atR a (.inRegion ops (i::rest)::k)) cs w) = .next (lone (b.atR (a.put o.dst v) (.inRegion ops rest::k)) cs w'):=by
 have hg:=stepGR_op (P:=P) (b:=b) (k:=k) (cs:=cs) (w:=w) (rest:=rest) ho hw
 have rI:(b.atR a (.inRegion ops (i::rest)::k)).finish v=b.atR (a.put o.dst v) (.inRegion ops rest::k):=by rw[Frame.finish_atR,ho];rfl
 refine step_lone_go ?_
 rw[hg,←rI]
 rcases hr with hr | ⟨hr,rfl⟩
 · rw[semAt_eq hr fun _ e=>by cases e];simp[stepG.apply,hr]
 · rw[semAt_eq hr fun _ e=>by cases e];simp[stepG.apply,hr]
theorem uE {b:Frame} {a:Act} {k:List Item} {cs:List Frame} {w':World} {ops:Array Oper} {i:Nat} {rest:List Nat} {o:Oper} {f:FuncId} {args:Array Value} (ho:ops[i]? = some o) (hw:xf o (yielded ops a.tmps)=true)
  (hr:(execOp a.eval o).run P w = .ok (.enter f args) w') :
  _root_.Go.step P (lone (b.atR a (.inRegion ops (i::rest)::k)) cs w) = .next (lone (xc P f args .normal) (b.atR a (.inRegion ops (i::rest)::k)::cs) w'):=by
 have hg:=stepGR_op (P:=P) (b:=b) (k:=k) (cs:=cs) (w:=w) (rest:=rest) ho hw
 exact step_lone_go (by rw[hg,semAt_eq hr fun _ e=>by cases e];simp[stepG.apply,hr,Frame.atR])
theorem sY {st:St} {a:Act} (h:dc E g st a w) {ops:Array Oper} {o:Oper} :
  (fA ops st.tm o = .yes→xf o (yielded ops a.tmps)=true)∧(fA ops st.tm o = .no→xf o (yielded ops a.tmps)=false) ∧
  (∀d b want,fA ops st.tm o = .ask d b want→xf o (yielded ops a.tmps)=(b==want)∧a.tmps.getD d undef = .bool b):=by
 unfold fA xf
 cases hg:o.guard with
 |none=>simp
 |some q=>
  obtain⟨j,want⟩:=q
  simp only[yielded]
  cases hj:ops[j]? with
  |none=>simp
  |some oj=>
   simp only[s0]
   cases hd:oj.dst with
   |none=>simp
   |some d=>
    simp only[s0]
    have hv:=h.tm d
    have mE:a.tmps.getD d undef=(a.tmps[d]?).getD undef:=by rw[lv]
    generalize hz:a.tmps.getD d undef=z at hv mE
    generalize hl:look st.tm d=x at hv
    cases hv with
    |p pv cv hp=>
     cases hp with
     |sc=>
      cases z with
      |bool b=>
       have:a.tmps[d]? = some (.bool b):=by
        cases ha:a.tmps[d]? with
        |none=>rw[ha] at mE;cases mE
        |some u=>rw[ha] at mE;simp at mE;rw[mE]
       refine⟨fun h=>(by cases h),fun h=>(by cases h),?_⟩
       rintro d' b' w' e
       cases e
       refine⟨?_,hz⟩
       simp only[this]
       cases b<;>cases want<;>rfl
      |_=>exact⟨fun h=>(by cases h),fun h=>(by cases h),fun _ _ _ h=>(by cases h)⟩
     |_=>exact⟨fun h=>(by cases h),fun h=>(by cases h),fun _ _ _ h=>(by cases h)⟩
    |aD l cs hl' hh=>
     refine⟨fun h=>(by cases h),fun _=> ?_,fun _ _ _ h=>(by cases h)⟩
     cases ha:a.tmps[d]? with
     |none=>simp
     |some u=>
      rw[ha] at mE;simp at mE
      subst mE
      simp
    |_=>exact⟨fun h=>(by cases h),fun h=>(by cases h),fun _ _ _ h=>(by cases h)⟩
end
end Go.Am
end
