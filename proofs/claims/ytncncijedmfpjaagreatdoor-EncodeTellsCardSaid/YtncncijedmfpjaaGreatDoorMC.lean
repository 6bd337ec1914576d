import Derived.Test.YtncncijedmfpjaaGreatDoorMB
import Derived.IntWalk
import Derived.Lib.Builder
import Derived.DeepKeys3
import Derived.MapKept
import Derived.Lib.UnsafeStr
open Array renaming length_toList→gn,getElem?_modify→ls,getElem?_eq_getElem→gl,size_append→lv,getElem?_toList→lL,range→hZ,getElem?_push→gv,toList_map→hP,getD→ma
open List renaming take_of_length_le→ea,length_append→dC,getD_eq_getElem?_getD→de,getElem?_set_self→mb,length_take→eh,getElem?_set_ne→mc,getElem?_cons_zero→mf,getElem?_cons_succ→mi,length_cons→ml,getElem?_toArray→mr,getElem_map→dE,mem_of_getElem?→mv,mem_of_mem_take→dt,length_map→my,mem_append→na,getElem?_take→dq,set_set→nb,take_take→nc,take_append_of_le_length→np,replicate→db,getElem?_append_left→nz,getElem?_eq_getElem→da,length_eq_zero_iff→od,length_set→ed,length→oe,getElem?_drop→dv,size_toArray→oi,mem_map→fb,take_length→ov,take_set→oE,set_comm→oR
open Go.Sem renaming run_bind→jb,run_pure→jn
open Bool renaming and_eq_true→di,false_eq_true→o0,or_eq_false_iff→o6,not_false→pa,or_eq_true→iu,false_or→pb
open Go.Result renaming andThen_ok→j1,andThen→pf
open Nat renaming le_of_ble_eq_true→fg,eq_of_beq_eq_true→be,le_refl→c9,mul_le_mul_right→fl,min_eq_left→ph,add_mul→pj,add_zero→pk,zero_add→pn,ble_eq_true_of_le→po,eq_zero_or_pos→pr,mul_eq_zero→pt,mod_lt→pw,ble→bc,le_of_eq→px,sub_mul→fv,beq_eq→fi
open Option.some renaming injEq→dk
open Prod.mk renaming injEq→ja
open Go.Instr renaming makeSlice→py,buildSlice→pA,storeAt→pB,sureAddr→kh,alloc→pC
open Option renaming map_eq_some_iff→ib
open Go.World renaming alloc_eq→pD,size_drew→qf,shape?→qs,drew_eq→ra,freeze→rb
open Go.IntKind renaming i64→re
open Int renaming toNat_of_nonneg→rh,natCast_mul→ri,ofNat_le→rk
open Go.Question renaming appendCap→rl,forced→rp
open Go.Builtin renaming zeroCells→rr,append_→rv,firstCells→lh,lenOf→lj,nextslicecap→sa
open Go.Value renaming int→sb
open UInt8 renaming ofNat→sd
open ByteArray renaming emptyWithCapacity→se,empty→sf
section
namespace Go.Am
open Go.RowKit
theorem heap_setCell {w:World} {c o:Nat} {v:Value} {cs:Array Value} {e:TypeId} {n:Nat×Nat} (h:w.heap[c]? = some (.cells cs e n)) :
  (w.setCell ⟨c,o,none⟩ v).heap[c]? = some (.cells (cs.setIfInBounds o v) e n) ∧ ∀k,k≠c→(w.setCell ⟨c,o,none⟩ v).heap[k]? = w.heap[k]? :=by
 refine⟨?_,fun k hk=>Below.heap_setCell _ _ _ _ hk⟩
 simp[World.setCell,ls,h]
section ops
variable {P:Program} {g:Gh} {m:Mem} {w:World}
theorem iO (c off:Nat) : ∀(vs:List Value) (i:Nat) (w:World) (cs:Array Value) (e:TypeId) (n:Nat×Nat),w.heap[c]? = some (.cells cs e n) →
  (∀j,j<vs.length→n.2≤n.1∨off+i+j<n.1)→off+i+vs.length≤cs.size→(∀v∈vs,v.oneCell'=true) →
  ∃w' cs',(storeCells ⟨c,off,none⟩ vs i).run P w = .ok () w'∧w'.heap[c]? = some (.cells cs' e n)∧cs'.toList=dz cs.toList (off+i) vs∧(∀k,k≠c→w'.heap[k]? = w.heap[k]?) ∧
   w'.heap.size=w.heap.size∧w'.os=w.os∧w'.tape=w.tape∧w'.output=w.output
 |[],i,w,cs,e,n,h,_,_,_=>⟨w,cs,rfl,h,rfl,fun _ _=>rfl,rfl,rfl,rfl,rfl⟩
 |v::vs,i,w,cs,e,n,h,hf,hl,h1=>by
  simp only[ml] at hl
  obtain⟨k1,k2⟩:=heap_setCell (o:=off+i) (v:=v) h
  have hcell:w.cell? ⟨c,off+i,none⟩=some cs[off+i]:=by rw[bD h,gl (by omega)]
  have hfz:w.frozen? ⟨c,off+i,none⟩=false:=by
   have:=hf 0 (by simp)
   simp only[World.frozen?,h,Bool.and_eq_false_iff,decide_eq_false_iff_not]
   omega
  obtain⟨w',cs',q1,q2,q3,q4,q5,q6,q7,q8⟩:=iO c off vs (i+1) (w.setCell ⟨c,off+i,none⟩ v) (cs.setIfInBounds (off+i) v) e n k1
   (fun j hj=>by have:=hf (j+1) (by simp;omega);omega) (by simp;omega) (fun u hu=>h1 u (.tail _ hu))
  refine⟨w',cs',?_,q2,?_,fun k hk=>(q4 k hk).trans (k2 k hk),q5.trans (by simp),q6,q7,q8⟩
  · simp only[storeCells,jb,dg,run_store P w _ v _ (h1 v (.head _)),hcell,hfz,o0,if_false,j1,q1]
  · rw[q3];simp[dz,Nat.add_assoc]
theorem wM {α:Type} (f:Nat→α) (n:Nat) (h:n=0):((hZ n).map f).toList=[]:=by subst h;simp
theorem gX {α:Type} : ∀(n l:List α) (o:Nat),(dz l o n).length=l.length
 |[],_,_=>rfl
 |x::n,l,o=>by simp[dz,gX n]
theorem ES {α β:Type} (f:α→β) : ∀(n l:List α) (o:Nat),(dz l o n).map f=dz (l.map f) o (n.map f)
 |[],_,_=>rfl
 |x::n,l,o=>by simp[dz,ES f n,List.map_set]
theorem wN {α:Type} : ∀(n l:List α) (o k:Nat),k<o∨o+n.length≤k→(dz l o n)[k]? = l[k]?
 |[],_,_,_,_=>rfl
 |x::n,l,o,k,h=>by
  simp only[ml] at h
  rw[dz,wN n _ (o+1) k (by omega),mc (by omega)]
theorem ET {α:Type} : ∀(n l:List α) (o k:Nat) (_:k<n.length),o+n.length≤l.length→(dz l o n)[o+k]? = n[k]?
 |x::n,l,o,0,_,h=>by
  simp only[ml] at h
  simp only[dz,pk]
  rw[wN n _ (o+1) o (.inl (Nat.lt_succ_self _)),mb (by omega)]
  rfl
 |x::n,l,o,k+1,hk,h=>by
  simp only[ml] at h
  have hk:k<n.length:=by simpa using hk
  simp only[dz,show o+(k+1)=o+1+k by omega]
  rw[ET n _ (o+1) k hk (by rw[ed];omega)]
  simp
 |[],_,_,_,hk,_=>by simp at hk
theorem EU {g:Gh} {w:World} {v:AV} {cv:Value} (h:VA g w v cv):VA g w (EF v) cv:=by
 unfold EF
 split
 · cases h with
   |os tok len sz cells a cap h hr=>exact .p _ _ h
 · exact h
theorem oa {g:Gh} {w:World} : ∀{l:List AV} {cs:List Value},dj g w l cs→dj g w (l.map EF) cs
 |[],[],_=>trivial
 |_::_,_::_,h=>⟨EU h.1,oa h.2⟩
 |[],_::_,h=>h.elim
 |_::_,[],h=>h.elim
theorem wO {g:Gh} {w:World} {q:Bool} {l:List AV} {cs:List Value} (h:dj g w l cs):dj g w (N7 q l) cs:=by
 cases q with
 |true=>exact oa h
 |false=>exact h
theorem wP (q:Bool) (l:List AV):(N7 q l).length=l.length:=by
 cases q with
 |true=>exact my ..
 |false=>rfl
theorem kB {b b':bq} {off:Nat} {vs:List AV} (h:rm b off vs=some (b',true)):(∃l,b.cells?=some l∧b'.cells?=some (dz l off vs)∧off+vs.length≤l.length) ∨
  (∃t q l,b = .ob (.gr t q) l∧b' = .ob (.gr t q) (dz l off (N7 q vs))∧off+(N7 q vs).length≤l.length) ∨
  ∃t pre l,b = .ob (.stk t pre) l∧b' = .ob (.stk t pre) (dz l (off-pre.length) vs)∧pre.length≤off∧off-pre.length+vs.length≤l.length:=by
 unfold rm at h
 split at h
 · rename_i l
   split at h
   · rename_i aJ hp
     simp only[dk,ja] at h
     obtain⟨rfl,h1⟩:=h
     refine .inl ⟨l.map .p,rfl,?_,by simpa using fg h1⟩
     simp[bq.cells?,ES,rD hp]
   · simp only[dk,ja] at h
     obtain⟨rfl,h1⟩:=h
     exact .inl ⟨l.map .p,rfl,rfl,by simpa using fg h1⟩
 · rename_i l
   simp only[dk,ja] at h
   obtain⟨rfl,h1⟩:=h
   exact .inl ⟨l,rfl,rfl,fg h1⟩
 · rename_i t pq l
   simp only[dk,ja] at h
   obtain⟨rfl,h1⟩:=h
   exact .inr (.inl ⟨_,_,l,rfl,rfl,by rw[wP];exact fg h1⟩)
 · rename_i t pre l
   simp only[dk,ja,di] at h
   obtain⟨rfl,h1,h2⟩:=h
   exact .inr (.inr ⟨_,_,l,rfl,rfl,fg h1,fg h2⟩)
 · cases h
theorem uC {α:Type} : ∀(n pre l:List α) (o:Nat),pre.length≤o→dz (pre++l) o n=pre++dz l (o-pre.length) n
 |[],_,_,_,_=>rfl
 |v::n,pre,l,o,h=>by
  simp only[dz]
  rw[List.set_append_right _ _ h,uC n pre _ (o+1) (by omega)]
  congr 2
  omega
theorem A1 {α:Type} : ∀(n l:List α) (o k:Nat),o+n.length≤k→(dz l o n).take k=dz (l.take k) o n
 |[],_,_,_,_=>rfl
 |v::n,l,o,k,h=>by
  simp only[ml] at h
  simp only[dz]
  rw[A1 n (l.set o v) (o+1) k (by omega),oE]
theorem Rel.wQ {m:Mem} {w w':World} (h:Rel g m w) {b c:Nat} {k xs:List AV} {us:List Value} {off:Nat} {cs cs':Array Value} {e t:TypeId} {pq:Bool} {n:Nat×Nat} (hb:m[b]? = some (.ob (.gr t pq) k)) (hc:g.bX b=some c) (hcs:w.heap[c]? = some (.cells cs e n))
  (hx:dj g w xs us) (hone : ∀v∈us,v.oneCell'=true) (hroom:off+xs.length≤k.length) (hl:cs'.toList=dz cs.toList off us)
  (hw : ∀j,j≠c→w'.heap[j]? = w.heap[j]?) (hs:w'.heap.size=w.heap.size) (ho:w'.os=w.os) (ht:w'.tape=w.tape) (hu:w'.output=w.output) (hh:w'.heap[c]? = some (.cells cs' e n)) :
  Rel g (m.set b (.ob (.gr t pq) (dz k off xs))) w'∧Ext g w g w'∧dF g m w g (m.set b (.ob (.gr t pq) (dz k off xs))) w':=by
 obtain⟨c',ob,vs,h1,h2,h3,h4,h5,h6⟩:=h.obs b _ _ hb
 rw[hc] at h1;cases h1
 obtain⟨cs0,e0,n0,rfl,qt,q0,q1,q2,q3⟩:=h4
 rw[hcs] at h2;cases h2
 have nG:=h3.len
 have hxl:=hx.len
 have hsz:cs'.size=cs.size:=by
  have:=congrArg oe hl
  rw[gX] at this;simpa using this
 have hvl:(dz vs off us).length=vs.length:=gX _ _ _
 refine h.lA (N1:= .gr t pq) (l':=dz k off xs) (vs':=dz vs off us) hb hc hw hs ho ht hu hh ⟨cs',e,n,rfl,qt,q0,?_,by omega,fun v hv=> ?_⟩ (h3.dz off hx) (by show cs'.size=g.hi b;rw[hsz];exact h6)
 · rw[hvl,hl,A1 us cs.toList off vs.length (by omega),←q1]
 · rw[hl] at hv
   exact kr _ _ _ q3 hone v hv
theorem Ai (h:Rel g m w) {t:TypeId} {a v r:AV} {ca cv:Value} {us:oX} (ha:VA g w a ca) (hv:VA g w v cv) (he:rq P (fun i=>m.getD i .dead) t a v=some (r,us,true)) :
  ∃w',(pB t ca cv).run P w = .ok () w'∧r = .aK []∧Rel g (apply m us) w'∧Ext g w g w'∧dF g m w g (apply m us) w':=by
 unfold rq at he
 split at he
 · rename_i b off n hsz
   split at he
   · rename_i b' ok hp
     simp only[dk,ja,di,fi] at he
     obtain⟨rfl,rfl,⟨rfl,h1⟩,h2⟩:=he
     obtain⟨k1,k2⟩:=lM h1 hv
     cases ha with
     |mp _ _ c hc=>
     have hsize:cv.cells.size=n:=by have nG:=k1.len;simp at nG;omega
     rcases kB hp with⟨l,hl,hl',hroom⟩ | ⟨t0,pq,l,hl,rfl,hroom⟩ | ⟨t0,pre,l,hl,rfl,hpre,hroom⟩
     case inr.inr=>
      have hm:m[b]? = some (.ob (.stk t0 pre) l):=getD_some hl (by simp)
      obtain⟨hg,hs0⟩:=h.HZ hm
      have TM:=bS hm
      have hgb:(m.set b (.ob (.gr t0 false) (exactly pre++l)))[b]? = some (.ob (.gr t0 false) (exactly pre++l)):=by rw[mb TM]
      obtain⟨c',ob,vs,h1',h2',h3',h4',h5',h6'⟩:=hg.obs b _ _ hgb
      rw[hc] at h1';cases h1'
      obtain⟨cs,e,q,rfl,_,q0,q1,q2,q3⟩:=h4'
      have hlen:=h3'.len
      have nG:=k1.len
      rw[dC,bV] at hlen
      simp at nG
      obtain⟨w',cs',p1,p2,p3,p4,p5,p6,p7,p8⟩:=iO (P:=P) c off cv.cells.toList 0 w cs e q h2' (fun _ _=> .inl q0) (by simp;omega) k2
      simp only[pk] at p3
      obtain⟨r1,r2,r3⟩:=hg.wQ hgb hc h2' k1 k2 (by rw[dC,bV];omega) p3 p4 p5 p6 p7 p8 p2
      rw[uC _ _ _ _ (by rw[bV];exact hpre),bV,nb] at r1 r3
      obtain⟨z1,z2⟩:=r1.Ox (b:=b) (by rw[mb TM])
      rw[nb] at z1 z2
      exact⟨w',by simp[pB,kh,storeVar,br hsz,hsize,p1],rfl,z1,r2,(hs0.trans r3).trans z2⟩
     case inr.inl=>
      have hm:m[b]? = some (.ob (.gr t0 pq) l):=getD_some hl (by simp)
      obtain⟨c',ob,vs,h1',h2',h3',h4',h5',h6'⟩:=h.obs b _ _ hm
      rw[hc] at h1';cases h1'
      obtain⟨cs,e,q,rfl,_,q0,q1,q2,q3⟩:=h4'
      have hlen:=h3'.len
      have nG:=k1.len
      have YC:=hroom
      rw[wP] at YC
      simp at nG
      obtain⟨w',cs',p1,p2,p3,p4,p5,p6,p7,p8⟩:=iO (P:=P) c off cv.cells.toList 0 w cs e q h2' (fun _ _=> .inl q0) (by simp;omega) k2
      simp only[pk] at p3
      obtain⟨r1,r2,r3⟩:=h.wQ hm hc h2' (wO k1) k2 hroom p3 p4 p5 p6 p7 p8 p2
      exact⟨w',by simp[pB,kh,storeVar,br hsz,hsize,p1],rfl,r1,r2,r3⟩
     have hm:m[b]? = some (m.getD b .dead):=getD_some rfl (fun e=>by
      have hl:(m.getD b .dead).cells?=some l:=hl
      rw[e] at hl;cases hl)
     obtain⟨c',cs,e,q,q1,q2,q3,q4,q5⟩:=h.cells b _ l hm hl
     rw[hc] at q1;cases q1
     have hlen:=q4.1.len
     have nG:=k1.len
     simp at hlen nG
     obtain⟨w',cs',p1,p2,p3,p4,p5,p6,p7,p8⟩:=iO (P:=P) c off cv.cells.toList 0 w cs e q q2 (fun _ _=> .inl q3) (by simp;omega) k2
     simp only[pk] at p3
     obtain⟨r1,r2,r3⟩:=h.write (b':=b') hm hl hc hl' p4 p5 p6 p7 p8 p2 q3 (by rw[p3];exact⟨q4.1.dz off k1,kr _ _ _ q4.2 k2⟩)
     refine⟨w',?_,rfl,r1,r2,r3⟩
     simp[pB,kh,storeVar,br hsz,hsize,p1]
   · cases he
 · cases he
theorem Aj (h:Rel g m w) {bF:Nat} (hn:m[bF]? = some .free) {t:TypeId} {a:AV} {us:oX} {ok:Bool} (he:CG P bF t=some (a,us,ok)) {ty:TypeId} {pos:String} {o:Oper} {cQ:Operand→Value} (ho:o.op = .alloc t) (_:ty=ty) (_:pos=pos) :
  cO g m w ((execOp cQ o).run P w) a (apply m us):=by
 unfold CG at he
 simp only[ib,ja] at he
 obtain⟨l,hz,rfl,rfl,rfl⟩:=he
 obtain⟨z,TK,TL⟩:=cW (g:=g) (w:=w) hz
 refine cO.alloc h hn (nV l) TL (e:=t) (v:= .pointer (some ⟨w.heap.size,0,none⟩)) ?_ fun g' hg=> .mp bF 0 _ hg
 simp[execOp,ho,pC,TK,newVar,newRow]
theorem wR (h:Rel g m w) {bF:Nat} (hn:m[bF]? = some .free) {t:TypeId} {a:AV} {us:oX} {ok:Bool} (he:we P bF t=some (a,us,ok)) {o:Oper} {cQ:Operand→Value} (ho:o.op = .alloc t) :
  cO g m w ((execOp cQ o).run P w) a (apply m us):=by
 unfold we at he
 simp only[ib,ja] at he
 obtain⟨l,hz,rfl,rfl,rfl⟩:=he
 obtain⟨z,TK,TL⟩:=cW (g:=g) (w:=w) hz
 have hlen:=TL.1.len
 obtain⟨r1,r2,r3⟩:=h.rF z.cells.size (ob:= .gr t false) (l:=l) (vs:=z.cells.toList) hn TL.1 (eS w (.cells z.cells t)) ⟨z.cells,t,(0,0),rfl,rfl,c9 _,(ea (c9 _)).symm,by simp,TL.2⟩ rfl
 refine⟨.pointer (some ⟨w.heap.size,0,none⟩),_,_,.inl ?_,.mp bF 0 _ (by simp[Gh.put]),r1,r2,r3⟩
 simp[execOp,ho,pC,TK,newVar,newRow]
theorem EV (h:Rel g m w) {bF:Nat} (hn:m[bF]? = some .free) {v a:AV} {cv:Value} {us:oX} (hv:VA g w v cv) (he:N8 bF v=some (a,us,true)) {t:TypeId} {r:Result Next} (hr:r = .ok (.value (.pointer (some ⟨w.heap.size,0,none⟩))) (w.alloc (.cells cv.cells t))) :
  cO g m w r a (apply m us):=by
 unfold N8 at he
 simp only[dk,ja] at he
 obtain⟨rfl,rfl,h1⟩:=he
 exact cO.alloc h hn (nV _) (lM h1 hv) (e:=t) hr fun g' hg=> .mp bF 0 _ hg
theorem cO.A2 (h:Rel g m w) {len size:Nat} {aJ:List PV} {cs:Array Value} {e:TypeId} (hv:JQ g w aJ cs.toList) (ho : ∀v∈cs.toList,v.oneCell'=true) (hl:cs.size=len*size) (TK:1≤size) {r:Result Next}
  (hr:r = .ok (.value (.slice (some ⟨w.heap.size,0,none⟩) len len)) (w.alloc (.cells cs e))):cO g m w r (.os none len size aJ) m:=by
 obtain⟨h1,h2,h3⟩:=h.qZ (eS w (.cells cs e))
 have Ey:=hv.len
 simp at Ey
 refine⟨_,_,_,.inl hr,.os none len size aJ _ len ?_ (.inl rfl),h1,h2,h3⟩
 refine .ps len size aJ w.heap.size 0 len (fun k=>cs.getD k undef) (by omega) (c9 _) TK (fun k hk=> ?_) fun k hk=> ?_
 · have:k<cs.size:=by omega
   refine⟨.inr ⟨rfl,by omega,by omega⟩,?_,by simpa[ma,this] using ho cs[k] (by simp)⟩
   rw[bD (eS w (.cells cs e)).new]
   simp[ma,this]
 · have:k<cs.size:=by omega
   have hk2:=hv.get k hk (by simpa using this)
   simp only[ma,this,dite_true]
   exact hk2.mono h2.pure
theorem uD {elem:TypeId} {wr:Bool} {cells:List AV} {aJ:List PV} (h:HT P elem wr cells=some aJ):kV cells=some aJ:=by
 unfold HT at h
 split at h
 · cases h
 · exact h
theorem qD (h:Rel g m w) {bF:Nat} (hn:m[bF]? = some .free) {wr:Bool} {t:TypeId} {len:Nat} {parts:List (Nat×AV)} {kA:Array (Nat×Value)} {a:AV} {us:oX}
  (he:mK P wr bF t len parts=some (a,us,true)) (hp:bP (fun a b=>a.1=b.1∧VA g w a.2 b.2) parts kA.toList) :
  cO g m w (((do pure (.value (←pA t len kA)):Sem Next)).run P w) a (apply m us):=by
 unfold mK at he
 split at he
 · rename_i elem hu
   split at he
   · rename_i size z hsz hz
     split at he
     · rename_i cells ok hf
       obtain⟨size',z0,e1,e2,e3,e4,rfl⟩:=Oz hz
       rw[hsz] at e1;cases e1
       obtain⟨zv,z1,z2⟩:=cW (g:=g) (w:=w) e2
       have hzl:=z2.1.len
       simp at hzl
       have hzs:zv.cells.size=size:=by omega
       have key : ∀(b:Bool),ok=true→bc (len*size) 16777216=true →
        ∃CY,(pA t len kA).run P w = .ok (.slice (some ⟨w.heap.size,0,none⟩) len len) (w.alloc (.cells CY elem))∧HF g w cells CY.toList∧CY.size=len*size:=by
        intro _ hok hle
        subst hok
        have hle:=fg hle
        have EW:HF g w (cV z0 len) ((hZ (len*size)).map ((if len*size=0 then #[] else zv.cells)[· % (if len*size=0 then #[] else zv.cells).size]!)).toList:=by
         by_cases e:len*size=0
         · have:len=0:=by rcases pt.1 e with k | k<;>omega
           rw[wM _ _ e,this];exact⟨trivial,fun _ h=>by cases h⟩
         · simp only[e,if_false]
           have h1:=tE z2.1 len
           have h2:=CZ z2.2 len
           rw[hzs] at h1 h2 ⊢;exact⟨h1,h2⟩
        obtain⟨CY,f1,f2,f3⟩:=lB hp EW hf
        refine⟨CY,?_,f2,by rw[f3];simp⟩
        have hnot : ¬(len*size>2 ^ 24):=by omega
        clear EW f2 f3
        by_cases e:len*size=0
        · simp only[e,if_true] at f1 hnot
          simp only[pA,jb,run_underlying hu,j1,br hsz,hnot,if_false,e,if_true,f1,newRow,run_newObj,pD,jn]
        · simp only[e,if_false] at f1
          simp only[pA,jb,run_underlying hu,j1,br hsz,hnot,if_false,e,z1,f1,newRow,run_newObj,pD,jn]
       split at he
       · rename_i aJ H6
         simp only[dk,ja,di] at he
         obtain⟨rfl,rfl,hok,hle⟩:=he
         obtain⟨CY,k1,k2,k3⟩:=key true hok hle
         exact cO.A2 (e:=elem) h (eo (uD H6) k2.1) k2.2 k3 (by omega) (by simp[k1])
       · rename_i aJ H6
         simp only[dk,ja,di] at he
         obtain⟨rfl,rfl,hok,hle⟩:=he
         obtain⟨CY,k1,k2,k3⟩:=key true hok hle
         have hpp:=eo (uD H6) k2.1
         have Ak:dj g w (aJ.map .p) CY.toList:=bP.cY (by simpa using hpp.len) fun i a b=>by
          have:=hpp.get i (by simpa using a) b
          rw[dE];exact .p _ _ this
         obtain⟨r1,r2,r3⟩:=h.rF CY.size (ob:= .gr elem true) (l:=aJ.map .p) (vs:=CY.toList) hn Ak (eS w (.cells CY elem)) ⟨CY,elem,(0,0),rfl,rfl,c9 _,(ea (c9 _)).symm,by simp,k2.2⟩ rfl
         exact⟨_,_,_,.inl (by simp[k1]),.mg bF 0 len size len w.heap.size (by simp[Gh.put]) (c9 _) (by simp[Gh.put];omega),r1,r2,r3⟩
       · simp only[dk,ja,di] at he
         obtain⟨rfl,rfl,hok,hle⟩:=he
         obtain⟨CY,k1,k2,k3⟩:=key true hok hle
         exact cO.alloc h hn (nV _) k2 (e:=elem) (v:= .slice (some ⟨w.heap.size,0,none⟩) len len) (by simp[k1]) fun g' hg=> .ms bF 0 len size len _ hg (c9 _)
     · cases he
   · cases he
 · cases he
theorem tF {n:Int} (h0:0≤n) (h1:n≤9223372036854775807):re.wrap n=n:=IntWalk.i64_in n ⟨by omega,h1⟩
theorem rM (h:Rel g m w) {bF:Nat} (hn:m[bF]? = some .free) {t:TypeId} {len cap a:AV} {cl cc:Value} {us:oX}
  (hl:VA g w len cl) (hc:VA g w cap cc) (he:nO P bF t len cap=some (a,us,true)) :
  cO g m w (((do pure (.value (←py t cl cc)):Sem Next)).run P w) a (apply m us):=by
 unfold nO at he
 split at he
 · rename_i elem k l k' c hu
   rw[VA.pv] at hl hc
   cases hl;cases hc
   split at he
   · rename_i info bX hi hb
     simp only[dk,ja,di,decide_eq_true_eq] at he
     obtain⟨rfl,rfl,⟨⟨h0,h1⟩,h2⟩,h3⟩:=he
     have h2:=fg h2
     have h3:=fg h3
     unfold aR at h2 h3
     obtain⟨size,z,e1,e2,e3,e4,e5⟩:=OA hb
     have hsize:size=info.size:=by simp[gd,hi] at e1;exact e1.symm
     obtain⟨zv,z1,z2⟩:=cW (g:=g) (w:=w) e2
     have hzl:=z2.1.len
     simp at hzl
     have hzs:zv.cells.size=size:=by omega
     have hw1:re.wrap l=l:=tF h0 (by omega)
     have hw2:re.wrap c=c:=tF (by omega) (by omega)
     have hcn:(c.toNat:Int)=c:=rh (by omega)
     have Al:(info.bytes:Int)*c≤70368744177664:=by
      have:((info.bytes*c.toNat:Nat):Int)≤70368744177664:=rk.2 h3
      rwa [ri,hcn] at this
     have EW:HF g w (cV z c.toNat) ((hZ (c.toNat*size)).map ((if c.toNat*size=0 then #[] else zv.cells)[· % (if c.toNat*size=0 then #[] else zv.cells).size]!)).toList:=by
      by_cases e:c.toNat*size=0
      · have:c.toNat=0:=by rcases pt.1 e with k | k<;>omega
        rw[wM _ _ e,this];exact⟨trivial,fun _ h=>by cases h⟩
      · simp only[e,if_false]
        have h1:=tE z2.1 c.toNat
        have h2:=CZ z2.2 c.toNat
        rw[hzs] at h1 h2 ⊢;exact⟨h1,h2⟩
     have hsz:gd P elem=some size:=e1
     refine cO.alloc h hn e5 EW (e:=elem) (v:= .slice (some ⟨w.heap.size,0,none⟩) l.toNat c.toNat) ?_ fun g' hg=>hsize ▸ .ms bF 0 l.toNat size c.toNat _ hg (by omega)
     have t1:(decide (c<0)||decide ((info.bytes:Int)*c>2 ^ 48))=false:=by simp only[o6,decide_eq_false_iff_not];omega
     have t2:((decide (c<0)||decide ((info.bytes:Int)*c>2 ^ 48))||decide (l<0)||decide (l>c))=false:=by rw[t1,pb,o6,decide_eq_false_iff_not,decide_eq_false_iff_not];exact⟨by omega,by omega⟩
     by_cases e:c.toNat*size=0
     · simp only[py,jb,run_underlying hu,j1,asInt,asIntOf,jn,fC hi,hw1,hw2,t2,o0,if_false,run_askRoom,br hsz,e,if_true,newRow,run_newObj,pD]
     · simp only[py,jb,run_underlying hu,j1,asInt,asIntOf,jn,fC hi,hw1,hw2,t2,o0,if_false,run_askRoom,br hsz,e,z1,newRow,run_newObj,pD]
   · cases he
 · cases he
theorem uE {α:Type} (v:α) : ∀n,cV [v] n=db n v
 |0=>rfl
 |n+1=>by rw[cV,uE v n];rfl
theorem nv {z:AV} {pv:PV} (h:ED z=some pv) : ∀n,kV (db n z)=some (db n pv)
 |0=>rfl
 |n+1=>by simp only[List.replicate_succ,kV,h,nv h n]
theorem tG (h:Rel g m w) {t:TypeId} {len cap a:AV} {cl cc:Value} {us:oX}
  (hl:VA g w len cl) (hc:VA g w cap cc) (he:qx P t len cap=some (a,us,true)) :
  cO g m w (((do pure (.value (←py t cl cc)):Sem Next)).run P w) a (apply m us):=by
 unfold qx at he
 split at he
 · rename_i elem k l k' c hu
   rw[VA.pv] at hl hc
   cases hl;cases hc
   split at he
   · rename_i info z hi hz
     split at he
     · rename_i pv H6
       simp only[dk,ja,di,decide_eq_true_eq] at he
       obtain⟨rfl,rfl,h0,rfl,h1,h2,h3⟩:=he
       have h1:=be h1
       have h2:=fg h2
       have h3:=fg h3
       unfold aR at h2 h3
       have hsz:gd P elem=some 1:=by simp[gd,hi,h1]
       obtain⟨zv,z1,z2⟩:=cW (g:=g) (w:=w) hz
       have hzl:=z2.1.len
       simp at hzl
       have hzs:zv.cells.size=1:=by omega
       have hw1:re.wrap l=l:=tF h0 (by omega)
       have hcn:(l.toNat:Int)=l:=rh h0
       have Al:(info.bytes:Int)*l≤70368744177664:=by
        have:((info.bytes*l.toNat:Nat):Int)≤70368744177664:=rk.2 h3
        rwa [ri,hcn] at this
       have EW:HF g w (cV [z] l.toNat) ((hZ (l.toNat*1)).map ((if l.toNat*1=0 then #[] else zv.cells)[· % (if l.toNat*1=0 then #[] else zv.cells).size]!)).toList:=by
        by_cases e:l.toNat*1=0
        · have:l.toNat=0:=by omega
          rw[wM _ _ e,this];exact⟨trivial,fun _ h=>by cases h⟩
        · simp only[e,if_false]
          have k1:=tE z2.1 l.toNat
          have k2:=CZ z2.2 l.toNat
          rw[hzs] at k1 k2 ⊢;exact⟨k1,k2⟩
       rw[uE] at EW
       have t1:(decide (l<0)||decide ((info.bytes:Int)*l>2 ^ 48))=false:=by simp only[o6,decide_eq_false_iff_not];omega
       have t2:((decide (l<0)||decide ((info.bytes:Int)*l>2 ^ 48))||decide (l<0)||decide (l>l))=false:=by rw[t1,pb,o6,decide_eq_false_iff_not,decide_eq_false_iff_not];exact⟨by omega,by omega⟩
       refine cO.A2 (e:=elem) h (eo (nv H6 _) EW.1) EW.2 (by simp) (c9 1) ?_
       by_cases e:l.toNat*1=0
       · simp only[py,jb,run_underlying hu,j1,asInt,asIntOf,jn,fC hi,hw1,t2,o0,if_false,run_askRoom,br hsz,e,if_true,newRow,run_newObj,pD]
       · simp only[py,jb,run_underlying hu,j1,asInt,asIntOf,jn,fC hi,hw1,t2,o0,if_false,run_askRoom,br hsz,e,z1,newRow,run_newObj,pD]
     · cases he
   · cases he
 · cases he
end ops
end Go.Am
end
section
namespace Go.Am
open Go.RowKit
section ops
variable {P:Program} {g:Gh} {m:Mem} {w:World}
theorem VP.mk {len sz cap b o:Nat} {cells:List PV} {us:List Value} (h:JQ g w cells us) (hl:us.length=len*sz) (hc:len≤cap) (hz:1≤sz)
  (hu : ∀k v,us[k]? = some v→w.cell? ⟨b,o+k,none⟩=some v∧g.pure b (o+k)∧v.oneCell'=true):VP g w (.ps len sz cells) (.slice (some ⟨b,o,none⟩) len cap):=by
 have LD:=h.len
 refine .ps len sz cells b o cap (fun k=>us.getD k undef) (by omega) hc hz (fun k hk=> ?_) fun k hk=> ?_
 · have:us[k]? = some us[k]:=da (by omega)
   obtain⟨h1,h2,h3⟩:=hu k _ this
   exact⟨h2,by rw[h1,de,this];rfl,by rw[de,this];exact h3⟩
 · have:us[k]? = some us[k]:=da (by omega)
   rw[de,this]
   exact h.get k hk (by omega)
theorem OB {len sz cap:Nat} {cs:List PV} {ad:Option Addr} (h:VP g w (.ps len sz cs) (.slice ad len cap)) : ∀b o,(ad=some ⟨b,o,none⟩∨len=0) →
  ∃us,JQ g w cs us∧us.length=len*sz ∧ ∀k v,us[k]? = some v→w.cell? ⟨b,o+k,none⟩=some v∧g.pure b (o+k)∧v.oneCell'=true:=by
 intro b o ha
 cases h with
 |ps _ _ _ b' o' cap f hl hc hz hp hv=>
  rcases ha with ha | rfl
  · cases ha
    refine⟨(List.range cs.length).map f,bP.cY (by simp) fun i hi _=>by simpa using hv i hi,by simp[hl],fun k v hk=> ?_⟩
    simp only[List.getElem?_map,ib] at hk
    obtain⟨j,hj,rfl⟩:=hk
    obtain⟨hlt,hj⟩:=List.getElem?_eq_some_iff.1 hj
    simp at hlt hj;subst hj
    exact⟨(hp k hlt).2.1,(hp k hlt).1,(hp k hlt).2.2⟩
  · simp at hl;subst hl
    exact⟨[],trivial,by simp,fun k v hk=>by simp at hk⟩
 |qA=>exact⟨[],trivial,by simp,fun k v hk=>by simp at hk⟩
theorem An {bF:Nat} {tok:Option Nat} {us:oX} (hn:m[bF]? = some .free) (h:oZ (fun i=>m.getD i .dead) bF tok=some us) (hr:Rel g m w) :
  ∃m1:Mem,apply m us=m1.set bF .tok∧m1[bF]? = some .free∧Rel g m1 w∧dF g m w g m1 w ∧ ∀t,tok=some t→m[t]? = some .tok∧m1=m.set t .dead:=by
 unfold oZ at h
 split at h
 · simp only[dk] at h;subst h
   exact⟨m,rfl,hn,hr,dF.refl g m w,fun t e=>by cases e⟩
 · rename_i t
   split at h
   · rename_i ht
     simp only[dk] at h;subst h
     have ht:=getD_some ht (by simp)
     have hne:t≠bF:=fun e=>by subst e;rw[ht] at hn;cases hn
     obtain⟨k1,k2⟩:=hr.kill t
     refine⟨m.set t .dead,rfl,by rw[mc hne];exact hn,k1,k2,fun t' e=>by cases e;exact⟨ht,rfl⟩⟩
   · cases h
theorem tD.drew {sz n:Nat} {x:AV} {cx:Value} {aJ:List PV} (h:Rel g m w) (hx:VA g w x cx) (he:contents (fun i=>m.getD i .dead) sz x=some (n,aJ,true)):tD P g w.drew sz n aJ cx:=by
 obtain⟨h1,h2,_⟩:=h.kq (w':=w.drew) rfl rfl rfl rfl
 exact fP h1 he (hx.mono h2)
theorem lN (need old:Nat) (elem:TypeId) (t:Nat):need≤(rl need old elem).cut t:=by simp[Question.cut]
theorem wT (h:Rel g m w) {bF:Nat} (hn:m[bF]? = some .free) {argTypes:Array TypeId} {ty:TypeId} {s x a:AV} {cs cx:Value} {us:oX}
  (hs:VA g w s cs) (hx:VA g w x cx) (he:jh P (fun i=>m.getD i .dead) bF argTypes s x=some (a,us,true)) :
  cO g m w (((do pure (.value (←rv argTypes ty #[cs,cx])):Sem Next)).run P w) a (apply m us):=by
 unfold jh at he
 split at he
 · rename_i sType xType hs0 hx0
   split at he
   · cases he
   · rename_i elem d hd hu tH
     split at he
     · rename_i info z hi hz
       split at he
       · rename_i n aJ ok tok len sz cells gA
         simp only[ib,ja,di] at he
         obtain⟨us',htk,rfl,rfl,⟨⟨⟨⟨rfl,h1⟩,h2⟩,h3⟩,h4⟩,h5⟩:=he
         have h2:=fg h2
         have h3:=be h3
         have h4:=fg h4
         have h5:=fg h5
         unfold aR at h4 h5
         obtain⟨zv,z1,z2⟩:=cW (g:=g) (w:=w) hz
         have hzl:=z2.1.len
         simp only[gn] at hzl
         have hzs:zv.cells.size=info.size:=by omega
         have hsz:gd P elem=some info.size:=by simp[gd,hi]
         obtain⟨m1,e1,e2,e3,e4,e5⟩:=An hn htk h
         cases hs with
         |os _ _ _ _ ad cap hps Ae=>
         have EX:VP g w (.ps len info.size cells) (.slice ad len cap):=jN hps (by
          rw[iu] at h1 ⊢
          refine h1.imp id fun k=> ?_
          simp only[di] at k ⊢
          exact⟨k.1,po h2⟩)
         obtain⟨_,_,_,q,hcap⟩:=mS EX
         cases q
         rw[e1]
         by_cases eB:len+n≤cap
         ·
          obtain⟨vx,x1,x2,hone,x3,x4⟩:=fP (P:=P) h gA hx
          have x5:=x4 n (c9 _)
          rw[ea (by omega)] at x5
          rcases Ae with hfull | ⟨t,b,o,rfl,rfl,t1,t2,t3,t4⟩
          · have hn0:n=0:=by omega
            subst hn0
            have Ao:vx=[]:=od.1 (by simpa using x2)
            subst Ao
            have H6:aJ=[]:=by cases aJ with
             |nil=>rfl
             |cons _ _=>exact x1.elim
            subst H6
            obtain⟨r1,r2⟩:=e3.rE e2
            refine⟨.slice ad (len+0) cap,w,g,.inl ?_,?_,r1,Ext.refl g w,e4.trans r2⟩
            · simp only[rv,hs0,hx0,mr,mf,mi,jb,run_underlying hu,j1,br hsz,run_underlying tH,jn,o0,if_false,x3,eB,if_true,pa,x5]
              cases ad<;>simp[storeCells]
            · rw[List.append_nil]
              exact .os _ _ _ _ _ _ (by simpa using EX) (.inl (by simpa using hfull))
          ·
           obtain⟨m1t,m1e⟩:=e5 t rfl
           have hsize:sz=info.size:=by simpa using h1
           subst hsize
           obtain⟨TN,e,q,k1,k2,k3,k4⟩:=h.tok t b m1t t1
           have hmul:(len+n)*info.size=len*info.size+n*info.size:=pj _ _ _
           have YD:(len+n)*info.size≤cap*info.size:=fl _ eB
           obtain⟨w',X6,p1,p2,p3,p4,p5,p6,p7,p8⟩:=iO (P:=P) b (o+len*info.size) vx 0 w TN e q k1 (fun j hj=>k3.imp id fun k3=>by omega) (by omega) hone
           simp only[pk] at p3
           have ajP:X6.size=TN.size:=by
            have:=congrArg oe p3
            rw[gX] at this;simpa using this
           have hsp:=h.spare (k:=n*info.size) m1t t1 hn k1 (by omega) p4 p5 p6 p7 p8 p2 ajP (fun c hc=>by
            have:X6.toList[c]? = TN.toList[c]? :=by rw[p3];exact wN _ _ _ _ (by omega)
            simpa using this)
           obtain⟨r1,r2,r3⟩:=hsp
           rw[m1e]
           refine⟨.slice (some ⟨b,o,none⟩) (len+n) cap,w',_,.inl ?_,?_,r1,r2,r3⟩
           · have YE:(⟨b,o,none⟩:Addr).add (len*info.size)=⟨b,o+len*info.size,none⟩:=dg _ _ _
             simp only[rv,hs0,hx0,mr,mf,mi,jb,run_underlying hu,j1,br hsz,run_underlying tH,jn,o0,if_false,x3,eB,if_true,pa,x5,YE,p1]
           · obtain⟨us,u1,u2,u3⟩:=OB EX b o (.inl rfl)
             refine .os _ _ _ _ _ _ (VP.mk (us:=us++vx) ((bP.mono (fun _ _=>VP.mono r2.pure) u1).append (bP.mono (fun _ _=>VP.mono r2.pure) x1)) (by simp;omega) eB h2 fun k v hk=> ?_) (.inr ⟨bF,b,o,rfl,rfl,by simp[Gh.put,Gh.more],by simp[Gh.put,Gh.more];omega,by simp[Gh.put,Gh.more,t3],eB⟩)
             rw[List.getElem?_append] at hk
             by_cases hlt:k<us.length
             · rw[if_pos hlt] at hk
               obtain⟨v1,v2,v3⟩:=u3 k v hk
               exact⟨(r2.pure _ _ v2).2.trans v1,(r2.pure _ _ v2).1,v3⟩
             · rw[if_neg hlt] at hk
               have hk':=bS hk
               have hnew:=ET vx TN.toList (o+len*info.size) (k-us.length) hk' (by simp;omega)
               rw[←p3,hk] at hnew
               refine⟨?_,.inr ⟨rfl,by omega,by omega⟩,hone v (mv hk)⟩
               rw[bD p2]
               rw[show o+len*info.size+(k-us.length)=o+k by omega] at hnew
               simpa using hnew
         ·
          obtain⟨d1,d2,d3⟩:=h.kq (w':=w.drew) rfl rfl rfl rfl
          obtain⟨_,_,_,_,l3,_⟩:=fP (P:=P) h gA hx
          obtain⟨vx,x1,x2,hone,x3,x4⟩:=tD.drew (P:=P) h hx gA
          have x5:=x4 n (c9 _)
          rw[ea (by omega)] at x5
          obtain⟨vs,s1,s2,TO,s3,s4⟩:=lZ (P:=P) (EX.mono d2.pure)
          have s5:=s4 len (c9 _)
          rw[ea (by omega)] at s5
          have lC:=lN (len+n) cap elem (w.tape w.drawn (.appendCap (len+n) cap elem))
          generalize hnc:(rl (len+n) cap elem).cut (w.tape w.drawn (.appendCap (len+n) cap elem))=newCap at lC
          have OC:(rr zv.cells (newCap-(len+n))).size=(newCap-(len+n))*info.size:=by simp[rr,hzs]
          have hall:(vs.toArray++vx.toArray++rr zv.cells (newCap-(len+n))).size=newCap*info.size:=by
           simp only[lv,oi,OC,s2,x2]
           rw[fv,pj]
           have:=fl info.size lC
           rw[pj] at this
           omega
          generalize C0:vs.toArray++vx.toArray++rr zv.cells (newCap-(len+n))=all at hall
          have wU:qB w (w.drew.alloc (.cells all elem)) (.cells all elem):=⟨rfl,rfl,rfl,rfl⟩
          have hmul:(len+n)*info.size=len*info.size+n*info.size:=pj _ _ _
          have hle:(len+n)*info.size≤all.size:=by rw[hall];exact fl _ lC
          obtain⟨r1,r2,r3⟩:=e3.fresh (k:=(len+n)*info.size) e2 wU hle (.inl (c9 _))
          refine⟨.slice (some ⟨w.heap.size,0,none⟩) (len+n) newCap,_,_,.inl ?_,?_,r1,r2,e4.trans r3⟩
          · have YF : ¬(((len+n:Nat):Int)>re.max):=by
             rw[show re.max=9223372036854775807 from by decide];omega
            have hgrow : ¬(sa (len+n) cap*info.bytes>2 ^ 48):=by
             have:=growslice_fits (need:=len+n) (old:=cap) (bytes:=info.bytes) (by omega) (by omega)
             omega
            simp only[rv,hs0,hx0,mr,mf,mi,jb,run_underlying hu,j1,br hsz,run_underlying tH,jn,o0,if_false,l3,eB,pa,YF,false_and,fC hi,hgrow,run_choose,rp,hnc,ra,run_askRoom,s5,x5,z1,C0,if_true,newRow,run_newObj,pD,qf]
          · have hnew:(w.drew.alloc (.cells all elem)).heap[w.heap.size]? = some (.cells all elem):=wU.new
            have oc:all.toList=vs++vx++(rr zv.cells (newCap-(len+n))).toList:=by rw[←C0];simp
            refine .os _ _ _ _ _ _ (VP.mk (us:=vs++vx) ?_ (by simp;omega) lC h2 fun k v hk=> ?_) (.inr ⟨bF,w.heap.size,0,rfl,rfl,by simp[Gh.put,Gh.more],by simp[Gh.put,Gh.more],by simp[Gh.put,Gh.more,hall],lC⟩)
            · exact(bP.mono (fun _ _=>VP.mono (g:=g) (w:=w.drew) (fun c o p=>⟨(r2.pure c o p).1,(r2.pure c o p).2⟩)) s1).append (bP.mono (fun _ _=>VP.mono (g:=g) (w:=w.drew) (fun c o p=>⟨(r2.pure c o p).1,(r2.pure c o p).2⟩)) x1)
            · have hk':=bS hk
              simp only[dC] at hk'
              refine⟨?_,.inr ⟨rfl,by omega,by omega⟩,?_⟩
              · rw[bD hnew,←lL,oc,pn,nz (by simpa using hk')]
                exact hk
              · rcases na.1 (mv hk) with q | q
                · exact TO v q
                · exact hone v q
       · cases he
     · cases he
   · cases he
 · cases he
set_option linter.unusedVariables false in
theorem C1 (h:Rel g m w) {argTypes:Array TypeId} {ty:TypeId} {d s a:AV} {cd cx:Value} {us:oX}
  (hd:VA g w d cd) (hx:VA g w s cx) (he:tv P (fun i=>m.getD i .dead) argTypes d s=some (a,us,true)) :
  cO g m w (((do pure (.value (←Builtin.copy_ argTypes ty #[cd,cx])):Sem Next)).run P w) a (apply m us):=by
 unfold tv at he
 cases he
theorem OD {aJ:List PV} {vs:List Value} (h:JQ g w aJ vs) (hb:aJ.all isByte=true) : ∃ns:List Int,vs=ns.map (sb .u8)∧aJ.map byteOf=ns.map fun n=>sd n.toNat:=by
 induction aJ generalizing vs with
 |nil=>cases vs with
  |nil=>exact⟨[],rfl,rfl⟩
  |cons _ _=>exact h.elim
 |cons p aJ ih=>
  cases vs with
  |nil=>exact h.elim
  |cons v vs=>
   simp only[List.all_cons,di] at hb
   obtain⟨ns,e1,e2⟩:=ih h.2 hb.2
   have h1:=h.1
   cases h1 with
   |sc=>
    cases v<;>simp only[isByte,o0,false_and] at hb
    rename_i k n
    cases k<;>simp only[o0,false_and] at hb
    exact⟨n::ns,by rw[e1];rfl,by rw[List.map_cons,e2];rfl⟩
   |_=>simp[isByte] at hb
theorem H7 (w:World) (all:Array Value) (e:TypeId) :
  (w.alloc (.cells all e)).freeze {block:=w.heap.size,off:=all.size} 1={w with heap:=w.heap.push (.cells all e (all.size,all.size+1))}:=by
 simp only[rb,World.alloc]
 rw[if_neg (by decide)]
 congr 1
 apply Array.ext_getElem?
 intro j
 rw[ls,gv,gv]
 by_cases hj:j=w.heap.size
 · subst hj;simp
 · rw[if_neg (fun h=>hj h.symm),if_neg hj,if_neg hj]
theorem LF (w:World) (all:Array Value) (e:TypeId):(w.alloc (.cells all e)).shape? w.heap.size=some (e,all.size):=by
 simp only[qs,(eS w (.cells all e)).new]
theorem foldl_push : ∀(ns:List Int) (s:ByteArray),ns.foldl (fun r n=>r.push (sd n.toNat)) s=⟨(s.data.toList++ns.map fun n=>sd n.toNat).toArray⟩
 |[],s=>by cases s;simp
 |n::ns,s=>by
  rw[List.foldl_cons,foldl_push ns]
  cases s
  simp[ByteArray.push]
theorem Rel.JS {m:Mem} (h:Rel g m w) {b c:Nat} {l:List PV} (hb:m[b]? = some (.pc l)) (hc:g.bX b=some c) :
  Rel (g.more c 0 l.length) (m.set b .dead) w∧Ext g w (g.more c 0 l.length) w∧dF g m w (g.more c 0 l.length) (m.set b .dead) w:=by
 obtain⟨c',cs,e,n,k1,k2,k3,k4,k5⟩:=h.cells b _ _ hb rfl
 rw[hc] at k1;cases k1
 have hlen:=k4.1.len
 simp only[my,gn] at hlen
 have ext:Ext g w (g.more c 0 l.length) w:=⟨fun _ _ h=>⟨h,rfl,rfl⟩,fun _ _ p=>⟨.inl p,rfl⟩⟩
 have ne : ∀j x c',j≠b→m[j]? = some x→x.dc=true→g.bX j=some c'→c'≠c:=fun j x c' rN hj ho fk e=>rN (h.inj j b x _ c hj hb ho rfl (e▸fk) hc)
 refine⟨⟨fun j hj=>h.tA j (by simpa using hj),fun j hj=> ?_,fun j x k hj hk=> ?_,fun j c' hj fk=> ?_,fun j k x x' c' hj hk ho ho' gu gQ=> ?_,fun c' o p=> ?_,fun j kk ll hj=> ?_⟩,ext,⟨c9 _,fun _ _ _=>rfl,fun _ _ p=>⟨.inl p,rfl⟩,fun c' o p=> ?_,fun c' ho=> ?_,rfl,rfl,rfl⟩⟩
 · rcases aY hj with⟨_,e⟩ | ⟨_,e⟩
   · cases e
   · exact h.free j e
 · rcases aY hj with⟨_,e⟩ | ⟨rN,e⟩
   · subst e;cases hk
   · obtain⟨c1,cs1,e1,n1,q1,q2,q3,q4,q5⟩:=h.cells j x k e hk
     refine⟨c1,cs1,e1,n1,q1,q2,q3,q4.mono ext,fun o p=> ?_⟩
     rcases p with p | ⟨rfl,_⟩
     · exact q5 o p
     · exact ne j x _ rN e (dn hk) q1 rfl
 · rcases aY hj with⟨_,e⟩ | ⟨rN,e⟩
   · cases e
   · obtain⟨cs1,e1,n1,q2,q3,q4,q5⟩:=h.tok j c' e fk
     refine⟨cs1,e1,n1,q2,q3,q4,fun o a b p=> ?_⟩
     rcases p with p | ⟨rfl,_⟩
     · exact q5 o a b p
     · exact ne j _ _ rN e rfl fk rfl
 · rcases aY hj with⟨_,e⟩ | ⟨_,e⟩
   · subst e;simp[bq.dc] at ho
   · rcases aY hk with⟨_,e'⟩ | ⟨_,e'⟩
     · subst e';simp[bq.dc] at ho'
     · exact h.inj j k x x' c' e e' ho ho' gu gQ
 · rcases p with p | ⟨rfl,_,p⟩
   · exact h.there c' o p
   · exact⟨cs[o],by rw[bD k2,gl (by omega)]⟩
 · rcases aY hj with⟨_,e⟩ | ⟨rN,e⟩
   · cases e
   · obtain⟨c1,o1,vs1,q1,q2,q3,q4,q5,q6⟩:=h.obs j kk ll e
     exact⟨c1,o1,vs1,q1,q2,q3.mono ext,q4,fun o p=>p.elim (q5 o) fun q=>ne j _ c1 rN e rfl q1 q.1,q6⟩
 · rcases p with p | ⟨rfl,_⟩
   · exact .inl p
   · exact .inr (.inl ⟨b,_,hb,rfl,hc⟩)
 · rcases tB ho with⟨q,_⟩ | ⟨j,x,_,q1,q2,q3⟩
   · simp[bq.dc] at q
   · exact .inl ⟨j,x,q1,q2,q3⟩
theorem Rel.YG {m:Mem} {w':World} {c:Nat} {cs:Array Value} {e:TypeId} {n n':Nat×Nat} (h:Rel g m w) (hno : ¬fH g m c) (h1:w.heap[c]? = some (.cells cs e n)) (h2:w'.heap[c]? = some (.cells cs e n'))
  (h3 : ∀k,k≠c→w'.heap[k]? = w.heap[k]?):Rel g m w'∧Ext g w g w':=by
 have hcell : ∀b o,w'.cell? ⟨b,o,none⟩=w.cell? ⟨b,o,none⟩:=by
  intro b o
  by_cases e:b=c
  · subst e;rw[bD h1,bD h2]
  · exact ej (h3 b e)
 have ext:Ext g w g w':=⟨fun _ _ q=>⟨q,rfl,rfl⟩,fun b o p=>⟨p,hcell b o⟩⟩
 have ne : ∀j x c',m[j]? = some x→x.dc=true→g.bX j=some c'→c'≠c:=fun j x c' hj ho fk e=>hno ⟨j,x,hj,ho,e▸fk⟩
 refine⟨⟨h.tA,h.free,fun j x k hj hk=> ?_,fun j c' hj fk=> ?_,h.inj,fun b o p=> ?_,fun j kk ll hj=> ?_⟩,ext⟩
 · obtain⟨c1,cs1,e1,n1,q1,q2,q3,q4,q5⟩:=h.cells j x k hj hk
   exact⟨c1,cs1,e1,n1,q1,(h3 c1 (ne j x c1 hj (dn hk) q1)).trans q2,q3,q4.mono ext,q5⟩
 · obtain⟨cs1,e1,n1,q2,q3,q4,q5⟩:=h.tok j c' hj fk
   exact⟨cs1,e1,n1,(h3 c' (ne j _ c' hj rfl fk)).trans q2,q3,q4,q5⟩
 · obtain⟨v,hv⟩:=h.there b o p
   exact⟨v,(hcell b o).trans hv⟩
 · obtain⟨c1,o1,vs1,q1,q2,q3,q4⟩:=h.obs j kk ll hj
   exact⟨c1,o1,vs1,q1,(h3 c1 (ne j _ c1 hj rfl q1)).trans q2,q3.mono ext,q4⟩
theorem C2 (w:World) {c off:Nat} {cs:Array Value} {e:TypeId} {n:Nat×Nat} (h:w.heap[c]? = some (.cells cs e n)) :
  (∃n',(w.freeze ⟨c,off,none⟩ 1).heap[c]? = some (.cells cs e n'))∧(∀k,k≠c→(w.freeze ⟨c,off,none⟩ 1).heap[k]? = w.heap[k]?)∧(w.freeze ⟨c,off,none⟩ 1).heap.size=w.heap.size ∧
    (w.freeze ⟨c,off,none⟩ 1).os=w.os∧(w.freeze ⟨c,off,none⟩ 1).tape=w.tape∧(w.freeze ⟨c,off,none⟩ 1).output=w.output:=by
 unfold rb
 rw[if_neg (by decide)]
 refine⟨?_,fun k hk=> ?_,by simp,rfl,rfl,rfl⟩
 · obtain⟨lo,hi⟩:=n
   refine⟨if lo==hi then(off,off+1) else(min lo off,max hi (off+1)),?_⟩
   show(w.heap.modify c _)[c]? = _
   rw[ls,if_pos rfl,h]
   rfl
 · show(w.heap.modify c _)[k]? = _
   rw[ls,if_neg (fun e=>hk e.symm)]
theorem LG {e count n:Nat} (hc:1≤P.cellsOf e) (hn:n≤count):liesAt P P.depth e count 0 e n=true:=by
 have hd:P.depth=(2*(P.types.size+Made.depth)+1)+1:=rfl
 rw[hd]
 simp only[liesAt,iu]
 left
 rw[hd]
 have h0 : ¬P.cellsOf e=0:=by omega
 simp[rowAt,hn,sameLayout,h0]
theorem vn (h:Rel g m w) {bF:Nat} (hn:m[bF]? = some .free) {ρ:Operand→AV} {cQ:Operand→Value} {o:Oper} (hr : ∀x,VA g w (ρ x) (cQ x)) {src dst:TypeId} {x:Operand}
  (ho:o.op = .convert src dst x) {a:AV} {us:oX} (he:convertOp P (fun i=>m.getD i .dead) bF ρ o src dst (ρ x)=some (a,us,true)) :
  cO g m w ((execOp cQ o).run P w) a (apply m us):=by
 have hx:=hr x
 have lD:(execOp cQ o).run P w=((convert src dst (cQ x)).run P w).andThen fun v w'=> .ok (.value v) w':=by simp only[execOp,ho,jb,jn]
 unfold convertOp at he
 split at he
 · rename_i k k' n JT OE
   split at he
   · rename_i d C3
     simp only[dk,ja,and_true] at he
     obtain⟨rfl,rfl⟩:=he
     rw[OE,VA.pv] at hx
     generalize hz:cQ x=z at hx lD
     cases hx
     refine cO.quiet h (v:= .int k (k.wrap n)) ?_ (.p _ _ (.sc _))
     rw[lD]
     simp[convert,run_underlying C3,run_underlying JT,Conv.intToInt]
   · cases he
 · rename_i s JT OE
   split at he
   · rename_i C3
     simp only[dk,ja,and_true] at he
     obtain⟨rfl,rfl⟩:=he
     rw[OE,VA.pv] at hx
     generalize hz:cQ x=z at hx lD
     cases hx
     refine cO.quiet h (v:= .string s) ?_ (.p _ _ (.sc _))
     rw[lD]
     simp[convert,run_underlying C3,run_underlying JT]
   · cases he
 · rename_i e s JT OE
   split at he
   · rename_i C3 hue
     simp only[dk,ja,and_true] at he
     obtain⟨rfl,rfl⟩:=he
     rw[OE,VA.pv] at hx
     generalize hz:cQ x=z at hx lD
     cases hx
     have lC:=lN s.size 0 e (w.tape w.drawn (.appendCap s.size 0 e))
     generalize hnc:(rl s.size 0 e).cut (w.tape w.drawn (.appendCap s.size 0 e))=newCap at lC
     generalize C0:(s.data.map fun b=>(sb .u8 b.toNat))++Array.replicate (newCap-s.size) (sb .u8 0)=all
     have hss:s.data.toList.length=s.size:=gn
     have hall:all.size=newCap:=by
      rw[←C0];simp only[lv,Array.size_map,Array.size_replicate]
      have:s.data.size=s.size:=rfl
      omega
     have wU:qB w ({w.drew with heap:=w.heap.push (.cells all e (all.size,all.size+1))}:World) (.cells all e (all.size,all.size+1)):=⟨rfl,rfl,rfl,rfl⟩
     obtain⟨r1,r2,r3⟩:=h.fresh (k:=s.size) hn wU (by omega) (.inr (c9 _))
     refine⟨.slice (some ⟨w.heap.size,0,none⟩) s.size newCap,_,_,.inl ?_,?_,r1,r2,r3⟩
     · rw[lD]
       have hsh:=LF w.drew all e
       have hfz:=H7 w.drew all e
       rw[qf] at hsh hfz
       simp only[convert,jb,run_underlying C3,run_underlying JT,run_underlying hue,j1,Conv.stringToBytes,run_choose,rp,o0,if_false,hnc,ra,C0,newRow,run_newObj,pD,jn,markStringish,run_shape,qf,hsh,run_freeze,hfz]
       rfl
     · rw[hss]
       have oc:all.toList=(s.data.toList.map fun b=>(sb .u8 b.toNat))++db (newCap-s.size) (sb .u8 0):=by rw[←C0];simp
       refine .os _ _ _ _ _ _ (VP.mk (us:=s.data.toList.map fun b=>(sb .u8 b.toNat)) (bP.cY (by simp) fun i a b=>by simp only[dE];exact .sc _) (by simp[hss]) lC (c9 _) fun k v hk=> ?_) (.inr ⟨bF,w.heap.size,0,rfl,rfl,by simp[Gh.put,Gh.more],by simp[Gh.put,Gh.more],by simp[Gh.put,Gh.more,hall],lC⟩)
       have hk':=bS hk
       rw[my,hss] at hk'
       refine⟨?_,.inr ⟨rfl,by omega,by omega⟩,?_⟩
       · rw[bD wU.new,←lL,oc,pn,nz (by rw[my,hss];exact hk')]
         exact hk
       · obtain⟨b,_,rfl⟩:=fb.1 (mv hk);rfl
   · cases he
 · rename_i e b off len sz cap JT OE
   split at he
   · rename_i e' l C3 hue hb
     simp only[dk,ja,di] at he
     obtain⟨rfl,rfl,h1,h2,h3⟩:=he
     have h1:=be h1
     have h2:=be h2
     have h3:=fg h3
     subst h1;subst h2
     obtain rfl:e'=e:=by have:=C3.symm.trans JT;cases this;rfl
     rw[OE] at hx
     generalize hz:cQ x=z at hx lD
     cases hx with
     |ms _ _ _ _ cap c hc hcap=>
     have zZ:=getD_some hb (by simp)
     obtain⟨c',cs,et,n,k1,k2,k3,k4,k5⟩:=h.cells b _ _ zZ rfl
     rw[hc] at k1;cases k1
     have hlen:=k4.1.len
     simp only[my,gn] at hlen
     obtain⟨r1,r2,r3⟩:=h.JS zZ hc
     obtain⟨⟨n',f1⟩,f2,f3,f4,f5,f6⟩:=C2 w (off:=cs.size) k2
     have hno : ¬fH (g.more c 0 l.length) (m.set b .dead) c:=by
      rintro ⟨j,x,hj,ho,HH⟩
      rcases aY hj with⟨_,e⟩ | ⟨rN,e⟩
      · subst e;simp[bq.dc] at ho
      · exact rN (h.inj j b x _ c e zZ ho rfl HH hc)
     obtain⟨s1,s2⟩:=r1.YG hno k2 f1 f2
     have hVP:JQ g w l cs.toList:=bP.cY (by simpa using k4.1.len) fun i a b=>by
      have:=k4.1.get i (by simpa using a) b
      rw[dE,VA.pv] at this
      exact this
     have hpure : ∀o,o<l.length→(g.more c 0 l.length).pure c o:=fun o ho=> .inr ⟨rfl,Nat.zero_le _,ho⟩
     refine⟨.slice (some ⟨c,off,none⟩) len cap,_,_,.inl ?_,.p _ _ (VP.mk (us:=(cs.toList.drop off).take len) (bP.mono (fun _ _ q=>VP.mono (r2.trans s2).pure q) ((hVP.drop off).take len)) (by simp;omega) hcap (c9 _) fun k v hk=> ?_),s1,r2.trans s2,⟨by rw[f3];exact c9 _,fun k _ hn=>f2 k fun e=>hn (e▸⟨b,_,zZ,rfl,hc⟩),fun b o p=>(r2.trans s2).pure b o p,r3.fresh,r3.owned,f4,f5,f6⟩⟩
     · rw[lD]
       have hsh:w.shape? c=some (et,cs.size):=by simp only[qs,k2]
       simp only[convert,jb,run_underlying C3,run_underlying hue,j1,beq_self_eq_true,markStringish,run_shape,hsh,run_freeze,jn]
     · rw[dq] at hk
       split at hk
       · rename_i hlt
         rw[dv] at hk
         have hk':=bS hk
         refine⟨by rw[bD f1];simpa using hk,hpure (off+k) (by omega),k4.2 v (mv hk)⟩
       · cases hk
   · cases he
 · rename_i b off JT OE
   split at he
   · rename_i t ty l C3 hb
     split at he
     · rename_i j hj
       simp only[dk,ja,di] at he
       obtain⟨rfl,rfl,h1,h2⟩:=he
       have h1:=fg h1
       have h2:=fg h2
       rw[OE] at hx
       generalize hz:cQ x=z at hx lD
       cases hx with
       |mp _ _ c hc=>
       obtain⟨c',ob,vs,k1,k2,k3,k4,_,_⟩:=h.obs b _ _ (getD_some hb (by simp))
       rw[hc] at k1;cases k1
       obtain⟨cs,e,n,rfl,_,_,q1,q2,_⟩:=k4
       have hl:=k3.len
       have hsh:w.shape? c=some (e,cs.size):=by simp only[qs,k2]
       refine cO.quiet h (v:= .pointer (some ⟨c,off,none⟩)) ?_ (.mp b off c hc)
       rw[lD,Lib.run_to_unsafe w ⟨c,off,none⟩ C3 JT hj (by omega) hsh (by show off<cs.size;omega)]
       rfl
     · cases he
   · cases he
 · rename_i u b JT OE
   split at he
   · rename_i ty l C3 hb
     split at he
     · rename_i j hj
       simp only[dk,ja,di] at he
       obtain⟨rfl,rfl,h1,h2,h3⟩:=he
       have h1:=be h1
       have h2:=fg h2
       have h3:=fg h3
       subst h1
       rw[OE] at hx
       generalize hz:cQ x=z at hx lD
       cases hx with
       |mp _ _ c hc=>
       obtain⟨c',ob,vs,k1,k2,k3,k4,_,_⟩:=h.obs b _ _ (getD_some hb (by simp))
       rw[hc] at k1;cases k1
       obtain⟨cs,e,n,rfl,rfl,_,q1,q2,_⟩:=k4
       have hl:=k3.len
       have hsh:w.shape? c=some (e,cs.size):=by simp only[qs,k2]
       refine cO.quiet h (v:= .pointer (some ⟨c,0,none⟩)) ?_ (.mp b 0 c hc)
       rw[lD,Lib.run_from_unsafe w ⟨c,0,none⟩ C3 JT hj hsh (LG (by omega) ((Nat.le_div_iff_mul_le (by omega)).2 (by omega)))]
       rfl
     · cases he
   · cases he
 · rename_i JT hnot
   split at he
   · rename_i e C3
     split at he
     · rename_i hue
       split at he
       · rename_i n aJ ok gA
         simp only[dk,ja,di] at he
         obtain⟨rfl,rfl,rfl,h1⟩:=he
         obtain⟨vs,s1,s2,_,s4,s5⟩:=fP (P:=P) h gA hx
         obtain⟨ns,n1,n2⟩:=OD s1 h1
         have s6:=s5 n (c9 _)
         rw[ea (by omega),n1] at s6
         have hnl:ns.length=n:=by rw[n1] at s2;simpa using s2
         generalize hz:cQ x=z at hx lD s4 s6
         refine cO.quiet h (v:= .string ⟨(ns.map fun n=>sd n.toNat).toArray⟩) ?_ (by rw[n2];exact .p _ _ (.sc _))
         rw[lD]
         cases z with
         |slice ad len cap=>
          have hlen:len=n:=by simpa[lj] using s4
          subst hlen
          cases ad with
          |none=>
           have:ns=[]:=by
            have:(#[]:Array Value)=(ns.map (sb .u8)).toArray:=by simpa[lh] using s6
            have:=congrArg Array.size this
            simp at this
            exact od.1 (by omega)
           subst this
           simp[convert,run_underlying C3,run_underlying JT,run_underlying hue,Conv.bytesToString,sf,se]
           rfl
          |some ad=>
           have kC:(loadCells ad len).run P w = .ok (ns.map (sb .u8)).toArray w:=by simpa[lh] using s6
           have:=run_bytesToString (P:=P) w ad len cap ns kC
           simp only[convert,jb,run_underlying C3,run_underlying JT,run_underlying hue,j1,this,foldl_push]
           simp[sf,se]
           rfl
         |string s=>
          exfalso
          generalize hxx:ρ x=xx at hx hnot gA
          cases hx with
          |p pv _ hp=>cases hp;exact hnot s rfl
          |bC=>simp[contents] at gA
         |_=>simp[lj] at s4
       · cases he
     · cases he
   · cases he
 · simp only[ib,ja,and_true] at he
   obtain⟨v,h1,rfl,rfl⟩:=he
   obtain⟨cv,k1,k2⟩:=fm hr (fun _ _=>by rw[ho];exact fun e=>by cases e) h1
   exact cO.quiet h k1 k2
end ops
end Go.Am
end
section
namespace Go.Am
open Go.RowKit
section
variable {P:Program} {g:Gh} {m:Mem} {w:World}
end
end Go.Am
end
section
namespace Go.Am
open Go.RowKit
section
variable {P:Program} {g:Gh} {m:Mem} {w:World}
set_option linter.unusedVariables false in
theorem wV {t xt:TypeId} {x v:AV} {cx:Value} {ok:Bool} (he:wo P t x ok=some v) (hx:VA g w x cx) : ∃cv,(Instr.typeAssert cx xt t ok).run P w = .ok cv w∧VA g w v cv:=by
 unfold wo at he
 cases he
set_option linter.unusedVariables false in
theorem wW (h:Rel g m w) {x k a:AV} {cx ck:Value} {t:TypeId} {ok:Bool} (hx:VA g w x cx) (hk:VA g w k ck) (he:wm P (fun i=>m.getD i .dead) t x k ok=some a) :
  ∃v,(Instr.lookup t cx ck ok).run P w = .ok v w∧VA g w a v:=by
 unfold wm at he
 cases he
theorem fQ (w:World) {r:Nat} {o':Obj} {o:Obj} (hb:w.heap[r]? = some o) :
  (∀k,k≠r→({w with heap:=w.heap.setIfInBounds r o'}:World).heap[k]? = w.heap[k]?)∧({w with heap:=w.heap.setIfInBounds r o'}:World).heap.size=w.heap.size∧({w with heap:=w.heap.setIfInBounds r o'}:World).heap[r]? = some o':=
 ⟨fun k hk=>(MapKept.heap_set hb).2 k hk,by simp,(MapKept.heap_set hb).1⟩
set_option linter.unusedVariables false in
theorem lE (h:Rel g m w) {x k v a:AV} {cx ck cv:Value} {t:TypeId} {us:oX} (hx:VA g w x cx) (hk:VA g w k ck) (hv:VA g w v cv)
  (he:lq P (fun i=>m.getD i .dead) t x k v=some (a,us,true)) :
  ∃w',(Instr.mapUpdate t cx ck cv).run P w = .ok () w'∧a = .aK []∧Rel g (apply m us) w'∧Ext g w g w'∧dF g m w g (apply m us) w':=by
 unfold lq at he
 cases he
set_option linter.unusedVariables false in
theorem EY {ρ:Operand→AV} {cQ:Operand→Value} (hr : ∀x,VA g w (ρ x) (cQ x)) {o:Oper} {op:BinOp} {t yt:TypeId} {x y:Operand} (ho:o.op = .binOp op t x y yt) {a:AV} {us:oX} {ok:Bool} (he:JH P op t (ρ x) (ρ y)=some (a,us,ok)) :
  us=[] ∧ ∃v,(execOp cQ o).run P w = .ok (.value v) w∧VA g w a v:=by
 unfold JH at he
 cases he
end
end Go.Am
end
section
namespace Go.Am
open Go.RowKit
section
variable {P:Program} {g:Gh} {m:Mem} {w:World}
theorem Rel.move (h:Rel g m w) {b bF c:Nat} {k:dS} {l:List AV} (hb:m[b]? = some (.ob k l)) (hc:g.bX b=some c) (hn:m[bF]? = some .free) :
  Rel (g.put bF c (g.lo b) (g.hi b)) ((m.set b .dead).set bF (.ob k l)) w∧Ext g w (g.put bF c (g.lo b) (g.hi b)) w∧dF g m w (g.put bF c (g.lo b) (g.hi b)) ((m.set b .dead).set bF (.ob k l)) w:=by
 have hne:b≠bF:=fun e=>by subst e;rw[hb] at hn;cases hn
 have hf:=h.free bF hn
 have get : ∀j x,((m.set b .dead).set bF (.ob k l))[j]? = some x→(j=bF∧x = .ob k l)∨x = .dead∨(j≠bF∧j≠b∧m[j]? = some x):=by
  intro j x hj
  rcases aY hj with⟨e,q⟩ | ⟨hjn,q⟩
  · exact .inl ⟨e,q⟩
  · rcases aY q with⟨_,q⟩ | ⟨rN,q⟩
    · exact .inr (.inl q)
    · exact .inr (.inr ⟨hjn,rN,q⟩)
 have bo : ∀j,j≠bF→(g.put bF c (g.lo b) (g.hi b)).bX j=g.bX j:=fun j hj=>by simp[Gh.put,hj]
 have bi:(g.put bF c (g.lo b) (g.hi b)).bX bF=some c:=by simp[Gh.put]
 have ext:Ext g w (g.put bF c (g.lo b) (g.hi b)) w:=⟨fun j c' hj=>by
  have:j≠bF:=fun e=>by subst e;rw[hf] at hj;cases hj
  simp[Gh.put,this,hj],fun _ _ p=>⟨p,rfl⟩⟩
 have ne : ∀j x c',j≠b→m[j]? = some x→x.dc=true→g.bX j=some c'→c'≠c:=fun j x c' rN hj ho fk e=>rN (h.inj j b x _ c hj hb ho rfl (e▸fk) hc)
 obtain⟨c0,ob,vs,h1,h2,h3,h4,h5,h6⟩:=h.obs b _ _ hb
 rw[hc] at h1;cases h1
 refine⟨⟨fun j hj=> ?_,fun j hj=> ?_,fun j x kk hj hk=> ?_,fun j c' hj fk=> ?_,fun j q x x' c' hj hk ho ho' gu gQ=> ?_,h.there,fun j kk ll hj=> ?_⟩,ext,⟨c9 _,fun _ _ _=>rfl,fun _ _ p=>⟨p,rfl⟩,fun _ _ p=> .inl p,fun c' ho=> ?_,rfl,rfl,rfl⟩⟩
 · have hl:=bS hn
   simp only[ed] at hj
   rw[bo j (by omega)];exact h.tA j hj
 · rcases get j _ hj with⟨_,e⟩ | e | ⟨hjn,_,e⟩
   · cases e
   · cases e
   · rw[bo j hjn];exact h.free j e
 · rcases get j _ hj with⟨_,e⟩ | e | ⟨hjn,rN,e⟩
   · subst e;cases hk
   · subst e;cases hk
   · obtain⟨c1,cs1,e1,n1,q1,q2,q3,q4,q5⟩:=h.cells j x kk e hk
     exact⟨c1,cs1,e1,n1,(bo j hjn).trans q1,q2,q3,q4.mono ext,q5⟩
 · rcases get j _ hj with⟨_,e⟩ | e | ⟨hjn,rN,e⟩
   · cases e
   · cases e
   · rw[bo j hjn] at fk
     obtain⟨cs1,e1,n1,q2,q3,q4,q5⟩:=h.tok j c' e fk
     have e1:(g.put bF c (g.lo b) (g.hi b)).hi j=g.hi j:=by simp[Gh.put,hjn]
     have e2:(g.put bF c (g.lo b) (g.hi b)).lo j=g.lo j:=by simp[Gh.put,hjn]
     rw[e1,e2]
     exact⟨cs1,_,n1,q2,q3,q4,q5⟩
 · rcases get j _ hj with⟨rfl,e⟩ | e | ⟨hjn,rN,e⟩
   · rcases get q _ hk with⟨rfl,_⟩ | e' | ⟨YH,hqb,e'⟩
     · rfl
     · subst e';simp[bq.dc] at ho'
     · rw[bi] at gu;cases gu
       rw[bo q YH] at gQ
       exact absurd rfl (ne q x' _ hqb e' ho' gQ)
   · subst e;simp[bq.dc] at ho
   · rcases get q _ hk with⟨rfl,_⟩ | e' | ⟨YH,hqb,e'⟩
     · rw[bi] at gQ;cases gQ
       rw[bo j hjn] at gu
       exact absurd rfl (ne j x _ rN e ho gu)
     · subst e';simp[bq.dc] at ho'
     · rw[bo j hjn] at gu;rw[bo q YH] at gQ
       exact h.inj j q x x' c' e e' ho ho' gu gQ
 · rcases get j _ hj with⟨rfl,e⟩ | e | ⟨hjn,rN,e⟩
   · cases e
     exact⟨c,ob,vs,bi,h2,h3.mono ext,h4,h5,by simpa[Gh.put] using h6⟩
   · cases e
   · obtain⟨c1,o1,vs1,q1,q2,q3,q4,q5,q6⟩:=h.obs j kk ll e
     exact⟨c1,o1,vs1,(bo j hjn).trans q1,q2,q3.mono ext,q4,q5,by simpa[Gh.put,hjn] using q6⟩
 · obtain⟨j,x,hj,hx,HH⟩:=ho
   rcases get j _ hj with⟨rfl,e⟩ | e | ⟨hjn,rN,e⟩
   · rw[bi] at HH;cases HH
     exact .inl ⟨b,_,hb,rfl,hc⟩
   · subst e;simp[bq.dc] at hx
   · rw[bo j hjn] at HH
     exact .inl ⟨j,x,e,hx,HH⟩
theorem wX {α:Type} : ∀(n l:List α) (o:Nat),o+n.length≤l.length→(dz l o n).take (o+n.length)=l.take o++n
 |[],l,o,_=>by simp[dz]
 |v::n,l,o,h=>by
  simp only[ml] at h
  have:=wX n (l.set o v) (o+1) (by simp;omega)
  simp only[dz,ml]
  rw[show o+(n.length+1)=o+1+n.length by omega,this,List.take_succ_eq_append_getElem (by simp;omega),oE,List.set_eq_of_length_le (by simp;omega)]
  simp
theorem EZ (h:Rel g m w) {b c:Nat} {l:List AV} (hl:j3 (m.getD b .dead)=some l) (hc:g.bX b=some c) :
  ∃cs e n,w.heap[c]? = some (.cells cs e n)∧n.2≤n.1∧dj g w l (cs.toList.take l.length)∧l.length≤cs.size ∧ ∀v∈cs.toList,v.oneCell'=true:=by
 have cells : ∀x,m[b]? = some x→x.cells?=some l → ∃cs e n,w.heap[c]? = some (.cells cs e n)∧n.2≤n.1∧dj g w l (cs.toList.take l.length)∧l.length≤cs.size ∧ ∀v∈cs.toList,v.oneCell'=true:=by
  intro x hx hxl
  obtain⟨c',cs,e,n,k1,k2,k3,k4,k5⟩:=h.cells b x l hx hxl
  rw[hc] at k1;cases k1
  have hlen:=k4.1.len
  simp only[gn] at hlen
  exact⟨cs,e,n,k2,k3,by rw[hlen,ea (by simp)];exact k4.1,by omega,k4.2⟩
 generalize hx:m.getD b .dead=x at hl
 unfold j3 at hl
 split at hl
 · simp only[dk] at hl;subst hl
   exact cells _ (getD_some hx (by simp)) rfl
 · simp only[dk] at hl;subst hl
   exact cells _ (getD_some hx (by simp)) rfl
 · simp only[dk] at hl;subst hl
   obtain⟨c',ob,vs,k1,k2,k3,k4,_,_⟩:=h.obs b _ _ (getD_some hx (by simp))
   rw[hc] at k1;cases k1
   obtain⟨cs,e,n,rfl,_,q0,q1,q2,q3⟩:=k4
   have hlen:=k3.len
   exact⟨cs,e,n,k2,q0,by rw[hlen,←q1];exact k3,by omega,q3⟩
 · cases hl
theorem dj.aeU {l:List PV} {vs:List Value} (h:JQ g w l vs):dj g w (l.map .p) vs:=bP.cY (by simpa using h.len) fun i a b=>by
 have:=h.get i (by simpa using a) b
 rw[dE];exact .p _ _ this
theorem fA (h:Rel g m w) {sz n:Nat} {x:AV} {cx:Value} {l:List AV} (he:cZ (fun i=>m.getD i .dead) sz x=some (n,l,true)) (hx:VA g w x cx) :
  ∃vs:List Value,dj g w l vs∧vs.length=n*sz∧(∀v∈vs,v.oneCell'=true)∧(lj cx).run P w = .ok n w ∧ ∀k,k≤n→(lh sz k cx).run P w = .ok (vs.take (k*sz)).toArray w:=by
 unfold cZ at he
 split at he
 · rename_i n' aJ ok hc
   simp only[dk,ja] at he
   obtain⟨rfl,rfl,rfl⟩:=he
   obtain⟨vs,h1,h2,h3,h4,h5⟩:=fP (P:=P) h hc hx
   exact⟨vs,dj.aeU h1,h2,h3,h4,h5⟩
 · split at he
   · rename_i b off len s cap _
     split at he
     · rename_i l0 hb
       simp only[dk,ja,di,fi] at he
       obtain⟨rfl,rfl,rfl,h1⟩:=he
       have h1:=fg h1
       cases hx with
       |ms _ _ _ _ cap c hc hcap=>
       obtain⟨c',cs,e,q,k1,k2,k3,k4,k5⟩:=h.cells b _ _ (getD_some hb (by simp)) rfl
       rw[hc] at k1;cases k1
       have hone:=k4.2
       have Ak:=k4.1
       have hlen:=Ak.len
       simp only[gn] at hlen
       have hvl:((cs.toList.drop off).take (len*s)).length=len*s:=by
        rw[eh,List.length_drop,gn];omega
       refine⟨(cs.toList.drop off).take (len*s),oa ((Ak.drop off).take (len*s)),hvl,fun v hv=>hone v (List.mem_of_mem_drop (dt hv)),by simp[lj],fun k hk=> ?_⟩
       have hl:(((cs.toList.drop off).take (len*s)).take (k*s)).length=k*s:=by
        rw[eh,hvl];exact ph (fl _ hk)
       have:=run_loadCells_list (P:=P) w ⟨c,off,none⟩ (((cs.toList.drop off).take (len*s)).take (k*s)) (fun j v hj=>by
        rw[dg,bD k2]
        rw[dq] at hj
        split at hj
        · rw[dq] at hj
          split at hj
          · rw[dv] at hj;simpa using hj
          · cases hj
        · cases hj)
       rw[hl] at this
       simpa[lh] using this
     · cases he
   · cases he
theorem wY (h:Rel g m w) {sz n:Nat} {x:AV} {cx:Value} {l:List AV} (he:cZ (fun i=>m.getD i .dead) sz x=some (n,l,true)) (hx:VA g w x cx) :
  ∃vs:List Value,dj g w l vs∧vs.length=n*sz∧(∀v∈vs,v.oneCell'=true)∧(lj cx).run P w.drew = .ok n w.drew ∧ ∀k,k≤n→(lh sz k cx).run P w.drew = .ok (vs.take (k*sz)).toArray w.drew:=by
 obtain⟨h1,h2,_⟩:=h.kq (w':=w.drew) rfl rfl rfl rfl
 obtain⟨vs,k1,k2,k3,k4,k5⟩:=fA (P:=P) h1 he (hx.mono h2)
 exact⟨vs,dj.mono (g:=g) (w:=w.drew) ⟨fun _ _ q=>⟨q,rfl,rfl⟩,fun c o p=>⟨p,(h2.pure c o p).2.symm⟩⟩ k1,k2,k3,k4,k5⟩
theorem E0 (K:dS) (h:Rel g m w) {bF:Nat} (hn:m[bF]? = some .free) {argTypes:Array TypeId} {ty sType xType elem:TypeId} {d:TypeDesc} {info:TypeInfo} {z:List AV} {x:AV} {cx:Value} {n:Nat} {aJ:List AV} {ad:Option Addr} {len cap:Nat} {l:List AV} {vs:List Value}
  (hs0:argTypes[0]? = some sType) (hx0:argTypes[1]? = some xType) (hu:P.underlying sType=some (.slice elem)) (tH:P.underlying xType=some d) (hd : ∀k,d ≠ .int k) (hi:P.info? elem=some info) (hz:zeroCells P elem=some z)
  (hx:VA g w x cx) (gA:cZ (fun i=>m.getD i .dead) info.size x=some (n,aJ,true)) (h2:1≤info.size) (h3:z.length=info.size) (h4:(len+n)*info.bytes≤aR) (h5:len+n≤aR)
  (hl:dj g w l vs) (hone : ∀v∈vs,v.oneCell'=true) (hvl:vs.length=len*info.size) (kC:(lh info.size len (.slice ad len cap)).run P w.drew = .ok vs.toArray w.drew) (eB : ¬len+n≤cap)
  (hK : ∀(all:Array Value) (vx zs:List Value),dj g w aJ vx→all.toList=vs++vx++zs→(vs++vx).length≤all.size→(∀v∈all.toList,v.oneCell'=true)→(∀v∈zs,∃a∈z,VA g w a v)→all.size≤9223372036854775807*info.size→K.is (.cells all elem) (vs++vx)∧K.room (.cells all elem) all.size) :
  ∃newCap g' w',(((do pure (.value (←rv argTypes ty #[.slice ad len cap,cx])):Sem Next)).run P w) = .ok (.value (.slice (some ⟨w.heap.size,0,none⟩) (len+n) newCap)) w' ∧
   Rel g' (m.set bF (.ob K (l++aJ))) w'∧Ext g w g' w'∧dF g m w g' (m.set bF (.ob K (l++aJ))) w'∧VA g' w' (.ms bF 0 (len+n) info.size none) (.slice (some ⟨w.heap.size,0,none⟩) (len+n) newCap):=by
 obtain⟨zv,z1,z2⟩:=cW (g:=g) (w:=w) hz
 have hzl:=z2.1.len
 simp only[gn] at hzl
 have hzs:zv.cells.size=info.size:=by omega
 have hsz:gd P elem=some info.size:=by simp[gd,hi]
 unfold aR at h4 h5
 obtain⟨_,_,_,_,l3,_⟩:=fA (P:=P) h gA hx
 obtain⟨vx,x1,x2,Ap,x3,x4⟩:=wY (P:=P) h gA hx
 have x5:=x4 n (c9 _)
 rw[ea (by omega)] at x5
 obtain⟨d1,d2,d3⟩:=h.kq (w':=w.drew) rfl rfl rfl rfl
 have lC:=lN (len+n) cap elem (w.tape w.drawn (.appendCap (len+n) cap elem))
 have hub:(rl (len+n) cap elem).cut (w.tape w.drawn (.appendCap (len+n) cap elem))≤9223372036854775807:=by
  have hlt:=pw (w.tape w.drawn (.appendCap (len+n) cap elem)) (show 0<2 ^ 63-(len+n) by omega)
  show len+n+w.tape w.drawn (.appendCap (len+n) cap elem)%(2 ^ 63-(len+n))≤9223372036854775807
  omega
 generalize hnc:(rl (len+n) cap elem).cut (w.tape w.drawn (.appendCap (len+n) cap elem))=newCap at lC hub
 have OC:(rr zv.cells (newCap-(len+n))).size=(newCap-(len+n))*info.size:=by simp[rr,hzs]
 have hmul:(len+n)*info.size=len*info.size+n*info.size:=pj _ _ _
 have hall:(vs.toArray++vx.toArray++rr zv.cells (newCap-(len+n))).size=newCap*info.size:=by
  simp only[lv,oi,OC,hvl,x2]
  rw[fv,hmul]
  have:=fl info.size lC
  rw[hmul] at this
  omega
 have aeW : ∀v∈(rr zv.cells (newCap-(len+n))).toList,v.oneCell'=true:=by
  intro v hv
  simp only[rr,hP,fb] at hv
  obtain⟨i,_,rfl⟩:=hv
  have hlt:i%zv.cells.size<zv.cells.size:=pw _ (by omega)
  rw[getElem!_pos zv.cells _ hlt]
  exact z2.2 _ (by simp)
 have ajR : ∀v∈(rr zv.cells (newCap-(len+n))).toList,∃a∈z,VA g w a v:=by
  intro v hv
  simp only[rr,hP,fb] at hv
  obtain⟨i,_,rfl⟩:=hv
  have hlt:i%zv.cells.size<zv.cells.size:=pw _ (by omega)
  rw[getElem!_pos zv.cells _ hlt]
  have hz':i%zv.cells.size<z.length:=by omega
  exact⟨z[i%zv.cells.size],List.getElem_mem hz',by have:=z2.1.get (i%zv.cells.size) hz' (by simpa using hlt);rwa [Array.getElem_toList] at this⟩
 generalize C0:vs.toArray++vx.toArray++rr zv.cells (newCap-(len+n))=all at hall
 have oc:all.toList=vs++vx++(rr zv.cells (newCap-(len+n))).toList:=by rw[←C0];simp
 have wU:qB w (w.drew.alloc (.cells all elem)) (.cells all elem):=⟨rfl,rfl,rfl,rfl⟩
 have Ak:dj g w (l++aJ) (vs++vx):=hl.append x1
 have TP : ∀v∈all.toList,v.oneCell'=true:=fun v hv=>by
  rw[oc] at hv
  rcases na.1 hv with q | q
  · rcases na.1 q with q | q
    · exact hone v q
    · exact Ap v q
  · exact aeW v q
 have hKK:=hK all vx _ x1 oc (by rw[hall,dC,hvl,x2,←hmul];exact fl _ lC) TP ajR (by rw[hall];exact fl _ hub)
 obtain⟨r1,r2,r3⟩:=h.rF all.size (ob:=K) (l:=l++aJ) (vs:=vs++vx) hn Ak wU
  hKK.1 hKK.2
 refine⟨newCap,_,_,?_,r1,r2,r3,.mg bF 0 _ _ newCap w.heap.size (by simp[Gh.put]) lC (by simp[Gh.put,hall])⟩
 have YF : ¬(((len+n:Nat):Int)>re.max):=by
  rw[show re.max=9223372036854775807 from by decide];omega
 have hgrow : ¬(sa (len+n) cap*info.bytes>2 ^ 48):=by
  have:=growslice_fits (need:=len+n) (old:=cap) (bytes:=info.bytes) (by omega) (by omega)
  omega
 simp only[rv,hs0,hx0,mr,mf,mi,jb,run_underlying hu,j1,br hsz,run_underlying tH,jn,o0,if_false,l3,eB,pa,YF,false_and,fC hi,hgrow,run_choose,rp,hnc,ra,run_askRoom,kC,x5,z1,C0,if_true,newRow,run_newObj,pD,qf]
theorem C4 (pq:Bool) (h:Rel g m w) {bF:Nat} (hn:m[bF]? = some .free) {argTypes:Array TypeId} {ty sType xType elem:TypeId} {d:TypeDesc} {info:TypeInfo} {z:List AV} {x:AV} {cx:Value} {n:Nat} {aJ:List AV} {ad:Option Addr} {len cap:Nat} {l:List AV} {vs:List Value}
  (hs0:argTypes[0]? = some sType) (hx0:argTypes[1]? = some xType) (hu:P.underlying sType=some (.slice elem)) (tH:P.underlying xType=some d) (hd : ∀k,d ≠ .int k) (hi:P.info? elem=some info) (hz:zeroCells P elem=some z)
  (hx:VA g w x cx) (gA:cZ (fun i=>m.getD i .dead) info.size x=some (n,aJ,true)) (h2:1≤info.size) (h3:z.length=info.size) (h4:(len+n)*info.bytes≤aR) (h5:len+n≤aR)
  (hl:dj g w l vs) (hone : ∀v∈vs,v.oneCell'=true) (hvl:vs.length=len*info.size) (kC:(lh info.size len (.slice ad len cap)).run P w.drew = .ok vs.toArray w.drew) (eB : ¬len+n≤cap) :
  ∃newCap g' w',(((do pure (.value (←rv argTypes ty #[.slice ad len cap,cx])):Sem Next)).run P w) = .ok (.value (.slice (some ⟨w.heap.size,0,none⟩) (len+n) newCap)) w' ∧
   Rel g' (m.set bF (.ob (.gr elem pq) (l++aJ))) w'∧Ext g w g' w'∧dF g m w g' (m.set bF (.ob (.gr elem pq) (l++aJ))) w'∧VA g' w' (.ms bF 0 (len+n) info.size none) (.slice (some ⟨w.heap.size,0,none⟩) (len+n) newCap):=
 E0 (.gr elem pq) h hn hs0 hx0 hu tH hd hi hz hx gA h2 h3 h4 h5 hl hone hvl kC eB fun all vx zs _ oc hle aeX _ _=>
  ⟨⟨all,elem,(0,0),rfl,rfl,c9 _,by rw[oc,np (c9 _),ov],hle,aeX⟩,rfl⟩
theorem jl : ∀{l:List AV} {vs:List Value},allBy l=true→dj g w l vs → ∀v∈vs,∃k,v = .int .u8 k
 |[],[],_,_=>fun v hv=>by cases hv
 |a::l,v::vs,h,k=>by
  simp only[allBy,di] at h
  intro u hu
  cases hu with
  |head=>
   have hk:=k.1
   have h1:=h.1
   match a,h1,hk with
   |.p (.sc (.int .u8 n)),_,hk=>
    rw[VA.pv] at hk
    cases hk
    exact⟨n,rfl⟩
  |tail _ hu=>exact jl h.2 k.2 u hu
 |[],_::_,_,h=>h.elim
 |_::_,[],_,h=>h.elim
theorem A3 : ∀{l:List AV},allBy l=true → ∀a∈l,allBy [a]=true
 |x::l,h,a,ha=>by
  simp only[allBy,di] at h
  cases ha with
  |head=>simp[allBy,h.1]
  |tail _ ha=>exact A3 h.2 a ha
theorem E1 (h:Rel g m w) {bF:Nat} (hn:m[bF]? = some .free) {argTypes:Array TypeId} {ty sType xType elem:TypeId} {d:TypeDesc} {info:TypeInfo} {z:List AV} {x:AV} {cx:Value} {n:Nat} {aJ:List AV} {ad:Option Addr} {len cap:Nat} {l:List AV} {vs:List Value}
  (hs0:argTypes[0]? = some sType) (hx0:argTypes[1]? = some xType) (hu:P.underlying sType=some (.slice elem)) (tH:P.underlying xType=some d) (hd : ∀k,d ≠ .int k) (hi:P.info? elem=some info) (hz:zeroCells P elem=some z)
  (hx:VA g w x cx) (gA:cZ (fun i=>m.getD i .dead) info.size x=some (n,aJ,true)) (h2:1≤info.size) (h3:z.length=info.size) (h4:(len+n)*info.bytes≤aR) (h5:len+n≤aR)
  (hl:dj g w l vs) (zZ : ∀v∈vs,∃k,v = .int .u8 k) (YI:info.size=1) (hbz:allBy z=true) (hbp:allBy aJ=true) (hvl:vs.length=len*info.size) (kC:(lh info.size len (.slice ad len cap)).run P w.drew = .ok vs.toArray w.drew) (eB : ¬len+n≤cap) :
  ∃newCap g' w',(((do pure (.value (←rv argTypes ty #[.slice ad len cap,cx])):Sem Next)).run P w) = .ok (.value (.slice (some ⟨w.heap.size,0,none⟩) (len+n) newCap)) w' ∧
   Rel g' (m.set bF (.ob (.gb elem) (l++aJ))) w'∧Ext g w g' w'∧dF g m w g' (m.set bF (.ob (.gb elem) (l++aJ))) w'∧VA g' w' (.ms bF 0 (len+n) info.size none) (.slice (some ⟨w.heap.size,0,none⟩) (len+n) newCap):=
 E0 (.gb elem) h hn hs0 hx0 hu tH hd hi hz hx gA h2 h3 h4 h5 hl (fun v hv=>by obtain⟨k,rfl⟩:=zZ v hv;rfl) hvl kC eB fun all vx zs hx1 oc hle _ hzs hsz=>
  ⟨⟨all,elem,(0,0),rfl,rfl,c9 _,by rw[oc,np (c9 _),ov],hle,fun v hv=>by
    rw[oc] at hv
    rcases na.1 hv with q | q
    · rcases na.1 q with q | q
      · exact zZ v q
      · exact jl hbp hx1 v q
    · obtain⟨a,ha,Ak⟩:=hzs v q
      exact jl (l:=[a]) (vs:=[v]) (A3 hbz a ha) ⟨Ak,trivial⟩ v (.head _),by rw[YI,Nat.mul_one] at hsz;exact hsz⟩,rfl⟩
theorem run_append_room (h:Rel g m w) {argTypes:Array TypeId} {ty sType xType elem:TypeId} {d:TypeDesc} {info:TypeInfo} {x:AV} {cx:Value} {n:Nat} {aJ:List AV} {c len cap:Nat} {cs:Array Value} {e:TypeId} {q:Nat×Nat}
  (hs0:argTypes[0]? = some sType) (hx0:argTypes[1]? = some xType) (hu:P.underlying sType=some (.slice elem)) (tH:P.underlying xType=some d) (hd : ∀k,d ≠ .int k) (hi:P.info? elem=some info)
  (hx:VA g w x cx) (gA:cZ (fun i=>m.getD i .dead) info.size x=some (n,aJ,true)) (hc:w.heap[c]? = some (.cells cs e q)) (hq:q.2≤q.1) (hroom:(len+n)*info.size≤cs.size) (eB:len+n≤cap) :
  ∃w' cs' vx,(((do pure (.value (←rv argTypes ty #[.slice (some ⟨c,0,none⟩) len cap,cx])):Sem Next)).run P w) = .ok (.value (.slice (some ⟨c,0,none⟩) (len+n) cap)) w' ∧
   dj g w aJ vx∧vx.length=n*info.size∧(∀v∈vx,v.oneCell'=true)∧cs'.toList=dz cs.toList (len*info.size) vx∧w'.heap[c]? = some (.cells cs' e q) ∧
   (∀k,k≠c→w'.heap[k]? = w.heap[k]?)∧w'.heap.size=w.heap.size∧w'.os=w.os∧w'.tape=w.tape∧w'.output=w.output:=by
 have hsz:gd P elem=some info.size:=by simp[gd,hi]
 obtain⟨vx,x1,x2,Ap,x3,x4⟩:=fA (P:=P) h gA hx
 have x5:=x4 n (c9 _)
 rw[ea (by omega)] at x5
 have hmul:(len+n)*info.size=len*info.size+n*info.size:=pj _ _ _
 obtain⟨w',cs',p1,p2,p3,p4,p5,p6,p7,p8⟩:=iO (P:=P) c (len*info.size) vx 0 w cs e q hc (fun j hj=> .inl hq) (by omega) Ap
 simp only[pk] at p3
 refine⟨w',cs',vx,?_,x1,x2,Ap,p3,p2,p4,p5,p6,p7,p8⟩
 have YE:(⟨c,0,none⟩:Addr).add (len*info.size)=⟨c,len*info.size,none⟩:=by rw[dg,pn]
 simp only[rv,hs0,hx0,mr,mf,mi,jb,run_underlying hu,j1,br hsz,run_underlying tH,jn,o0,if_false,x3,eB,if_true,pa,x5,YE,p1]
theorem og {c len cap sz:Nat} {cs:Array Value} {e:TypeId} {q:Nat×Nat} (hc:w.heap[c]? = some (.cells cs e q)) (hl:len*sz≤cs.size) :
  (lh sz len (.slice (some ⟨c,0,none⟩) len cap)).run P w = .ok (cs.toList.take (len*sz)).toArray w:=by
 have:=run_loadCells_list (P:=P) w ⟨c,0,none⟩ (cs.toList.take (len*sz)) (fun j v hj=>by
  rw[dg,pn,bD hc]
  rw[dq] at hj
  split at hj
  · simpa using hj
  · cases hj)
 rw[eh,gn,ph hl] at this
 simpa[lh] using this
theorem oh (h:Rel g m w) {bF:Nat} (hn:m[bF]? = some .free) {argTypes:Array TypeId} {ty sType xType elem t:TypeId} {d:TypeDesc} {info:TypeInfo} {z:List AV} {x:AV} {cs cx:Value} {b len n:Nat} {pq:Bool} {l aJ:List AV}
  (hs0:argTypes[0]? = some sType) (hx0:argTypes[1]? = some xType) (hu:P.underlying sType=some (.slice elem)) (tH:P.underlying xType=some d) (hd' : ∀k,d ≠ .int k) (hi:P.info? elem=some info) (hz:zeroCells P elem=some z)
  (hs:VA g w (.ms b 0 len info.size none) cs) (hx:VA g w x cx) (gA:cZ (fun i=>m.getD i .dead) info.size x=some (n,aJ,true)) (zZ:m[b]? = some (.ob (.gr t pq) l))
  (h2:1≤info.size) (h3:z.length=info.size) (h4:(len+n)*info.bytes≤aR) (h5:len+n≤aR) (h7:len*info.size≤l.length) (h8:t=elem) :
  cO g m w (((do pure (.value (←rv argTypes ty #[cs,cx])):Sem Next)).run P w) (.ms bF 0 (len+n) info.size none) (apply m [(b,.dead),(bF,.ob (.gr t (pq&&j7 (fun i=>m.getD i .dead) info.size x)) (l.take (len*info.size)++aJ))]):=by
 subst h8
 cases hs with
 |mg _ _ _ _ cap c hc hcap hroom=>
 have hne:b≠bF:=fun e=>by subst e;rw[zZ] at hn;cases hn
 obtain⟨c',ob,vs,k1,k2,k3,k4,k5,k6⟩:=h.obs b _ _ zZ
 rw[hc] at k1;cases k1
 obtain⟨cells,e,q,rfl,qt,q0,q1,q2,q3⟩:=k4
 have nG:=k3.len
 have k6:cells.size=g.hi b:=k6
 have hmul:(len+n)*info.size=len*info.size+n*info.size:=pj _ _ _
 by_cases eB:len+n≤cap
 · have YD:(len+n)*info.size≤cap*info.size:=fl _ eB
   obtain⟨w',cs',vx,r0,x1,x2,Ap,p3,p2,p4,p5,p6,p7,p8⟩:=run_append_room (P:=P) (ty:=ty) h hs0 hx0 hu tH hd' hi hx gA k2 q0 (by omega) eB
   have Ey:=x1.len
   have hsize:cs'.size=cells.size:=by
    have:=congrArg oe p3
    rw[gX] at this;simpa using this
   have Ak:dj g w (l.take (len*info.size)++aJ) (vs.take (len*info.size)++vx):=(k3.take _).append x1
   have htl:(vs.take (len*info.size)).length=len*info.size:=by rw[eh];omega
   obtain⟨r1,r2,r3⟩:=h.lA (N1:= .gr t (pq&&j7 (fun i=>m.getD i .dead) info.size x)) (l':=l.take (len*info.size)++aJ) (vs':=vs.take (len*info.size)++vx) zZ hc p4 p5 p6 p7 p8 p2
    ⟨cs',e,q,rfl,qt,q0,by
      rw[dC,htl,p3,wX vx cells.toList _ (by simp;omega),q1,nc,ph (by omega)],by rw[dC,htl,x2,hsize];omega,fun v hv=>by
      rw[p3] at hv
      exact kr _ _ _ q3 Ap v hv⟩ Ak (by show cs'.size=g.hi b;rw[hsize];exact k6)
   have hb':(m.set b (.ob (.gr t (pq&&j7 (fun i=>m.getD i .dead) info.size x)) (l.take (len*info.size)++aJ)))[b]? = some (.ob (.gr t (pq&&j7 (fun i=>m.getD i .dead) info.size x)) (l.take (len*info.size)++aJ)):=by rw[mb (bS zZ)]
   obtain⟨s1,s2,s3⟩:=r1.move hb' hc (by rw[mc hne];exact hn)
   rw[nb] at s1 s3
   exact⟨_,w',_,.inl r0,.mg bF 0 _ _ cap c (by simp[Gh.put]) eB (by simp[Gh.put];omega),s1,r2.trans s2,r3.trans s3⟩
 · have kC:=og (P:=P) (w:=w.drew) (c:=c) (len:=len) (cap:=cap) (sz:=info.size) k2 (by omega)
   have hvt:vs.take (len*info.size)=cells.toList.take (len*info.size):=by rw[q1,nc,ph (by omega)]
   obtain⟨newCap,g',w',r0,r1,r2,r3,r4⟩:=C4 (P:=P) (pq&&j7 (fun i=>m.getD i .dead) info.size x) (ty:=ty) (l:=l.take (len*info.size)) (vs:=cells.toList.take (len*info.size)) h hn hs0 hx0 hu tH hd' hi hz hx gA h2 h3 h4 h5 (by rw[←hvt];exact k3.take _)
    (fun v hv=>q3 v (dt hv)) (by rw[eh,gn];omega) kC eB
   obtain⟨t1,t2⟩:=r1.kill b
   have e1:((m.set bF (.ob (.gr t (pq&&j7 (fun i=>m.getD i .dead) info.size x)) (l.take (len*info.size)++aJ))).set b .dead)=apply m [(b,.dead),(bF,.ob (.gr t (pq&&j7 (fun i=>m.getD i .dead) info.size x)) (l.take (len*info.size)++aJ))]:=by
    simp only[apply]
    exact oR _ _ (fun e=>hne e.symm)
   rw[e1] at t1 t2
   exact⟨_,w',g',.inl r0,r4,t1,r2,r3.trans t2⟩
theorem wZ (h:Rel g m w) {bF:Nat} (hn:m[bF]? = some .free) {argTypes:Array TypeId} {ty sType xType elem t:TypeId} {d:TypeDesc} {info:TypeInfo} {z:List AV} {x:AV} {cs cx:Value} {b len n:Nat} {l aJ:List AV}
  (hs0:argTypes[0]? = some sType) (hx0:argTypes[1]? = some xType) (hu:P.underlying sType=some (.slice elem)) (tH:P.underlying xType=some d) (hd' : ∀k,d ≠ .int k) (hi:P.info? elem=some info) (hz:zeroCells P elem=some z)
  (hs:VA g w (.ms b 0 len info.size none) cs) (hx:VA g w x cx) (gA:cZ (fun i=>m.getD i .dead) info.size x=some (n,aJ,true)) (zZ:m[b]? = some (.ob (.gb t) l)) (YI:info.size=1) (hbz:allBy z=true) (hbp:allBy aJ=true)
  (h2:1≤info.size) (h3:z.length=info.size) (h4:(len+n)*info.bytes≤aR) (h5:len+n≤aR) (h7:len*info.size≤l.length) (h8:t=elem) :
  cO g m w (((do pure (.value (←rv argTypes ty #[cs,cx])):Sem Next)).run P w) (.ms bF 0 (len+n) info.size none) (apply m [(b,.dead),(bF,.ob (.gb t) (l.take (len*info.size)++aJ))]):=by
 subst h8
 cases hs with
 |mg _ _ _ _ cap c hc hcap hroom=>
 have hne:b≠bF:=fun e=>by subst e;rw[zZ] at hn;cases hn
 obtain⟨c',ob,vs,k1,k2,k3,k4,k5,k6⟩:=h.obs b _ _ zZ
 rw[hc] at k1;cases k1
 obtain⟨cells,e,q,rfl,qt,q0,q1,q2,q3,q4⟩:=k4
 have nG:=k3.len
 have k6:cells.size=g.hi b:=k6
 have hmul:(len+n)*info.size=len*info.size+n*info.size:=pj _ _ _
 by_cases eB:len+n≤cap
 · have YD:(len+n)*info.size≤cap*info.size:=fl _ eB
   obtain⟨w',cs',vx,r0,x1,x2,Ap,p3,p2,p4,p5,p6,p7,p8⟩:=run_append_room (P:=P) (ty:=ty) h hs0 hx0 hu tH hd' hi hx gA k2 q0 (by omega) eB
   have Ey:=x1.len
   have hsize:cs'.size=cells.size:=by
    have:=congrArg oe p3
    rw[gX] at this;simpa using this
   have Ak:dj g w (l.take (len*info.size)++aJ) (vs.take (len*info.size)++vx):=(k3.take _).append x1
   have htl:(vs.take (len*info.size)).length=len*info.size:=by rw[eh];omega
   obtain⟨r1,r2,r3⟩:=h.lA (N1:= .gb t) (l':=l.take (len*info.size)++aJ) (vs':=vs.take (len*info.size)++vx) zZ hc p4 p5 p6 p7 p8 p2
    ⟨cs',e,q,rfl,qt,q0,by
      rw[dC,htl,p3,wX vx cells.toList _ (by simp;omega),q1,nc,ph (by omega)],by rw[dC,htl,x2,hsize];omega,fun v hv=>by
      rw[p3] at hv
      exact kr (p:=fun v=> ∃k,v = .int .u8 k) _ _ _ q3 (jl hbp x1) v hv,by rw[hsize];exact q4⟩ Ak (by show cs'.size=g.hi b;rw[hsize];exact k6)
   have hb':(m.set b (.ob (.gb t) (l.take (len*info.size)++aJ)))[b]? = some (.ob (.gb t) (l.take (len*info.size)++aJ)):=by rw[mb (bS zZ)]
   obtain⟨s1,s2,s3⟩:=r1.move hb' hc (by rw[mc hne];exact hn)
   rw[nb] at s1 s3
   exact⟨_,w',_,.inl r0,.mg bF 0 _ _ cap c (by simp[Gh.put]) eB (by simp[Gh.put];omega),s1,r2.trans s2,r3.trans s3⟩
 · have kC:=og (P:=P) (w:=w.drew) (c:=c) (len:=len) (cap:=cap) (sz:=info.size) k2 (by omega)
   have hvt:vs.take (len*info.size)=cells.toList.take (len*info.size):=by rw[q1,nc,ph (by omega)]
   obtain⟨newCap,g',w',r0,r1,r2,r3,r4⟩:=E1 (P:=P) (ty:=ty) (l:=l.take (len*info.size)) (vs:=cells.toList.take (len*info.size)) h hn hs0 hx0 hu tH hd' hi hz hx gA h2 h3 h4 h5 (by rw[←hvt];exact k3.take _)
    (fun v hv=>q3 v (dt hv)) YI hbz hbp (by rw[eh,gn];omega) kC eB
   obtain⟨t1,t2⟩:=r1.kill b
   have e1:((m.set bF (.ob (.gb t) (l.take (len*info.size)++aJ))).set b .dead)=apply m [(b,.dead),(bF,.ob (.gb t) (l.take (len*info.size)++aJ))]:=by
    simp only[apply]
    exact oR _ _ (fun e=>hne e.symm)
   rw[e1] at t1 t2
   exact⟨_,w',g',.inl r0,r4,t1,r2,r3.trans t2⟩
theorem Aq {m:Mem} {b sz:Nat} {t:TypeId} {pre:List Value} {l:List AV} {X:bq} {x:AV} {r:Nat×List AV×Bool} (hb:m[b]? = some (.ob (.stk t pre) l)) (h:cZ (fun i=>m.getD i .dead) sz x=some r) :
  cZ (fun i=>(m.set b X).getD i .dead) sz x=some r:=by
 have hd:m.getD b .dead = .ob (.stk t pre) l:=by rw[de,hb];rfl
 have off : ∀i,i≠b→(m.set b X).getD i .dead=m.getD i .dead:=fun i hi=>by
  rw[de,mc (fun e=>hi e.symm),de]
 have same : ∀y,(∀o len s cap,y ≠ .ms b o len s cap)→contents (fun i=>(m.set b X).getD i .dead) sz y=contents (fun i=>m.getD i .dead) sz y:=fun y hy=>by
  cases y with
  |p v=>
   cases v with
   |sc u=>cases u<;>rfl
   |_=>rfl
  |ms b' o len s cap=>
   have hb':b'≠b:=fun e=>hy o len s cap (e▸rfl)
   cases cap with
   |none=>
    unfold contents
    dsimp only
    rw[off b' hb']
   |some q=>
    unfold contents
    dsimp only
    rw[off b' hb']
  |_=>rfl
 by_cases hx : ∃o len s cap,x = .ms b o len s cap
 · obtain⟨o,len,s,cap,rfl⟩:=hx
   exfalso
   unfold cZ at h
   cases cap with
   |none=>
    have e:contents (fun i=>m.getD i .dead) sz (.ms b o len s none)=none:=by
     unfold contents
     dsimp only
     rw[hd]
    rw[e] at h
    cases h
   |some q=>
    have e:contents (fun i=>m.getD i .dead) sz (.ms b o len s (some q))=none:=by
     unfold contents
     dsimp only
     rw[hd]
    rw[e] at h
    dsimp only at h
    rw[hd] at h
    cases h
 · rw[←h]
   unfold cZ
   rw[same x fun o len s cap e=>hx ⟨o,len,s,cap,e⟩]
   cases x with
   |ms b' o len s cap=>
    have hb':b'≠b:=fun e=>hx ⟨o,len,s,cap,e▸rfl⟩
    cases cap with
    |none=>rfl
    |some q=>
     dsimp only
     rw[off b' hb']
   |_=>rfl
theorem xd (h:Rel g m w) {bF:Nat} (hn:m[bF]? = some .free) {argTypes:Array TypeId} {ty:TypeId} {s x a:AV} {cs cx:Value} {us:oX}
  (hs:VA g w s cs) (hx:VA g w x cx) (he:fL P (fun i=>m.getD i .dead) bF argTypes s x=some (a,us,true)) :
  cO g m w (((do pure (.value (←rv argTypes ty #[cs,cx])):Sem Next)).run P w) a (apply m us):=by
 unfold fL at he
 split at he
 · rename_i sType xType hs0 hx0
   split at he
   · cases he
   · rename_i elem d hd hu tH
     have hd' : ∀k,d ≠ .int k:=fun k e=>hd k e
     split at he
     · rename_i info z hi hz
       split at he
       · rename_i n aJ ok gA
         dsimp only at he
         split at he
         ·
          rename_i b len sz
          split at he
          · rename_i t pq l hb
            simp only[dk,ja,di] at he
            obtain⟨rfl,rfl,⟨rfl,h2,h3,h4,h5⟩,h6,h7,h8⟩:=he
            have h6:=be h6
            subst h6
            exact oh h hn hs0 hx0 hu tH hd' hi hz hs hx gA (getD_some hb (by simp)) (fg h2) (be h3) (fg h4) (fg h5) (fg h7) (be h8)
          ·
           rename_i t l hb
           simp only[dk,ja,di] at he
           obtain⟨rfl,rfl,⟨rfl,h2,h3,h4,h5⟩,h6,h7,h8,YI,h9,h10⟩:=he
           have h6:=be h6
           subst h6
           have h7:=be h7
           have hgb:=wZ (ty:=ty) h hn hs0 hx0 hu tH hd' hi hz hs hx gA (getD_some hb (by simp)) (be YI) h9 h10 (fg h2) (be h3) (fg h4) (fg h5) (px h7) (be h8)
           rwa [ea (px h7.symm)] at hgb
          ·
           rename_i t pre l hb
           simp only[dk,ja,di] at he
           obtain⟨rfl,rfl,⟨rfl,h2,h3,h4,h5⟩,h6,h7,h8,h9⟩:=he
           have h6:=be h6
           subst h6
           have zZ:=getD_some hb (by simp)
           have TM:=bS zZ
           have hne:b≠bF:=fun e=>by subst e;rw[zZ] at hn;cases hn
           have h7':=fg h7
           have h9':=fg h9
           obtain⟨hg,hst⟩:=h.HZ zZ
           have hgn:(m.set b (.ob (.gr t false) (exactly pre++l)))[bF]? = some .free:=by rw[mc hne];exact hn
           obtain⟨v,w',g',o1,o2,o3,o4,o5⟩:=oh (P:=P) (ty:=ty) hg hgn hs0 hx0 hu tH hd' hi hz hs hx (Aq (X:= .ob (.gr t false) (exactly pre++l)) zZ gA) (by rw[mb TM]) (fg h2) (be h3) (fg h4) (fg h5)
            (by rw[dC,bV];exact h7') (be h8)
           have aeZ:(exactly pre++l).take (len*info.size)++aJ=exactly pre++(l.take (len*info.size-pre.length)++aJ):=by
            rw[List.take_append,bV,ea (by rw[bV];exact h9'),List.append_assoc]
           simp only[apply,nb] at o3 o5
           rw[aeZ] at o3 o5
           have hnl:bF<(m.set b .dead).length:=by rw[ed];exact bS hn
           obtain⟨z1,z2⟩:=o3.Ox (b:=bF) (by rw[mb hnl])
           rw[nb] at z1 z2
           exact⟨v,w',g',o1,o2,z1,o4,(hst.trans o5).trans z2⟩
          · cases he
         ·
          rename_i len sz cells
          split at he
          · rename_i hn0
            simp only[dk,ja,di] at he
            obtain⟨rfl,rfl,rfl,_⟩:=he
            have hn0:=be hn0
            subst hn0
            have hvs:=hs
            cases hs with
            |os _ _ _ _ ad cap hps Ae=>
            have hcap:cap=len:=by
             rcases Ae with e | ⟨t,b,o,e,_⟩
             · exact e
             · cases e
            subst hcap
            have hsz:gd P elem=some info.size:=by simp[gd,hi]
            obtain⟨vx,_,_,_,x3,x4⟩:=fA (P:=P) h gA hx
            have x5:=x4 0 (c9 _)
            simp only[Nat.zero_mul,List.take_zero] at x5
            refine cO.quiet h (v:= .slice ad cap cap) ?_ hvs
            cases ad with
            |none=>simp[rv,hs0,hx0,run_underlying hu,br hsz,run_underlying tH,x3,x5,pf]
            |some ad=>simp[rv,hs0,hx0,run_underlying hu,br hsz,run_underlying tH,x3,x5,storeCells,pf]
          rename_i hn0
          split at he
          · rename_i hu8
            simp only[dk,ja,di] at he
            obtain⟨rfl,rfl,⟨rfl,h2,h3,h4,h5⟩,h6,OF,YI,hb2,hb3⟩:=he
            have h1:1≤n:=by
             rcases pr n with e | e
             · subst e;cases hn0
             · exact e
            have h2:=fg h2
            have h3:=be h3
            have h4:=fg h4
            have h5:=fg h5
            cases hs with
            |os _ _ _ _ ad cap hps Ae=>
            have hcap:cap=len:=by
             rcases Ae with e | ⟨t,b,o,e,_⟩
             · exact e
             · cases e
            subst hcap
            have EX:=jN hps h6
            obtain⟨d1,d2,d3⟩:=h.kq (w':=w.drew) rfl rfl rfl rfl
            obtain⟨vs,s1,s2,TO,s3,s4⟩:=lZ (P:=P) (EX.mono d2.pure)
            have s5:=s4 cap (c9 _)
            rw[ea (by omega)] at s5
            have LD:=s1.len
            have Ak:dj g w (cells.map .p) vs:=bP.cY (by simpa using LD) fun i a b=>by
             have:=s1.get i (by simpa using a) b
             rw[dE]
             exact .p _ _ (this.mono (g:=g) (w:=w.drew) fun c o p=>⟨p,(d2.pure c o p).2.symm⟩)
            obtain⟨newCap,g',w',r0,r1,r2,r3,r4⟩:=E1 (P:=P) (ty:=ty) (l:=cells.map .p) (vs:=vs) (cap:=cap) h hn hs0 hx0 hu tH hd' hi hz hx gA h2 h3 h4 h5 Ak (jl OF Ak) (be YI) hb2 hb3 s2 s5 (by omega)
            exact⟨_,w',g',.inl r0,r4,r1,r2,r3⟩
          · rename_i hu8
            simp only[dk,ja,di] at he
            obtain⟨rfl,rfl,⟨rfl,h2,h3,h4,h5⟩,h6⟩:=he
            have h1:1≤n:=by
             rcases pr n with e | e
             · subst e;cases hn0
             · exact e
            have h2:=fg h2
            have h3:=be h3
            have h4:=fg h4
            have h5:=fg h5
            cases hs with
            |os _ _ _ _ ad cap hps Ae=>
            have hcap:cap=len:=by
             rcases Ae with e | ⟨t,b,o,e,_⟩
             · exact e
             · cases e
            subst hcap
            have EX:=jN hps h6
            obtain⟨d1,d2,d3⟩:=h.kq (w':=w.drew) rfl rfl rfl rfl
            obtain⟨vs,s1,s2,TO,s3,s4⟩:=lZ (P:=P) (EX.mono d2.pure)
            have s5:=s4 cap (c9 _)
            rw[ea (by omega)] at s5
            have LD:=s1.len
            have Ak:dj g w (cells.map .p) vs:=bP.cY (by simpa using LD) fun i a b=>by
             have:=s1.get i (by simpa using a) b
             rw[dE]
             exact .p _ _ (this.mono (g:=g) (w:=w.drew) fun c o p=>⟨p,(d2.pure c o p).2.symm⟩)
            obtain⟨newCap,g',w',r0,r1,r2,r3,r4⟩:=C4 (P:=P) (j7 (fun i=>m.getD i .dead) info.size x) (ty:=ty) (l:=cells.map .p) (vs:=vs) (cap:=cap) h hn hs0 hx0 hu tH hd' hi hz hx gA h2 h3 h4 h5 Ak TO s2 s5 (by omega)
            exact⟨_,w',g',.inl r0,r4,r1,r2,r3⟩
         ·
          rename_i b len sz cap
          split at he
          · rename_i l hl
            cases hs with
            |ms _ _ _ _ cap c hc hcap=>
            obtain⟨cells,e,q,k2,q0,k3,q2,q3⟩:=EZ h hl hc
            have hmul:(len+n)*info.size=len*info.size+n*info.size:=pj _ _ _
            cases hr:bc (len+n) cap with
            |true=>
             have eB:=fg hr
             simp only[hr,cond_true] at he
             split at he
             · rename_i b' ok' hp
               simp only[dk,ja,di] at he
               obtain⟨rfl,rfl,⟨rfl,h2,h3,h4,h5⟩,rfl,h6⟩:=he
               have h6:=be h6
               subst h6
               obtain⟨vx0,x0,x2',_⟩:=fA (P:=P) h gA hx
               have anM:=x0.len
               have hroom:len*info.size+aJ.length≤l.length:=by
                rcases kB hp with⟨l',vl,_,hroom⟩ | ⟨t0,pq,l',vl,_,hroom⟩ | ⟨t0,pre,l',vl,_,_,hroom⟩
                rotate_left 2
                · have vl:m.getD b .dead = .ob (.stk t0 pre) l':=vl
                  rw[vl] at hl;cases hl
                · have:l'=l:=by
                   generalize m.getD b .dead=B at hl vl
                   cases B<;>simp_all [j3,bq.cells?]
                  rw[←this];exact hroom
                · have vl:m.getD b .dead = .ob (.gr t0 pq) l':=vl
                  have:l'=l:=by
                   have hl:j3 (m.getD b .dead)=some l:=hl
                   rw[vl] at hl;simpa[j3] using hl
                  rw[←this];rw[wP] at hroom;exact hroom
               have YJ:(len+n)*info.size≤cells.size:=by omega
               obtain⟨w',cs',vx,r0,x1,x2,Ap,p3,p2,p4,p5,p6,p7,p8⟩:=run_append_room (P:=P) (ty:=ty) h hs0 hx0 hu tH hd' hi hx gA k2 q0 YJ eB
               have Ey:=x1.len
               have hxa:dj g w aJ vx:=x1
               rcases kB hp with⟨l',vl,YK,H8⟩ | ⟨t0,pq,l',vl,rfl,H8⟩ | ⟨t0,pre,l',vl,rfl,_,H8⟩
               rotate_left 2
               · have vl:m.getD b .dead = .ob (.stk t0 pre) l':=vl
                 rw[vl] at hl;cases hl
               · have hm:m[b]? = some (m.getD b .dead):=getD_some rfl (fun e=>by
                  have vl:(m.getD b .dead).cells?=some l':=vl
                  rw[e] at vl;cases vl)
                 obtain⟨c',cs0,e0,q0',y1,y2,y3,y4,y5⟩:=h.cells b _ l' hm vl
                 rw[hc] at y1;cases y1
                 rw[k2] at y2;cases y2
                 obtain⟨r1,r2,r3⟩:=h.write (b':=b') hm vl hc YK p4 p5 p6 p7 p8 p2 y3 (by rw[p3];exact⟨y4.1.dz _ hxa,kr _ _ _ y4.2 Ap⟩)
                 exact⟨_,w',g,.inl r0,.ms b 0 _ _ cap c hc eB,r1,r2,r3⟩
               · have hm:m[b]? = some (.ob (.gr t0 pq) l'):=getD_some vl (by simp)
                 obtain⟨r1,r2,r3⟩:=h.wQ hm hc k2 (wO hxa) Ap H8 p3 p4 p5 p6 p7 p8 p2
                 exact⟨_,w',g,.inl r0,.ms b 0 _ _ cap c hc eB,r1,r2,r3⟩
             · cases he
            |false=>
             have eB : ¬len+n≤cap:=fun k=>by rw[po k] at hr;cases hr
             simp only[hr,cond_false,dk,ja,di] at he
             obtain⟨rfl,rfl,⟨rfl,h2,h3,h4,h5⟩,h6,h7⟩:=he
             have h2:=fg h2
             have h3:=be h3
             have h4:=fg h4
             have h5:=fg h5
             have h6:=be h6
             have h7:=fg h7
             subst h6
             have kC:=og (P:=P) (w:=w.drew) (c:=c) (len:=len) (cap:=cap) (sz:=info.size) k2 (by omega)
             obtain⟨newCap,g',w',r0,r1,r2,r3,r4⟩:=C4 (P:=P) (aeN (m.getD b .dead)&&j7 (fun i=>m.getD i .dead) info.size x) (ty:=ty) (l:=l.take (len*info.size)) (vs:=cells.toList.take (len*info.size)) h hn hs0 hx0 hu tH hd' hi hz hx gA h2 h3 h4 h5
              (by have:=k3.take (len*info.size);rwa [nc,ph h7] at this)
              (fun v hv=>q3 v (dt hv)) (by rw[eh,gn];omega) kC eB
             exact⟨_,w',g',.inl r0,r4,r1,r2,r3⟩
          · cases he
         · cases he
       · cases he
     · cases he
   · cases he
 · cases he
theorem uF {s:AV} {cs:Value} (h:VA g w s cs):VA g w (nP s) cs:=by
 unfold nP
 split
 · rw[VA.pv] at h
   cases h with
   |ps _ _ _ b o cap f hl hc hz hp hv=>omega
   |qA sz a cap hz=>
    obtain⟨rfl,rfl⟩:=hz.resolve_left (by omega)
    exact .os none 0 0 [] none 0 (.qA 0 none 0 (.inr ⟨rfl,rfl⟩)) (.inl rfl)
 · exact h
end
end Go.Am
end
section
namespace Go.Am
open Go.RowKit
section
variable {P:Program} {g:Gh} {m:Mem} {w:World}
theorem E2 {x:AV} {cx:Value} {b:Bool} (hx:VA g w x cx) (h:JI x=some b) : ∃a len cap,cx = .slice a len cap∧a.isNone=b:=by
 have key : ∀{len sz:Nat} {cs:List PV} {cx:Value},VP g w (.ps len sz cs) cx→cond (bc 1 len) (some false) (cond (Nat.beq sz 0) (some true) none)=some b → ∃a len cap,cx = .slice a len cap∧a.isNone=b:=by
  intro len sz cs cx hx h
  cases hl:bc 1 len with
  |true=>
   simp only[hl,cond_true,dk] at h
   subst h
   have hl:=fg hl
   cases hx with
   |ps _ _ _ b o cap f hl hc hz hp hv=>exact⟨_,_,_,rfl,rfl⟩
   |qA sz a cap hz=>omega
  |false=>
   simp only[hl,cond_false] at h
   cases hs:Nat.beq sz 0 with
   |false=>simp[hs] at h
   |true=>
    simp only[hs,cond_true,dk] at h
    subst h
    have hs:=be hs
    subst hs
    cases hx with
    |ps _ _ _ b o cap f hl hc hz hp hv=>omega
    |qA sz a cap hz=>
     obtain⟨rfl,_⟩:=hz.resolve_left (by omega)
     exact⟨_,_,_,rfl,rfl⟩
 unfold JI at h
 split at h
 · rw[VA.pv] at hx;exact key hx h
 · cases hx with
   |os _ _ _ _ a cap hx hr=>exact key hx h
 · cases hx with
   |ms _ _ _ _ cap c hc hcap=>
    simp only[dk] at h
    exact⟨_,_,_,rfl,h⟩
   |mg _ _ _ _ cap c hc hcap=>
    simp only[dk] at h
    exact⟨_,_,_,rfl,h⟩
 · cases h
set_option linter.unusedVariables false in
theorem vo {ρ:Operand→AV} {cQ:Operand→Value} (hr : ∀x,VA g w (ρ x) (cQ x)) {o:Oper} {op:BinOp} {t yt:TypeId} {x y:Operand} (ho:o.op = .binOp op t x y yt) (hsame:CK (ρ x) (ρ y)=true)
  {a:AV} {us:oX} {ok:Bool} (he:o7 P op t=some (a,us,ok)):us=[] ∧ ∃v,(execOp cQ o).run P w = .ok (.value v) w∧VA g w a v:=by
 unfold o7 at he
 cases he
set_option linter.unusedVariables false in
theorem rO {x a:AV} {cx:Value} (hx:VA g w x cx) {us:oX} {ts:Array TypeId} {ty:TypeId} (he:nR x=some (a,us,true)) :
  us=[] ∧ ∃v,(Builtin.unsafeSliceData_ ts ty #[cx]).run P w = .ok v w∧VA g w a v:=by
 unfold nR at he
 cases he
set_option linter.unusedVariables false in
theorem om (h:Rel g m w) {x n a:AV} {cx cn:Value} (hx:VA g w x cx) (hn:VA g w n cn) {us:oX} {ts:Array TypeId} {ty:TypeId} (he:eX P (fun i=>m.getD i .dead) ts.toList x n=some (a,us,true)) :
  cO g m w (((do pure (.value (←Builtin.unsafeString_ ts ty #[cx,cn])):Sem Next)).run P w) a (apply m us):=by
 unfold eX at he
 cases he
end
end Go.Am
end
