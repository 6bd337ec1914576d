import Derived.Test.YtdmmllcjgjmbbaaGreatDoorMB
import Derived.IntWalk
import Derived.Lib.Builder
import Derived.DeepKeys3
import Derived.MapKept
import Derived.Lib.UnsafeStr
open Array renaming length_toList→fw,getElem?_modify→ln,getElem?_eq_getElem→fv,size_append→lr,getElem?_toList→lv,range→gv,getElem?_push→fx,toList_map→gn,getD→lL
open List renaming take_of_length_le→dq,length_append→di,getD_eq_getElem?_getD→ch,getElem?_set_self→ma,mem_of_getElem?→mb,length_take→dC,getElem?_set_ne→mc,getElem?_cons_zero→mf,getElem?_cons_succ→mi,length_cons→ml,getElem?_toArray→mr,getElem_map→dk,mem_of_mem_take→dd,mem_cons→mv,length_map→my,mem_append→na,getElem?_take→db,set_set→nb,take_take→nc,take_append_of_le_length→np,replicate→cf,getElem?_append_left→od,getElem?_eq_getElem→cb,length_eq_zero_iff→oe,length_set→du,length→oi,getElem?_drop→df,size_toArray→ov,mem_map→eh,take_length→oE,take_set→oR,map_cons→oT,set_comm→pa
open Go.Sem renaming run_bind→iv,run_pure→ja
open Bool renaming and_eq_true→c8,false_eq_true→pb,or_eq_false_iff→pf,not_false→ph,or_eq_true→il,false_or→pj
open Go.Result renaming andThen_ok→jb,andThen→pk
open Nat renaming le_of_ble_eq_true→en,eq_of_beq_eq_true→ai,le_refl→bx,mul_le_mul_right→fe,min_eq_left→pn,add_mul→po,add_zero→pt,zero_add→pw,ble_eq_true_of_le→px,eq_zero_or_pos→py,mul_eq_zero→pA,mod_lt→pB,ble→ag,le_of_eq→pC,sub_mul→fh,beq_eq→fb
open Option.some renaming injEq→c9
open Prod.mk renaming injEq→iu
open Go.Instr renaming lookup→pD,mapUpdate→qf,findNow→qs,makeSlice→ra,buildSlice→rb,checkKey→re,sameBits→rf,storeAt→rh,sureAddr→kb,sameNow→ri,keyThatStays→rk,alloc→rl
open Option renaming map_eq_some_iff→hC,map_some→hZ
open Go.World renaming alloc_eq→rn,size_drew→rp,shape?→rr,drew_eq→rv,freeze→sa
open Go.IntKind renaming i64→sb
open Int renaming toNat_of_nonneg→sd,natCast_mul→se,ofNat_le→sf
open Go.Question renaming appendCap→sg,forced→si
open Go.Builtin renaming zeroCells→sm,append_→ss,firstCells→kz,lenOf→la,nextslicecap→sR
open Go.Value renaming int→sT
open UInt8 renaming ofNat→s0
open ByteArray renaming emptyWithCapacity→ta,empty→tc
open Go.MapKept renaming run_getObj_map→tf,run_findKey→tp,run_setObj_map→tz,run_checkKey→ua,IsKey→ui,heap_set→uv,bytes_beq→vb
section
namespace Go.Am
open Go.RowKit
theorem heap_setCell {w:World} {c o:Nat} {v:Value} {cs:Array Value} {e:TypeId} {n:Nat×Nat} (h:w.heap[c]? = some (.cells cs e n)) :
  (w.setCell ⟨c,o,none⟩ v).heap[c]? = some (.cells (cs.setIfInBounds o v) e n) ∧ ∀k,k≠c→(w.setCell ⟨c,o,none⟩ v).heap[k]? = w.heap[k]? :=by
 refine⟨?_,fun k hk=>Below.heap_setCell _ _ _ _ hk⟩
 simp[World.setCell,ln,h]
section ops
variable {P:Program} {g:Gh} {m:Mem} {w:World}
theorem iI (c off:Nat) : ∀(vs:List Value) (i:Nat) (w:World) (cs:Array Value) (e:TypeId) (n:Nat×Nat),w.heap[c]? = some (.cells cs e n) →
  (∀j,j<vs.length→n.2≤n.1∨off+i+j<n.1)→off+i+vs.length≤cs.size→(∀v∈vs,v.oneCell'=true) →
  ∃w' cs',(storeCells ⟨c,off,none⟩ vs i).run P w = .ok () w'∧w'.heap[c]? = some (.cells cs' e n)∧cs'.toList=cW cs.toList (off+i) vs∧(∀k,k≠c→w'.heap[k]? = w.heap[k]?) ∧
   w'.heap.size=w.heap.size∧w'.os=w.os∧w'.tape=w.tape∧w'.output=w.output
 |[],i,w,cs,e,n,h,_,_,_=>⟨w,cs,rfl,h,rfl,fun _ _=>rfl,rfl,rfl,rfl,rfl⟩
 |v::vs,i,w,cs,e,n,h,hf,hl,h1=>by
  simp only[ml] at hl
  obtain⟨k1,k2⟩:=heap_setCell (o:=off+i) (v:=v) h
  have hcell:w.cell? ⟨c,off+i,none⟩=some cs[off+i]:=by rw[aX h,fv (by omega)]
  have hfz:w.frozen? ⟨c,off+i,none⟩=false:=by
   have:=hf 0 (by simp)
   simp only[World.frozen?,h,Bool.and_eq_false_iff,decide_eq_false_iff_not]
   omega
  obtain⟨w',cs',q1,q2,q3,q4,q5,q6,q7,q8⟩:=iI c off vs (i+1) (w.setCell ⟨c,off+i,none⟩ v) (cs.setIfInBounds (off+i) v) e n k1
   (fun j hj=>by have:=hf (j+1) (by simp;omega);omega) (by simp;omega) (fun u hu=>h1 u (.tail _ hu))
  refine⟨w',cs',?_,q2,?_,fun k hk=>(q4 k hk).trans (k2 k hk),q5.trans (by simp),q6,q7,q8⟩
  · simp only[storeCells,iv,cK,run_store P w _ v _ (h1 v (.head _)),hcell,hfz,pb,if_false,jb,q1]
  · rw[q3];simp[cW,Nat.add_assoc]
theorem wE {α:Type} (f:Nat→α) (n:Nat) (h:n=0):((gv n).map f).toList=[]:=by subst h;simp
theorem gQ {α:Type} : ∀(n l:List α) (o:Nat),(cW l o n).length=l.length
 |[],_,_=>rfl
 |x::n,l,o=>by simp[cW,gQ n]
theorem Dk {α β:Type} (f:α→β) : ∀(n l:List α) (o:Nat),(cW l o n).map f=cW (l.map f) o (n.map f)
 |[],_,_=>rfl
 |x::n,l,o=>by simp[cW,Dk f n,List.map_set]
theorem wF {α:Type} : ∀(n l:List α) (o k:Nat),k<o∨o+n.length≤k→(cW l o n)[k]? = l[k]?
 |[],_,_,_,_=>rfl
 |x::n,l,o,k,h=>by
  simp only[ml] at h
  rw[cW,wF n _ (o+1) k (by omega),mc (by omega)]
theorem Dl {α:Type} : ∀(n l:List α) (o k:Nat) (_:k<n.length),o+n.length≤l.length→(cW l o n)[o+k]? = n[k]?
 |x::n,l,o,0,_,h=>by
  simp only[ml] at h
  simp only[cW,pt]
  rw[wF n _ (o+1) o (.inl (Nat.lt_succ_self _)),ma (by omega)]
  rfl
 |x::n,l,o,k+1,hk,h=>by
  simp only[ml] at h
  have hk:k<n.length:=by simpa using hk
  simp only[cW,show o+(k+1)=o+1+k by omega]
  rw[Dl n _ (o+1) k hk (by rw[du];omega)]
  simp
 |[],_,_,_,hk,_=>by simp at hk
theorem Dm {g:Gh} {w:World} {v:AV} {cv:Value} (h:VA g w v cv):VA g w (C7 v) cv:=by
 unfold C7
 split
 · cases h with
   |os tok len sz cells a cap h hr=>exact .p _ _ h
 · exact h
theorem nM {g:Gh} {w:World} : ∀{l:List AV} {cs:List Value},cL g w l cs→cL g w (l.map C7) cs
 |[],[],_=>trivial
 |_::_,_::_,h=>⟨Dm h.1,nM h.2⟩
 |[],_::_,h=>h.elim
 |_::_,[],h=>h.elim
theorem wG {g:Gh} {w:World} {q:Bool} {l:List AV} {cs:List Value} (h:cL g w l cs):cL g w (KV q l) cs:=by
 cases q with
 |true=>exact nM h
 |false=>exact h
theorem wH (q:Bool) (l:List AV):(KV q l).length=l.length:=by
 cases q with
 |true=>exact my ..
 |false=>rfl
theorem j3 {b b':aU} {off:Nat} {vs:List AV} (h:qG b off vs=some (b',true)):(∃l,b.cells?=some l∧b'.cells?=some (cW l off vs)∧off+vs.length≤l.length) ∨
  (∃t q l,b = .ob (.gr t q) l∧b' = .ob (.gr t q) (cW l off (KV q vs))∧off+(KV q vs).length≤l.length) ∨
  ∃t pre l,b = .ob (.stk t pre) l∧b' = .ob (.stk t pre) (cW l (off-pre.length) vs)∧pre.length≤off∧off-pre.length+vs.length≤l.length:=by
 unfold qG at h
 split at h
 · rename_i l
   split at h
   · rename_i aI hp
     simp only[c9,iu] at h
     obtain⟨rfl,h1⟩:=h
     refine .inl ⟨l.map .p,rfl,?_,by simpa using en h1⟩
     simp[aU.cells?,Dk,qQ hp]
   · simp only[c9,iu] at h
     obtain⟨rfl,h1⟩:=h
     exact .inl ⟨l.map .p,rfl,rfl,by simpa using en h1⟩
 · rename_i l
   simp only[c9,iu] at h
   obtain⟨rfl,h1⟩:=h
   exact .inl ⟨l,rfl,rfl,en h1⟩
 · rename_i t pq l
   simp only[c9,iu] at h
   obtain⟨rfl,h1⟩:=h
   exact .inr (.inl ⟨_,_,l,rfl,rfl,by rw[wH];exact en h1⟩)
 · rename_i t pre l
   simp only[c9,iu,c8] at h
   obtain⟨rfl,h1,h2⟩:=h
   exact .inr (.inr ⟨_,_,l,rfl,rfl,en h1,en h2⟩)
 · cases h
theorem um {α:Type} : ∀(n pre l:List α) (o:Nat),pre.length≤o→cW (pre++l) o n=pre++cW l (o-pre.length) n
 |[],_,_,_,_=>rfl
 |v::n,pre,l,o,h=>by
  simp only[cW]
  rw[List.set_append_right _ _ h,um n pre _ (o+1) (by omega)]
  congr 2
  omega
theorem Ai {α:Type} : ∀(n l:List α) (o k:Nat),o+n.length≤k→(cW l o n).take k=cW (l.take k) o n
 |[],_,_,_,_=>rfl
 |v::n,l,o,k,h=>by
  simp only[ml] at h
  simp only[cW]
  rw[Ai n (l.set o v) (o+1) k (by omega),oR]
theorem Rel.wI {m:Mem} {w w':World} (h:Rel g m w) {b c:Nat} {k xs:List AV} {us:List Value} {off:Nat} {cs cs':Array Value} {e t:TypeId} {pq:Bool} {n:Nat×Nat} (hb:m[b]? = some (.ob (.gr t pq) k)) (hc:g.bP b=some c) (hcs:w.heap[c]? = some (.cells cs e n))
  (hx:cL g w xs us) (hone : ∀v∈us,v.oneCell'=true) (hroom:off+xs.length≤k.length) (hl:cs'.toList=cW cs.toList off us)
  (hw : ∀j,j≠c→w'.heap[j]? = w.heap[j]?) (hs:w'.heap.size=w.heap.size) (ho:w'.os=w.os) (ht:w'.tape=w.tape) (hu:w'.output=w.output) (hh:w'.heap[c]? = some (.cells cs' e n)) :
  Rel g (m.set b (.ob (.gr t pq) (cW k off xs))) w'∧Ext g w g w'∧dm g m w g (m.set b (.ob (.gr t pq) (cW k off xs))) w':=by
 obtain⟨c',ob,vs,h1,h2,h3,h4,h5,h6⟩:=h.obs b _ _ hb
 rw[hc] at h1;cases h1
 obtain⟨cs0,e0,n0,rfl,qt,q0,q1,q2,q3⟩:=h4
 rw[hcs] at h2;cases h2
 have Aj:=h3.len
 have hxl:=hx.len
 have hsz:cs'.size=cs.size:=by
  have:=congrArg oi hl
  rw[gQ] at this;simpa using this
 have hvl:(cW vs off us).length=vs.length:=gQ _ _ _
 refine h.fP (Df:= .gr t pq) (l':=cW k off xs) (vs':=cW vs off us) hb hc hw hs ho ht hu hh ⟨cs',e,n,rfl,qt,q0,?_,by omega,fun v hv=> ?_⟩ (h3.cW off hx) (by show cs'.size=g.hi b;rw[hsz];exact h6)
 · rw[hvl,hl,Ai us cs.toList off vs.length (by omega),←q1]
 · rw[hl] at hv
   exact jY _ _ _ q3 hone v hv
theorem zx (h:Rel g m w) {t:TypeId} {a v r:AV} {ca cv:Value} {us:nv} (ha:VA g w a ca) (hv:VA g w v cv) (he:qH P (fun i=>m.getD i .dead) t a v=some (r,us,true)) :
  ∃w',(rh t ca cv).run P w = .ok () w'∧r = .au []∧Rel g (apply m us) w'∧Ext g w g w'∧dm g m w g (apply m us) w':=by
 unfold qH at he
 split at he
 · rename_i b off n hsz
   split at he
   · rename_i b' ok hp
     simp only[c9,iu,c8,fb] at he
     obtain⟨rfl,rfl,⟨rfl,h1⟩,h2⟩:=he
     obtain⟨k1,k2⟩:=kZ h1 hv
     cases ha with
     |mp _ _ c hc=>
     have hsize:cv.cells.size=n:=by have Aj:=k1.len;simp at Aj;omega
     rcases j3 hp with⟨l,hl,hl',hroom⟩ | ⟨t0,pq,l,hl,rfl,hroom⟩ | ⟨t0,pre,l,hl,rfl,hpre,hroom⟩
     case inr.inr=>
      have hm:m[b]? = some (.ob (.stk t0 pre) l):=getD_some hl (by simp)
      obtain⟨hg,hs0⟩:=h.Fp hm
      have Qe:=bq hm
      have Yi:(m.set b (.ob (.gr t0 false) (exactly pre++l)))[b]? = some (.ob (.gr t0 false) (exactly pre++l)):=by rw[ma Qe]
      obtain⟨c',ob,vs,h1',h2',h3',h4',h5',h6'⟩:=hg.obs b _ _ Yi
      rw[hc] at h1';cases h1'
      obtain⟨cs,e,q,rfl,_,q0,q1,q2,q3⟩:=h4'
      have hlen:=h3'.len
      have Aj:=k1.len
      rw[di,bz] at hlen
      simp at Aj
      obtain⟨w',cs',p1,p2,p3,p4,p5,p6,p7,p8⟩:=iI (P:=P) c off cv.cells.toList 0 w cs e q h2' (fun _ _=> .inl q0) (by simp;omega) k2
      simp only[pt] at p3
      obtain⟨r1,r2,r3⟩:=hg.wI Yi hc h2' k1 k2 (by rw[di,bz];omega) p3 p4 p5 p6 p7 p8 p2
      rw[um _ _ _ _ (by rw[bz];exact hpre),bz,nb] at r1 r3
      obtain⟨z1,z2⟩:=r1.Lh (b:=b) (by rw[ma Qe])
      rw[nb] at z1 z2
      exact⟨w',by simp[rh,kb,storeVar,aK hsz,hsize,p1],rfl,z1,r2,(hs0.trans r3).trans z2⟩
     case inr.inl=>
      have hm:m[b]? = some (.ob (.gr t0 pq) l):=getD_some hl (by simp)
      obtain⟨c',ob,vs,h1',h2',h3',h4',h5',h6'⟩:=h.obs b _ _ hm
      rw[hc] at h1';cases h1'
      obtain⟨cs,e,q,rfl,_,q0,q1,q2,q3⟩:=h4'
      have hlen:=h3'.len
      have Aj:=k1.len
      have T5:=hroom
      rw[wH] at T5
      simp at Aj
      obtain⟨w',cs',p1,p2,p3,p4,p5,p6,p7,p8⟩:=iI (P:=P) c off cv.cells.toList 0 w cs e q h2' (fun _ _=> .inl q0) (by simp;omega) k2
      simp only[pt] at p3
      obtain⟨r1,r2,r3⟩:=h.wI hm hc h2' (wG k1) k2 hroom p3 p4 p5 p6 p7 p8 p2
      exact⟨w',by simp[rh,kb,storeVar,aK hsz,hsize,p1],rfl,r1,r2,r3⟩
     have hm:m[b]? = some (m.getD b .dead):=getD_some rfl (fun e=>by
      have hl:(m.getD b .dead).cells?=some l:=hl
      rw[e] at hl;cases hl)
     obtain⟨c',cs,e,q,q1,q2,q3,q4,q5⟩:=h.cells b _ l hm hl
     rw[hc] at q1;cases q1
     have hlen:=q4.1.len
     have Aj:=k1.len
     simp at hlen Aj
     obtain⟨w',cs',p1,p2,p3,p4,p5,p6,p7,p8⟩:=iI (P:=P) c off cv.cells.toList 0 w cs e q q2 (fun _ _=> .inl q3) (by simp;omega) k2
     simp only[pt] at p3
     obtain⟨r1,r2,r3⟩:=h.write (b':=b') hm hl hc hl' p4 p5 p6 p7 p8 p2 q3 (by rw[p3];exact⟨q4.1.cW off k1,jY _ _ _ q4.2 k2⟩)
     refine⟨w',?_,rfl,r1,r2,r3⟩
     simp[rh,kb,storeVar,aK hsz,hsize,p1]
   · cases he
 · cases he
theorem zy (h:Rel g m w) {aZ:Nat} (hn:m[aZ]? = some .free) {t:TypeId} {a:AV} {us:nv} {ok:Bool} (he:BA P aZ t=some (a,us,ok)) {ty:TypeId} {pos:String} {o:Oper} {cg:Operand→Value} (ho:o.op = .alloc t) (_:ty=ty) (_:pos=pos) :
  b8 g m w ((execOp cg o).run P w) a (apply m us):=by
 unfold BA at he
 simp only[hC,iu] at he
 obtain⟨l,hz,rfl,rfl,rfl⟩:=he
 obtain⟨z,Hr,Fq⟩:=ct (g:=g) (w:=w) hz
 refine b8.alloc h hn (nI l) Fq (e:=t) (v:= .pointer (some ⟨w.heap.size,0,none⟩)) ?_ fun g' hg=> .mp aZ 0 _ hg
 simp[execOp,ho,rl,Hr,newVar,newRow]
theorem wJ (h:Rel g m w) {aZ:Nat} (hn:m[aZ]? = some .free) {t:TypeId} {a:AV} {us:nv} {ok:Bool} (he:vS P aZ t=some (a,us,ok)) {o:Oper} {cg:Operand→Value} (ho:o.op = .alloc t) :
  b8 g m w ((execOp cg o).run P w) a (apply m us):=by
 unfold vS at he
 simp only[hC,iu] at he
 obtain⟨l,hz,rfl,rfl,rfl⟩:=he
 obtain⟨z,Hr,Fq⟩:=ct (g:=g) (w:=w) hz
 have hlen:=Fq.1.len
 obtain⟨r1,r2,r3⟩:=h.qS z.cells.size (ob:= .gr t false) (l:=l) (vs:=z.cells.toList) hn Fq.1 (eI w (.cells z.cells t)) ⟨z.cells,t,(0,0),rfl,rfl,bx _,(dq (bx _)).symm,by simp,Fq.2⟩ rfl
 refine⟨.pointer (some ⟨w.heap.size,0,none⟩),_,_,.inl ?_,.mp aZ 0 _ (by simp[Gh.put]),r1,r2,r3⟩
 simp[execOp,ho,rl,Hr,newVar,newRow]
theorem Dn (h:Rel g m w) {aZ:Nat} (hn:m[aZ]? = some .free) {v a:AV} {cv:Value} {us:nv} (hv:VA g w v cv) (he:KW aZ v=some (a,us,true)) {t:TypeId} {r:Result Next} (hr:r = .ok (.value (.pointer (some ⟨w.heap.size,0,none⟩))) (w.alloc (.cells cv.cells t))) :
  b8 g m w r a (apply m us):=by
 unfold KW at he
 simp only[c9,iu] at he
 obtain⟨rfl,rfl,h1⟩:=he
 exact b8.alloc h hn (nI _) (kZ h1 hv) (e:=t) hr fun g' hg=> .mp aZ 0 _ hg
theorem b8.Ak (h:Rel g m w) {len size:Nat} {aI:List PV} {cs:Array Value} {e:TypeId} (hv:Ho g w aI cs.toList) (ho : ∀v∈cs.toList,v.oneCell'=true) (hl:cs.size=len*size) (Hr:1≤size) {r:Result Next}
  (hr:r = .ok (.value (.slice (some ⟨w.heap.size,0,none⟩) len len)) (w.alloc (.cells cs e))):b8 g m w r (.os none len size aI) m:=by
 obtain⟨h1,h2,h3⟩:=h.qR (eI w (.cells cs e))
 have KP:=hv.len
 simp at KP
 refine⟨_,_,_,.inl hr,.os none len size aI _ len ?_ (.inl rfl),h1,h2,h3⟩
 refine .ps len size aI w.heap.size 0 len (fun k=>cs.getD k undef) (by omega) (bx _) Hr (fun k hk=> ?_) fun k hk=> ?_
 · have:k<cs.size:=by omega
   refine⟨.inr ⟨rfl,by omega,by omega⟩,?_,by simpa[lL,this] using ho cs[k] (by simp)⟩
   rw[aX (eI w (.cells cs e)).new]
   simp[lL,this]
 · have:k<cs.size:=by omega
   have hk2:=hv.get k hk (by simpa using this)
   simp only[lL,this,dite_true]
   exact hk2.mono h2.pure
theorem uo {elem:TypeId} {wr:Bool} {cells:List AV} {aI:List PV} (h:Fh P elem wr cells=some aI):kH cells=some aI:=by
 unfold Fh at h
 split at h
 · cases h
 · exact h
theorem qg (h:Rel g m w) {aZ:Nat} (hn:m[aZ]? = some .free) {wr:Bool} {t:TypeId} {len:Nat} {parts:List (Nat×AV)} {jZ:Array (Nat×Value)} {a:AV} {us:nv}
  (he:mh P wr aZ t len parts=some (a,us,true)) (hp:bu (fun a b=>a.1=b.1∧VA g w a.2 b.2) parts jZ.toList) :
  b8 g m w (((do pure (.value (←rb t len jZ)):Sem Next)).run P w) a (apply m us):=by
 unfold mh at he
 split at he
 · rename_i elem hu
   split at he
   · rename_i size z hsz hz
     split at he
     · rename_i cells ok hf
       obtain⟨size',z0,e1,e2,e3,e4,rfl⟩:=Lj hz
       rw[hsz] at e1;cases e1
       obtain⟨zv,z1,z2⟩:=ct (g:=g) (w:=w) e2
       have hzl:=z2.1.len
       simp at hzl
       have hzs:zv.cells.size=size:=by omega
       have key : ∀(b:Bool),ok=true→ag (len*size) 16777216=true →
        ∃BU,(rb t len jZ).run P w = .ok (.slice (some ⟨w.heap.size,0,none⟩) len len) (w.alloc (.cells BU elem))∧Fc g w cells BU.toList∧BU.size=len*size:=by
        intro _ hok hle
        subst hok
        have hle:=en hle
        have Dp:Fc g w (cr z0 len) ((gv (len*size)).map ((if len*size=0 then #[] else zv.cells)[· % (if len*size=0 then #[] else zv.cells).size]!)).toList:=by
         by_cases e:len*size=0
         · have:len=0:=by rcases pA.1 e with k | k<;>omega
           rw[wE _ _ e,this];exact⟨trivial,fun _ h=>by cases h⟩
         · simp only[e,if_false]
           have h1:=sX z2.1 len
           have h2:=BV z2.2 len
           rw[hzs] at h1 h2 ⊢;exact⟨h1,h2⟩
        obtain⟨BU,f1,f2,f3⟩:=kP hp Dp hf
        refine⟨BU,?_,f2,by rw[f3];simp⟩
        have hnot : ¬(len*size>2 ^ 24):=by omega
        clear Dp f2 f3
        by_cases e:len*size=0
        · simp only[e,if_true] at f1 hnot
          simp only[rb,iv,run_underlying hu,jb,aK hsz,hnot,if_false,e,if_true,f1,newRow,run_newObj,rn,ja]
        · simp only[e,if_false] at f1
          simp only[rb,iv,run_underlying hu,jb,aK hsz,hnot,if_false,e,z1,f1,newRow,run_newObj,rn,ja]
       split at he
       · rename_i aI Ft
         simp only[c9,iu,c8] at he
         obtain⟨rfl,rfl,hok,hle⟩:=he
         obtain⟨BU,k1,k2,k3⟩:=key true hok hle
         exact b8.Ak (e:=elem) h (dS (uo Ft) k2.1) k2.2 k3 (by omega) (by simp[k1])
       · rename_i aI Ft
         simp only[c9,iu,c8] at he
         obtain⟨rfl,rfl,hok,hle⟩:=he
         obtain⟨BU,k1,k2,k3⟩:=key true hok hle
         have hpp:=dS (uo Ft) k2.1
         have zz:cL g w (aI.map .p) BU.toList:=bu.dA (by simpa using hpp.len) fun i a b=>by
          have:=hpp.get i (by simpa using a) b
          rw[dk];exact .p _ _ this
         obtain⟨r1,r2,r3⟩:=h.qS BU.size (ob:= .gr elem true) (l:=aI.map .p) (vs:=BU.toList) hn zz (eI w (.cells BU elem)) ⟨BU,elem,(0,0),rfl,rfl,bx _,(dq (bx _)).symm,by simp,k2.2⟩ rfl
         exact⟨_,_,_,.inl (by simp[k1]),.mg aZ 0 len size len w.heap.size (by simp[Gh.put]) (bx _) (by simp[Gh.put];omega),r1,r2,r3⟩
       · simp only[c9,iu,c8] at he
         obtain⟨rfl,rfl,hok,hle⟩:=he
         obtain⟨BU,k1,k2,k3⟩:=key true hok hle
         exact b8.alloc h hn (nI _) k2 (e:=elem) (v:= .slice (some ⟨w.heap.size,0,none⟩) len len) (by simp[k1]) fun g' hg=> .ms aZ 0 len size len _ hg (bx _)
     · cases he
   · cases he
 · cases he
theorem sY {n:Int} (h0:0≤n) (h1:n≤9223372036854775807):sb.wrap n=n:=IntWalk.i64_in n ⟨by omega,h1⟩
theorem qZ (h:Rel g m w) {aZ:Nat} (hn:m[aZ]? = some .free) {t:TypeId} {len cap a:AV} {cl cc:Value} {us:nv}
  (hl:VA g w len cl) (hc:VA g w cap cc) (he:nA P aZ t len cap=some (a,us,true)) :
  b8 g m w (((do pure (.value (←ra t cl cc)):Sem Next)).run P w) a (apply m us):=by
 unfold nA at he
 split at he
 · rename_i elem k l k' c hu
   rw[VA.pv] at hl hc
   cases hl;cases hc
   split at he
   · rename_i info bP hi hb
     simp only[c9,iu,c8,decide_eq_true_eq] at he
     obtain⟨rfl,rfl,⟨⟨h0,h1⟩,h2⟩,h3⟩:=he
     have h2:=en h2
     have h3:=en h3
     unfold gi at h2 h3
     obtain⟨size,z,e1,e2,e3,e4,e5⟩:=Ll hb
     have hsize:size=info.size:=by simp[fN,hi] at e1;exact e1.symm
     obtain⟨zv,z1,z2⟩:=ct (g:=g) (w:=w) e2
     have hzl:=z2.1.len
     simp at hzl
     have hzs:zv.cells.size=size:=by omega
     have hw1:sb.wrap l=l:=sY h0 (by omega)
     have hw2:sb.wrap c=c:=sY (by omega) (by omega)
     have hcn:(c.toNat:Int)=c:=sd (by omega)
     have Qf:(info.bytes:Int)*c≤70368744177664:=by
      have:((info.bytes*c.toNat:Nat):Int)≤70368744177664:=sf.2 h3
      rwa [se,hcn] at this
     have Dp:Fc g w (cr z c.toNat) ((gv (c.toNat*size)).map ((if c.toNat*size=0 then #[] else zv.cells)[· % (if c.toNat*size=0 then #[] else zv.cells).size]!)).toList:=by
      by_cases e:c.toNat*size=0
      · have:c.toNat=0:=by rcases pA.1 e with k | k<;>omega
        rw[wE _ _ e,this];exact⟨trivial,fun _ h=>by cases h⟩
      · simp only[e,if_false]
        have h1:=sX z2.1 c.toNat
        have h2:=BV z2.2 c.toNat
        rw[hzs] at h1 h2 ⊢;exact⟨h1,h2⟩
     have hsz:fN P elem=some size:=e1
     refine b8.alloc h hn e5 Dp (e:=elem) (v:= .slice (some ⟨w.heap.size,0,none⟩) l.toNat c.toNat) ?_ fun g' hg=>hsize ▸ .ms aZ 0 l.toNat size c.toNat _ hg (by omega)
     have t1:(decide (c<0)||decide ((info.bytes:Int)*c>2 ^ 48))=false:=by simp only[pf,decide_eq_false_iff_not];omega
     have t2:((decide (c<0)||decide ((info.bytes:Int)*c>2 ^ 48))||decide (l<0)||decide (l>c))=false:=by rw[t1,pj,pf,decide_eq_false_iff_not,decide_eq_false_iff_not];exact⟨by omega,by omega⟩
     by_cases e:c.toNat*size=0
     · simp only[ra,iv,run_underlying hu,jb,asInt,asIntOf,ja,fo hi,hw1,hw2,t2,pb,if_false,run_askRoom,aK hsz,e,if_true,newRow,run_newObj,rn]
     · simp only[ra,iv,run_underlying hu,jb,asInt,asIntOf,ja,fo hi,hw1,hw2,t2,pb,if_false,run_askRoom,aK hsz,e,z1,newRow,run_newObj,rn]
   · cases he
 · cases he
theorem uq {α:Type} (v:α) : ∀n,cr [v] n=cf n v
 |0=>rfl
 |n+1=>by rw[cr,uq v n];rfl
theorem mY {z:AV} {pv:PV} (h:C5 z=some pv) : ∀n,kH (cf n z)=some (cf n pv)
 |0=>rfl
 |n+1=>by simp only[List.replicate_succ,kH,h,mY h n]
theorem sZ (h:Rel g m w) {t:TypeId} {len cap a:AV} {cl cc:Value} {us:nv}
  (hl:VA g w len cl) (hc:VA g w cap cc) (he:pY P t len cap=some (a,us,true)) :
  b8 g m w (((do pure (.value (←ra t cl cc)):Sem Next)).run P w) a (apply m us):=by
 unfold pY at he
 split at he
 · rename_i elem k l k' c hu
   rw[VA.pv] at hl hc
   cases hl;cases hc
   split at he
   · rename_i info z hi hz
     split at he
     · rename_i pv Ft
       simp only[c9,iu,c8,decide_eq_true_eq] at he
       obtain⟨rfl,rfl,h0,rfl,h1,h2,h3⟩:=he
       have h1:=ai h1
       have h2:=en h2
       have h3:=en h3
       unfold gi at h2 h3
       have hsz:fN P elem=some 1:=by simp[fN,hi,h1]
       obtain⟨zv,z1,z2⟩:=ct (g:=g) (w:=w) hz
       have hzl:=z2.1.len
       simp at hzl
       have hzs:zv.cells.size=1:=by omega
       have hw1:sb.wrap l=l:=sY h0 (by omega)
       have hcn:(l.toNat:Int)=l:=sd h0
       have Qf:(info.bytes:Int)*l≤70368744177664:=by
        have:((info.bytes*l.toNat:Nat):Int)≤70368744177664:=sf.2 h3
        rwa [se,hcn] at this
       have Dp:Fc g w (cr [z] l.toNat) ((gv (l.toNat*1)).map ((if l.toNat*1=0 then #[] else zv.cells)[· % (if l.toNat*1=0 then #[] else zv.cells).size]!)).toList:=by
        by_cases e:l.toNat*1=0
        · have:l.toNat=0:=by omega
          rw[wE _ _ e,this];exact⟨trivial,fun _ h=>by cases h⟩
        · simp only[e,if_false]
          have k1:=sX z2.1 l.toNat
          have k2:=BV z2.2 l.toNat
          rw[hzs] at k1 k2 ⊢;exact⟨k1,k2⟩
       rw[uq] at Dp
       have t1:(decide (l<0)||decide ((info.bytes:Int)*l>2 ^ 48))=false:=by simp only[pf,decide_eq_false_iff_not];omega
       have t2:((decide (l<0)||decide ((info.bytes:Int)*l>2 ^ 48))||decide (l<0)||decide (l>l))=false:=by rw[t1,pj,pf,decide_eq_false_iff_not,decide_eq_false_iff_not];exact⟨by omega,by omega⟩
       refine b8.Ak (e:=elem) h (dS (mY Ft _) Dp.1) Dp.2 (by simp) (bx 1) ?_
       by_cases e:l.toNat*1=0
       · simp only[ra,iv,run_underlying hu,jb,asInt,asIntOf,ja,fo hi,hw1,t2,pb,if_false,run_askRoom,aK hsz,e,if_true,newRow,run_newObj,rn]
       · simp only[ra,iv,run_underlying hu,jb,asInt,asIntOf,ja,fo hi,hw1,t2,pb,if_false,run_askRoom,aK hsz,e,z1,newRow,run_newObj,rn]
     · cases he
   · cases he
 · cases he
end ops
end Go.Am
end
section
namespace Go.Am
open Go.RowKit
section ops
variable {P:Program} {g:Gh} {m:Mem} {w:World}
theorem VP.mk {len sz cap b o:Nat} {cells:List PV} {us:List Value} (h:Ho g w cells us) (hl:us.length=len*sz) (hc:len≤cap) (hz:1≤sz)
  (hu : ∀k v,us[k]? = some v→w.cell? ⟨b,o+k,none⟩=some v∧g.pure b (o+k)∧v.oneCell'=true):VP g w (.ps len sz cells) (.slice (some ⟨b,o,none⟩) len cap):=by
 have Lm:=h.len
 refine .ps len sz cells b o cap (fun k=>us.getD k undef) (by omega) hc hz (fun k hk=> ?_) fun k hk=> ?_
 · have:us[k]? = some us[k]:=cb (by omega)
   obtain⟨h1,h2,h3⟩:=hu k _ this
   exact⟨h2,by rw[h1,ch,this];rfl,by rw[ch,this];exact h3⟩
 · have:us[k]? = some us[k]:=cb (by omega)
   rw[ch,this]
   exact h.get k hk (by omega)
theorem Ln {len sz cap:Nat} {cs:List PV} {ad:Option Addr} (h:VP g w (.ps len sz cs) (.slice ad len cap)) : ∀b o,(ad=some ⟨b,o,none⟩∨len=0) →
  ∃us,Ho g w cs us∧us.length=len*sz ∧ ∀k v,us[k]? = some v→w.cell? ⟨b,o+k,none⟩=some v∧g.pure b (o+k)∧v.oneCell'=true:=by
 intro b o ha
 cases h with
 |ps _ _ _ b' o' cap f hl hc hz hp hv=>
  rcases ha with ha | rfl
  · cases ha
    refine⟨(List.range cs.length).map f,bu.dA (by simp) fun i hi _=>by simpa using hv i hi,by simp[hl],fun k v hk=> ?_⟩
    simp only[List.getElem?_map,hC] at hk
    obtain⟨j,hj,rfl⟩:=hk
    obtain⟨hlt,hj⟩:=List.getElem?_eq_some_iff.1 hj
    simp at hlt hj;subst hj
    exact⟨(hp k hlt).2.1,(hp k hlt).1,(hp k hlt).2.2⟩
  · simp at hl;subst hl
    exact⟨[],trivial,by simp,fun k v hk=>by simp at hk⟩
 |sS=>exact⟨[],trivial,by simp,fun k v hk=>by simp at hk⟩
theorem zA {aZ:Nat} {tok:Option Nat} {us:nv} (hn:m[aZ]? = some .free) (h:oJ (fun i=>m.getD i .dead) aZ tok=some us) (hr:Rel g m w) :
  ∃m1:Mem,apply m us=m1.set aZ .tok∧m1[aZ]? = some .free∧Rel g m1 w∧dm g m w g m1 w ∧ ∀t,tok=some t→m[t]? = some .tok∧m1=m.set t .dead:=by
 unfold oJ at h
 split at h
 · simp only[c9] at h;subst h
   exact⟨m,rfl,hn,hr,dm.refl g m w,fun t e=>by cases e⟩
 · rename_i t
   split at h
   · rename_i ht
     simp only[c9] at h;subst h
     have ht:=getD_some ht (by simp)
     have hne:t≠aZ:=fun e=>by subst e;rw[ht] at hn;cases hn
     obtain⟨k1,k2⟩:=hr.kill t
     refine⟨m.set t .dead,rfl,by rw[mc hne];exact hn,k1,k2,fun t' e=>by cases e;exact⟨ht,rfl⟩⟩
   · cases h
theorem sW.drew {sz n:Nat} {x:AV} {cx:Value} {aI:List PV} (h:Rel g m w) (hx:VA g w x cx) (he:contents (fun i=>m.getD i .dead) sz x=some (n,aI,true)):sW P g w.drew sz n aI cx:=by
 obtain⟨h1,h2,_⟩:=h.jX (w':=w.drew) rfl rfl rfl rfl
 exact fJ h1 he (hx.mono h2)
theorem lf (need old:Nat) (elem:TypeId) (t:Nat):need≤(sg need old elem).cut t:=by simp[Question.cut]
theorem wK (h:Rel g m w) {aZ:Nat} (hn:m[aZ]? = some .free) {argTypes:Array TypeId} {ty:TypeId} {s x a:AV} {cs cx:Value} {us:nv}
  (hs:VA g w s cs) (hx:VA g w x cx) (he:iS P (fun i=>m.getD i .dead) aZ argTypes s x=some (a,us,true)) :
  b8 g m w (((do pure (.value (←ss argTypes ty #[cs,cx])):Sem Next)).run P w) a (apply m us):=by
 unfold iS at he
 split at he
 · rename_i sType xType hs0 hx0
   split at he
   · cases he
   · rename_i elem d hd hu td
     split at he
     · rename_i info z hi hz
       split at he
       · rename_i n aI ok tok len sz cells gq
         simp only[hC,iu,c8] at he
         obtain⟨us',T6,rfl,rfl,⟨⟨⟨⟨rfl,h1⟩,h2⟩,h3⟩,h4⟩,h5⟩:=he
         have h2:=en h2
         have h3:=ai h3
         have h4:=en h4
         have h5:=en h5
         unfold gi at h4 h5
         obtain⟨zv,z1,z2⟩:=ct (g:=g) (w:=w) hz
         have hzl:=z2.1.len
         simp only[fw] at hzl
         have hzs:zv.cells.size=info.size:=by omega
         have hsz:fN P elem=some info.size:=by simp[fN,hi]
         obtain⟨m1,e1,e2,e3,e4,e5⟩:=zA hn T6 h
         cases hs with
         |os _ _ _ _ ad cap hps zp=>
         have Dq:VP g w (.ps len info.size cells) (.slice ad len cap):=jy hps (by
          rw[il] at h1 ⊢
          refine h1.imp id fun k=> ?_
          simp only[c8] at k ⊢
          exact⟨k.1,px h2⟩)
         obtain⟨_,_,_,q,hcap⟩:=mC Dq
         cases q
         rw[e1]
         by_cases ef:len+n≤cap
         ·
          obtain⟨vx,x1,x2,hone,x3,x4⟩:=fJ (P:=P) h gq hx
          have x5:=x4 n (bx _)
          rw[dq (by omega)] at x5
          rcases zp with hfull | ⟨t,b,o,rfl,rfl,t1,t2,t3,t4⟩
          · have hn0:n=0:=by omega
            subst hn0
            have zB:vx=[]:=oe.1 (by simpa using x2)
            subst zB
            have Ft:aI=[]:=by cases aI with
             |nil=>rfl
             |cons _ _=>exact x1.elim
            subst Ft
            obtain⟨r1,r2⟩:=e3.Qa e2
            refine⟨.slice ad (len+0) cap,w,g,.inl ?_,?_,r1,Ext.refl g w,e4.trans r2⟩
            · simp only[ss,hs0,hx0,mr,mf,mi,iv,run_underlying hu,jb,aK hsz,run_underlying td,ja,pb,if_false,x3,ef,if_true,ph,x5]
              cases ad<;>simp[storeCells]
            · rw[List.append_nil]
              exact .os _ _ _ _ _ _ (by simpa using Dq) (.inl (by simpa using hfull))
          ·
           obtain⟨m1t,m1e⟩:=e5 t rfl
           have hsize:sz=info.size:=by simpa using h1
           subst hsize
           obtain⟨Qg,e,q,k1,k2,k3,k4⟩:=h.tok t b m1t t1
           have hmul:(len+n)*info.size=len*info.size+n*info.size:=po _ _ _
           have T7:(len+n)*info.size≤cap*info.size:=fe _ ef
           obtain⟨w',Tw,p1,p2,p3,p4,p5,p6,p7,p8⟩:=iI (P:=P) b (o+len*info.size) vx 0 w Qg e q k1 (fun j hj=>k3.imp id fun k3=>by omega) (by omega) hone
           simp only[pt] at p3
           have abZ:Tw.size=Qg.size:=by
            have:=congrArg oi p3
            rw[gQ] at this;simpa using this
           have hsp:=h.spare (k:=n*info.size) m1t t1 hn k1 (by omega) p4 p5 p6 p7 p8 p2 abZ (fun c hc=>by
            have:Tw.toList[c]? = Qg.toList[c]? :=by rw[p3];exact wF _ _ _ _ (by omega)
            simpa using this)
           obtain⟨r1,r2,r3⟩:=hsp
           rw[m1e]
           refine⟨.slice (some ⟨b,o,none⟩) (len+n) cap,w',_,.inl ?_,?_,r1,r2,r3⟩
           · have T8:(⟨b,o,none⟩:Addr).add (len*info.size)=⟨b,o+len*info.size,none⟩:=cK _ _ _
             simp only[ss,hs0,hx0,mr,mf,mi,iv,run_underlying hu,jb,aK hsz,run_underlying td,ja,pb,if_false,x3,ef,if_true,ph,x5,T8,p1]
           · obtain⟨us,u1,u2,u3⟩:=Ln Dq b o (.inl rfl)
             refine .os _ _ _ _ _ _ (VP.mk (us:=us++vx) ((bu.mono (fun _ _=>VP.mono r2.pure) u1).append (bu.mono (fun _ _=>VP.mono r2.pure) x1)) (by simp;omega) ef h2 fun k v hk=> ?_) (.inr ⟨aZ,b,o,rfl,rfl,by simp[Gh.put,Gh.more],by simp[Gh.put,Gh.more];omega,by simp[Gh.put,Gh.more,t3],ef⟩)
             rw[List.getElem?_append] at hk
             by_cases hlt:k<us.length
             · rw[if_pos hlt] at hk
               obtain⟨v1,v2,v3⟩:=u3 k v hk
               exact⟨(r2.pure _ _ v2).2.trans v1,(r2.pure _ _ v2).1,v3⟩
             · rw[if_neg hlt] at hk
               have hk':=bq hk
               have hnew:=Dl vx Qg.toList (o+len*info.size) (k-us.length) hk' (by simp;omega)
               rw[←p3,hk] at hnew
               refine⟨?_,.inr ⟨rfl,by omega,by omega⟩,hone v (mb hk)⟩
               rw[aX p2]
               rw[show o+len*info.size+(k-us.length)=o+k by omega] at hnew
               simpa using hnew
         ·
          obtain⟨d1,d2,d3⟩:=h.jX (w':=w.drew) rfl rfl rfl rfl
          obtain⟨_,_,_,_,l3,_⟩:=fJ (P:=P) h gq hx
          obtain⟨vx,x1,x2,hone,x3,x4⟩:=sW.drew (P:=P) h hx gq
          have x5:=x4 n (bx _)
          rw[dq (by omega)] at x5
          obtain⟨vs,s1,s2,Qh,s3,s4⟩:=lJ (P:=P) (Dq.mono d2.pure)
          have s5:=s4 len (bx _)
          rw[dq (by omega)] at s5
          have kQ:=lf (len+n) cap elem (w.tape w.drawn (.appendCap (len+n) cap elem))
          generalize hnc:(sg (len+n) cap elem).cut (w.tape w.drawn (.appendCap (len+n) cap elem))=newCap at kQ
          have Lo:(sm zv.cells (newCap-(len+n))).size=(newCap-(len+n))*info.size:=by simp[sm,hzs]
          have hall:(vs.toArray++vx.toArray++sm zv.cells (newCap-(len+n))).size=newCap*info.size:=by
           simp only[lr,ov,Lo,s2,x2]
           rw[fh,po]
           have:=fe info.size kQ
           rw[po] at this
           omega
          generalize BW:vs.toArray++vx.toArray++sm zv.cells (newCap-(len+n))=all at hall
          have wL:qc w (w.drew.alloc (.cells all elem)) (.cells all elem):=⟨rfl,rfl,rfl,rfl⟩
          have hmul:(len+n)*info.size=len*info.size+n*info.size:=po _ _ _
          have hle:(len+n)*info.size≤all.size:=by rw[hall];exact fe _ kQ
          obtain⟨r1,r2,r3⟩:=e3.fresh (k:=(len+n)*info.size) e2 wL hle (.inl (bx _))
          refine⟨.slice (some ⟨w.heap.size,0,none⟩) (len+n) newCap,_,_,.inl ?_,?_,r1,r2,e4.trans r3⟩
          · have T9 : ¬(((len+n:Nat):Int)>sb.max):=by
             rw[show sb.max=9223372036854775807 from by decide];omega
            have hgrow : ¬(sR (len+n) cap*info.bytes>2 ^ 48):=by
             have:=growslice_fits (need:=len+n) (old:=cap) (bytes:=info.bytes) (by omega) (by omega)
             omega
            simp only[ss,hs0,hx0,mr,mf,mi,iv,run_underlying hu,jb,aK hsz,run_underlying td,ja,pb,if_false,l3,ef,ph,T9,false_and,fo hi,hgrow,run_choose,si,hnc,rv,run_askRoom,s5,x5,z1,BW,if_true,newRow,run_newObj,rn,rp]
          · have hnew:(w.drew.alloc (.cells all elem)).heap[w.heap.size]? = some (.cells all elem):=wL.new
            have nN:all.toList=vs++vx++(sm zv.cells (newCap-(len+n))).toList:=by rw[←BW];simp
            refine .os _ _ _ _ _ _ (VP.mk (us:=vs++vx) ?_ (by simp;omega) kQ h2 fun k v hk=> ?_) (.inr ⟨aZ,w.heap.size,0,rfl,rfl,by simp[Gh.put,Gh.more],by simp[Gh.put,Gh.more],by simp[Gh.put,Gh.more,hall],kQ⟩)
            · exact(bu.mono (fun _ _=>VP.mono (g:=g) (w:=w.drew) (fun c o p=>⟨(r2.pure c o p).1,(r2.pure c o p).2⟩)) s1).append (bu.mono (fun _ _=>VP.mono (g:=g) (w:=w.drew) (fun c o p=>⟨(r2.pure c o p).1,(r2.pure c o p).2⟩)) x1)
            · have hk':=bq hk
              simp only[di] at hk'
              refine⟨?_,.inr ⟨rfl,by omega,by omega⟩,?_⟩
              · rw[aX hnew,←lv,nN,pw,od (by simpa using hk')]
                exact hk
              · rcases na.1 (mb hk) with q | q
                · exact Qh v q
                · exact hone v q
       · cases he
     · cases he
   · cases he
 · cases he
set_option linter.unusedVariables false in
theorem BX (h:Rel g m w) {argTypes:Array TypeId} {ty:TypeId} {d s a:AV} {cd cx:Value} {us:nv}
  (hd:VA g w d cd) (hx:VA g w s cx) (he:sM P (fun i=>m.getD i .dead) argTypes d s=some (a,us,true)) :
  b8 g m w (((do pure (.value (←Builtin.copy_ argTypes ty #[cd,cx])):Sem Next)).run P w) a (apply m us):=by
 unfold sM at he
 cases he
theorem Lp {aI:List PV} {vs:List Value} (h:Ho g w aI vs) (hb:aI.all isByte=true) : ∃ns:List Int,vs=ns.map (sT .u8)∧aI.map byteOf=ns.map fun n=>s0 n.toNat:=by
 induction aI generalizing vs with
 |nil=>cases vs with
  |nil=>exact⟨[],rfl,rfl⟩
  |cons _ _=>exact h.elim
 |cons p aI ih=>
  cases vs with
  |nil=>exact h.elim
  |cons v vs=>
   simp only[List.all_cons,c8] at hb
   obtain⟨ns,e1,e2⟩:=ih h.2 hb.2
   have h1:=h.1
   cases h1 with
   |sc=>
    cases v<;>simp only[isByte,pb,false_and] at hb
    rename_i k n
    cases k<;>simp only[pb,false_and] at hb
    exact⟨n::ns,by rw[e1];rfl,by rw[oT,e2];rfl⟩
   |_=>simp[isByte] at hb
theorem Fv (w:World) (all:Array Value) (e:TypeId) :
  (w.alloc (.cells all e)).freeze {block:=w.heap.size,off:=all.size} 1={w with heap:=w.heap.push (.cells all e (all.size,all.size+1))}:=by
 simp only[sa,World.alloc]
 rw[if_neg (by decide)]
 congr 1
 apply Array.ext_getElem?
 intro j
 rw[ln,fx,fx]
 by_cases hj:j=w.heap.size
 · subst hj;simp
 · rw[if_neg (fun h=>hj h.symm),if_neg hj,if_neg hj]
theorem Jh (w:World) (all:Array Value) (e:TypeId):(w.alloc (.cells all e)).shape? w.heap.size=some (e,all.size):=by
 simp only[rr,(eI w (.cells all e)).new]
theorem foldl_push : ∀(ns:List Int) (s:ByteArray),ns.foldl (fun r n=>r.push (s0 n.toNat)) s=⟨(s.data.toList++ns.map fun n=>s0 n.toNat).toArray⟩
 |[],s=>by cases s;simp
 |n::ns,s=>by
  rw[List.foldl_cons,foldl_push ns]
  cases s
  simp[ByteArray.push]
theorem Rel.Hs {m:Mem} (h:Rel g m w) {b c:Nat} {l:List PV} (hb:m[b]? = some (.pc l)) (hc:g.bP b=some c) :
  Rel (g.more c 0 l.length) (m.set b .dead) w∧Ext g w (g.more c 0 l.length) w∧dm g m w (g.more c 0 l.length) (m.set b .dead) w:=by
 obtain⟨c',cs,e,n,k1,k2,k3,k4,k5⟩:=h.cells b _ _ hb rfl
 rw[hc] at k1;cases k1
 have hlen:=k4.1.len
 simp only[my,fw] at hlen
 have ext:Ext g w (g.more c 0 l.length) w:=⟨fun _ _ h=>⟨h,rfl,rfl⟩,fun _ _ p=>⟨.inl p,rfl⟩⟩
 have ne : ∀j x c',j≠b→m[j]? = some x→x.dB=true→g.bP j=some c'→c'≠c:=fun j x c' BY hj ho fO e=>BY (h.inj j b x _ c hj hb ho rfl (e▸fO) hc)
 refine⟨⟨fun j hj=>h.zb j (by simpa using hj),fun j hj=> ?_,fun j x k hj hk=> ?_,fun j c' hj fO=> ?_,fun j k x x' c' hj hk ho ho' gP iO=> ?_,fun c' o p=> ?_,fun j kk ll hj=> ?_⟩,ext,⟨bx _,fun _ _ _=>rfl,fun _ _ p=>⟨.inl p,rfl⟩,fun c' o p=> ?_,fun c' ho=> ?_,rfl,rfl,rfl⟩⟩
 · rcases aP hj with⟨_,e⟩ | ⟨_,e⟩
   · cases e
   · exact h.free j e
 · rcases aP hj with⟨_,e⟩ | ⟨BY,e⟩
   · subst e;cases hk
   · obtain⟨c1,cs1,e1,n1,q1,q2,q3,q4,q5⟩:=h.cells j x k e hk
     refine⟨c1,cs1,e1,n1,q1,q2,q3,q4.mono ext,fun o p=> ?_⟩
     rcases p with p | ⟨rfl,_⟩
     · exact q5 o p
     · exact ne j x _ BY e (cR hk) q1 rfl
 · rcases aP hj with⟨_,e⟩ | ⟨BY,e⟩
   · cases e
   · obtain⟨cs1,e1,n1,q2,q3,q4,q5⟩:=h.tok j c' e fO
     refine⟨cs1,e1,n1,q2,q3,q4,fun o a b p=> ?_⟩
     rcases p with p | ⟨rfl,_⟩
     · exact q5 o a b p
     · exact ne j _ _ BY e rfl fO rfl
 · rcases aP hj with⟨_,e⟩ | ⟨_,e⟩
   · subst e;simp[aU.dB] at ho
   · rcases aP hk with⟨_,e'⟩ | ⟨_,e'⟩
     · subst e';simp[aU.dB] at ho'
     · exact h.inj j k x x' c' e e' ho ho' gP iO
 · rcases p with p | ⟨rfl,_,p⟩
   · exact h.there c' o p
   · exact⟨cs[o],by rw[aX k2,fv (by omega)]⟩
 · rcases aP hj with⟨_,e⟩ | ⟨BY,e⟩
   · cases e
   · obtain⟨c1,o1,vs1,q1,q2,q3,q4,q5,q6⟩:=h.obs j kk ll e
     exact⟨c1,o1,vs1,q1,q2,q3.mono ext,q4,fun o p=>p.elim (q5 o) fun q=>ne j _ c1 BY e rfl q1 q.1,q6⟩
 · rcases p with p | ⟨rfl,_⟩
   · exact .inl p
   · exact .inr (.inl ⟨b,_,hb,rfl,hc⟩)
 · rcases sU ho with⟨q,_⟩ | ⟨j,x,_,q1,q2,q3⟩
   · simp[aU.dB] at q
   · exact .inl ⟨j,x,q1,q2,q3⟩
theorem Rel.Ua {m:Mem} {w':World} {c:Nat} {cs:Array Value} {e:TypeId} {n n':Nat×Nat} (h:Rel g m w) (hno : ¬gp g m c) (h1:w.heap[c]? = some (.cells cs e n)) (h2:w'.heap[c]? = some (.cells cs e n'))
  (h3 : ∀k,k≠c→w'.heap[k]? = w.heap[k]?):Rel g m w'∧Ext g w g w':=by
 have hcell : ∀b o,w'.cell? ⟨b,o,none⟩=w.cell? ⟨b,o,none⟩:=by
  intro b o
  by_cases e:b=c
  · subst e;rw[aX h1,aX h2]
  · exact dR (h3 b e)
 have ext:Ext g w g w':=⟨fun _ _ q=>⟨q,rfl,rfl⟩,fun b o p=>⟨p,hcell b o⟩⟩
 have ne : ∀j x c',m[j]? = some x→x.dB=true→g.bP j=some c'→c'≠c:=fun j x c' hj ho fO e=>hno ⟨j,x,hj,ho,e▸fO⟩
 refine⟨⟨h.zb,h.free,fun j x k hj hk=> ?_,fun j c' hj fO=> ?_,h.inj,fun b o p=> ?_,fun j kk ll hj=> ?_⟩,ext⟩
 · obtain⟨c1,cs1,e1,n1,q1,q2,q3,q4,q5⟩:=h.cells j x k hj hk
   exact⟨c1,cs1,e1,n1,q1,(h3 c1 (ne j x c1 hj (cR hk) q1)).trans q2,q3,q4.mono ext,q5⟩
 · obtain⟨cs1,e1,n1,q2,q3,q4,q5⟩:=h.tok j c' hj fO
   exact⟨cs1,e1,n1,(h3 c' (ne j _ c' hj rfl fO)).trans q2,q3,q4,q5⟩
 · obtain⟨v,hv⟩:=h.there b o p
   exact⟨v,(hcell b o).trans hv⟩
 · obtain⟨c1,o1,vs1,q1,q2,q3,q4⟩:=h.obs j kk ll hj
   exact⟨c1,o1,vs1,q1,(h3 c1 (ne j _ c1 hj rfl q1)).trans q2,q3.mono ext,q4⟩
theorem BZ (w:World) {c off:Nat} {cs:Array Value} {e:TypeId} {n:Nat×Nat} (h:w.heap[c]? = some (.cells cs e n)) :
  (∃n',(w.freeze ⟨c,off,none⟩ 1).heap[c]? = some (.cells cs e n'))∧(∀k,k≠c→(w.freeze ⟨c,off,none⟩ 1).heap[k]? = w.heap[k]?)∧(w.freeze ⟨c,off,none⟩ 1).heap.size=w.heap.size ∧
    (w.freeze ⟨c,off,none⟩ 1).os=w.os∧(w.freeze ⟨c,off,none⟩ 1).tape=w.tape∧(w.freeze ⟨c,off,none⟩ 1).output=w.output:=by
 unfold sa
 rw[if_neg (by decide)]
 refine⟨?_,fun k hk=> ?_,by simp,rfl,rfl,rfl⟩
 · obtain⟨lo,hi⟩:=n
   refine⟨if lo==hi then(off,off+1) else(min lo off,max hi (off+1)),?_⟩
   show(w.heap.modify c _)[c]? = _
   rw[ln,if_pos rfl,h]
   rfl
 · show(w.heap.modify c _)[k]? = _
   rw[ln,if_neg (fun e=>hk e.symm)]
theorem Ji {e count n:Nat} (hc:1≤P.cellsOf e) (hn:n≤count):liesAt P P.depth e count 0 e n=true:=by
 have hd:P.depth=(2*(P.types.size+Made.depth)+1)+1:=rfl
 rw[hd]
 simp only[liesAt,il]
 left
 rw[hd]
 have h0 : ¬P.cellsOf e=0:=by omega
 simp[rowAt,hn,sameLayout,h0]
theorem vc (h:Rel g m w) {aZ:Nat} (hn:m[aZ]? = some .free) {ρ:Operand→AV} {cg:Operand→Value} {o:Oper} (hr : ∀x,VA g w (ρ x) (cg x)) {src dst:TypeId} {x:Operand}
  (ho:o.op = .convert src dst x) {a:AV} {us:nv} (he:convertOp P (fun i=>m.getD i .dead) aZ ρ o src dst (ρ x)=some (a,us,true)) :
  b8 g m w ((execOp cg o).run P w) a (apply m us):=by
 have hx:=hr x
 have kR:(execOp cg o).run P w=((convert src dst (cg x)).run P w).andThen fun v w'=> .ok (.value v) w':=by simp only[execOp,ho,iv,ja]
 unfold convertOp at he
 split at he
 · rename_i k k' n Ht Jj
   split at he
   · rename_i d B0
     simp only[c9,iu,and_true] at he
     obtain⟨rfl,rfl⟩:=he
     rw[Jj,VA.pv] at hx
     generalize hz:cg x=z at hx kR
     cases hx
     refine b8.quiet h (v:= .int k (k.wrap n)) ?_ (.p _ _ (.sc _))
     rw[kR]
     simp[convert,run_underlying B0,run_underlying Ht,Conv.intToInt]
   · cases he
 · rename_i s Ht Jj
   split at he
   · rename_i B0
     simp only[c9,iu,and_true] at he
     obtain⟨rfl,rfl⟩:=he
     rw[Jj,VA.pv] at hx
     generalize hz:cg x=z at hx kR
     cases hx
     refine b8.quiet h (v:= .string s) ?_ (.p _ _ (.sc _))
     rw[kR]
     simp[convert,run_underlying B0,run_underlying Ht]
   · cases he
 · rename_i e s Ht Jj
   split at he
   · rename_i B0 Yk
     simp only[c9,iu,and_true] at he
     obtain⟨rfl,rfl⟩:=he
     rw[Jj,VA.pv] at hx
     generalize hz:cg x=z at hx kR
     cases hx
     have kQ:=lf s.size 0 e (w.tape w.drawn (.appendCap s.size 0 e))
     generalize hnc:(sg s.size 0 e).cut (w.tape w.drawn (.appendCap s.size 0 e))=newCap at kQ
     generalize BW:(s.data.map fun b=>(sT .u8 b.toNat))++Array.replicate (newCap-s.size) (sT .u8 0)=all
     have hss:s.data.toList.length=s.size:=fw
     have hall:all.size=newCap:=by
      rw[←BW];simp only[lr,Array.size_map,Array.size_replicate]
      have:s.data.size=s.size:=rfl
      omega
     have wL:qc w ({w.drew with heap:=w.heap.push (.cells all e (all.size,all.size+1))}:World) (.cells all e (all.size,all.size+1)):=⟨rfl,rfl,rfl,rfl⟩
     obtain⟨r1,r2,r3⟩:=h.fresh (k:=s.size) hn wL (by omega) (.inr (bx _))
     refine⟨.slice (some ⟨w.heap.size,0,none⟩) s.size newCap,_,_,.inl ?_,?_,r1,r2,r3⟩
     · rw[kR]
       have hsh:=Jh w.drew all e
       have hfz:=Fv w.drew all e
       rw[rp] at hsh hfz
       simp only[convert,iv,run_underlying B0,run_underlying Ht,run_underlying Yk,jb,Conv.stringToBytes,run_choose,si,pb,if_false,hnc,rv,BW,newRow,run_newObj,rn,ja,markStringish,run_shape,rp,hsh,run_freeze,hfz]
       rfl
     · rw[hss]
       have nN:all.toList=(s.data.toList.map fun b=>(sT .u8 b.toNat))++cf (newCap-s.size) (sT .u8 0):=by rw[←BW];simp
       refine .os _ _ _ _ _ _ (VP.mk (us:=s.data.toList.map fun b=>(sT .u8 b.toNat)) (bu.dA (by simp) fun i a b=>by simp only[dk];exact .sc _) (by simp[hss]) kQ (bx _) fun k v hk=> ?_) (.inr ⟨aZ,w.heap.size,0,rfl,rfl,by simp[Gh.put,Gh.more],by simp[Gh.put,Gh.more],by simp[Gh.put,Gh.more,hall],kQ⟩)
       have hk':=bq hk
       rw[my,hss] at hk'
       refine⟨?_,.inr ⟨rfl,by omega,by omega⟩,?_⟩
       · rw[aX wL.new,←lv,nN,pw,od (by rw[my,hss];exact hk')]
         exact hk
       · obtain⟨b,_,rfl⟩:=eh.1 (mb hk);rfl
   · cases he
 · rename_i e b off len sz cap Ht Jj
   split at he
   · rename_i e' l B0 Yk hb
     simp only[c9,iu,c8] at he
     obtain⟨rfl,rfl,h1,h2,h3⟩:=he
     have h1:=ai h1
     have h2:=ai h2
     have h3:=en h3
     subst h1;subst h2
     obtain rfl:e'=e:=by have:=B0.symm.trans Ht;cases this;rfl
     rw[Jj] at hx
     generalize hz:cg x=z at hx kR
     cases hx with
     |ms _ _ _ _ cap c hc hcap=>
     have ze:=getD_some hb (by simp)
     obtain⟨c',cs,et,n,k1,k2,k3,k4,k5⟩:=h.cells b _ _ ze rfl
     rw[hc] at k1;cases k1
     have hlen:=k4.1.len
     simp only[my,fw] at hlen
     obtain⟨r1,r2,r3⟩:=h.Hs ze hc
     obtain⟨⟨n',f1⟩,f2,f3,f4,f5,f6⟩:=BZ w (off:=cs.size) k2
     have hno : ¬gp (g.more c 0 l.length) (m.set b .dead) c:=by
      rintro ⟨j,x,hj,ho,Ld⟩
      rcases aP hj with⟨_,e⟩ | ⟨BY,e⟩
      · subst e;simp[aU.dB] at ho
      · exact BY (h.inj j b x _ c e ze ho rfl Ld hc)
     obtain⟨s1,s2⟩:=r1.Ua hno k2 f1 f2
     have hVP:Ho g w l cs.toList:=bu.dA (by simpa using k4.1.len) fun i a b=>by
      have:=k4.1.get i (by simpa using a) b
      rw[dk,VA.pv] at this
      exact this
     have hpure : ∀o,o<l.length→(g.more c 0 l.length).pure c o:=fun o ho=> .inr ⟨rfl,Nat.zero_le _,ho⟩
     refine⟨.slice (some ⟨c,off,none⟩) len cap,_,_,.inl ?_,.p _ _ (VP.mk (us:=(cs.toList.drop off).take len) (bu.mono (fun _ _ q=>VP.mono (r2.trans s2).pure q) ((hVP.drop off).take len)) (by simp;omega) hcap (bx _) fun k v hk=> ?_),s1,r2.trans s2,⟨by rw[f3];exact bx _,fun k _ hn=>f2 k fun e=>hn (e▸⟨b,_,ze,rfl,hc⟩),fun b o p=>(r2.trans s2).pure b o p,r3.fresh,r3.owned,f4,f5,f6⟩⟩
     · rw[kR]
       have hsh:w.shape? c=some (et,cs.size):=by simp only[rr,k2]
       simp only[convert,iv,run_underlying B0,run_underlying Yk,jb,beq_self_eq_true,markStringish,run_shape,hsh,run_freeze,ja]
     · rw[db] at hk
       split at hk
       · rename_i hlt
         rw[df] at hk
         have hk':=bq hk
         refine⟨by rw[aX f1];simpa using hk,hpure (off+k) (by omega),k4.2 v (mb hk)⟩
       · cases hk
   · cases he
 · rename_i b off Ht Jj
   split at he
   · rename_i t ty l B0 hb
     split at he
     · rename_i j hj
       simp only[c9,iu,c8] at he
       obtain⟨rfl,rfl,h1,h2⟩:=he
       have h1:=en h1
       have h2:=en h2
       rw[Jj] at hx
       generalize hz:cg x=z at hx kR
       cases hx with
       |mp _ _ c hc=>
       obtain⟨c',ob,vs,k1,k2,k3,k4,_,_⟩:=h.obs b _ _ (getD_some hb (by simp))
       rw[hc] at k1;cases k1
       obtain⟨cs,e,n,rfl,_,_,q1,q2,_⟩:=k4
       have hl:=k3.len
       have hsh:w.shape? c=some (e,cs.size):=by simp only[rr,k2]
       refine b8.quiet h (v:= .pointer (some ⟨c,off,none⟩)) ?_ (.mp b off c hc)
       rw[kR,Lib.run_to_unsafe w ⟨c,off,none⟩ B0 Ht hj (by omega) hsh (by show off<cs.size;omega)]
       rfl
     · cases he
   · cases he
 · rename_i u b Ht Jj
   split at he
   · rename_i ty l B0 hb
     split at he
     · rename_i j hj
       simp only[c9,iu,c8] at he
       obtain⟨rfl,rfl,h1,h2,h3⟩:=he
       have h1:=ai h1
       have h2:=en h2
       have h3:=en h3
       subst h1
       rw[Jj] at hx
       generalize hz:cg x=z at hx kR
       cases hx with
       |mp _ _ c hc=>
       obtain⟨c',ob,vs,k1,k2,k3,k4,_,_⟩:=h.obs b _ _ (getD_some hb (by simp))
       rw[hc] at k1;cases k1
       obtain⟨cs,e,n,rfl,rfl,_,q1,q2,_⟩:=k4
       have hl:=k3.len
       have hsh:w.shape? c=some (e,cs.size):=by simp only[rr,k2]
       refine b8.quiet h (v:= .pointer (some ⟨c,0,none⟩)) ?_ (.mp b 0 c hc)
       rw[kR,Lib.run_from_unsafe w ⟨c,0,none⟩ B0 Ht hj hsh (Ji (by omega) ((Nat.le_div_iff_mul_le (by omega)).2 (by omega)))]
       rfl
     · cases he
   · cases he
 · rename_i Ht hnot
   split at he
   · rename_i e B0
     split at he
     · rename_i Yk
       split at he
       · rename_i n aI ok gq
         simp only[c9,iu,c8] at he
         obtain⟨rfl,rfl,rfl,h1⟩:=he
         obtain⟨vs,s1,s2,_,s4,s5⟩:=fJ (P:=P) h gq hx
         obtain⟨ns,n1,n2⟩:=Lp s1 h1
         have s6:=s5 n (bx _)
         rw[dq (by omega),n1] at s6
         have hnl:ns.length=n:=by rw[n1] at s2;simpa using s2
         generalize hz:cg x=z at hx kR s4 s6
         refine b8.quiet h (v:= .string ⟨(ns.map fun n=>s0 n.toNat).toArray⟩) ?_ (by rw[n2];exact .p _ _ (.sc _))
         rw[kR]
         cases z with
         |slice ad len cap=>
          have hlen:len=n:=by simpa[la] using s4
          subst hlen
          cases ad with
          |none=>
           have:ns=[]:=by
            have:(#[]:Array Value)=(ns.map (sT .u8)).toArray:=by simpa[kz] using s6
            have:=congrArg Array.size this
            simp at this
            exact oe.1 (by omega)
           subst this
           simp[convert,run_underlying B0,run_underlying Ht,run_underlying Yk,Conv.bytesToString,tc,ta]
           rfl
          |some ad=>
           have j4:(loadCells ad len).run P w = .ok (ns.map (sT .u8)).toArray w:=by simpa[kz] using s6
           have:=run_bytesToString (P:=P) w ad len cap ns j4
           simp only[convert,iv,run_underlying B0,run_underlying Ht,run_underlying Yk,jb,this,foldl_push]
           simp[tc,ta]
           rfl
         |string s=>
          exfalso
          generalize hxx:ρ x=xx at hx hnot gq
          cases hx with
          |p pv _ hp=>cases hp;exact hnot s rfl
          |ah=>simp[contents] at gq
         |_=>simp[la] at s4
       · cases he
     · cases he
   · cases he
 · simp only[hC,iu,and_true] at he
   obtain⟨v,h1,rfl,rfl⟩:=he
   obtain⟨cv,k1,k2⟩:=eZ hr (fun _ _=>by rw[ho];exact fun e=>by cases e) h1
   exact b8.quiet h k1 k2
end ops
end Go.Am
end
section
namespace Go.Am
open Go.RowKit
section
variable {P:Program} {g:Gh} {m:Mem} {w:World}
theorem Al {kt:TypeId} (h:uf P kt=true):WideMaps.KeyLaw P kt:=by
 simp only[uf,c8] at h
 exact deep_law (m:=20) (by omega) h.2.1 h.2.2 h.1
theorem oQ {kt:TypeId} {v:Value} {b:List UInt8} (h:vW P kt v=some b):keyOf P kt v=some (.string b):=by
 unfold vW at h
 split at h
 · rename_i s hs
   simp only[c9] at h
   rw[hs,h]
 · cases h
theorem nO {kt:TypeId} (hl:WideMaps.KeyLaw P kt) {x:Value} {b:List UInt8} (hx:vW P kt x=some b) : ∀{ks:List Value} {vs r:List AV} {cs:List Value} {bs:List Nat},qK P kt b ks vs=some r→cL g w vs cs→bs.length=cs.length →
  (∀e∈entriesOf ks cs bs,∃l,keyOf P kt e.key=some l)∧(∀e∈entriesOf ks cs bs,e.key=x → ∃v∈r,VA g w v e.val) ∧ ∀v∈r,∃e∈entriesOf ks cs bs,e.key=x
 |[],[],r,[],[],h,_,_=>by
  simp only[qK,c9] at h
  subst h
  exact⟨fun e he=>by simp[entriesOf] at he,fun e he=>by simp[entriesOf] at he,fun v hv=>by cases hv⟩
 |k::ks,v::vs,r,c::cs,n::bs,h,hv,hb=>by
  simp only[qK] at h
  split at h
  · rename_i b' r' h1 h2
    simp only[c9] at h
    obtain⟨i1,i2,i3⟩:=nO hl hx h2 hv.2 (by simpa using hb)
    have hk:=oQ h1
    have hkx:=oQ hx
    cases hq:kM b b' with
    |true=>
     rw[hq] at h
     simp only[cond_true] at h
     subst h
     have hbb:=qb hq
     subst hbb
     have hkk:k=x:=hl.inj hk hkx
     refine⟨?_,?_,?_⟩
     · intro e he
       simp only[entriesOf,mv] at he
       rcases he with rfl | he
       · exact⟨_,hk⟩
       · exact i1 e he
     · intro e he Yl
       simp only[entriesOf,mv] at he
       rcases he with rfl | he
       · exact⟨v,.head _,hv.1⟩
       · obtain⟨u,q1,q2⟩:=i2 e he Yl
         exact⟨u,.tail _ q1,q2⟩
     · intro u _
       exact⟨_,.head _,hkk⟩
    |false=>
     rw[hq] at h
     simp only[cond_false] at h
     subst h
     refine⟨?_,?_,?_⟩
     · intro e he
       simp only[entriesOf,mv] at he
       rcases he with rfl | he
       · exact⟨_,hk⟩
       · exact i1 e he
     · intro e he Yl
       simp only[entriesOf,mv] at he
       rcases he with rfl | he
       · exfalso
         have Yl:k=x:=Yl
         subst Yl
         rw[hx] at h1
         cases h1
         have : ∀l:List UInt8,kM l l=true:=by
          intro l
          induction l with
          |nil=>rfl
          |cons a l ih=>simp[kM,ih]
         rw[this] at hq;cases hq
       · exact i2 e he Yl
     · intro u hu
       obtain⟨e,q1,q2⟩:=i3 u hu
       exact⟨e,.tail _ q1,q2⟩
  · cases h
 |_,_::_,_,[],_,_,hv,_=>hv.elim
 |_,[],_,_::_,_,_,hv,_=>hv.elim
 |[],_::_,_,_::_,_,h,_,_=>by simp[qK] at h
 |_::_,[],_,[],_,h,_,_=>by simp[qK] at h
 |_,_,_,_::_,[],_,_,hb=>by simp at hb
 |_,_,_,[],_::_,_,_,hb=>by simp at hb
theorem wM {kt:TypeId} {b:List UInt8} {key:Value} {v:AV} {cv:Value} {n:Nat} (hv:VA g w v cv) : ∀{ks:List Value} {us:List AV} {cs:List Value} {bs:List Nat},cL g w us cs→ks.length=cs.length→bs.length=cs.length →
  ∃cs' bs',cL g w (zi P kt b key v ks us).2 cs'∧(zi P kt b key v ks us).1.length=cs'.length∧bs'.length=cs'.length ∧
   (entriesOf (zi P kt b key v ks us).1 cs' bs').Perm ({key:=key,val:=cv,born:=n}::entriesOf ks cs bs)
 |[],[],[],[],_,_,_=>⟨[cv],[n],⟨hv,trivial⟩,rfl,rfl,.refl _⟩
 |k::ks,u::us,c::cs,q::bs,h,h1,h2=>by
  have front : ∃cs' bs',cL g w (v::u::us) cs'∧(key::k::ks).length=cs'.length∧bs'.length=cs'.length∧(entriesOf (key::k::ks) cs' bs').Perm ({key:=key,val:=cv,born:=n}::entriesOf (k::ks) (c::cs) (q::bs)):=
   ⟨cv::c::cs,n::q::bs,⟨hv,h⟩,by simpa using h1,by simpa using h2,.refl _⟩
  unfold zi
  split
  · rename_i c' _
    cases BE b c' with
    |true=>exact front
    |false=>
     obtain⟨cs',bs',p1,p2,p3,p4⟩:=wM hv (ks:=ks) (us:=us) (cs:=cs) (bs:=bs) h.2 (by simpa using h1) (by simpa using h2)
     refine⟨c::cs',q::bs',⟨h.1,p1⟩,by simpa using p2,by simpa using p3,?_⟩
     simp only[cond_false,entriesOf]
     exact(p4.cons _).trans (.swap _ _ _)
  · exact front
 |_,_::_,[],_,h,_,_=>h.elim
 |_,[],_::_,_,h,_,_=>h.elim
 |[],_::_,_::_,_,_,h,_=>by simp at h
 |_::_,[],[],_,_,h,_=>by simp at h
 |_,_,_::_,[],_,_,h=>by simp at h
 |_,_,[],_::_,_,_,h=>by simp at h
theorem B1 (h:Rel g m w) {x:AV} {cx:Value} (hx:VA g w x cx) {ks:List Value} {vs:List AV} (he:sN (fun i=>m.getD i .dead) x=some (ks,vs)) :
  ∃r es clock cs bs,cx = .map (some r)∧w.heap[r]? = some (.map es clock)∧cL g w vs cs∧ks.length=cs.length∧bs.length=cs.length∧es.toList.Perm (entriesOf ks cs bs):=by
 unfold sN at he
 split at he
 · rename_i b
   split at he
   · rename_i ks' vs' hb
     simp only[c9,iu] at he
     obtain⟨rfl,rfl⟩:=he
     obtain⟨c,ob,cs,k1,k2,k3,k4,_⟩:=h.obs b _ _ (getD_some hb (by simp))
     simp only[aD.is] at k4
     obtain⟨es,clock,bs,rfl,q1,q2,q3⟩:=k4
     cases hx with
     |vm _ c' hc=>
      rw[k1] at hc;cases hc
      exact⟨c,es,clock,cs,bs,rfl,k2,k3,q1,q2,q3⟩
   · cases he
 · cases he
theorem Dr {t:TypeId} {z:AV} (h:vV P t=some z) : ∃cz,(∀w,(zeroValue t).run P w = .ok cz w)∧VA g w z cz:=by
 unfold vV at h
 cases hi:P.info? t with
 |none=>simp[hi] at h
 |some i=>
  cases hz:i.zero with
  |none=>simp[hi,hz] at h
  |some c=>
   simp only[hi,hz,hZ,c9] at h
   subst h
   exact⟨c,fun w=>by simp[zeroValue,typeInfo,hi,hz],VA.KT c⟩
theorem zC (h:Rel g m w) {x k a:AV} {cx ck:Value} {t:TypeId} {ok:Bool} (hx:VA g w x cx) (hk:VA g w k ck) (he:vw P (fun i=>m.getD i .dead) t x k ok=some a) :
  ∃v,(pD t cx ck ok).run P w = .ok v w∧VA g w a v:=by
 unfold vw at he
 split at he
 · rename_i key kt et hkey hm
   obtain rfl:=Fo hkey hk
   split at he
   · rename_i z ks vs b hz hu hb
     cases hw:uf P kt with
     |false=>rw[hw] at he;cases he
     |true=>
      rw[hw] at he
      simp only[cond_true] at he
      have hl:=Al hw
      obtain⟨cz,Hr,Fq⟩:=Dr (g:=g) (w:=w) hz
      obtain⟨r,es,clock,cs,bs,rfl,hr,hcs,e1,e2,e3⟩:=B1 h hx hu
      have hlk:=oQ hb
      cases hf:qK P kt b ks vs with
      |none=>rw[hf] at he;cases he
      |some l=>
       rw[hf] at he
       obtain⟨f1,f2,f3⟩:=nO hl hb hf hcs e2
       have hc:=hl.check w es.isEmpty hlk
       rcases hl.find w hlk es.toList (fun e he=>f1 e (e3.mem_iff.1 he)) with⟨q1,q2⟩ | ⟨j,e,q1,q2,q3⟩
       · match l,he with
         |[],he=>
          simp only[c9] at he
          subst he
          refine⟨cond ok (.tuple #[cz,.bool false]) cz,?_,?_⟩
          · cases ok<;>simp[pD,run_underlying hm,tf hr,hc,q1,Hr,pk]
          · cases ok with
            |true=>exact VA.lF.2 ⟨Fq,.p _ _ (.sc _),trivial⟩
            |false=>exact Fq
         |[v],_=>
          obtain⟨e,p1,p2⟩:=f3 v (.head _)
          exact absurd p2 (q2 e (e3.mem_iff.2 p1))
       · have hmem:e∈es.toList:=mb q2
         obtain⟨v,p1,p2⟩:=f2 e (e3.mem_iff.1 hmem) q3
         match l,he,p1 with
         |[u],he,p1=>
          obtain rfl:v=u:=by simpa using p1
          simp only[c9] at he
          subst he
          refine⟨cond ok (.tuple #[e.val,.bool true]) e.val,?_,?_⟩
          · cases ok<;>simp[pD,run_underlying hm,tf hr,hc,q1,pk]
          · cases ok with
            |true=>exact VA.lF.2 ⟨p2,.p _ _ (.sc _),trivial⟩
            |false=>exact p2
   · cases he
 · cases he
theorem th (h:Rel g m w) {x k v a:AV} {cx ck cv:Value} {t:TypeId} {us:nv} (hx:VA g w x cx) (hk:VA g w k ck) (hv:VA g w v cv)
  (he:iE P (fun i=>m.getD i .dead) t x k v=some (a,us,true)) :
  ∃w',(qf t cx ck cv).run P w = .ok () w'∧a = .au []∧Rel g (apply m us) w'∧Ext g w g w'∧dm g m w g (apply m us) w':=by
 unfold iE at he
 split at he
 · rename_i b key kt et hkey hm
   obtain rfl:=Fo hkey hk
   split at he
   · rename_i ks vs lb hb hlb
     cases hw:uf P kt with
     |false=>rw[hw] at he;cases he
     |true=>
      rw[hw] at he
      simp only[cond_true] at he
      have hl:=Al hw
      split at he
      · rename_i hf
        simp only[c9,iu,and_true] at he
        obtain⟨rfl,rfl⟩:=he
        have hib:=getD_some hb (by simp)
        obtain⟨c,ob,cs,k1,k2,k3,k4,_⟩:=h.obs b _ _ hib
        simp only[aD.is] at k4
        obtain⟨es,clock,bs,rfl,e1,e2,e3⟩:=k4
        cases hx with
        |vm _ c' hc=>
         rw[k1] at hc;cases hc
         have hlk:=oQ hlb
         obtain⟨f1,f2,f3⟩:=nO hl hlb hf k3 e2
         have B2:=hl.check w false hlk
         rcases hl.find w hlk es.toList (fun e he=>f1 e (e3.mem_iff.1 he)) with⟨q1,q2⟩ | ⟨j,e,q1,q2,q3⟩
         · obtain⟨cs',bs',p1,p2,p3,p4⟩:=wM (P:=P) (kt:=kt) (b:=lb) (key:=ck) (n:=clock) hv (ks:=ks) (us:=vs) (cs:=cs) (bs:=bs) k3 e1 e2
           obtain⟨s1,s2,s3⟩:(∀j,j≠c→({w with heap:=w.heap.setIfInBounds c (.map (es.push {key:=ck,val:=cv,born:=clock}) (clock+1))}:World).heap[j]? = w.heap[j]?) ∧
            ({w with heap:=w.heap.setIfInBounds c (.map (es.push {key:=ck,val:=cv,born:=clock}) (clock+1))}:World).heap.size=w.heap.size ∧
            ({w with heap:=w.heap.setIfInBounds c (.map (es.push {key:=ck,val:=cv,born:=clock}) (clock+1))}:World).heap[c]? = some (.map (es.push {key:=ck,val:=cv,born:=clock}) (clock+1)):=
            ⟨fun j hj=>(uv k2).2 j hj,by simp,(uv k2).1⟩
           obtain⟨r1,r2,r3⟩:=h.fP (Df:= .Bz (zi P kt lb ck v ks vs).1) (l':=(zi P kt lb ck v ks vs).2) (vs':=cs') hib k1 s1 s2 rfl rfl rfl s3
            ⟨_,_,bs',rfl,p2,p3,by
              rw[Array.toList_push]
              exact(List.perm_append_comm.trans ((e3.cons _).trans p4.symm))⟩ p1
           refine⟨_,?_,rfl,r1,r2,r3⟩
           simp[qf,run_underlying hm,tf k2,B2,q1,tz _ k2,pk]
         · obtain⟨v',p1,_⟩:=f2 e (e3.mem_iff.1 (mb q2)) q3
           cases p1
      · cases he
   · cases he
 · cases he
end
end Go.Am
end
section
namespace Go.Am
open Go.RowKit
section
variable {P:Program} {g:Gh} {m:Mem} {w:World}
theorem ur {d:TypeDesc} {k:Value} (h:plainKey d k=true):ui d k:=by
 cases d<;>cases k<;>simp_all [plainKey,ui]
theorem uu {t:TypeId} {z:AV} (h:vV P t=some z) : ∃cz,(∀w,(zeroValue t).run P w = .ok cz w)∧VA g w z cz:=by
 unfold vV at h
 cases hi:P.info? t with
 |none=>simp[hi] at h
 |some i=>
  cases hz:i.zero with
  |none=>simp[hi,hz] at h
  |some c=>
   simp only[hi,hz,hZ,c9] at h
   subst h
   exact⟨c,fun w=>by simp[zeroValue,typeInfo,hi,hz],VA.KT c⟩
set_option linter.unusedVariables false in
theorem wN {t xt:TypeId} {x v:AV} {cx:Value} {ok:Bool} (he:wg P t x ok=some v) (hx:VA g w x cx) : ∃cv,(Instr.typeAssert cx xt t ok).run P w = .ok cv w∧VA g w v cv:=by
 unfold wg at he
 cases he
theorem uw {d:TypeDesc} {k:Value} : ∀{ks:List Value} {vs:List AV} {bs:List Nat} {cs:List Value} {r:Option AV} (n:Nat),pF d k ks vs bs=some r→cL g w vs cs →
  match r with
  |some v=> ∃i cv,qs d k (entriesOf ks cs bs) n=some (some (i,cv))∧VA g w v cv
  |none=>qs d k (entriesOf ks cs bs) n=some none
 |[],[],[],[],r,n,h,_=>by
  simp only[pF,c9] at h
  subst h
  rfl
 |k'::ks,v::vs,b::bs,c::cs,r,n,h,hv=>by
  simp only[pF] at h
  simp only[entriesOf,qs]
  cases hs:ri d k k' with
  |none=>rw[hs] at h;cases h
  |some q=>
   rw[hs] at h
   cases q with
   |true=>
    simp only[c9] at h
    subst h
    exact⟨n,c,rfl,hv.1⟩
   |false=>exact uw (n+1) h hv.2
 |_,_::_,_,[],_,_,_,hv=>hv.elim
 |_,[],_,_::_,_,_,_,hv=>hv.elim
 |_::_,[],_,_,_,_,h,_=>by simp[pF] at h
 |[],_::_,_,_,_,_,h,_=>by simp[pF] at h
 |[],[],_::_,_,_,_,h,_=>by simp[pF] at h
 |_::_,_::_,[],_,_,_,h,_=>by simp[pF] at h
theorem key_eq {k:Value} {cv:Value} (h:VA g w (.p (.sc k)) cv):cv=k:=by
 rw[VA.pv] at h
 cases h
 rfl
theorem Ds (h:Rel g m w) {x:AV} {cx:Value} (hx:VA g w x cx) {ks:List Value} {vs:List AV} {bs:List Nat} (he:mapOf (fun i=>m.getD i .dead) x=some (ks,vs,bs)) :
  ∃cs,cL g w vs cs∧((cx = .map none∧ks=[]∧vs=[]∧bs=[]) ∨ ∃r clock,cx = .map (some r)∧w.heap[r]? = some (.map (entriesOf ks cs bs).toArray clock)):=by
 unfold mapOf at he
 split at he
 · simp only[c9,iu] at he
   obtain⟨rfl,rfl,rfl⟩:=he
   exact⟨[],trivial,.inl ⟨key_eq hx,rfl,rfl,rfl⟩⟩
 · rename_i b
   split at he
   · rename_i ks' bs' clock vs' hb
     simp only[c9,iu] at he
     obtain⟨rfl,rfl,rfl⟩:=he
     obtain⟨c,ob,cs,k1,k2,k3,k4,_⟩:=h.obs b _ _ (getD_some hb (by simp))
     simp only[aD.is] at k4
     subst k4
     cases hx with
     |vm _ c' hc=>
      rw[k1] at hc;cases hc
      exact⟨cs,k3,.inr ⟨c,clock,rfl,k2⟩⟩
   · cases he
 · cases he
theorem wO (h:Rel g m w) {x k a:AV} {cx ck:Value} {t:TypeId} {ok:Bool} (hx:VA g w x cx) (hk:VA g w k ck) (he:lE P (fun i=>m.getD i .dead) t x k ok=some a) :
  ∃v,(pD t cx ck ok).run P w = .ok v w∧VA g w a v:=by
 unfold lE at he
 split at he
 · rename_i key
   obtain rfl:=key_eq hk
   split at he
   · rename_i kt et hm
     split at he
     · rename_i d z ks vs bs hd hz hmap
       cases hp:plainKey d ck with
       |false=>simp[hp] at he
       |true=>
        simp only[hp,cond_true] at he
        have hik:=ur hp
        obtain⟨cz,Hr,Fq⟩:=uu (g:=g) (w:=w) hz
        obtain⟨cs,hcs,Lq⟩:=Ds h hx hmap
        have hc : ∀e,(re e 10000 kt ck).run P w = .ok () w:=fun e=>ua hd hik e 9999
        have YC:entriesOf [] cs []=[]:=by cases cs<;>rfl
        cases hf:pF d ck ks vs bs with
        |none=>simp[hf] at he
        |some r=>
         have hs:=uw (g:=g) (w:=w) 0 hf hcs
         cases r with
         |none=>
          simp only[hf,c9] at he
          subst he
          simp only at hs
          have hk:=tp (w:=w) hd hs
          refine⟨cond ok (.tuple #[cz,.bool false]) cz,?_,?_⟩
          · rcases Lq with⟨rfl,rfl,rfl,rfl⟩ | ⟨r,clock,rfl,hr⟩
            · rw[YC] at hk
              cases ok<;>simp[pD,run_underlying hm,hc,hk,Hr,pk]
            · cases ok<;>simp[pD,run_underlying hm,tf hr,hc,hk,Hr,pk]
          · cases ok with
            |true=>exact VA.lF.2 ⟨Fq,.p _ _ (.sc _),trivial⟩
            |false=>exact Fq
         |some u=>
          simp only[hf,c9] at he
          subst he
          obtain⟨i,cv,hs1,Ym⟩:=hs
          have hk:=tp (w:=w) hd hs1
          refine⟨cond ok (.tuple #[cv,.bool true]) cv,?_,?_⟩
          · rcases Lq with⟨rfl,rfl,rfl,rfl⟩ | ⟨r,clock,rfl,hr⟩
            · rw[YC] at hk
              cases ok<;>simp[pD,run_underlying hm,hc,hk,pk]
            · cases ok<;>simp[pD,run_underlying hm,tf hr,hc,hk,pk]
          · cases ok with
            |true=>exact VA.lF.2 ⟨Ym,.p _ _ (.sc _),trivial⟩
            |false=>exact Ym
     · cases he
   · cases he
 · exact zC h hx hk he
 · cases he
theorem wP {d:TypeDesc} {k:Value} {v:AV} {cv:Value} (hik:ui d k) (hv:VA g w v cv) : ∀{ks:List Value} {vs:List AV} {bs:List Nat} {cs:List Value} {r:Option (List AV)} (n:Nat),vX d k v ks vs bs=some r→cL g w vs cs →
  match r with
  |some l=> ∃i o cs',qs d k (entriesOf ks cs bs) n=some (some (n+i,o))∧((entriesOf ks cs bs)[i]?).map (·.key)=some k∧(entriesOf ks cs bs).modify i (fun e=>{e with key:=k,val:=cv})=entriesOf ks cs' bs∧cL g w l cs'
  |none=>qs d k (entriesOf ks cs bs) n=some none∧ks.length=vs.length∧bs.length=vs.length
 |[],[],[],[],r,n,h,_=>by
  simp only[vX,c9] at h
  subst h
  exact⟨rfl,rfl,rfl⟩
 |k'::ks,u::vs,b::bs,c::cs,r,n,h,hvs=>by
  simp only[vX] at h
  simp only[entriesOf,qs]
  cases hs:ri d k k' with
  |none=>rw[hs] at h;cases h
  |some q=>
   rw[hs] at h
   cases q with
   |true=>
    simp only[c9] at h
    subst h
    have hkk:k'=k:=by
     cases d<;>cases k<;>simp only[ui] at hik<;>cases k'<;>simp only[ri] at hs<;>first
      |cases hs
      |(split at hs
        · rename_i e1;subst e1;simp at hs;subst hs;rfl
        · cases hs)
      |(simp only[c9,vb,beq_iff_eq] at hs;subst hs;rfl)
    subst hkk
    exact⟨0,c,cv::cs,rfl,rfl,rfl,hv,hvs.2⟩
   |false=>
    cases hr:vX d k v ks vs bs with
    |none=>simp[hr] at h
    |some r'=>
     have ih:=wP hik hv (n+1) hr hvs.2
     cases r' with
     |none=>
      simp only[hr,c9] at h
      subst h
      exact⟨ih.1,by simp[ih.2.1],by simp[ih.2.2]⟩
     |some l=>
      simp only[hr,c9] at h
      subst h
      obtain⟨i,o,cs',q1,q2,q3,q4⟩:=ih
      refine⟨i+1,o,c::cs',by rw[q1];simp;omega,by simpa using q2,?_,hvs.1,q4⟩
      simp only[List.modify_succ_cons,entriesOf,q3]
 |_,_::_,_,[],_,_,_,hv=>hv.elim
 |_,[],_,_::_,_,_,_,hv=>hv.elim
 |_::_,[],_,_,_,_,h,_=>by simp[vX] at h
 |[],_::_,_,_,_,_,h,_=>by simp[vX] at h
 |[],[],_::_,_,_,_,h,_=>by simp[vX] at h
 |_::_,_::_,[],_,_,_,h,_=>by simp[vX] at h
theorem j5 {k:Value} {cv:Value} {b:Nat} : ∀{ks cs:List Value} {bs:List Nat},ks.length=cs.length→bs.length=cs.length→entriesOf ks cs bs++[{key:=k,val:=cv,born:=b}]=entriesOf (ks++[k]) (cs++[cv]) (bs++[b])
 |[],[],[],_,_=>rfl
 |_::ks,_::cs,_::bs,h,h'=>by simp[entriesOf,j5 (ks:=ks) (cs:=cs) (bs:=bs) (by simpa using h) (by simpa using h')]
 |[],_::_,_,h,_=>by simp at h
 |_::_,[],_,h,_=>by simp at h
 |[],[],_::_,_,h=>by simp at h
 |_::_,_::_,[],_,h=>by simp at h
theorem cS (w:World) {r:Nat} {o':Obj} {o:Obj} (hb:w.heap[r]? = some o) :
  (∀k,k≠r→({w with heap:=w.heap.setIfInBounds r o'}:World).heap[k]? = w.heap[k]?)∧({w with heap:=w.heap.setIfInBounds r o'}:World).heap.size=w.heap.size∧({w with heap:=w.heap.setIfInBounds r o'}:World).heap[r]? = some o':=
 ⟨fun k hk=>(uv hb).2 k hk,by simp,(uv hb).1⟩
theorem rj (h:Rel g m w) {x k v a:AV} {cx ck cv:Value} {t:TypeId} {us:nv} (hx:VA g w x cx) (hk:VA g w k ck) (hv:VA g w v cv)
  (he:gN P (fun i=>m.getD i .dead) t x k v=some (a,us,true)) :
  ∃w',(qf t cx ck cv).run P w = .ok () w'∧a = .au []∧Rel g (apply m us) w'∧Ext g w g w'∧dm g m w g (apply m us) w':=by
 unfold gN at he
 split at he
 · rename_i b key
   obtain rfl:=key_eq hk
   split at he
   · rename_i kt et ks bs clock vs hm hb
     split at he
     · rename_i d hd
       cases hp:plainKey d ck with
       |false=>simp[hp] at he
       |true=>
        simp only[hp,cond_true] at he
        have hik:=ur hp
        have hib:=getD_some hb (by simp)
        obtain⟨c,ob,cs,k1,k2,k3,k4,_⟩:=h.obs b _ _ hib
        simp only[aD.is] at k4
        subst k4
        cases hx with
        |vm _ c' hc=>
         rw[k1] at hc;cases hc
         have B2 : ∀e,(re e 10000 kt ck).run P w = .ok () w:=fun e=>ua hd hik e 9999
         cases hu:vX d ck v ks vs bs with
         |none=>simp[hu] at he
         |some r=>
          have hs:=wP (g:=g) (w:=w) hik hv 0 hu k3
          cases r with
          |some l=>
           simp only[hu,c9,iu,and_true] at he
           obtain⟨rfl,rfl⟩:=he
           obtain⟨i,o,cs',q1,q2,q3,q4⟩:=hs
           rw[pw] at q1
           have hfind:=tp (w:=w) hd q1
           obtain⟨e1,e2,e3⟩:=cS w (o':= .map (entriesOf ks cs' bs).toArray clock) k2
           obtain⟨r1,r2,r3⟩:=h.fP (Df:= .map ks bs clock) (l':=l) (vs':=cs') hib k1 e1 e2 rfl rfl rfl e3 rfl q4
           refine⟨_,?_,rfl,r1,r2,r3⟩
           have hsame:rf 10000 ck ck=true:=by
            cases d<;>cases ck<;>simp only[ui] at hik<;>simp[rf,vb]
           have hmod:(entriesOf ks cs bs).toArray.modify i (fun e=>{e with key:=ck,val:=cv})=(entriesOf ks cs' bs).toArray:=by
            rw[←q3];simp
           simp[qf,run_underlying hm,tf k2,B2,hfind,rk,hsame,tz _ k2,pk,q2,q3]
          |none=>
           simp only[hu,c9,iu,and_true] at he
           obtain⟨rfl,rfl⟩:=he
           obtain⟨q1,q2,q3⟩:=hs
           have hlen:=k3.len
           have hfind:=tp (w:=w) hd q1
           obtain⟨e1,e2,e3⟩:=cS w (o':= .map (entriesOf (ks++[ck]) (cs++[cv]) (bs++[clock])).toArray (clock+1)) k2
           obtain⟨r1,r2,r3⟩:=h.fP (Df:= .map (ks++[ck]) (bs++[clock]) (clock+1)) (l':=vs++[v]) (vs':=cs++[cv]) hib k1 e1 e2 rfl rfl rfl e3 rfl (k3.append (⟨hv,trivial⟩:cL g w [v] [cv]))
           refine⟨_,?_,rfl,r1,r2,r3⟩
           have Lr:(entriesOf ks cs bs).toArray.push {key:=ck,val:=cv,born:=clock}=(entriesOf (ks++[ck]) (cs++[cv]) (bs++[clock])).toArray:=by
            rw[←j5 (by omega) (by omega)];simp
           simp[qf,run_underlying hm,tf k2,B2,hfind,Lr,tz _ k2,pk]
     · cases he
   · cases he
 · exact th h hx hk hv he
 · cases he
abbrev rm (ns:List ByteArray) (bs:List Nat):List MapEntry:=entriesOf (ns.map .string) (ns.map fun _=> .bool true) bs
theorem wQ : ∀{ns:List ByteArray} {bs:List Nat} {e:MapEntry},e∈rm ns bs → ∃x∈ns,e.key = .string x∧e.val = .bool true
 |x::ns,b::bs,e,h=>by
  rcases mv.1 h with rfl | h
  · exact⟨x,.head _,rfl,rfl⟩
  · obtain⟨y,h1,h2⟩:=wQ (ns:=ns) (bs:=bs) h
    exact⟨y,.tail _ h1,h2⟩
 |[],_,_,h=>by cases h
 |_::_,[],_,h=>by cases h
theorem Hu : ∀{ns:List ByteArray} {bs:List Nat} {x:ByteArray},bs.length=ns.length→x∈ns → ∃e∈rm ns bs,e.key = .string x
 |y::ns,b::bs,x,hl,h=>by
  rcases mv.1 h with rfl | h
  · exact⟨_,.head _,rfl⟩
  · obtain⟨e,h1,h2⟩:=Hu (ns:=ns) (bs:=bs) (by simpa using hl) h
    exact⟨e,.tail _ h1,h2⟩
 |[],_,_,_,h=>by cases h
 |_::_,[],_,hl,_=>by simp at hl
theorem Dt {ns:List ByteArray} {s:ByteArray}:fE ns s=true↔s∈ns:=by
 have e : ∀x:ByteArray,(x.data.toList==s.data.toList)=true↔x=s:=fun x=>by
  rw[beq_iff_eq]
  constructor
  · intro h
    obtain⟨⟨a⟩⟩:=x
    obtain⟨⟨b⟩⟩:=s
    simpa using h
  · rintro rfl;rfl
 unfold fE
 rw[List.any_eq_true]
 constructor
 · rintro ⟨x,h1,h2⟩
   rwa [←(e x).1 h2]
 · intro h
   exact⟨s,h,(e s).2 rfl⟩
theorem An {ns:List ByteArray} {bs:List Nat} (hl:bs.length=ns.length) (s:ByteArray) :
  (fE ns s=false∧qs .string (.string s) (rm ns bs) 0=some none) ∨
    (fE ns s=true ∧ ∃j e,qs .string (.string s) (rm ns bs) 0=some (some (j,.bool true))∧(rm ns bs)[j]? = some e∧e.key = .string s∧e.val = .bool true):=by
 have hk:ui .string (.string s):=trivial
 rcases MapKept.findNow_spec hk (rm ns bs) 0 (fun x hx=>by
  obtain⟨y,_,h2,_⟩:=wQ hx
  rw[h2];trivial) with⟨h1,h2⟩ | ⟨j,e,h1,h2,h3⟩
 · refine .inl ⟨?_,h1⟩
   cases hh:fE ns s with
   |false=>rfl
   |true=>
    obtain⟨e,k1,k2⟩:=Hu hl (Dt.1 hh)
    exact absurd k2 (h2 e k1)
 · obtain⟨y,k1,k2,k3⟩:=wQ (mb h2)
   refine .inr ⟨Dt.2 ?_,j,e,?_,h2,h3,k3⟩
   · rw[k2] at h3
     cases h3
     exact k1
   · rw[h1,k3,pw]
theorem wR (g:Gh) (w0:World) {t:TypeId} (h:qM P t=true) : ∃kt et,P.underlying t=some (.map kt et)∧P.underlying kt=some .string ∧ ∀w,(zeroValue et).run P w = .ok (.bool false) w:=by
 unfold qM at h
 split at h
 · rename_i kt et hm
   split at h
   · rename_i h1 h2
     obtain⟨cz,z1,z2⟩:=uu (g:=g) (w:=w0) h2
     rw[VA.pv] at z2
     cases z2
     exact⟨kt,et,hm,h1,z1⟩
   · cases h
 · cases h
theorem rq (h:Rel g m w) {x:AV} {cx:Value} (hx:VA g w x cx) {ns:List ByteArray} (he:pZ (fun i=>m.getD i .dead) x=some ns) :
  ∃b r bs clock l,x = .vm b∧m[b]? = some (.ob (.smap ns) l)∧g.bP b=some r∧cx = .map (some r)∧w.heap[r]? = some (.map (rm ns bs).toArray clock)∧bs.length=ns.length∧cL g w l []:=by
 unfold pZ at he
 split at he
 · rename_i b
   split at he
   · rename_i ns' l hb
     simp only[c9] at he
     subst he
     have hib:=getD_some hb (by simp)
     obtain⟨c,ob,cs,k1,k2,k3,k4,_⟩:=h.obs b _ _ hib
     simp only[aD.is] at k4
     obtain⟨rfl,bs,clock,rfl,k5⟩:=k4
     cases hx with
     |vm _ c' hc=>
      rw[k1] at hc;cases hc
      exact⟨b,c,bs,clock,l,rfl,hib,k1,rfl,k2,k5,k3⟩
   · cases he
 · cases he
theorem B3 (h:Rel g m w) {x k a:AV} {cx ck:Value} {t:TypeId} {ok:Bool} (hx:VA g w x cx) (hk:VA g w k ck) (he:sO P (fun i=>m.getD i .dead) t x k ok=some a) :
  ∃v,(pD t cx ck ok).run P w = .ok v w∧VA g w a v:=by
 unfold sO at he
 split at he
 · rename_i ns hs
   obtain⟨b,r,bs,clock,l,rfl,h1,h2,rfl,h3,h4,h5⟩:=rq h hx hs
   split at he
   · rename_i s
     obtain rfl:=key_eq hk
     split at he
     · rename_i ht
       obtain⟨kt,et,t1,t2,t3⟩:=wR g w ht
       simp only[c9] at he
       subst he
       have hc : ∀e,(re e 10000 kt (.string s)).run P w = .ok () w:=fun e=>ua t2 (d:= .string) (k:= .string s) trivial e 9999
       refine⟨cond ok (.tuple #[.bool (fE ns s),.bool (fE ns s)]) (.bool (fE ns s)),?_,?_⟩
       · rcases An h4 s with⟨q0,q1⟩ | ⟨q0,j,e,q1,q2,q3,q4⟩
         · have hf:=tp (w:=w) t2 q1
           cases ok<;>simp[pD,run_underlying t1,tf h3,hc,hf,t3,pk,q0]
         · have hf:=tp (w:=w) t2 q1
           cases ok<;>simp[pD,run_underlying t1,tf h3,hc,hf,pk,q0]
       · cases ok with
         |true=>exact VA.lF.2 ⟨.p _ _ (.sc _),.p _ _ (.sc _),trivial⟩
         |false=>exact .p _ _ (.sc _)
     · cases he
   · cases he
 · exact wO h hx hk he
theorem ux (h:Rel g m w) {x k v a:AV} {cx ck cv:Value} {t:TypeId} {us:nv} (hx:VA g w x cx) (hk:VA g w k ck) (hv:VA g w v cv)
  (he:vZ P (fun i=>m.getD i .dead) t x k v=some (a,us,true)) :
  ∃w',(qf t cx ck cv).run P w = .ok () w'∧a = .au []∧Rel g (apply m us) w'∧Ext g w g w'∧dm g m w g (apply m us) w':=by
 unfold vZ at he
 split at he
 · rename_i ns hs
   obtain⟨b,r,bs,clock,l,rfl,h1,h2,rfl,h3,h4,h5⟩:=rq h hx hs
   split at he
   · rename_i b' s Jj
     cases Jj
     obtain rfl:=key_eq hk
     obtain rfl:=key_eq hv
     split at he
     · rename_i ht
       obtain⟨kt,et,t1,t2,t3⟩:=wR g w ht
       simp only[c9,iu,and_true] at he
       obtain⟨rfl,rfl⟩:=he
       have hc : ∀e,(re e 10000 kt (.string s)).run P w = .ok () w:=fun e=>ua t2 (d:= .string) (k:= .string s) trivial e 9999
       rcases An h4 s with⟨q0,q1⟩ | ⟨q0,j,e,q1,q2,q3,q4⟩
       · have hf:=tp (w:=w) t2 q1
         have ea:qL ns s=ns++[s]:=by unfold qL;rw[q0];rfl
         rw[ea]
         have Lr:(rm ns bs).toArray.push {key:= .string s,val:= .bool true,born:=clock}=(rm (ns++[s]) (bs++[clock])).toArray:=by
          have k:=j5 (k:= .string s) (cv:= .bool true) (b:=clock) (ks:=ns.map .string) (cs:=ns.map fun _=> .bool true) (bs:=bs) (by simp) (by simpa using h4)
          simp only[rm,List.map_append,oT,List.map_nil]
          rw[←k]
          simp
         obtain⟨e1,e2,e3⟩:=cS w (o':= .map (rm (ns++[s]) (bs++[clock])).toArray (clock+1)) h3
         obtain⟨r1,r2,r3⟩:=h.fP (Df:= .smap (ns++[s])) (l':=[]) (vs':=[]) h1 h2 e1 e2 rfl rfl rfl e3 ⟨rfl,bs++[clock],clock+1,rfl,by simp[h4]⟩ trivial
         refine⟨_,?_,rfl,r1,r2,r3⟩
         simp[qf,run_underlying t1,tf h3,hc,hf,Lr,tz _ h3,pk]
       · have hf:=tp (w:=w) t2 q1
         have ea:qL ns s=ns:=by unfold qL;rw[q0];rfl
         rw[ea]
         have hmod:((rm ns bs).modify j fun e=>{key:= .string s,val:= .bool true,born:=e.born})=rm ns bs:=by
          apply List.ext_getElem?
          intro i
          rw[List.getElem?_modify]
          by_cases ij:j=i
          · subst ij
            rw[q2]
            obtain⟨ek,ev,eb⟩:=e
            simp only at q3 q4
            subst q3 q4
            simp
          · simp[ij]
         obtain⟨e1,e2,e3⟩:=cS w (o':= .map (rm ns bs).toArray clock) h3
         obtain⟨r1,r2,r3⟩:=h.fP (Df:= .smap ns) (l':=[]) (vs':=[]) h1 h2 e1 e2 rfl rfl rfl e3 ⟨rfl,bs,clock,rfl,h4⟩ trivial
         refine⟨_,?_,rfl,r1,r2,r3⟩
         have hsame:rf 10000 (.string s) (.string s)=true:=by simp[rf,vb]
         simp[qf,run_underlying t1,tf h3,hc,hf,rk,hsame,tz _ h3,pk,q2,q3,hmod]
     · cases he
   · cases he
 · exact rj h hx hk hv he
set_option linter.unusedVariables false in
theorem Du {ρ:Operand→AV} {cg:Operand→Value} (hr : ∀x,VA g w (ρ x) (cg x)) {o:Oper} {op:BinOp} {t yt:TypeId} {x y:Operand} (ho:o.op = .binOp op t x y yt) {a:AV} {us:nv} {ok:Bool} (he:He P op t (ρ x) (ρ y)=some (a,us,ok)) :
  us=[] ∧ ∃v,(execOp cg o).run P w = .ok (.value v) w∧VA g w a v:=by
 unfold He at he
 cases he
end
end Go.Am
end
section
namespace Go.Am
open Go.RowKit
section
variable {P:Program} {g:Gh} {m:Mem} {w:World}
theorem Rel.move (h:Rel g m w) {b aZ c:Nat} {k:aD} {l:List AV} (hb:m[b]? = some (.ob k l)) (hc:g.bP b=some c) (hn:m[aZ]? = some .free) :
  Rel (g.put aZ c (g.lo b) (g.hi b)) ((m.set b .dead).set aZ (.ob k l)) w∧Ext g w (g.put aZ c (g.lo b) (g.hi b)) w∧dm g m w (g.put aZ c (g.lo b) (g.hi b)) ((m.set b .dead).set aZ (.ob k l)) w:=by
 have hne:b≠aZ:=fun e=>by subst e;rw[hb] at hn;cases hn
 have hf:=h.free aZ hn
 have get : ∀j x,((m.set b .dead).set aZ (.ob k l))[j]? = some x→(j=aZ∧x = .ob k l)∨x = .dead∨(j≠aZ∧j≠b∧m[j]? = some x):=by
  intro j x hj
  rcases aP hj with⟨e,q⟩ | ⟨hjn,q⟩
  · exact .inl ⟨e,q⟩
  · rcases aP q with⟨_,q⟩ | ⟨BY,q⟩
    · exact .inr (.inl q)
    · exact .inr (.inr ⟨hjn,BY,q⟩)
 have bo : ∀j,j≠aZ→(g.put aZ c (g.lo b) (g.hi b)).bP j=g.bP j:=fun j hj=>by simp[Gh.put,hj]
 have bi:(g.put aZ c (g.lo b) (g.hi b)).bP aZ=some c:=by simp[Gh.put]
 have ext:Ext g w (g.put aZ c (g.lo b) (g.hi b)) w:=⟨fun j c' hj=>by
  have:j≠aZ:=fun e=>by subst e;rw[hf] at hj;cases hj
  simp[Gh.put,this,hj],fun _ _ p=>⟨p,rfl⟩⟩
 have ne : ∀j x c',j≠b→m[j]? = some x→x.dB=true→g.bP j=some c'→c'≠c:=fun j x c' BY hj ho fO e=>BY (h.inj j b x _ c hj hb ho rfl (e▸fO) hc)
 obtain⟨c0,ob,vs,h1,h2,h3,h4,h5,h6⟩:=h.obs b _ _ hb
 rw[hc] at h1;cases h1
 refine⟨⟨fun j hj=> ?_,fun j hj=> ?_,fun j x kk hj hk=> ?_,fun j c' hj fO=> ?_,fun j q x x' c' hj hk ho ho' gP iO=> ?_,h.there,fun j kk ll hj=> ?_⟩,ext,⟨bx _,fun _ _ _=>rfl,fun _ _ p=>⟨p,rfl⟩,fun _ _ p=> .inl p,fun c' ho=> ?_,rfl,rfl,rfl⟩⟩
 · have hl:=bq hn
   simp only[du] at hj
   rw[bo j (by omega)];exact h.zb j hj
 · rcases get j _ hj with⟨_,e⟩ | e | ⟨hjn,_,e⟩
   · cases e
   · cases e
   · rw[bo j hjn];exact h.free j e
 · rcases get j _ hj with⟨_,e⟩ | e | ⟨hjn,BY,e⟩
   · subst e;cases hk
   · subst e;cases hk
   · obtain⟨c1,cs1,e1,n1,q1,q2,q3,q4,q5⟩:=h.cells j x kk e hk
     exact⟨c1,cs1,e1,n1,(bo j hjn).trans q1,q2,q3,q4.mono ext,q5⟩
 · rcases get j _ hj with⟨_,e⟩ | e | ⟨hjn,BY,e⟩
   · cases e
   · cases e
   · rw[bo j hjn] at fO
     obtain⟨cs1,e1,n1,q2,q3,q4,q5⟩:=h.tok j c' e fO
     have e1:(g.put aZ c (g.lo b) (g.hi b)).hi j=g.hi j:=by simp[Gh.put,hjn]
     have e2:(g.put aZ c (g.lo b) (g.hi b)).lo j=g.lo j:=by simp[Gh.put,hjn]
     rw[e1,e2]
     exact⟨cs1,_,n1,q2,q3,q4,q5⟩
 · rcases get j _ hj with⟨rfl,e⟩ | e | ⟨hjn,BY,e⟩
   · rcases get q _ hk with⟨rfl,_⟩ | e' | ⟨hqn,hqb,e'⟩
     · rfl
     · subst e';simp[aU.dB] at ho'
     · rw[bi] at gP;cases gP
       rw[bo q hqn] at iO
       exact absurd rfl (ne q x' _ hqb e' ho' iO)
   · subst e;simp[aU.dB] at ho
   · rcases get q _ hk with⟨rfl,_⟩ | e' | ⟨hqn,hqb,e'⟩
     · rw[bi] at iO;cases iO
       rw[bo j hjn] at gP
       exact absurd rfl (ne j x _ BY e ho gP)
     · subst e';simp[aU.dB] at ho'
     · rw[bo j hjn] at gP;rw[bo q hqn] at iO
       exact h.inj j q x x' c' e e' ho ho' gP iO
 · rcases get j _ hj with⟨rfl,e⟩ | e | ⟨hjn,BY,e⟩
   · cases e
     exact⟨c,ob,vs,bi,h2,h3.mono ext,h4,h5,by simpa[Gh.put] using h6⟩
   · cases e
   · obtain⟨c1,o1,vs1,q1,q2,q3,q4,q5,q6⟩:=h.obs j kk ll e
     exact⟨c1,o1,vs1,(bo j hjn).trans q1,q2,q3.mono ext,q4,q5,by simpa[Gh.put,hjn] using q6⟩
 · obtain⟨j,x,hj,hx,Ld⟩:=ho
   rcases get j _ hj with⟨rfl,e⟩ | e | ⟨hjn,BY,e⟩
   · rw[bi] at Ld;cases Ld
     exact .inl ⟨b,_,hb,rfl,hc⟩
   · subst e;simp[aU.dB] at hx
   · rw[bo j hjn] at Ld
     exact .inl ⟨j,x,e,hx,Ld⟩
theorem wT {α:Type} : ∀(n l:List α) (o:Nat),o+n.length≤l.length→(cW l o n).take (o+n.length)=l.take o++n
 |[],l,o,_=>by simp[cW]
 |v::n,l,o,h=>by
  simp only[ml] at h
  have:=wT n (l.set o v) (o+1) (by simp;omega)
  simp only[cW,ml]
  rw[show o+(n.length+1)=o+1+n.length by omega,this,List.take_succ_eq_append_getElem (by simp;omega),oR,List.set_eq_of_length_le (by simp;omega)]
  simp
theorem Dv (h:Rel g m w) {b c:Nat} {l:List AV} (hl:jL (m.getD b .dead)=some l) (hc:g.bP b=some c) :
  ∃cs e n,w.heap[c]? = some (.cells cs e n)∧n.2≤n.1∧cL g w l (cs.toList.take l.length)∧l.length≤cs.size ∧ ∀v∈cs.toList,v.oneCell'=true:=by
 have cells : ∀x,m[b]? = some x→x.cells?=some l → ∃cs e n,w.heap[c]? = some (.cells cs e n)∧n.2≤n.1∧cL g w l (cs.toList.take l.length)∧l.length≤cs.size ∧ ∀v∈cs.toList,v.oneCell'=true:=by
  intro x hx hxl
  obtain⟨c',cs,e,n,k1,k2,k3,k4,k5⟩:=h.cells b x l hx hxl
  rw[hc] at k1;cases k1
  have hlen:=k4.1.len
  simp only[fw] at hlen
  exact⟨cs,e,n,k2,k3,by rw[hlen,dq (by simp)];exact k4.1,by omega,k4.2⟩
 generalize hx:m.getD b .dead=x at hl
 unfold jL at hl
 split at hl
 · simp only[c9] at hl;subst hl
   exact cells _ (getD_some hx (by simp)) rfl
 · simp only[c9] at hl;subst hl
   exact cells _ (getD_some hx (by simp)) rfl
 · simp only[c9] at hl;subst hl
   obtain⟨c',ob,vs,k1,k2,k3,k4,_,_⟩:=h.obs b _ _ (getD_some hx (by simp))
   rw[hc] at k1;cases k1
   obtain⟨cs,e,n,rfl,_,q0,q1,q2,q3⟩:=k4
   have hlen:=k3.len
   exact⟨cs,e,n,k2,q0,by rw[hlen,←q1];exact k3,by omega,q3⟩
 · cases hl
theorem cL.YD {l:List PV} {vs:List Value} (h:Ho g w l vs):cL g w (l.map .p) vs:=bu.dA (by simpa using h.len) fun i a b=>by
 have:=h.get i (by simpa using a) b
 rw[dk];exact .p _ _ this
theorem fk (h:Rel g m w) {sz n:Nat} {x:AV} {cx:Value} {l:List AV} (he:cJ (fun i=>m.getD i .dead) sz x=some (n,l,true)) (hx:VA g w x cx) :
  ∃vs:List Value,cL g w l vs∧vs.length=n*sz∧(∀v∈vs,v.oneCell'=true)∧(la cx).run P w = .ok n w ∧ ∀k,k≤n→(kz sz k cx).run P w = .ok (vs.take (k*sz)).toArray w:=by
 unfold cJ at he
 split at he
 · rename_i n' aI ok hc
   simp only[c9,iu] at he
   obtain⟨rfl,rfl,rfl⟩:=he
   obtain⟨vs,h1,h2,h3,h4,h5⟩:=fJ (P:=P) h hc hx
   exact⟨vs,cL.YD h1,h2,h3,h4,h5⟩
 · split at he
   · rename_i b off len s cap _
     split at he
     · rename_i l0 hb
       simp only[c9,iu,c8,fb] at he
       obtain⟨rfl,rfl,rfl,h1⟩:=he
       have h1:=en h1
       cases hx with
       |ms _ _ _ _ cap c hc hcap=>
       obtain⟨c',cs,e,q,k1,k2,k3,k4,k5⟩:=h.cells b _ _ (getD_some hb (by simp)) rfl
       rw[hc] at k1;cases k1
       have hone:=k4.2
       have zz:=k4.1
       have hlen:=zz.len
       simp only[fw] at hlen
       have hvl:((cs.toList.drop off).take (len*s)).length=len*s:=by
        rw[dC,List.length_drop,fw];omega
       refine⟨(cs.toList.drop off).take (len*s),nM ((zz.drop off).take (len*s)),hvl,fun v hv=>hone v (List.mem_of_mem_drop (dd hv)),by simp[la],fun k hk=> ?_⟩
       have hl:(((cs.toList.drop off).take (len*s)).take (k*s)).length=k*s:=by
        rw[dC,hvl];exact pn (fe _ hk)
       have:=run_loadCells_list (P:=P) w ⟨c,off,none⟩ (((cs.toList.drop off).take (len*s)).take (k*s)) (fun j v hj=>by
        rw[cK,aX k2]
        rw[db] at hj
        split at hj
        · rw[db] at hj
          split at hj
          · rw[df] at hj;simpa using hj
          · cases hj
        · cases hj)
       rw[hl] at this
       simpa[kz] using this
     · cases he
   · cases he
theorem wU (h:Rel g m w) {sz n:Nat} {x:AV} {cx:Value} {l:List AV} (he:cJ (fun i=>m.getD i .dead) sz x=some (n,l,true)) (hx:VA g w x cx) :
  ∃vs:List Value,cL g w l vs∧vs.length=n*sz∧(∀v∈vs,v.oneCell'=true)∧(la cx).run P w.drew = .ok n w.drew ∧ ∀k,k≤n→(kz sz k cx).run P w.drew = .ok (vs.take (k*sz)).toArray w.drew:=by
 obtain⟨h1,h2,_⟩:=h.jX (w':=w.drew) rfl rfl rfl rfl
 obtain⟨vs,k1,k2,k3,k4,k5⟩:=fk (P:=P) h1 he (hx.mono h2)
 exact⟨vs,cL.mono (g:=g) (w:=w.drew) ⟨fun _ _ q=>⟨q,rfl,rfl⟩,fun c o p=>⟨p,(h2.pure c o p).2.symm⟩⟩ k1,k2,k3,k4,k5⟩
theorem Dw (K:aD) (h:Rel g m w) {aZ:Nat} (hn:m[aZ]? = some .free) {argTypes:Array TypeId} {ty sType xType elem:TypeId} {d:TypeDesc} {info:TypeInfo} {z:List AV} {x:AV} {cx:Value} {n:Nat} {aI:List AV} {ad:Option Addr} {len cap:Nat} {l:List AV} {vs:List Value}
  (hs0:argTypes[0]? = some sType) (hx0:argTypes[1]? = some xType) (hu:P.underlying sType=some (.slice elem)) (td:P.underlying xType=some d) (hd : ∀k,d ≠ .int k) (hi:P.info? elem=some info) (hz:zeroCells P elem=some z)
  (hx:VA g w x cx) (gq:cJ (fun i=>m.getD i .dead) info.size x=some (n,aI,true)) (h2:1≤info.size) (h3:z.length=info.size) (h4:(len+n)*info.bytes≤gi) (h5:len+n≤gi)
  (hl:cL g w l vs) (hone : ∀v∈vs,v.oneCell'=true) (hvl:vs.length=len*info.size) (j4:(kz info.size len (.slice ad len cap)).run P w.drew = .ok vs.toArray w.drew) (ef : ¬len+n≤cap)
  (hK : ∀(all:Array Value) (vx zs:List Value),cL g w aI vx→all.toList=vs++vx++zs→(vs++vx).length≤all.size→(∀v∈all.toList,v.oneCell'=true)→(∀v∈zs,∃a∈z,VA g w a v)→all.size≤9223372036854775807*info.size→K.is (.cells all elem) (vs++vx)∧K.room (.cells all elem) all.size) :
  ∃newCap g' w',(((do pure (.value (←ss argTypes ty #[.slice ad len cap,cx])):Sem Next)).run P w) = .ok (.value (.slice (some ⟨w.heap.size,0,none⟩) (len+n) newCap)) w' ∧
   Rel g' (m.set aZ (.ob K (l++aI))) w'∧Ext g w g' w'∧dm g m w g' (m.set aZ (.ob K (l++aI))) w'∧VA g' w' (.ms aZ 0 (len+n) info.size none) (.slice (some ⟨w.heap.size,0,none⟩) (len+n) newCap):=by
 obtain⟨zv,z1,z2⟩:=ct (g:=g) (w:=w) hz
 have hzl:=z2.1.len
 simp only[fw] at hzl
 have hzs:zv.cells.size=info.size:=by omega
 have hsz:fN P elem=some info.size:=by simp[fN,hi]
 unfold gi at h4 h5
 obtain⟨_,_,_,_,l3,_⟩:=fk (P:=P) h gq hx
 obtain⟨vx,x1,x2,zD,x3,x4⟩:=wU (P:=P) h gq hx
 have x5:=x4 n (bx _)
 rw[dq (by omega)] at x5
 obtain⟨d1,d2,d3⟩:=h.jX (w':=w.drew) rfl rfl rfl rfl
 have kQ:=lf (len+n) cap elem (w.tape w.drawn (.appendCap (len+n) cap elem))
 have YE:(sg (len+n) cap elem).cut (w.tape w.drawn (.appendCap (len+n) cap elem))≤9223372036854775807:=by
  have hlt:=pB (w.tape w.drawn (.appendCap (len+n) cap elem)) (show 0<2 ^ 63-(len+n) by omega)
  show len+n+w.tape w.drawn (.appendCap (len+n) cap elem)%(2 ^ 63-(len+n))≤9223372036854775807
  omega
 generalize hnc:(sg (len+n) cap elem).cut (w.tape w.drawn (.appendCap (len+n) cap elem))=newCap at kQ YE
 have Lo:(sm zv.cells (newCap-(len+n))).size=(newCap-(len+n))*info.size:=by simp[sm,hzs]
 have hmul:(len+n)*info.size=len*info.size+n*info.size:=po _ _ _
 have hall:(vs.toArray++vx.toArray++sm zv.cells (newCap-(len+n))).size=newCap*info.size:=by
  simp only[lr,ov,Lo,hvl,x2]
  rw[fh,hmul]
  have:=fe info.size kQ
  rw[hmul] at this
  omega
 have YF : ∀v∈(sm zv.cells (newCap-(len+n))).toList,v.oneCell'=true:=by
  intro v hv
  simp only[sm,gn,eh] at hv
  obtain⟨i,_,rfl⟩:=hv
  have hlt:i%zv.cells.size<zv.cells.size:=pB _ (by omega)
  rw[getElem!_pos zv.cells _ hlt]
  exact z2.2 _ (by simp)
 have ab2 : ∀v∈(sm zv.cells (newCap-(len+n))).toList,∃a∈z,VA g w a v:=by
  intro v hv
  simp only[sm,gn,eh] at hv
  obtain⟨i,_,rfl⟩:=hv
  have hlt:i%zv.cells.size<zv.cells.size:=pB _ (by omega)
  rw[getElem!_pos zv.cells _ hlt]
  have hz':i%zv.cells.size<z.length:=by omega
  exact⟨z[i%zv.cells.size],List.getElem_mem hz',by have:=z2.1.get (i%zv.cells.size) hz' (by simpa using hlt);rwa [Array.getElem_toList] at this⟩
 generalize BW:vs.toArray++vx.toArray++sm zv.cells (newCap-(len+n))=all at hall
 have nN:all.toList=vs++vx++(sm zv.cells (newCap-(len+n))).toList:=by rw[←BW];simp
 have wL:qc w (w.drew.alloc (.cells all elem)) (.cells all elem):=⟨rfl,rfl,rfl,rfl⟩
 have zz:cL g w (l++aI) (vs++vx):=hl.append x1
 have Qi : ∀v∈all.toList,v.oneCell'=true:=fun v hv=>by
  rw[nN] at hv
  rcases na.1 hv with q | q
  · rcases na.1 q with q | q
    · exact hone v q
    · exact zD v q
  · exact YF v q
 have hKK:=hK all vx _ x1 nN (by rw[hall,di,hvl,x2,←hmul];exact fe _ kQ) Qi ab2 (by rw[hall];exact fe _ YE)
 obtain⟨r1,r2,r3⟩:=h.qS all.size (ob:=K) (l:=l++aI) (vs:=vs++vx) hn zz wL
  hKK.1 hKK.2
 refine⟨newCap,_,_,?_,r1,r2,r3,.mg aZ 0 _ _ newCap w.heap.size (by simp[Gh.put]) kQ (by simp[Gh.put,hall])⟩
 have T9 : ¬(((len+n:Nat):Int)>sb.max):=by
  rw[show sb.max=9223372036854775807 from by decide];omega
 have hgrow : ¬(sR (len+n) cap*info.bytes>2 ^ 48):=by
  have:=growslice_fits (need:=len+n) (old:=cap) (bytes:=info.bytes) (by omega) (by omega)
  omega
 simp only[ss,hs0,hx0,mr,mf,mi,iv,run_underlying hu,jb,aK hsz,run_underlying td,ja,pb,if_false,l3,ef,ph,T9,false_and,fo hi,hgrow,run_choose,si,hnc,rv,run_askRoom,j4,x5,z1,BW,if_true,newRow,run_newObj,rn,rp]
theorem B4 (pq:Bool) (h:Rel g m w) {aZ:Nat} (hn:m[aZ]? = some .free) {argTypes:Array TypeId} {ty sType xType elem:TypeId} {d:TypeDesc} {info:TypeInfo} {z:List AV} {x:AV} {cx:Value} {n:Nat} {aI:List AV} {ad:Option Addr} {len cap:Nat} {l:List AV} {vs:List Value}
  (hs0:argTypes[0]? = some sType) (hx0:argTypes[1]? = some xType) (hu:P.underlying sType=some (.slice elem)) (td:P.underlying xType=some d) (hd : ∀k,d ≠ .int k) (hi:P.info? elem=some info) (hz:zeroCells P elem=some z)
  (hx:VA g w x cx) (gq:cJ (fun i=>m.getD i .dead) info.size x=some (n,aI,true)) (h2:1≤info.size) (h3:z.length=info.size) (h4:(len+n)*info.bytes≤gi) (h5:len+n≤gi)
  (hl:cL g w l vs) (hone : ∀v∈vs,v.oneCell'=true) (hvl:vs.length=len*info.size) (j4:(kz info.size len (.slice ad len cap)).run P w.drew = .ok vs.toArray w.drew) (ef : ¬len+n≤cap) :
  ∃newCap g' w',(((do pure (.value (←ss argTypes ty #[.slice ad len cap,cx])):Sem Next)).run P w) = .ok (.value (.slice (some ⟨w.heap.size,0,none⟩) (len+n) newCap)) w' ∧
   Rel g' (m.set aZ (.ob (.gr elem pq) (l++aI))) w'∧Ext g w g' w'∧dm g m w g' (m.set aZ (.ob (.gr elem pq) (l++aI))) w'∧VA g' w' (.ms aZ 0 (len+n) info.size none) (.slice (some ⟨w.heap.size,0,none⟩) (len+n) newCap):=
 Dw (.gr elem pq) h hn hs0 hx0 hu td hd hi hz hx gq h2 h3 h4 h5 hl hone hvl j4 ef fun all vx zs _ nN hle YG _ _=>
  ⟨⟨all,elem,(0,0),rfl,rfl,bx _,by rw[nN,np (bx _),oE],hle,YG⟩,rfl⟩
theorem iW : ∀{l:List AV} {vs:List Value},allBy l=true→cL g w l vs → ∀v∈vs,∃k,v = .int .u8 k
 |[],[],_,_=>fun v hv=>by cases hv
 |a::l,v::vs,h,k=>by
  simp only[allBy,c8] at h
  intro u hu
  cases hu with
  |head=>
   have hk:=k.1
   have h1:=h.1
   match a,h1,hk with
   |.p (.sc (.int .u8 n)),_,hk=>
    rw[VA.pv] at hk
    cases hk
    exact⟨n,rfl⟩
  |tail _ hu=>exact iW h.2 k.2 u hu
 |[],_::_,_,h=>h.elim
 |_::_,[],_,h=>h.elim
theorem Ao : ∀{l:List AV},allBy l=true → ∀a∈l,allBy [a]=true
 |x::l,h,a,ha=>by
  simp only[allBy,c8] at h
  cases ha with
  |head=>simp[allBy,h.1]
  |tail _ ha=>exact Ao h.2 a ha
theorem Dx (h:Rel g m w) {aZ:Nat} (hn:m[aZ]? = some .free) {argTypes:Array TypeId} {ty sType xType elem:TypeId} {d:TypeDesc} {info:TypeInfo} {z:List AV} {x:AV} {cx:Value} {n:Nat} {aI:List AV} {ad:Option Addr} {len cap:Nat} {l:List AV} {vs:List Value}
  (hs0:argTypes[0]? = some sType) (hx0:argTypes[1]? = some xType) (hu:P.underlying sType=some (.slice elem)) (td:P.underlying xType=some d) (hd : ∀k,d ≠ .int k) (hi:P.info? elem=some info) (hz:zeroCells P elem=some z)
  (hx:VA g w x cx) (gq:cJ (fun i=>m.getD i .dead) info.size x=some (n,aI,true)) (h2:1≤info.size) (h3:z.length=info.size) (h4:(len+n)*info.bytes≤gi) (h5:len+n≤gi)
  (hl:cL g w l vs) (ze : ∀v∈vs,∃k,v = .int .u8 k) (Ub:info.size=1) (hbz:allBy z=true) (hbp:allBy aI=true) (hvl:vs.length=len*info.size) (j4:(kz info.size len (.slice ad len cap)).run P w.drew = .ok vs.toArray w.drew) (ef : ¬len+n≤cap) :
  ∃newCap g' w',(((do pure (.value (←ss argTypes ty #[.slice ad len cap,cx])):Sem Next)).run P w) = .ok (.value (.slice (some ⟨w.heap.size,0,none⟩) (len+n) newCap)) w' ∧
   Rel g' (m.set aZ (.ob (.gb elem) (l++aI))) w'∧Ext g w g' w'∧dm g m w g' (m.set aZ (.ob (.gb elem) (l++aI))) w'∧VA g' w' (.ms aZ 0 (len+n) info.size none) (.slice (some ⟨w.heap.size,0,none⟩) (len+n) newCap):=
 Dw (.gb elem) h hn hs0 hx0 hu td hd hi hz hx gq h2 h3 h4 h5 hl (fun v hv=>by obtain⟨k,rfl⟩:=ze v hv;rfl) hvl j4 ef fun all vx zs hx1 nN hle _ hzs hsz=>
  ⟨⟨all,elem,(0,0),rfl,rfl,bx _,by rw[nN,np (bx _),oE],hle,fun v hv=>by
    rw[nN] at hv
    rcases na.1 hv with q | q
    · rcases na.1 q with q | q
      · exact ze v q
      · exact iW hbp hx1 v q
    · obtain⟨a,ha,zz⟩:=hzs v q
      exact iW (l:=[a]) (vs:=[v]) (Ao hbz a ha) ⟨zz,trivial⟩ v (.head _),by rw[Ub,Nat.mul_one] at hsz;exact hsz⟩,rfl⟩
theorem run_append_room (h:Rel g m w) {argTypes:Array TypeId} {ty sType xType elem:TypeId} {d:TypeDesc} {info:TypeInfo} {x:AV} {cx:Value} {n:Nat} {aI:List AV} {c len cap:Nat} {cs:Array Value} {e:TypeId} {q:Nat×Nat}
  (hs0:argTypes[0]? = some sType) (hx0:argTypes[1]? = some xType) (hu:P.underlying sType=some (.slice elem)) (td:P.underlying xType=some d) (hd : ∀k,d ≠ .int k) (hi:P.info? elem=some info)
  (hx:VA g w x cx) (gq:cJ (fun i=>m.getD i .dead) info.size x=some (n,aI,true)) (hc:w.heap[c]? = some (.cells cs e q)) (hq:q.2≤q.1) (hroom:(len+n)*info.size≤cs.size) (ef:len+n≤cap) :
  ∃w' cs' vx,(((do pure (.value (←ss argTypes ty #[.slice (some ⟨c,0,none⟩) len cap,cx])):Sem Next)).run P w) = .ok (.value (.slice (some ⟨c,0,none⟩) (len+n) cap)) w' ∧
   cL g w aI vx∧vx.length=n*info.size∧(∀v∈vx,v.oneCell'=true)∧cs'.toList=cW cs.toList (len*info.size) vx∧w'.heap[c]? = some (.cells cs' e q) ∧
   (∀k,k≠c→w'.heap[k]? = w.heap[k]?)∧w'.heap.size=w.heap.size∧w'.os=w.os∧w'.tape=w.tape∧w'.output=w.output:=by
 have hsz:fN P elem=some info.size:=by simp[fN,hi]
 obtain⟨vx,x1,x2,zD,x3,x4⟩:=fk (P:=P) h gq hx
 have x5:=x4 n (bx _)
 rw[dq (by omega)] at x5
 have hmul:(len+n)*info.size=len*info.size+n*info.size:=po _ _ _
 obtain⟨w',cs',p1,p2,p3,p4,p5,p6,p7,p8⟩:=iI (P:=P) c (len*info.size) vx 0 w cs e q hc (fun j hj=> .inl hq) (by omega) zD
 simp only[pt] at p3
 refine⟨w',cs',vx,?_,x1,x2,zD,p3,p2,p4,p5,p6,p7,p8⟩
 have T8:(⟨c,0,none⟩:Addr).add (len*info.size)=⟨c,len*info.size,none⟩:=by rw[cK,pw]
 simp only[ss,hs0,hx0,mr,mf,mi,iv,run_underlying hu,jb,aK hsz,run_underlying td,ja,pb,if_false,x3,ef,if_true,ph,x5,T8,p1]
theorem nP {c len cap sz:Nat} {cs:Array Value} {e:TypeId} {q:Nat×Nat} (hc:w.heap[c]? = some (.cells cs e q)) (hl:len*sz≤cs.size) :
  (kz sz len (.slice (some ⟨c,0,none⟩) len cap)).run P w = .ok (cs.toList.take (len*sz)).toArray w:=by
 have:=run_loadCells_list (P:=P) w ⟨c,0,none⟩ (cs.toList.take (len*sz)) (fun j v hj=>by
  rw[cK,pw,aX hc]
  rw[db] at hj
  split at hj
  · simpa using hj
  · cases hj)
 rw[dC,fw,pn hl] at this
 simpa[kz] using this
theorem nQ (h:Rel g m w) {aZ:Nat} (hn:m[aZ]? = some .free) {argTypes:Array TypeId} {ty sType xType elem t:TypeId} {d:TypeDesc} {info:TypeInfo} {z:List AV} {x:AV} {cs cx:Value} {b len n:Nat} {pq:Bool} {l aI:List AV}
  (hs0:argTypes[0]? = some sType) (hx0:argTypes[1]? = some xType) (hu:P.underlying sType=some (.slice elem)) (td:P.underlying xType=some d) (hd' : ∀k,d ≠ .int k) (hi:P.info? elem=some info) (hz:zeroCells P elem=some z)
  (hs:VA g w (.ms b 0 len info.size none) cs) (hx:VA g w x cx) (gq:cJ (fun i=>m.getD i .dead) info.size x=some (n,aI,true)) (ze:m[b]? = some (.ob (.gr t pq) l))
  (h2:1≤info.size) (h3:z.length=info.size) (h4:(len+n)*info.bytes≤gi) (h5:len+n≤gi) (h7:len*info.size≤l.length) (h8:t=elem) :
  b8 g m w (((do pure (.value (←ss argTypes ty #[cs,cx])):Sem Next)).run P w) (.ms aZ 0 (len+n) info.size none) (apply m [(b,.dead),(aZ,.ob (.gr t (pq&&jQ (fun i=>m.getD i .dead) info.size x)) (l.take (len*info.size)++aI))]):=by
 subst h8
 cases hs with
 |mg _ _ _ _ cap c hc hcap hroom=>
 have hne:b≠aZ:=fun e=>by subst e;rw[ze] at hn;cases hn
 obtain⟨c',ob,vs,k1,k2,k3,k4,k5,k6⟩:=h.obs b _ _ ze
 rw[hc] at k1;cases k1
 obtain⟨cells,e,q,rfl,qt,q0,q1,q2,q3⟩:=k4
 have Aj:=k3.len
 have k6:cells.size=g.hi b:=k6
 have hmul:(len+n)*info.size=len*info.size+n*info.size:=po _ _ _
 by_cases ef:len+n≤cap
 · have T7:(len+n)*info.size≤cap*info.size:=fe _ ef
   obtain⟨w',cs',vx,r0,x1,x2,zD,p3,p2,p4,p5,p6,p7,p8⟩:=run_append_room (P:=P) (ty:=ty) h hs0 hx0 hu td hd' hi hx gq k2 q0 (by omega) ef
   have KP:=x1.len
   have hsize:cs'.size=cells.size:=by
    have:=congrArg oi p3
    rw[gQ] at this;simpa using this
   have zz:cL g w (l.take (len*info.size)++aI) (vs.take (len*info.size)++vx):=(k3.take _).append x1
   have YH:(vs.take (len*info.size)).length=len*info.size:=by rw[dC];omega
   obtain⟨r1,r2,r3⟩:=h.fP (Df:= .gr t (pq&&jQ (fun i=>m.getD i .dead) info.size x)) (l':=l.take (len*info.size)++aI) (vs':=vs.take (len*info.size)++vx) ze hc p4 p5 p6 p7 p8 p2
    ⟨cs',e,q,rfl,qt,q0,by
      rw[di,YH,p3,wT vx cells.toList _ (by simp;omega),q1,nc,pn (by omega)],by rw[di,YH,x2,hsize];omega,fun v hv=>by
      rw[p3] at hv
      exact jY _ _ _ q3 zD v hv⟩ zz (by show cs'.size=g.hi b;rw[hsize];exact k6)
   have hb':(m.set b (.ob (.gr t (pq&&jQ (fun i=>m.getD i .dead) info.size x)) (l.take (len*info.size)++aI)))[b]? = some (.ob (.gr t (pq&&jQ (fun i=>m.getD i .dead) info.size x)) (l.take (len*info.size)++aI)):=by rw[ma (bq ze)]
   obtain⟨s1,s2,s3⟩:=r1.move hb' hc (by rw[mc hne];exact hn)
   rw[nb] at s1 s3
   exact⟨_,w',_,.inl r0,.mg aZ 0 _ _ cap c (by simp[Gh.put]) ef (by simp[Gh.put];omega),s1,r2.trans s2,r3.trans s3⟩
 · have j4:=nP (P:=P) (w:=w.drew) (c:=c) (len:=len) (cap:=cap) (sz:=info.size) k2 (by omega)
   have hvt:vs.take (len*info.size)=cells.toList.take (len*info.size):=by rw[q1,nc,pn (by omega)]
   obtain⟨newCap,g',w',r0,r1,r2,r3,r4⟩:=B4 (P:=P) (pq&&jQ (fun i=>m.getD i .dead) info.size x) (ty:=ty) (l:=l.take (len*info.size)) (vs:=cells.toList.take (len*info.size)) h hn hs0 hx0 hu td hd' hi hz hx gq h2 h3 h4 h5 (by rw[←hvt];exact k3.take _)
    (fun v hv=>q3 v (dd hv)) (by rw[dC,fw];omega) j4 ef
   obtain⟨t1,t2⟩:=r1.kill b
   have e1:((m.set aZ (.ob (.gr t (pq&&jQ (fun i=>m.getD i .dead) info.size x)) (l.take (len*info.size)++aI))).set b .dead)=apply m [(b,.dead),(aZ,.ob (.gr t (pq&&jQ (fun i=>m.getD i .dead) info.size x)) (l.take (len*info.size)++aI))]:=by
    simp only[apply]
    exact pa _ _ (fun e=>hne e.symm)
   rw[e1] at t1 t2
   exact⟨_,w',g',.inl r0,r4,t1,r2,r3.trans t2⟩
theorem wW (h:Rel g m w) {aZ:Nat} (hn:m[aZ]? = some .free) {argTypes:Array TypeId} {ty sType xType elem t:TypeId} {d:TypeDesc} {info:TypeInfo} {z:List AV} {x:AV} {cs cx:Value} {b len n:Nat} {l aI:List AV}
  (hs0:argTypes[0]? = some sType) (hx0:argTypes[1]? = some xType) (hu:P.underlying sType=some (.slice elem)) (td:P.underlying xType=some d) (hd' : ∀k,d ≠ .int k) (hi:P.info? elem=some info) (hz:zeroCells P elem=some z)
  (hs:VA g w (.ms b 0 len info.size none) cs) (hx:VA g w x cx) (gq:cJ (fun i=>m.getD i .dead) info.size x=some (n,aI,true)) (ze:m[b]? = some (.ob (.gb t) l)) (Ub:info.size=1) (hbz:allBy z=true) (hbp:allBy aI=true)
  (h2:1≤info.size) (h3:z.length=info.size) (h4:(len+n)*info.bytes≤gi) (h5:len+n≤gi) (h7:len*info.size≤l.length) (h8:t=elem) :
  b8 g m w (((do pure (.value (←ss argTypes ty #[cs,cx])):Sem Next)).run P w) (.ms aZ 0 (len+n) info.size none) (apply m [(b,.dead),(aZ,.ob (.gb t) (l.take (len*info.size)++aI))]):=by
 subst h8
 cases hs with
 |mg _ _ _ _ cap c hc hcap hroom=>
 have hne:b≠aZ:=fun e=>by subst e;rw[ze] at hn;cases hn
 obtain⟨c',ob,vs,k1,k2,k3,k4,k5,k6⟩:=h.obs b _ _ ze
 rw[hc] at k1;cases k1
 obtain⟨cells,e,q,rfl,qt,q0,q1,q2,q3,q4⟩:=k4
 have Aj:=k3.len
 have k6:cells.size=g.hi b:=k6
 have hmul:(len+n)*info.size=len*info.size+n*info.size:=po _ _ _
 by_cases ef:len+n≤cap
 · have T7:(len+n)*info.size≤cap*info.size:=fe _ ef
   obtain⟨w',cs',vx,r0,x1,x2,zD,p3,p2,p4,p5,p6,p7,p8⟩:=run_append_room (P:=P) (ty:=ty) h hs0 hx0 hu td hd' hi hx gq k2 q0 (by omega) ef
   have KP:=x1.len
   have hsize:cs'.size=cells.size:=by
    have:=congrArg oi p3
    rw[gQ] at this;simpa using this
   have zz:cL g w (l.take (len*info.size)++aI) (vs.take (len*info.size)++vx):=(k3.take _).append x1
   have YH:(vs.take (len*info.size)).length=len*info.size:=by rw[dC];omega
   obtain⟨r1,r2,r3⟩:=h.fP (Df:= .gb t) (l':=l.take (len*info.size)++aI) (vs':=vs.take (len*info.size)++vx) ze hc p4 p5 p6 p7 p8 p2
    ⟨cs',e,q,rfl,qt,q0,by
      rw[di,YH,p3,wT vx cells.toList _ (by simp;omega),q1,nc,pn (by omega)],by rw[di,YH,x2,hsize];omega,fun v hv=>by
      rw[p3] at hv
      exact jY (p:=fun v=> ∃k,v = .int .u8 k) _ _ _ q3 (iW hbp x1) v hv,by rw[hsize];exact q4⟩ zz (by show cs'.size=g.hi b;rw[hsize];exact k6)
   have hb':(m.set b (.ob (.gb t) (l.take (len*info.size)++aI)))[b]? = some (.ob (.gb t) (l.take (len*info.size)++aI)):=by rw[ma (bq ze)]
   obtain⟨s1,s2,s3⟩:=r1.move hb' hc (by rw[mc hne];exact hn)
   rw[nb] at s1 s3
   exact⟨_,w',_,.inl r0,.mg aZ 0 _ _ cap c (by simp[Gh.put]) ef (by simp[Gh.put];omega),s1,r2.trans s2,r3.trans s3⟩
 · have j4:=nP (P:=P) (w:=w.drew) (c:=c) (len:=len) (cap:=cap) (sz:=info.size) k2 (by omega)
   have hvt:vs.take (len*info.size)=cells.toList.take (len*info.size):=by rw[q1,nc,pn (by omega)]
   obtain⟨newCap,g',w',r0,r1,r2,r3,r4⟩:=Dx (P:=P) (ty:=ty) (l:=l.take (len*info.size)) (vs:=cells.toList.take (len*info.size)) h hn hs0 hx0 hu td hd' hi hz hx gq h2 h3 h4 h5 (by rw[←hvt];exact k3.take _)
    (fun v hv=>q3 v (dd hv)) Ub hbz hbp (by rw[dC,fw];omega) j4 ef
   obtain⟨t1,t2⟩:=r1.kill b
   have e1:((m.set aZ (.ob (.gb t) (l.take (len*info.size)++aI))).set b .dead)=apply m [(b,.dead),(aZ,.ob (.gb t) (l.take (len*info.size)++aI))]:=by
    simp only[apply]
    exact pa _ _ (fun e=>hne e.symm)
   rw[e1] at t1 t2
   exact⟨_,w',g',.inl r0,r4,t1,r2,r3.trans t2⟩
theorem zE {m:Mem} {b sz:Nat} {t:TypeId} {pre:List Value} {l:List AV} {X:aU} {x:AV} {r:Nat×List AV×Bool} (hb:m[b]? = some (.ob (.stk t pre) l)) (h:cJ (fun i=>m.getD i .dead) sz x=some r) :
  cJ (fun i=>(m.set b X).getD i .dead) sz x=some r:=by
 have hd:m.getD b .dead = .ob (.stk t pre) l:=by rw[ch,hb];rfl
 have off : ∀i,i≠b→(m.set b X).getD i .dead=m.getD i .dead:=fun i hi=>by
  rw[ch,mc (fun e=>hi e.symm),ch]
 have same : ∀y,(∀o len s cap,y ≠ .ms b o len s cap)→contents (fun i=>(m.set b X).getD i .dead) sz y=contents (fun i=>m.getD i .dead) sz y:=fun y hy=>by
  cases y with
  |p v=>
   cases v with
   |sc u=>cases u<;>rfl
   |_=>rfl
  |ms b' o len s cap=>
   have hb':b'≠b:=fun e=>hy o len s cap (e▸rfl)
   cases cap with
   |none=>
    unfold contents
    dsimp only
    rw[off b' hb']
   |some q=>
    unfold contents
    dsimp only
    rw[off b' hb']
  |_=>rfl
 by_cases hx : ∃o len s cap,x = .ms b o len s cap
 · obtain⟨o,len,s,cap,rfl⟩:=hx
   exfalso
   unfold cJ at h
   cases cap with
   |none=>
    have e:contents (fun i=>m.getD i .dead) sz (.ms b o len s none)=none:=by
     unfold contents
     dsimp only
     rw[hd]
    rw[e] at h
    cases h
   |some q=>
    have e:contents (fun i=>m.getD i .dead) sz (.ms b o len s (some q))=none:=by
     unfold contents
     dsimp only
     rw[hd]
    rw[e] at h
    dsimp only at h
    rw[hd] at h
    cases h
 · rw[←h]
   unfold cJ
   rw[same x fun o len s cap e=>hx ⟨o,len,s,cap,e⟩]
   cases x with
   |ms b' o len s cap=>
    have hb':b'≠b:=fun e=>hx ⟨o,len,s,cap,e▸rfl⟩
    cases cap with
    |none=>rfl
    |some q=>
     dsimp only
     rw[off b' hb']
   |_=>rfl
theorem wX (h:Rel g m w) {aZ:Nat} (hn:m[aZ]? = some .free) {argTypes:Array TypeId} {ty:TypeId} {s x a:AV} {cs cx:Value} {us:nv}
  (hs:VA g w s cs) (hx:VA g w x cx) (he:fG P (fun i=>m.getD i .dead) aZ argTypes s x=some (a,us,true)) :
  b8 g m w (((do pure (.value (←ss argTypes ty #[cs,cx])):Sem Next)).run P w) a (apply m us):=by
 unfold fG at he
 split at he
 · rename_i sType xType hs0 hx0
   split at he
   · cases he
   · rename_i elem d hd hu td
     have hd' : ∀k,d ≠ .int k:=fun k e=>hd k e
     split at he
     · rename_i info z hi hz
       split at he
       · rename_i n aI ok gq
         dsimp only at he
         split at he
         ·
          rename_i b len sz
          split at he
          · rename_i t pq l hb
            simp only[c9,iu,c8] at he
            obtain⟨rfl,rfl,⟨rfl,h2,h3,h4,h5⟩,h6,h7,h8⟩:=he
            have h6:=ai h6
            subst h6
            exact nQ h hn hs0 hx0 hu td hd' hi hz hs hx gq (getD_some hb (by simp)) (en h2) (ai h3) (en h4) (en h5) (en h7) (ai h8)
          ·
           rename_i t l hb
           simp only[c9,iu,c8] at he
           obtain⟨rfl,rfl,⟨rfl,h2,h3,h4,h5⟩,h6,h7,h8,Ub,h9,h10⟩:=he
           have h6:=ai h6
           subst h6
           have h7:=ai h7
           have Yi:=wW (ty:=ty) h hn hs0 hx0 hu td hd' hi hz hs hx gq (getD_some hb (by simp)) (ai Ub) h9 h10 (en h2) (ai h3) (en h4) (en h5) (pC h7) (ai h8)
           rwa [dq (pC h7.symm)] at Yi
          ·
           rename_i t pre l hb
           simp only[c9,iu,c8] at he
           obtain⟨rfl,rfl,⟨rfl,h2,h3,h4,h5⟩,h6,h7,h8,h9⟩:=he
           have h6:=ai h6
           subst h6
           have ze:=getD_some hb (by simp)
           have Qe:=bq ze
           have hne:b≠aZ:=fun e=>by subst e;rw[ze] at hn;cases hn
           have h7':=en h7
           have h9':=en h9
           obtain⟨hg,hst⟩:=h.Fp ze
           have hgn:(m.set b (.ob (.gr t false) (exactly pre++l)))[aZ]? = some .free:=by rw[mc hne];exact hn
           obtain⟨v,w',g',o1,o2,o3,o4,o5⟩:=nQ (P:=P) (ty:=ty) hg hgn hs0 hx0 hu td hd' hi hz hs hx (zE (X:= .ob (.gr t false) (exactly pre++l)) ze gq) (by rw[ma Qe]) (en h2) (ai h3) (en h4) (en h5)
            (by rw[di,bz];exact h7') (ai h8)
           have YI:(exactly pre++l).take (len*info.size)++aI=exactly pre++(l.take (len*info.size-pre.length)++aI):=by
            rw[List.take_append,bz,dq (by rw[bz];exact h9'),List.append_assoc]
           simp only[apply,nb] at o3 o5
           rw[YI] at o3 o5
           have hnl:aZ<(m.set b .dead).length:=by rw[du];exact bq hn
           obtain⟨z1,z2⟩:=o3.Lh (b:=aZ) (by rw[ma hnl])
           rw[nb] at z1 z2
           exact⟨v,w',g',o1,o2,z1,o4,(hst.trans o5).trans z2⟩
          · cases he
         ·
          rename_i len sz cells
          split at he
          · rename_i hn0
            simp only[c9,iu,c8] at he
            obtain⟨rfl,rfl,rfl,_⟩:=he
            have hn0:=ai hn0
            subst hn0
            have hvs:=hs
            cases hs with
            |os _ _ _ _ ad cap hps zp=>
            have hcap:cap=len:=by
             rcases zp with e | ⟨t,b,o,e,_⟩
             · exact e
             · cases e
            subst hcap
            have hsz:fN P elem=some info.size:=by simp[fN,hi]
            obtain⟨vx,_,_,_,x3,x4⟩:=fk (P:=P) h gq hx
            have x5:=x4 0 (bx _)
            simp only[Nat.zero_mul,List.take_zero] at x5
            refine b8.quiet h (v:= .slice ad cap cap) ?_ hvs
            cases ad with
            |none=>simp[ss,hs0,hx0,run_underlying hu,aK hsz,run_underlying td,x3,x5,pk]
            |some ad=>simp[ss,hs0,hx0,run_underlying hu,aK hsz,run_underlying td,x3,x5,storeCells,pk]
          rename_i hn0
          split at he
          · rename_i hu8
            simp only[c9,iu,c8] at he
            obtain⟨rfl,rfl,⟨rfl,h2,h3,h4,h5⟩,h6,Qj,Ub,hb2,hb3⟩:=he
            have h1:1≤n:=by
             rcases py n with e | e
             · subst e;cases hn0
             · exact e
            have h2:=en h2
            have h3:=ai h3
            have h4:=en h4
            have h5:=en h5
            cases hs with
            |os _ _ _ _ ad cap hps zp=>
            have hcap:cap=len:=by
             rcases zp with e | ⟨t,b,o,e,_⟩
             · exact e
             · cases e
            subst hcap
            have Dq:=jy hps h6
            obtain⟨d1,d2,d3⟩:=h.jX (w':=w.drew) rfl rfl rfl rfl
            obtain⟨vs,s1,s2,Qh,s3,s4⟩:=lJ (P:=P) (Dq.mono d2.pure)
            have s5:=s4 cap (bx _)
            rw[dq (by omega)] at s5
            have Lm:=s1.len
            have zz:cL g w (cells.map .p) vs:=bu.dA (by simpa using Lm) fun i a b=>by
             have:=s1.get i (by simpa using a) b
             rw[dk]
             exact .p _ _ (this.mono (g:=g) (w:=w.drew) fun c o p=>⟨p,(d2.pure c o p).2.symm⟩)
            obtain⟨newCap,g',w',r0,r1,r2,r3,r4⟩:=Dx (P:=P) (ty:=ty) (l:=cells.map .p) (vs:=vs) (cap:=cap) h hn hs0 hx0 hu td hd' hi hz hx gq h2 h3 h4 h5 zz (iW Qj zz) (ai Ub) hb2 hb3 s2 s5 (by omega)
            exact⟨_,w',g',.inl r0,r4,r1,r2,r3⟩
          · rename_i hu8
            simp only[c9,iu,c8] at he
            obtain⟨rfl,rfl,⟨rfl,h2,h3,h4,h5⟩,h6⟩:=he
            have h1:1≤n:=by
             rcases py n with e | e
             · subst e;cases hn0
             · exact e
            have h2:=en h2
            have h3:=ai h3
            have h4:=en h4
            have h5:=en h5
            cases hs with
            |os _ _ _ _ ad cap hps zp=>
            have hcap:cap=len:=by
             rcases zp with e | ⟨t,b,o,e,_⟩
             · exact e
             · cases e
            subst hcap
            have Dq:=jy hps h6
            obtain⟨d1,d2,d3⟩:=h.jX (w':=w.drew) rfl rfl rfl rfl
            obtain⟨vs,s1,s2,Qh,s3,s4⟩:=lJ (P:=P) (Dq.mono d2.pure)
            have s5:=s4 cap (bx _)
            rw[dq (by omega)] at s5
            have Lm:=s1.len
            have zz:cL g w (cells.map .p) vs:=bu.dA (by simpa using Lm) fun i a b=>by
             have:=s1.get i (by simpa using a) b
             rw[dk]
             exact .p _ _ (this.mono (g:=g) (w:=w.drew) fun c o p=>⟨p,(d2.pure c o p).2.symm⟩)
            obtain⟨newCap,g',w',r0,r1,r2,r3,r4⟩:=B4 (P:=P) (jQ (fun i=>m.getD i .dead) info.size x) (ty:=ty) (l:=cells.map .p) (vs:=vs) (cap:=cap) h hn hs0 hx0 hu td hd' hi hz hx gq h2 h3 h4 h5 zz Qh s2 s5 (by omega)
            exact⟨_,w',g',.inl r0,r4,r1,r2,r3⟩
         ·
          rename_i b len sz cap
          split at he
          · rename_i l hl
            cases hs with
            |ms _ _ _ _ cap c hc hcap=>
            obtain⟨cells,e,q,k2,q0,k3,q2,q3⟩:=Dv h hl hc
            have hmul:(len+n)*info.size=len*info.size+n*info.size:=po _ _ _
            cases hr:ag (len+n) cap with
            |true=>
             have ef:=en hr
             simp only[hr,cond_true] at he
             split at he
             · rename_i b' ok' hp
               simp only[c9,iu,c8] at he
               obtain⟨rfl,rfl,⟨rfl,h2,h3,h4,h5⟩,rfl,h6⟩:=he
               have h6:=ai h6
               subst h6
               obtain⟨vx0,x0,x2',_⟩:=fk (P:=P) h gq hx
               have afR:=x0.len
               have hroom:len*info.size+aI.length≤l.length:=by
                rcases j3 hp with⟨l',qe,_,hroom⟩ | ⟨t0,pq,l',qe,_,hroom⟩ | ⟨t0,pre,l',qe,_,_,hroom⟩
                rotate_left 2
                · have qe:m.getD b .dead = .ob (.stk t0 pre) l':=qe
                  rw[qe] at hl;cases hl
                · have:l'=l:=by
                   generalize m.getD b .dead=B at hl qe
                   cases B<;>simp_all [jL,aU.cells?]
                  rw[←this];exact hroom
                · have qe:m.getD b .dead = .ob (.gr t0 pq) l':=qe
                  have:l'=l:=by
                   have hl:jL (m.getD b .dead)=some l:=hl
                   rw[qe] at hl;simpa[jL] using hl
                  rw[←this];rw[wH] at hroom;exact hroom
               have Uc:(len+n)*info.size≤cells.size:=by omega
               obtain⟨w',cs',vx,r0,x1,x2,zD,p3,p2,p4,p5,p6,p7,p8⟩:=run_append_room (P:=P) (ty:=ty) h hs0 hx0 hu td hd' hi hx gq k2 q0 Uc ef
               have KP:=x1.len
               have hxa:cL g w aI vx:=x1
               rcases j3 hp with⟨l',qe,Ls,Fw⟩ | ⟨t0,pq,l',qe,rfl,Fw⟩ | ⟨t0,pre,l',qe,rfl,_,Fw⟩
               rotate_left 2
               · have qe:m.getD b .dead = .ob (.stk t0 pre) l':=qe
                 rw[qe] at hl;cases hl
               · have hm:m[b]? = some (m.getD b .dead):=getD_some rfl (fun e=>by
                  have qe:(m.getD b .dead).cells?=some l':=qe
                  rw[e] at qe;cases qe)
                 obtain⟨c',cs0,e0,q0',y1,y2,y3,y4,y5⟩:=h.cells b _ l' hm qe
                 rw[hc] at y1;cases y1
                 rw[k2] at y2;cases y2
                 obtain⟨r1,r2,r3⟩:=h.write (b':=b') hm qe hc Ls p4 p5 p6 p7 p8 p2 y3 (by rw[p3];exact⟨y4.1.cW _ hxa,jY _ _ _ y4.2 zD⟩)
                 exact⟨_,w',g,.inl r0,.ms b 0 _ _ cap c hc ef,r1,r2,r3⟩
               · have hm:m[b]? = some (.ob (.gr t0 pq) l'):=getD_some qe (by simp)
                 obtain⟨r1,r2,r3⟩:=h.wI hm hc k2 (wG hxa) zD Fw p3 p4 p5 p6 p7 p8 p2
                 exact⟨_,w',g,.inl r0,.ms b 0 _ _ cap c hc ef,r1,r2,r3⟩
             · cases he
            |false=>
             have ef : ¬len+n≤cap:=fun k=>by rw[px k] at hr;cases hr
             simp only[hr,cond_false,c9,iu,c8] at he
             obtain⟨rfl,rfl,⟨rfl,h2,h3,h4,h5⟩,h6,h7⟩:=he
             have h2:=en h2
             have h3:=ai h3
             have h4:=en h4
             have h5:=en h5
             have h6:=ai h6
             have h7:=en h7
             subst h6
             have j4:=nP (P:=P) (w:=w.drew) (c:=c) (len:=len) (cap:=cap) (sz:=info.size) k2 (by omega)
             obtain⟨newCap,g',w',r0,r1,r2,r3,r4⟩:=B4 (P:=P) (Yu (m.getD b .dead)&&jQ (fun i=>m.getD i .dead) info.size x) (ty:=ty) (l:=l.take (len*info.size)) (vs:=cells.toList.take (len*info.size)) h hn hs0 hx0 hu td hd' hi hz hx gq h2 h3 h4 h5
              (by have:=k3.take (len*info.size);rwa [nc,pn h7] at this)
              (fun v hv=>q3 v (dd hv)) (by rw[dC,fw];omega) j4 ef
             exact⟨_,w',g',.inl r0,r4,r1,r2,r3⟩
          · cases he
         · cases he
       · cases he
     · cases he
   · cases he
 · cases he
theorem uy {s:AV} {cs:Value} (h:VA g w s cs):VA g w (nB s) cs:=by
 unfold nB
 split
 · rw[VA.pv] at h
   cases h with
   |ps _ _ _ b o cap f hl hc hz hp hv=>omega
   |sS sz a cap hz=>
    obtain⟨rfl,rfl⟩:=hz.resolve_left (by omega)
    exact .os none 0 0 [] none 0 (.sS 0 none 0 (.inr ⟨rfl,rfl⟩)) (.inl rfl)
 · exact h
end
end Go.Am
end
section
namespace Go.Am
open Go.RowKit
section
variable {P:Program} {g:Gh} {m:Mem} {w:World}
theorem Dy {x:AV} {cx:Value} {b:Bool} (hx:VA g w x cx) (h:Hf x=some b) : ∃a len cap,cx = .slice a len cap∧a.isNone=b:=by
 have key : ∀{len sz:Nat} {cs:List PV} {cx:Value},VP g w (.ps len sz cs) cx→cond (ag 1 len) (some false) (cond (Nat.beq sz 0) (some true) none)=some b → ∃a len cap,cx = .slice a len cap∧a.isNone=b:=by
  intro len sz cs cx hx h
  cases hl:ag 1 len with
  |true=>
   simp only[hl,cond_true,c9] at h
   subst h
   have hl:=en hl
   cases hx with
   |ps _ _ _ b o cap f hl hc hz hp hv=>exact⟨_,_,_,rfl,rfl⟩
   |sS sz a cap hz=>omega
  |false=>
   simp only[hl,cond_false] at h
   cases hs:Nat.beq sz 0 with
   |false=>simp[hs] at h
   |true=>
    simp only[hs,cond_true,c9] at h
    subst h
    have hs:=ai hs
    subst hs
    cases hx with
    |ps _ _ _ b o cap f hl hc hz hp hv=>omega
    |sS sz a cap hz=>
     obtain⟨rfl,_⟩:=hz.resolve_left (by omega)
     exact⟨_,_,_,rfl,rfl⟩
 unfold Hf at h
 split at h
 · rw[VA.pv] at hx;exact key hx h
 · cases hx with
   |os _ _ _ _ a cap hx hr=>exact key hx h
 · cases hx with
   |ms _ _ _ _ cap c hc hcap=>
    simp only[c9] at h
    exact⟨_,_,_,rfl,h⟩
   |mg _ _ _ _ cap c hc hcap=>
    simp only[c9] at h
    exact⟨_,_,_,rfl,h⟩
 · cases h
set_option linter.unusedVariables false in
theorem ve {ρ:Operand→AV} {cg:Operand→Value} (hr : ∀x,VA g w (ρ x) (cg x)) {o:Oper} {op:BinOp} {t yt:TypeId} {x y:Operand} (ho:o.op = .binOp op t x y yt) (hsame:BF (ρ x) (ρ y)=true)
  {a:AV} {us:nv} {ok:Bool} (he:oK P op t=some (a,us,ok)):us=[] ∧ ∃v,(execOp cg o).run P w = .ok (.value v) w∧VA g w a v:=by
 unfold oK at he
 cases he
set_option linter.unusedVariables false in
theorem ru {x a:AV} {cx:Value} (hx:VA g w x cx) {us:nv} {ts:Array TypeId} {ty:TypeId} (he:nD x=some (a,us,true)) :
  us=[] ∧ ∃v,(Builtin.unsafeSliceData_ ts ty #[cx]).run P w = .ok v w∧VA g w a v:=by
 unfold nD at he
 cases he
set_option linter.unusedVariables false in
theorem nR (h:Rel g m w) {x n a:AV} {cx cn:Value} (hx:VA g w x cx) (hn:VA g w n cn) {us:nv} {ts:Array TypeId} {ty:TypeId} (he:eM P (fun i=>m.getD i .dead) ts.toList x n=some (a,us,true)) :
  b8 g m w (((do pure (.value (←Builtin.unsafeString_ ts ty #[cx,cn])):Sem Next)).run P w) a (apply m us):=by
 unfold eM at he
 cases he
end
end Go.Am
end
