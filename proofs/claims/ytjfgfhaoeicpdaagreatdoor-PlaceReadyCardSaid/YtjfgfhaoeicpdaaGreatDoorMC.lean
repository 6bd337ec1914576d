import Derived.Test.YtjfgfhaoeicpdaaGreatDoorMB
import Derived.IntWalk
import Derived.Lib.Builder
import Derived.DeepKeys3
import Derived.MapKept
import Derived.Lib.UnsafeStr
open Array renaming length_toList→ft,getElem?_modify→lb,getElem?_eq_getElem→fl,size_append→lh,getElem?_toList→lj,getElem?_push→fv,toList_map→fx,range→gg,getD→lk
open List renaming take_of_length_le→dk,length_append→de,getD_eq_getElem?_getD→cb,getElem?_set_self→ln,length_take→du,getElem?_set_ne→lr,getElem?_cons_zero→lv,getElem?_cons_succ→lL,length_cons→ma,getElem?_toArray→mb,mem_of_getElem?→mc,getElem_map→df,mem_of_mem_take→da,length_map→mf,mem_append→mi,getElem?_take→c9,set_set→ml,take_take→mr,take_append_of_le_length→mv,getElem?_append_left→my,getElem?_eq_getElem→bm,length_eq_zero_iff→na,length_set→dq,length→nb,getElem?_drop→dd,size_toArray→nc,mem_map→ed,take_length→np,take_set→od,map_cons→oe,mem_cons→oi,set_comm→ov
open Go.Sem renaming run_bind→il,run_pure→im
open Bool renaming and_eq_true→ch,false_eq_true→oE,not_false→oR,or_eq_true→ib,or_eq_false_iff→oT
open Go.Result renaming andThen_ok→iu,andThen→pa
open Nat renaming le_of_ble_eq_true→eh,eq_of_beq_eq_true→ag,le_refl→bj,mul_le_mul_right→eQ,min_eq_left→pb,add_mul→pf,add_zero→ph,zero_add→pj,ble_eq_true_of_le→pk,eq_zero_or_pos→pn,mul_eq_zero→po,mod_lt→pt,ble→ai,le_of_eq→pw,sub_mul→fe,beq_eq→en
open Option.some renaming injEq→cp
open Prod.mk renaming injEq→ie
open Go.Instr renaming mapUpdate→px,lookup→py,findNow→pA,buildSlice→pB,makeSlice→pC,checkKey→pD,sameBits→qf,storeAt→qs,sureAddr→j1,sameNow→ra,keyThatStays→rb,alloc→re
open Option renaming map_eq_some_iff→gn
open Go.World renaming alloc_eq→rf,size_drew→rh,shape?→ri,drew_eq→rk,freeze→rl
open Go.IntKind renaming i64→rn
open Go.Question renaming appendCap→rp,forced→rr
open Go.Builtin renaming zeroCells→rv,append_→sa,firstCells→kv,lenOf→kx,nextslicecap→sb
open Go.Value renaming int→sd
open UInt8 renaming ofNat→se
open ByteArray renaming emptyWithCapacity→sf,empty→sg
open Go.MapKept renaming run_getObj_map→si,run_findKey→sm,run_setObj_map→ss,run_checkKey→sR,IsKey→sT,bytes_beq→s0,heap_set→ta
open Go.Op renaming equalIn→tc,equal→tf
section
namespace Go.Am
open Go.RowKit
theorem heap_setCell {w:World} {c o:Nat} {v:Value} {cs:Array Value} {e:TypeId} {n:Nat×Nat} (h:w.heap[c]? = some (.cells cs e n)) :
  (w.setCell ⟨c,o,none⟩ v).heap[c]? = some (.cells (cs.setIfInBounds o v) e n) ∧ ∀k,k≠c→(w.setCell ⟨c,o,none⟩ v).heap[k]? = w.heap[k]? :=by
 refine⟨?_,fun k hk=>Below.heap_setCell _ _ _ _ hk⟩
 simp[World.setCell,lb,h]
section ops
variable {P:Program} {g:Gh} {m:Mem} {w:World}
theorem ir (c off:Nat) : ∀(vs:List Value) (i:Nat) (w:World) (cs:Array Value) (e:TypeId) (n:Nat×Nat),w.heap[c]? = some (.cells cs e n) →
  (∀j,j<vs.length→n.2≤n.1∨off+i+j<n.1)→off+i+vs.length≤cs.size→(∀v∈vs,v.oneCell'=true) →
  ∃w' cs',(storeCells ⟨c,off,none⟩ vs i).run P w = .ok () w'∧w'.heap[c]? = some (.cells cs' e n)∧cs'.toList=cZ cs.toList (off+i) vs∧(∀k,k≠c→w'.heap[k]? = w.heap[k]?) ∧
   w'.heap.size=w.heap.size∧w'.os=w.os∧w'.tape=w.tape∧w'.output=w.output
 |[],i,w,cs,e,n,h,_,_,_=>⟨w,cs,rfl,h,rfl,fun _ _=>rfl,rfl,rfl,rfl,rfl⟩
 |v::vs,i,w,cs,e,n,h,hf,hl,h1=>by
  simp only[ma] at hl
  obtain⟨k1,k2⟩:=heap_setCell (o:=off+i) (v:=v) h
  have hcell:w.cell? ⟨c,off+i,none⟩=some cs[off+i]:=by rw[bk h,fl (by omega)]
  have hfz:w.frozen? ⟨c,off+i,none⟩=false:=by
   have:=hf 0 (by simp)
   simp only[World.frozen?,h,Bool.and_eq_false_iff,decide_eq_false_iff_not]
   omega
  obtain⟨w',cs',q1,q2,q3,q4,q5,q6,q7,q8⟩:=ir c off vs (i+1) (w.setCell ⟨c,off+i,none⟩ v) (cs.setIfInBounds (off+i) v) e n k1
   (fun j hj=>by have:=hf (j+1) (by simp;omega);omega) (by simp;omega) (fun u hu=>h1 u (.tail _ hu))
  refine⟨w',cs',?_,q2,?_,fun k hk=>(q4 k hk).trans (k2 k hk),q5.trans (by simp),q6,q7,q8⟩
  · simp only[storeCells,il,cP,run_store P w _ v _ (h1 v (.head _)),hcell,hfz,oE,if_false,iu,q1]
  · rw[q3];simp[cZ,Nat.add_assoc]
theorem Dz {α:Type} (f:Nat→α) (n:Nat) (h:n=0):((gg n).map f).toList=[]:=by subst h;simp
theorem gH {α:Type} : ∀(n l:List α) (o:Nat),(cZ l o n).length=l.length
 |[],_,_=>rfl
 |x::n,l,o=>by simp[cZ,gH n]
theorem DA {α β:Type} (f:α→β) : ∀(n l:List α) (o:Nat),(cZ l o n).map f=cZ (l.map f) o (n.map f)
 |[],_,_=>rfl
 |x::n,l,o=>by simp[cZ,DA f n,List.map_set]
theorem wO {α:Type} : ∀(n l:List α) (o k:Nat),k<o∨o+n.length≤k→(cZ l o n)[k]? = l[k]?
 |[],_,_,_,_=>rfl
 |x::n,l,o,k,h=>by
  simp only[ma] at h
  rw[cZ,wO n _ (o+1) k (by omega),lr (by omega)]
theorem DB {α:Type} : ∀(n l:List α) (o k:Nat) (_:k<n.length),o+n.length≤l.length→(cZ l o n)[o+k]? = n[k]?
 |x::n,l,o,0,_,h=>by
  simp only[ma] at h
  simp only[cZ,ph]
  rw[wO n _ (o+1) o (.inl (Nat.lt_succ_self _)),ln (by omega)]
  rfl
 |x::n,l,o,k+1,hk,h=>by
  simp only[ma] at h
  have hk:k<n.length:=by simpa using hk
  simp only[cZ,show o+(k+1)=o+1+k by omega]
  rw[DB n _ (o+1) k hk (by rw[dq];omega)]
  simp
 |[],_,_,_,hk,_=>by simp at hk
theorem DC {g:Gh} {w:World} {v:AV} {cv:Value} (h:VA g w v cv):VA g w (Dk v) cv:=by
 unfold Dk
 split
 · cases h with
   |os tok len sz cells a cap h hr=>exact .p _ _ h
 · exact h
theorem nr {g:Gh} {w:World} : ∀{l:List AV} {cs:List Value},cA g w l cs→cA g w (l.map Dk) cs
 |[],[],_=>trivial
 |_::_,_::_,h=>⟨DC h.1,nr h.2⟩
 |[],_::_,h=>h.elim
 |_::_,[],h=>h.elim
theorem wP {g:Gh} {w:World} {q:Bool} {l:List AV} {cs:List Value} (h:cA g w l cs):cA g w (Mp q l) cs:=by
 cases q with
 |true=>exact nr h
 |false=>exact h
theorem wQ (q:Bool) (l:List AV):(Mp q l).length=l.length:=by
 cases q with
 |true=>exact mf ..
 |false=>rfl
theorem jO {b b':aU} {off:Nat} {vs:List AV} (h:qy b off vs=some (b',true)):(∃l,b.cells?=some l∧b'.cells?=some (cZ l off vs)∧off+vs.length≤l.length) ∨
  (∃t q l,b = .ob (.gr t q) l∧b' = .ob (.gr t q) (cZ l off (Mp q vs))∧off+(Mp q vs).length≤l.length) ∨
  ∃t pre l,b = .ob (.stk t pre) l∧b' = .ob (.stk t pre) (cZ l (off-pre.length) vs)∧pre.length≤off∧off-pre.length+vs.length≤l.length:=by
 unfold qy at h
 split at h
 · rename_i l
   split at h
   · rename_i aJ hp
     simp only[cp,ie] at h
     obtain⟨rfl,h1⟩:=h
     refine .inl ⟨l.map .p,rfl,?_,by simpa using eh h1⟩
     simp[aU.cells?,DA,qH hp]
   · simp only[cp,ie] at h
     obtain⟨rfl,h1⟩:=h
     exact .inl ⟨l.map .p,rfl,rfl,by simpa using eh h1⟩
 · rename_i l
   simp only[cp,ie] at h
   obtain⟨rfl,h1⟩:=h
   exact .inl ⟨l,rfl,rfl,eh h1⟩
 · rename_i t pq l
   simp only[cp,ie] at h
   obtain⟨rfl,h1⟩:=h
   exact .inr (.inl ⟨_,_,l,rfl,rfl,by rw[wQ];exact eh h1⟩)
 · rename_i t pre l
   simp only[cp,ie,ch] at h
   obtain⟨rfl,h1,h2⟩:=h
   exact .inr (.inr ⟨_,_,l,rfl,rfl,eh h1,eh h2⟩)
 · cases h
theorem ug {α:Type} : ∀(n pre l:List α) (o:Nat),pre.length≤o→cZ (pre++l) o n=pre++cZ l (o-pre.length) n
 |[],_,_,_,_=>rfl
 |v::n,pre,l,o,h=>by
  simp only[cZ]
  rw[List.set_append_right _ _ h,ug n pre _ (o+1) (by omega)]
  congr 2
  omega
theorem At {α:Type} : ∀(n l:List α) (o k:Nat),o+n.length≤k→(cZ l o n).take k=cZ (l.take k) o n
 |[],_,_,_,_=>rfl
 |v::n,l,o,k,h=>by
  simp only[ma] at h
  simp only[cZ]
  rw[At n (l.set o v) (o+1) k (by omega),od]
theorem Rel.wR {m:Mem} {w w':World} (h:Rel g m w) {b c:Nat} {k xs:List AV} {us:List Value} {off:Nat} {cs cs':Array Value} {e t:TypeId} {pq:Bool} {n:Nat×Nat} (hb:m[b]? = some (.ob (.gr t pq) k)) (hc:g.bS b=some c) (hcs:w.heap[c]? = some (.cells cs e n))
  (hx:cA g w xs us) (hone : ∀v∈us,v.oneCell'=true) (hroom:off+xs.length≤k.length) (hl:cs'.toList=cZ cs.toList off us)
  (hw : ∀j,j≠c→w'.heap[j]? = w.heap[j]?) (hs:w'.heap.size=w.heap.size) (ho:w'.os=w.os) (ht:w'.tape=w.tape) (hu:w'.output=w.output) (hh:w'.heap[c]? = some (.cells cs' e n)) :
  Rel g (m.set b (.ob (.gr t pq) (cZ k off xs))) w'∧Ext g w g w'∧dc g m w g (m.set b (.ob (.gr t pq) (cZ k off xs))) w':=by
 obtain⟨c',ob,vs,h1,h2,h3,h4,h5,h6⟩:=h.obs b _ _ hb
 rw[hc] at h1;cases h1
 obtain⟨cs0,e0,n0,rfl,qt,q0,q1,q2,q3⟩:=h4
 rw[hcs] at h2;cases h2
 have Au:=h3.len
 have hxl:=hx.len
 have hsz:cs'.size=cs.size:=by
  have:=congrArg nb hl
  rw[gH] at this;simpa using this
 have hvl:(cZ vs off us).length=vs.length:=gH _ _ _
 refine h.gz (FM:= .gr t pq) (l':=cZ k off xs) (vs':=cZ vs off us) hb hc hw hs ho ht hu hh ⟨cs',e,n,rfl,qt,q0,?_,by omega,fun v hv=> ?_⟩ (h3.cZ off hx) (by show cs'.size=g.hi b;rw[hsz];exact h6)
 · rw[hvl,hl,At us cs.toList off vs.length (by omega),←q1]
 · rw[hl] at hv
   exact jM _ _ _ q3 hone v hv
theorem zI (h:Rel g m w) {t:TypeId} {a v r:AV} {ca cv:Value} {us:mX} (ha:VA g w a ca) (hv:VA g w v cv) (he:qz P (fun i=>m.getD i .dead) t a v=some (r,us,true)) :
  ∃w',(qs t ca cv).run P w = .ok () w'∧r = .aA []∧Rel g (apply m us) w'∧Ext g w g w'∧dc g m w g (apply m us) w':=by
 unfold qz at he
 split at he
 · rename_i b off n hsz
   split at he
   · rename_i b' ok hp
     simp only[cp,ie,ch,en] at he
     obtain⟨rfl,rfl,⟨rfl,h1⟩,h2⟩:=he
     obtain⟨k1,k2⟩:=kM h1 hv
     cases ha with
     |mp _ _ c hc=>
     have hsize:cv.cells.size=n:=by have Au:=k1.len;simp at Au;omega
     rcases jO hp with⟨l,hl,hl',hroom⟩ | ⟨t0,pq,l,hl,rfl,hroom⟩ | ⟨t0,pre,l,hl,rfl,hpre,hroom⟩
     case inr.inr=>
      have hm:m[b]? = some (.ob (.stk t0 pre) l):=getD_some hl (by simp)
      obtain⟨hg,hs0⟩:=h.F1 hm
      have Sy:=bF hm
      have hgb:(m.set b (.ob (.gr t0 false) (exactly pre++l)))[b]? = some (.ob (.gr t0 false) (exactly pre++l)):=by rw[ln Sy]
      obtain⟨c',ob,vs,h1',h2',h3',h4',h5',h6'⟩:=hg.obs b _ _ hgb
      rw[hc] at h1';cases h1'
      obtain⟨cs,e,q,rfl,_,q0,q1,q2,q3⟩:=h4'
      have hlen:=h3'.len
      have Au:=k1.len
      rw[de,bL] at hlen
      simp at Au
      obtain⟨w',cs',p1,p2,p3,p4,p5,p6,p7,p8⟩:=ir (P:=P) c off cv.cells.toList 0 w cs e q h2' (fun _ _=> .inl q0) (by simp;omega) k2
      simp only[ph] at p3
      obtain⟨r1,r2,r3⟩:=hg.wR hgb hc h2' k1 k2 (by rw[de,bL];omega) p3 p4 p5 p6 p7 p8 p2
      rw[ug _ _ _ _ (by rw[bL];exact hpre),bL,ml] at r1 r3
      obtain⟨z1,z2⟩:=r1.ML (b:=b) (by rw[ln Sy])
      rw[ml] at z1 z2
      exact⟨w',by simp[qs,j1,storeVar,aS hsz,hsize,p1],rfl,z1,r2,(hs0.trans r3).trans z2⟩
     case inr.inl=>
      have hm:m[b]? = some (.ob (.gr t0 pq) l):=getD_some hl (by simp)
      obtain⟨c',ob,vs,h1',h2',h3',h4',h5',h6'⟩:=h.obs b _ _ hm
      rw[hc] at h1';cases h1'
      obtain⟨cs,e,q,rfl,_,q0,q1,q2,q3⟩:=h4'
      have hlen:=h3'.len
      have Au:=k1.len
      have Ws:=hroom
      rw[wQ] at Ws
      simp at Au
      obtain⟨w',cs',p1,p2,p3,p4,p5,p6,p7,p8⟩:=ir (P:=P) c off cv.cells.toList 0 w cs e q h2' (fun _ _=> .inl q0) (by simp;omega) k2
      simp only[ph] at p3
      obtain⟨r1,r2,r3⟩:=h.wR hm hc h2' (wP k1) k2 hroom p3 p4 p5 p6 p7 p8 p2
      exact⟨w',by simp[qs,j1,storeVar,aS hsz,hsize,p1],rfl,r1,r2,r3⟩
     have hm:m[b]? = some (m.getD b .dead):=getD_some rfl (fun e=>by
      have hl:(m.getD b .dead).cells?=some l:=hl
      rw[e] at hl;cases hl)
     obtain⟨c',cs,e,q,q1,q2,q3,q4,q5⟩:=h.cells b _ l hm hl
     rw[hc] at q1;cases q1
     have hlen:=q4.1.len
     have Au:=k1.len
     simp at hlen Au
     obtain⟨w',cs',p1,p2,p3,p4,p5,p6,p7,p8⟩:=ir (P:=P) c off cv.cells.toList 0 w cs e q q2 (fun _ _=> .inl q3) (by simp;omega) k2
     simp only[ph] at p3
     obtain⟨r1,r2,r3⟩:=h.write (b':=b') hm hl hc hl' p4 p5 p6 p7 p8 p2 q3 (by rw[p3];exact⟨q4.1.cZ off k1,jM _ _ _ q4.2 k2⟩)
     refine⟨w',?_,rfl,r1,r2,r3⟩
     simp[qs,j1,storeVar,aS hsz,hsize,p1]
   · cases he
 · cases he
theorem zJ (h:Rel g m w) {br:Nat} (hn:m[br]? = some .free) {t:TypeId} {a:AV} {us:mX} {ok:Bool} (he:BS P br t=some (a,us,ok)) {ty:TypeId} {pos:String} {o:Oper} {bX:Operand→Value} (ho:o.op = .alloc t) (_:ty=ty) (_:pos=pos) :
  cq g m w ((execOp bX o).run P w) a (apply m us):=by
 unfold BS at he
 simp only[gn,ie] at he
 obtain⟨l,hz,rfl,rfl,rfl⟩:=he
 obtain⟨z,Mi,Mj⟩:=dg (g:=g) (w:=w) hz
 refine cq.alloc h hn (ni l) Mj (e:=t) (v:= .pointer (some ⟨w.heap.size,0,none⟩)) ?_ fun g' hg=> .mp br 0 _ hg
 simp[execOp,ho,re,Mi,newVar,newRow]
theorem wT (h:Rel g m w) {br:Nat} (hn:m[br]? = some .free) {t:TypeId} {a:AV} {us:mX} {ok:Bool} (he:wk P br t=some (a,us,ok)) {o:Oper} {bX:Operand→Value} (ho:o.op = .alloc t) :
  cq g m w ((execOp bX o).run P w) a (apply m us):=by
 unfold wk at he
 simp only[gn,ie] at he
 obtain⟨l,hz,rfl,rfl,rfl⟩:=he
 obtain⟨z,Mi,Mj⟩:=dg (g:=g) (w:=w) hz
 have hlen:=Mj.1.len
 obtain⟨r1,r2,r3⟩:=h.qJ z.cells.size (ob:= .gr t false) (l:=l) (vs:=z.cells.toList) hn Mj.1 (eI w (.cells z.cells t)) ⟨z.cells,t,(0,0),rfl,rfl,bj _,(dk (bj _)).symm,by simp,Mj.2⟩ rfl
 refine⟨.pointer (some ⟨w.heap.size,0,none⟩),_,_,.inl ?_,.mp br 0 _ (by simp[Gh.put]),r1,r2,r3⟩
 simp[execOp,ho,re,Mi,newVar,newRow]
theorem DD (h:Rel g m w) {br:Nat} (hn:m[br]? = some .free) {v a:AV} {cv:Value} {us:mX} (hv:VA g w v cv) (he:Mq br v=some (a,us,true)) {t:TypeId} {r:Result Next} (hr:r = .ok (.value (.pointer (some ⟨w.heap.size,0,none⟩))) (w.alloc (.cells cv.cells t))) :
  cq g m w r a (apply m us):=by
 unfold Mq at he
 simp only[cp,ie] at he
 obtain⟨rfl,rfl,h1⟩:=he
 exact cq.alloc h hn (ni _) (kM h1 hv) (e:=t) hr fun g' hg=> .mp br 0 _ hg
theorem cq.Kd (h:Rel g m w) {len size:Nat} {aJ:List PV} {cs:Array Value} {e:TypeId} (hv:HZ g w aJ cs.toList) (ho : ∀v∈cs.toList,v.oneCell'=true) (hl:cs.size=len*size) (Mi:1≤size) {r:Result Next}
  (hr:r = .ok (.value (.slice (some ⟨w.heap.size,0,none⟩) len len)) (w.alloc (.cells cs e))):cq g m w r (.os none len size aJ) m:=by
 obtain⟨h1,h2,h3⟩:=h.qI (eI w (.cells cs e))
 have Mh:=hv.len
 simp at Mh
 refine⟨_,_,_,.inl hr,.os none len size aJ _ len ?_ (.inl rfl),h1,h2,h3⟩
 refine .ps len size aJ w.heap.size 0 len (fun k=>cs.getD k undef) (by omega) (bj _) Mi (fun k hk=> ?_) fun k hk=> ?_
 · have:k<cs.size:=by omega
   refine⟨.inr ⟨rfl,by omega,by omega⟩,?_,by simpa[lk,this] using ho cs[k] (by simp)⟩
   rw[bk (eI w (.cells cs e)).new]
   simp[lk,this]
 · have:k<cs.size:=by omega
   have hk2:=hv.get k hk (by simpa using this)
   simp only[lk,this,dite_true]
   exact hk2.mono h2.pure
theorem uh {elem:TypeId} {wr:Bool} {cells:List AV} {aJ:List PV} (h:FR P elem wr cells=some aJ):mL cells=some aJ:=by
 unfold FR at h
 split at h
 · cases h
 · exact h
theorem pU (h:Rel g m w) {br:Nat} (hn:m[br]? = some .free) {wr:Bool} {t:TypeId} {len:Nat} {parts:List (Nat×AV)} {jN:Array (Nat×Value)} {a:AV} {us:mX}
  (he:lP P wr br t len parts=some (a,us,true)) (hp:bH (fun a b=>a.1=b.1∧VA g w a.2 b.2) parts jN.toList) :
  cq g m w (((do pure (.value (←pB t len jN)):Sem Next)).run P w) a (apply m us):=by
 unfold lP at he
 split at he
 · rename_i elem hu
   split at he
   · rename_i size z hsz hz
     split at he
     · rename_i cells ok hf
       obtain⟨size',z0,e1,e2,e3,e4,rfl⟩:=MM hz
       rw[hsz] at e1;cases e1
       obtain⟨zv,z1,z2⟩:=dg (g:=g) (w:=w) e2
       have hzl:=z2.1.len
       simp at hzl
       have hzs:zv.cells.size=size:=by omega
       have key : ∀(b:Bool),ok=true→ai (len*size) 16777216=true →
        ∃B9,(pB t len jN).run P w = .ok (.slice (some ⟨w.heap.size,0,none⟩) len len) (w.alloc (.cells B9 elem))∧FZ g w cells B9.toList∧B9.size=len*size:=by
        intro _ hok hle
        subst hok
        have hle:=eh hle
        have Sz:FZ g w (dn z0 len) ((gg (len*size)).map ((if len*size=0 then #[] else zv.cells)[· % (if len*size=0 then #[] else zv.cells).size]!)).toList:=by
         by_cases e:len*size=0
         · have:len=0:=by rcases po.1 e with k | k<;>omega
           rw[Dz _ _ e,this];exact⟨trivial,fun _ h=>by cases h⟩
         · simp only[e,if_false]
           have h1:=As z2.1 len
           have h2:=H8 z2.2 len
           rw[hzs] at h1 h2 ⊢;exact⟨h1,h2⟩
        obtain⟨B9,f1,f2,f3⟩:=kC hp Sz hf
        refine⟨B9,?_,f2,by rw[f3];simp⟩
        have hnot : ¬(len*size>2 ^ 24):=by omega
        clear Sz f2 f3
        by_cases e:len*size=0
        · simp only[e,if_true] at f1 hnot
          simp only[pB,il,run_underlying hu,iu,aS hsz,hnot,if_false,e,if_true,f1,newRow,run_newObj,rf,im]
        · simp only[e,if_false] at f1
          simp only[pB,il,run_underlying hu,iu,aS hsz,hnot,if_false,e,z1,f1,newRow,run_newObj,rf,im]
       split at he
       · rename_i aJ Ke
         simp only[cp,ie,ch] at he
         obtain⟨rfl,rfl,hok,hle⟩:=he
         obtain⟨B9,k1,k2,k3⟩:=key true hok hle
         exact cq.Kd (e:=elem) h (ew (uh Ke) k2.1) k2.2 k3 (by omega) (by simp[k1])
       · rename_i aJ Ke
         simp only[cp,ie,ch] at he
         obtain⟨rfl,rfl,hok,hle⟩:=he
         obtain⟨B9,k1,k2,k3⟩:=key true hok hle
         have hpp:=ew (uh Ke) k2.1
         have zK:cA g w (aJ.map .p) B9.toList:=bH.dF (by simpa using hpp.len) fun i a b=>by
          have:=hpp.get i (by simpa using a) b
          rw[df];exact .p _ _ this
         obtain⟨r1,r2,r3⟩:=h.qJ B9.size (ob:= .gr elem true) (l:=aJ.map .p) (vs:=B9.toList) hn zK (eI w (.cells B9 elem)) ⟨B9,elem,(0,0),rfl,rfl,bj _,(dk (bj _)).symm,by simp,k2.2⟩ rfl
         exact⟨_,_,_,.inl (by simp[k1]),.mg br 0 len size len w.heap.size (by simp[Gh.put]) (bj _) (by simp[Gh.put];omega),r1,r2,r3⟩
       · simp only[cp,ie,ch] at he
         obtain⟨rfl,rfl,hok,hle⟩:=he
         obtain⟨B9,k1,k2,k3⟩:=key true hok hle
         exact cq.alloc h hn (ni _) k2 (e:=elem) (v:= .slice (some ⟨w.heap.size,0,none⟩) len len) (by simp[k1]) fun g' hg=> .ms br 0 len size len _ hg (bj _)
     · cases he
   · cases he
 · cases he
theorem Av {n:Int} (h0:0≤n) (h1:n≤9223372036854775807):rn.wrap n=n:=IntWalk.i64_in n ⟨by omega,h1⟩
theorem qQ (h:Rel g m w) {br:Nat} (hn:m[br]? = some .free) {t:TypeId} {len cap a:AV} {cl cc:Value} {us:mX}
  (hl:VA g w len cl) (hc:VA g w cap cc) (he:m0 P br t len cap=some (a,us,true)) :
  cq g m w (((do pure (.value (←pC t cl cc)):Sem Next)).run P w) a (apply m us):=by
 unfold m0 at he
 split at he
 · rename_i elem k l k' c hu
   rw[VA.pv] at hl hc
   cases hl;cases hc
   split at he
   · rename_i info bS hi hb
     simp only[cp,ie,ch,decide_eq_true_eq] at he
     obtain⟨rfl,rfl,⟨⟨h0,h1⟩,h2⟩,h3⟩:=he
     have h2:=eh h2
     have h3:=eh h3
     unfold ef at h2 h3
     obtain⟨size,z,e1,e2,e3,e4,e5⟩:=MN hb
     have hsize:size=info.size:=by simp[fZ,hi] at e1;exact e1.symm
     obtain⟨zv,z1,z2⟩:=dg (g:=g) (w:=w) e2
     have hzl:=z2.1.len
     simp at hzl
     have hzs:zv.cells.size=size:=by omega
     have hw1:rn.wrap l=l:=Av h0 (by omega)
     have hw2:rn.wrap c=c:=Av (by omega) (by omega)
     have hcn:(c.toNat:Int)=c:=Int.toNat_of_nonneg (by omega)
     have Wt:(info.bytes:Int)*c≤70368744177664:=by
      have:((info.bytes*c.toNat:Nat):Int)≤70368744177664:=Int.ofNat_le.2 h3
      rwa [Int.natCast_mul,hcn] at this
     have Sz:FZ g w (dn z c.toNat) ((gg (c.toNat*size)).map ((if c.toNat*size=0 then #[] else zv.cells)[· % (if c.toNat*size=0 then #[] else zv.cells).size]!)).toList:=by
      by_cases e:c.toNat*size=0
      · have:c.toNat=0:=by rcases po.1 e with k | k<;>omega
        rw[Dz _ _ e,this];exact⟨trivial,fun _ h=>by cases h⟩
      · simp only[e,if_false]
        have h1:=As z2.1 c.toNat
        have h2:=H8 z2.2 c.toNat
        rw[hzs] at h1 h2 ⊢;exact⟨h1,h2⟩
     have hsz:fZ P elem=some size:=e1
     refine cq.alloc h hn e5 Sz (e:=elem) (v:= .slice (some ⟨w.heap.size,0,none⟩) l.toNat c.toNat) ?_ fun g' hg=>hsize ▸ .ms br 0 l.toNat size c.toNat _ hg (by omega)
     have t1:(decide (c<0)||decide ((info.bytes:Int)*c>2 ^ 48))=false:=by simp only[oT,decide_eq_false_iff_not];omega
     have t2:((decide (c<0)||decide ((info.bytes:Int)*c>2 ^ 48))||decide (l<0)||decide (l>c))=false:=by rw[t1,Bool.false_or,oT,decide_eq_false_iff_not,decide_eq_false_iff_not];exact⟨by omega,by omega⟩
     by_cases e:c.toNat*size=0
     · simp only[pC,il,run_underlying hu,iu,asInt,asIntOf,im,iF hi,hw1,hw2,t2,oE,if_false,run_askRoom,aS hsz,e,if_true,newRow,run_newObj,rf]
     · simp only[pC,il,run_underlying hu,iu,asInt,asIntOf,im,iF hi,hw1,hw2,t2,oE,if_false,run_askRoom,aS hsz,e,z1,newRow,run_newObj,rf]
   · cases he
 · cases he
set_option linter.unusedVariables false in
theorem sK (h:Rel g m w) {t:TypeId} {len cap a:AV} {cl cc:Value} {us:mX}
  (hl:VA g w len cl) (hc:VA g w cap cc) (he:pK P t len cap=some (a,us,true)) :
  cq g m w (((do pure (.value (←pC t cl cc)):Sem Next)).run P w) a (apply m us):=by
 unfold pK at he
 cases he
end ops
section ops
variable {P:Program} {g:Gh} {m:Mem} {w:World}
theorem VP.mk {len sz cap b o:Nat} {cells:List PV} {us:List Value} (h:HZ g w cells us) (hl:us.length=len*sz) (hc:len≤cap) (hz:1≤sz)
  (hu : ∀k v,us[k]? = some v→w.cell? ⟨b,o+k,none⟩=some v∧g.pure b (o+k)∧v.oneCell'=true):VP g w (.ps len sz cells) (.slice (some ⟨b,o,none⟩) len cap):=by
 have MO:=h.len
 refine .ps len sz cells b o cap (fun k=>us.getD k undef) (by omega) hc hz (fun k hk=> ?_) fun k hk=> ?_
 · have:us[k]? = some us[k]:=bm (by omega)
   obtain⟨h1,h2,h3⟩:=hu k _ this
   exact⟨h2,by rw[h1,cb,this];rfl,by rw[cb,this];exact h3⟩
 · have:us[k]? = some us[k]:=bm (by omega)
   rw[cb,this]
   exact h.get k hk (by omega)
theorem MP {len sz cap:Nat} {cs:List PV} {ad:Option Addr} (h:VP g w (.ps len sz cs) (.slice ad len cap)) : ∀b o,(ad=some ⟨b,o,none⟩∨len=0) →
  ∃us,HZ g w cs us∧us.length=len*sz ∧ ∀k v,us[k]? = some v→w.cell? ⟨b,o+k,none⟩=some v∧g.pure b (o+k)∧v.oneCell'=true:=by
 intro b o ha
 cases h with
 |ps _ _ _ b' o' cap f hl hc hz hp hv=>
  rcases ha with ha | rfl
  · cases ha
    refine⟨(List.range cs.length).map f,bH.dF (by simp) fun i hi _=>by simpa using hv i hi,by simp[hl],fun k v hk=> ?_⟩
    simp only[List.getElem?_map,gn] at hk
    obtain⟨j,hj,rfl⟩:=hk
    obtain⟨hlt,hj⟩:=List.getElem?_eq_some_iff.1 hj
    simp at hlt hj;subst hj
    exact⟨(hp k hlt).2.1,(hp k hlt).1,(hp k hlt).2.2⟩
  · simp at hl;subst hl
    exact⟨[],trivial,by simp,fun k v hk=>by simp at hk⟩
 |pP=>exact⟨[],trivial,by simp,fun k v hk=>by simp at hk⟩
theorem zL {br:Nat} {tok:Option Nat} {us:mX} (hn:m[br]? = some .free) (h:oh (fun i=>m.getD i .dead) br tok=some us) (hr:Rel g m w) :
  ∃m1:Mem,apply m us=m1.set br .tok∧m1[br]? = some .free∧Rel g m1 w∧dc g m w g m1 w ∧ ∀t,tok=some t→m[t]? = some .tok∧m1=m.set t .dead:=by
 unfold oh at h
 split at h
 · simp only[cp] at h;subst h
   exact⟨m,rfl,hn,hr,dc.refl g m w,fun t e=>by cases e⟩
 · rename_i t
   split at h
   · rename_i ht
     simp only[cp] at h;subst h
     have ht:=getD_some ht (by simp)
     have hne:t≠br:=fun e=>by subst e;rw[ht] at hn;cases hn
     obtain⟨k1,k2⟩:=hr.kill t
     refine⟨m.set t .dead,rfl,by rw[lr hne];exact hn,k1,k2,fun t' e=>by cases e;exact⟨ht,rfl⟩⟩
   · cases h
theorem sJ.drew {sz n:Nat} {x:AV} {cx:Value} {aJ:List PV} (h:Rel g m w) (hx:VA g w x cx) (he:contents (fun i=>m.getD i .dead) sz x=some (n,aJ,true)):sJ P g w.drew sz n aJ cx:=by
 obtain⟨h1,h2,_⟩:=h.jL (w':=w.drew) rfl rfl rfl rfl
 exact fF h1 he (hx.mono h2)
theorem kN (need old:Nat) (elem:TypeId) (t:Nat):need≤(rp need old elem).cut t:=by simp[Question.cut]
theorem wU (h:Rel g m w) {br:Nat} (hn:m[br]? = some .free) {argTypes:Array TypeId} {ty:TypeId} {s x a:AV} {cs cx:Value} {us:mX}
  (hs:VA g w s cs) (hx:VA g w x cx) (he:iL P (fun i=>m.getD i .dead) br argTypes s x=some (a,us,true)) :
  cq g m w (((do pure (.value (←sa argTypes ty #[cs,cx])):Sem Next)).run P w) a (apply m us):=by
 unfold iL at he
 split at he
 · rename_i sType xType hs0 hx0
   split at he
   · cases he
   · rename_i elem d hd hu sL
     split at he
     · rename_i info z hi hz
       split at he
       · rename_i n aJ ok tok len sz cells gi
         simp only[gn,ie,ch] at he
         obtain⟨us',Wu,rfl,rfl,⟨⟨⟨⟨rfl,h1⟩,h2⟩,h3⟩,h4⟩,h5⟩:=he
         have h2:=eh h2
         have h3:=ag h3
         have h4:=eh h4
         have h5:=eh h5
         unfold ef at h4 h5
         obtain⟨zv,z1,z2⟩:=dg (g:=g) (w:=w) hz
         have hzl:=z2.1.len
         simp only[ft] at hzl
         have hzs:zv.cells.size=info.size:=by omega
         have hsz:fZ P elem=some info.size:=by simp[fZ,hi]
         obtain⟨m1,e1,e2,e3,e4,e5⟩:=zL hn Wu h
         cases hs with
         |os _ _ _ _ ad cap hps zE=>
         have DE:VP g w (.ps len info.size cells) (.slice ad len cap):=jm hps (by
          rw[ib] at h1 ⊢
          refine h1.imp id fun k=> ?_
          simp only[ch] at k ⊢
          exact⟨k.1,pk h2⟩)
         obtain⟨_,_,_,q,hcap⟩:=lY DE
         cases q
         rw[e1]
         by_cases eg:len+n≤cap
         ·
          obtain⟨vx,x1,x2,hone,x3,x4⟩:=fF (P:=P) h gi hx
          have x5:=x4 n (bj _)
          rw[dk (by omega)] at x5
          rcases zE with hfull | ⟨t,b,o,rfl,rfl,t1,t2,t3,t4⟩
          · have hn0:n=0:=by omega
            subst hn0
            have zM:vx=[]:=na.1 (by simpa using x2)
            subst zM
            have Ke:aJ=[]:=by cases aJ with
             |nil=>rfl
             |cons _ _=>exact x1.elim
            subst Ke
            obtain⟨r1,r2⟩:=e3.vK e2
            refine⟨.slice ad (len+0) cap,w,g,.inl ?_,?_,r1,Ext.refl g w,e4.trans r2⟩
            · simp only[sa,hs0,hx0,mb,lv,lL,il,run_underlying hu,iu,aS hsz,run_underlying sL,im,oE,if_false,x3,eg,if_true,oR,x5]
              cases ad<;>simp[storeCells]
            · rw[List.append_nil]
              exact .os _ _ _ _ _ _ (by simpa using DE) (.inl (by simpa using hfull))
          ·
           obtain⟨m1t,m1e⟩:=e5 t rfl
           have hsize:sz=info.size:=by simpa using h1
           subst hsize
           obtain⟨SA,e,q,k1,k2,k3,k4⟩:=h.tok t b m1t t1
           have hmul:(len+n)*info.size=len*info.size+n*info.size:=pf _ _ _
           have Wv:(len+n)*info.size≤cap*info.size:=eQ _ eg
           obtain⟨w',VQ,p1,p2,p3,p4,p5,p6,p7,p8⟩:=ir (P:=P) b (o+len*info.size) vx 0 w SA e q k1 (fun j hj=>k3.imp id fun k3=>by omega) (by omega) hone
           simp only[ph] at p3
           have afh:VQ.size=SA.size:=by
            have:=congrArg nb p3
            rw[gH] at this;simpa using this
           have hsp:=h.spare (k:=n*info.size) m1t t1 hn k1 (by omega) p4 p5 p6 p7 p8 p2 afh (fun c hc=>by
            have:VQ.toList[c]? = SA.toList[c]? :=by rw[p3];exact wO _ _ _ _ (by omega)
            simpa using this)
           obtain⟨r1,r2,r3⟩:=hsp
           rw[m1e]
           refine⟨.slice (some ⟨b,o,none⟩) (len+n) cap,w',_,.inl ?_,?_,r1,r2,r3⟩
           · have Ww:(⟨b,o,none⟩:Addr).add (len*info.size)=⟨b,o+len*info.size,none⟩:=cP _ _ _
             simp only[sa,hs0,hx0,mb,lv,lL,il,run_underlying hu,iu,aS hsz,run_underlying sL,im,oE,if_false,x3,eg,if_true,oR,x5,Ww,p1]
           · obtain⟨us,u1,u2,u3⟩:=MP DE b o (.inl rfl)
             refine .os _ _ _ _ _ _ (VP.mk (us:=us++vx) ((bH.mono (fun _ _=>VP.mono r2.pure) u1).append (bH.mono (fun _ _=>VP.mono r2.pure) x1)) (by simp;omega) eg h2 fun k v hk=> ?_) (.inr ⟨br,b,o,rfl,rfl,by simp[Gh.put,Gh.more],by simp[Gh.put,Gh.more];omega,by simp[Gh.put,Gh.more,t3],eg⟩)
             rw[List.getElem?_append] at hk
             by_cases hlt:k<us.length
             · rw[if_pos hlt] at hk
               obtain⟨v1,v2,v3⟩:=u3 k v hk
               exact⟨(r2.pure _ _ v2).2.trans v1,(r2.pure _ _ v2).1,v3⟩
             · rw[if_neg hlt] at hk
               have hk':=bF hk
               have hnew:=DB vx SA.toList (o+len*info.size) (k-us.length) hk' (by simp;omega)
               rw[←p3,hk] at hnew
               refine⟨?_,.inr ⟨rfl,by omega,by omega⟩,hone v (mc hk)⟩
               rw[bk p2]
               rw[show o+len*info.size+(k-us.length)=o+k by omega] at hnew
               simpa using hnew
         ·
          obtain⟨d1,d2,d3⟩:=h.jL (w':=w.drew) rfl rfl rfl rfl
          obtain⟨_,_,_,_,l3,_⟩:=fF (P:=P) h gi hx
          obtain⟨vx,x1,x2,hone,x3,x4⟩:=sJ.drew (P:=P) h hx gi
          have x5:=x4 n (bj _)
          rw[dk (by omega)] at x5
          obtain⟨vs,s1,s2,SB,s3,s4⟩:=lf (P:=P) (DE.mono d2.pure)
          have s5:=s4 len (bj _)
          rw[dk (by omega)] at s5
          have kD:=kN (len+n) cap elem (w.tape w.drawn (.appendCap (len+n) cap elem))
          generalize hnc:(rp (len+n) cap elem).cut (w.tape w.drawn (.appendCap (len+n) cap elem))=newCap at kD
          have MQ:(rv zv.cells (newCap-(len+n))).size=(newCap-(len+n))*info.size:=by simp[rv,hzs]
          have hall:(vs.toArray++vx.toArray++rv zv.cells (newCap-(len+n))).size=newCap*info.size:=by
           simp only[lh,nc,MQ,s2,x2]
           rw[fe,pf]
           have:=eQ info.size kD
           rw[pf] at this
           omega
          generalize Ca:vs.toArray++vx.toArray++rv zv.cells (newCap-(len+n))=all at hall
          have wW:pQ w (w.drew.alloc (.cells all elem)) (.cells all elem):=⟨rfl,rfl,rfl,rfl⟩
          have hmul:(len+n)*info.size=len*info.size+n*info.size:=pf _ _ _
          have hle:(len+n)*info.size≤all.size:=by rw[hall];exact eQ _ kD
          obtain⟨r1,r2,r3⟩:=e3.fresh (k:=(len+n)*info.size) e2 wW hle (.inl (bj _))
          refine⟨.slice (some ⟨w.heap.size,0,none⟩) (len+n) newCap,_,_,.inl ?_,?_,r1,r2,e4.trans r3⟩
          · have Wx : ¬(((len+n:Nat):Int)>rn.max):=by
             rw[show rn.max=9223372036854775807 from by decide];omega
            have hgrow : ¬(sb (len+n) cap*info.bytes>2 ^ 48):=by
             have:=growslice_fits (need:=len+n) (old:=cap) (bytes:=info.bytes) (by omega) (by omega)
             omega
            simp only[sa,hs0,hx0,mb,lv,lL,il,run_underlying hu,iu,aS hsz,run_underlying sL,im,oE,if_false,l3,eg,oR,Wx,false_and,iF hi,hgrow,run_choose,rr,hnc,rk,run_askRoom,s5,x5,z1,Ca,if_true,newRow,run_newObj,rf,rh]
          · have hnew:(w.drew.alloc (.cells all elem)).heap[w.heap.size]? = some (.cells all elem):=wW.new
            have nu:all.toList=vs++vx++(rv zv.cells (newCap-(len+n))).toList:=by rw[←Ca];simp
            refine .os _ _ _ _ _ _ (VP.mk (us:=vs++vx) ?_ (by simp;omega) kD h2 fun k v hk=> ?_) (.inr ⟨br,w.heap.size,0,rfl,rfl,by simp[Gh.put,Gh.more],by simp[Gh.put,Gh.more],by simp[Gh.put,Gh.more,hall],kD⟩)
            · exact(bH.mono (fun _ _=>VP.mono (g:=g) (w:=w.drew) (fun c o p=>⟨(r2.pure c o p).1,(r2.pure c o p).2⟩)) s1).append (bH.mono (fun _ _=>VP.mono (g:=g) (w:=w.drew) (fun c o p=>⟨(r2.pure c o p).1,(r2.pure c o p).2⟩)) x1)
            · have hk':=bF hk
              simp only[de] at hk'
              refine⟨?_,.inr ⟨rfl,by omega,by omega⟩,?_⟩
              · rw[bk hnew,←lj,nu,pj,my (by simpa using hk')]
                exact hk
              · rcases mi.1 (mc hk) with q | q
                · exact SB v q
                · exact hone v q
       · cases he
     · cases he
   · cases he
 · cases he
set_option linter.unusedVariables false in
theorem Cb (h:Rel g m w) {argTypes:Array TypeId} {ty:TypeId} {d s a:AV} {cd cx:Value} {us:mX}
  (hd:VA g w d cd) (hx:VA g w s cx) (he:sC P (fun i=>m.getD i .dead) argTypes d s=some (a,us,true)) :
  cq g m w (((do pure (.value (←Builtin.copy_ argTypes ty #[cd,cx])):Sem Next)).run P w) a (apply m us):=by
 unfold sC at he
 cases he
theorem MR {aJ:List PV} {vs:List Value} (h:HZ g w aJ vs) (hb:aJ.all isByte=true) : ∃ns:List Int,vs=ns.map (sd .u8)∧aJ.map byteOf=ns.map fun n=>se n.toNat:=by
 induction aJ generalizing vs with
 |nil=>cases vs with
  |nil=>exact⟨[],rfl,rfl⟩
  |cons _ _=>exact h.elim
 |cons p aJ ih=>
  cases vs with
  |nil=>exact h.elim
  |cons v vs=>
   simp only[List.all_cons,ch] at hb
   obtain⟨ns,e1,e2⟩:=ih h.2 hb.2
   have h1:=h.1
   cases h1 with
   |sc=>
    cases v<;>simp only[isByte,oE,false_and] at hb
    rename_i k n
    cases k<;>simp only[oE,false_and] at hb
    exact⟨n::ns,by rw[e1];rfl,by rw[oe,e2];rfl⟩
   |_=>simp[isByte] at hb
theorem F2 (w:World) (all:Array Value) (e:TypeId) :
  (w.alloc (.cells all e)).freeze {block:=w.heap.size,off:=all.size} 1={w with heap:=w.heap.push (.cells all e (all.size,all.size+1))}:=by
 simp only[rl,World.alloc]
 rw[if_neg (by decide)]
 congr 1
 apply Array.ext_getElem?
 intro j
 rw[lb,fv,fv]
 by_cases hj:j=w.heap.size
 · subst hj;simp
 · rw[if_neg (fun h=>hj h.symm),if_neg hj,if_neg hj]
theorem Kf (w:World) (all:Array Value) (e:TypeId):(w.alloc (.cells all e)).shape? w.heap.size=some (e,all.size):=by
 simp only[ri,(eI w (.cells all e)).new]
theorem foldl_push : ∀(ns:List Int) (s:ByteArray),ns.foldl (fun r n=>r.push (se n.toNat)) s=⟨(s.data.toList++ns.map fun n=>se n.toNat).toArray⟩
 |[],s=>by cases s;simp
 |n::ns,s=>by
  rw[List.foldl_cons,foldl_push ns]
  cases s
  simp[ByteArray.push]
theorem Rel.H9 {m:Mem} (h:Rel g m w) {b c:Nat} {l:List PV} (hb:m[b]? = some (.pc l)) (hc:g.bS b=some c) :
  Rel (g.more c 0 l.length) (m.set b .dead) w∧Ext g w (g.more c 0 l.length) w∧dc g m w (g.more c 0 l.length) (m.set b .dead) w:=by
 obtain⟨c',cs,e,n,k1,k2,k3,k4,k5⟩:=h.cells b _ _ hb rfl
 rw[hc] at k1;cases k1
 have hlen:=k4.1.len
 simp only[mf,ft] at hlen
 have ext:Ext g w (g.more c 0 l.length) w:=⟨fun _ _ h=>⟨h,rfl,rfl⟩,fun _ _ p=>⟨.inl p,rfl⟩⟩
 have ne : ∀j x c',j≠b→m[j]? = some x→x.dz=true→g.bS j=some c'→c'≠c:=fun j x c' Cc hj ho fm e=>Cc (h.inj j b x _ c hj hb ho rfl (e▸fm) hc)
 refine⟨⟨fun j hj=>h.vJ j (by simpa using hj),fun j hj=> ?_,fun j x k hj hk=> ?_,fun j c' hj fm=> ?_,fun j k x x' c' hj hk ho ho' gG iE=> ?_,fun c' o p=> ?_,fun j kk ll hj=> ?_⟩,ext,⟨bj _,fun _ _ _=>rfl,fun _ _ p=>⟨.inl p,rfl⟩,fun c' o p=> ?_,fun c' ho=> ?_,rfl,rfl,rfl⟩⟩
 · rcases aP hj with⟨_,e⟩ | ⟨_,e⟩
   · cases e
   · exact h.free j e
 · rcases aP hj with⟨_,e⟩ | ⟨Cc,e⟩
   · subst e;cases hk
   · obtain⟨c1,cs1,e1,n1,q1,q2,q3,q4,q5⟩:=h.cells j x k e hk
     refine⟨c1,cs1,e1,n1,q1,q2,q3,q4.mono ext,fun o p=> ?_⟩
     rcases p with p | ⟨rfl,_⟩
     · exact q5 o p
     · exact ne j x _ Cc e (cU hk) q1 rfl
 · rcases aP hj with⟨_,e⟩ | ⟨Cc,e⟩
   · cases e
   · obtain⟨cs1,e1,n1,q2,q3,q4,q5⟩:=h.tok j c' e fm
     refine⟨cs1,e1,n1,q2,q3,q4,fun o a b p=> ?_⟩
     rcases p with p | ⟨rfl,_⟩
     · exact q5 o a b p
     · exact ne j _ _ Cc e rfl fm rfl
 · rcases aP hj with⟨_,e⟩ | ⟨_,e⟩
   · subst e;simp[aU.dz] at ho
   · rcases aP hk with⟨_,e'⟩ | ⟨_,e'⟩
     · subst e';simp[aU.dz] at ho'
     · exact h.inj j k x x' c' e e' ho ho' gG iE
 · rcases p with p | ⟨rfl,_,p⟩
   · exact h.there c' o p
   · exact⟨cs[o],by rw[bk k2,fl (by omega)]⟩
 · rcases aP hj with⟨_,e⟩ | ⟨Cc,e⟩
   · cases e
   · obtain⟨c1,o1,vs1,q1,q2,q3,q4,q5,q6⟩:=h.obs j kk ll e
     exact⟨c1,o1,vs1,q1,q2,q3.mono ext,q4,fun o p=>p.elim (q5 o) fun q=>ne j _ c1 Cc e rfl q1 q.1,q6⟩
 · rcases p with p | ⟨rfl,_⟩
   · exact .inl p
   · exact .inr (.inl ⟨b,_,hb,rfl,hc⟩)
 · rcases sG ho with⟨q,_⟩ | ⟨j,x,_,q1,q2,q3⟩
   · simp[aU.dz] at q
   · exact .inl ⟨j,x,q1,q2,q3⟩
theorem Rel.Wy {m:Mem} {w':World} {c:Nat} {cs:Array Value} {e:TypeId} {n n':Nat×Nat} (h:Rel g m w) (hno : ¬fD g m c) (h1:w.heap[c]? = some (.cells cs e n)) (h2:w'.heap[c]? = some (.cells cs e n'))
  (h3 : ∀k,k≠c→w'.heap[k]? = w.heap[k]?):Rel g m w'∧Ext g w g w':=by
 have hcell : ∀b o,w'.cell? ⟨b,o,none⟩=w.cell? ⟨b,o,none⟩:=by
  intro b o
  by_cases e:b=c
  · subst e;rw[bk h1,bk h2]
  · exact dV (h3 b e)
 have ext:Ext g w g w':=⟨fun _ _ q=>⟨q,rfl,rfl⟩,fun b o p=>⟨p,hcell b o⟩⟩
 have ne : ∀j x c',m[j]? = some x→x.dz=true→g.bS j=some c'→c'≠c:=fun j x c' hj ho fm e=>hno ⟨j,x,hj,ho,e▸fm⟩
 refine⟨⟨h.vJ,h.free,fun j x k hj hk=> ?_,fun j c' hj fm=> ?_,h.inj,fun b o p=> ?_,fun j kk ll hj=> ?_⟩,ext⟩
 · obtain⟨c1,cs1,e1,n1,q1,q2,q3,q4,q5⟩:=h.cells j x k hj hk
   exact⟨c1,cs1,e1,n1,q1,(h3 c1 (ne j x c1 hj (cU hk) q1)).trans q2,q3,q4.mono ext,q5⟩
 · obtain⟨cs1,e1,n1,q2,q3,q4,q5⟩:=h.tok j c' hj fm
   exact⟨cs1,e1,n1,(h3 c' (ne j _ c' hj rfl fm)).trans q2,q3,q4,q5⟩
 · obtain⟨v,hv⟩:=h.there b o p
   exact⟨v,(hcell b o).trans hv⟩
 · obtain⟨c1,o1,vs1,q1,q2,q3,q4⟩:=h.obs j kk ll hj
   exact⟨c1,o1,vs1,q1,(h3 c1 (ne j _ c1 hj rfl q1)).trans q2,q3.mono ext,q4⟩
theorem Cd (w:World) {c off:Nat} {cs:Array Value} {e:TypeId} {n:Nat×Nat} (h:w.heap[c]? = some (.cells cs e n)) :
  (∃n',(w.freeze ⟨c,off,none⟩ 1).heap[c]? = some (.cells cs e n'))∧(∀k,k≠c→(w.freeze ⟨c,off,none⟩ 1).heap[k]? = w.heap[k]?)∧(w.freeze ⟨c,off,none⟩ 1).heap.size=w.heap.size ∧
    (w.freeze ⟨c,off,none⟩ 1).os=w.os∧(w.freeze ⟨c,off,none⟩ 1).tape=w.tape∧(w.freeze ⟨c,off,none⟩ 1).output=w.output:=by
 unfold rl
 rw[if_neg (by decide)]
 refine⟨?_,fun k hk=> ?_,by simp,rfl,rfl,rfl⟩
 · obtain⟨lo,hi⟩:=n
   refine⟨if lo==hi then(off,off+1) else(min lo off,max hi (off+1)),?_⟩
   show(w.heap.modify c _)[c]? = _
   rw[lb,if_pos rfl,h]
   rfl
 · show(w.heap.modify c _)[k]? = _
   rw[lb,if_neg (fun e=>hk e.symm)]
theorem Kg {e count n:Nat} (hc:1≤P.cellsOf e) (hn:n≤count):liesAt P P.depth e count 0 e n=true:=by
 have hd:P.depth=(2*(P.types.size+Made.depth)+1)+1:=rfl
 rw[hd]
 simp only[liesAt,ib]
 left
 rw[hd]
 have h0 : ¬P.cellsOf e=0:=by omega
 simp[rowAt,hn,sameLayout,h0]
theorem vg (h:Rel g m w) {br:Nat} (hn:m[br]? = some .free) {ρ:Operand→AV} {bX:Operand→Value} {o:Oper} (hr : ∀x,VA g w (ρ x) (bX x)) {src dst:TypeId} {x:Operand}
  (ho:o.op = .convert src dst x) {a:AV} {us:mX} (he:convertOp P (fun i=>m.getD i .dead) br ρ o src dst (ρ x)=some (a,us,true)) :
  cq g m w ((execOp bX o).run P w) a (apply m us):=by
 have hx:=hr x
 have kE:(execOp bX o).run P w=((convert src dst (bX x)).run P w).andThen fun v w'=> .ok (.value v) w':=by simp only[execOp,ho,il,im]
 unfold convertOp at he
 split at he
 · rename_i k k' n Ia Kh
   split at he
   · rename_i d Ce
     simp only[cp,ie,and_true] at he
     obtain⟨rfl,rfl⟩:=he
     rw[Kh,VA.pv] at hx
     generalize hz:bX x=z at hx kE
     cases hx
     refine cq.quiet h (v:= .int k (k.wrap n)) ?_ (.p _ _ (.sc _))
     rw[kE]
     simp[convert,run_underlying Ce,run_underlying Ia,Conv.intToInt]
   · cases he
 · rename_i s Ia Kh
   split at he
   · rename_i Ce
     simp only[cp,ie,and_true] at he
     obtain⟨rfl,rfl⟩:=he
     rw[Kh,VA.pv] at hx
     generalize hz:bX x=z at hx kE
     cases hx
     refine cq.quiet h (v:= .string s) ?_ (.p _ _ (.sc _))
     rw[kE]
     simp[convert,run_underlying Ce,run_underlying Ia]
   · cases he
 · rename_i e s Ia Kh
   split at he
   · rename_i Ce hue
     simp only[cp,ie,and_true] at he
     obtain⟨rfl,rfl⟩:=he
     rw[Kh,VA.pv] at hx
     generalize hz:bX x=z at hx kE
     cases hx
     have kD:=kN s.size 0 e (w.tape w.drawn (.appendCap s.size 0 e))
     generalize hnc:(rp s.size 0 e).cut (w.tape w.drawn (.appendCap s.size 0 e))=newCap at kD
     generalize Ca:(s.data.map fun b=>(sd .u8 b.toNat))++Array.replicate (newCap-s.size) (sd .u8 0)=all
     have hss:s.data.toList.length=s.size:=ft
     have hall:all.size=newCap:=by
      rw[←Ca];simp only[lh,Array.size_map,Array.size_replicate]
      have:s.data.size=s.size:=rfl
      omega
     have wW:pQ w ({w.drew with heap:=w.heap.push (.cells all e (all.size,all.size+1))}:World) (.cells all e (all.size,all.size+1)):=⟨rfl,rfl,rfl,rfl⟩
     obtain⟨r1,r2,r3⟩:=h.fresh (k:=s.size) hn wW (by omega) (.inr (bj _))
     refine⟨.slice (some ⟨w.heap.size,0,none⟩) s.size newCap,_,_,.inl ?_,?_,r1,r2,r3⟩
     · rw[kE]
       have hsh:=Kf w.drew all e
       have hfz:=F2 w.drew all e
       rw[rh] at hsh hfz
       simp only[convert,il,run_underlying Ce,run_underlying Ia,run_underlying hue,iu,Conv.stringToBytes,run_choose,rr,oE,if_false,hnc,rk,Ca,newRow,run_newObj,rf,im,markStringish,run_shape,rh,hsh,run_freeze,hfz]
       rfl
     · rw[hss]
       have nu:all.toList=(s.data.toList.map fun b=>(sd .u8 b.toNat))++List.replicate (newCap-s.size) (sd .u8 0):=by rw[←Ca];simp
       refine .os _ _ _ _ _ _ (VP.mk (us:=s.data.toList.map fun b=>(sd .u8 b.toNat)) (bH.dF (by simp) fun i a b=>by simp only[df];exact .sc _) (by simp[hss]) kD (bj _) fun k v hk=> ?_) (.inr ⟨br,w.heap.size,0,rfl,rfl,by simp[Gh.put,Gh.more],by simp[Gh.put,Gh.more],by simp[Gh.put,Gh.more,hall],kD⟩)
       have hk':=bF hk
       rw[mf,hss] at hk'
       refine⟨?_,.inr ⟨rfl,by omega,by omega⟩,?_⟩
       · rw[bk wW.new,←lj,nu,pj,my (by rw[mf,hss];exact hk')]
         exact hk
       · obtain⟨b,_,rfl⟩:=ed.1 (mc hk);rfl
   · cases he
 · rename_i e b off len sz cap Ia Kh
   split at he
   · rename_i e' l Ce hue hb
     simp only[cp,ie,ch] at he
     obtain⟨rfl,rfl,h1,h2,h3⟩:=he
     have h1:=ag h1
     have h2:=ag h2
     have h3:=eh h3
     subst h1;subst h2
     obtain rfl:e'=e:=by have:=Ce.symm.trans Ia;cases this;rfl
     rw[Kh] at hx
     generalize hz:bX x=z at hx kE
     cases hx with
     |ms _ _ _ _ cap c hc hcap=>
     have vN:=getD_some hb (by simp)
     obtain⟨c',cs,et,n,k1,k2,k3,k4,k5⟩:=h.cells b _ _ vN rfl
     rw[hc] at k1;cases k1
     have hlen:=k4.1.len
     simp only[mf,ft] at hlen
     obtain⟨r1,r2,r3⟩:=h.H9 vN hc
     obtain⟨⟨n',f1⟩,f2,f3,f4,f5,f6⟩:=Cd w (off:=cs.size) k2
     have hno : ¬fD (g.more c 0 l.length) (m.set b .dead) c:=by
      rintro ⟨j,x,hj,ho,MH⟩
      rcases aP hj with⟨_,e⟩ | ⟨Cc,e⟩
      · subst e;simp[aU.dz] at ho
      · exact Cc (h.inj j b x _ c e vN ho rfl MH hc)
     obtain⟨s1,s2⟩:=r1.Wy hno k2 f1 f2
     have hVP:HZ g w l cs.toList:=bH.dF (by simpa using k4.1.len) fun i a b=>by
      have:=k4.1.get i (by simpa using a) b
      rw[df,VA.pv] at this
      exact this
     have hpure : ∀o,o<l.length→(g.more c 0 l.length).pure c o:=fun o ho=> .inr ⟨rfl,Nat.zero_le _,ho⟩
     refine⟨.slice (some ⟨c,off,none⟩) len cap,_,_,.inl ?_,.p _ _ (VP.mk (us:=(cs.toList.drop off).take len) (bH.mono (fun _ _ q=>VP.mono (r2.trans s2).pure q) ((hVP.drop off).take len)) (by simp;omega) hcap (bj _) fun k v hk=> ?_),s1,r2.trans s2,⟨by rw[f3];exact bj _,fun k _ hn=>f2 k fun e=>hn (e▸⟨b,_,vN,rfl,hc⟩),fun b o p=>(r2.trans s2).pure b o p,r3.fresh,r3.owned,f4,f5,f6⟩⟩
     · rw[kE]
       have hsh:w.shape? c=some (et,cs.size):=by simp only[ri,k2]
       simp only[convert,il,run_underlying Ce,run_underlying hue,iu,beq_self_eq_true,markStringish,run_shape,hsh,run_freeze,im]
     · rw[c9] at hk
       split at hk
       · rename_i hlt
         rw[dd] at hk
         have hk':=bF hk
         refine⟨by rw[bk f1];simpa using hk,hpure (off+k) (by omega),k4.2 v (mc hk)⟩
       · cases hk
   · cases he
 · rename_i b off Ia Kh
   split at he
   · rename_i t ty l Ce hb
     split at he
     · rename_i j hj
       simp only[cp,ie,ch] at he
       obtain⟨rfl,rfl,h1,h2⟩:=he
       have h1:=eh h1
       have h2:=eh h2
       rw[Kh] at hx
       generalize hz:bX x=z at hx kE
       cases hx with
       |mp _ _ c hc=>
       obtain⟨c',ob,vs,k1,k2,k3,k4,_,_⟩:=h.obs b _ _ (getD_some hb (by simp))
       rw[hc] at k1;cases k1
       obtain⟨cs,e,n,rfl,_,_,q1,q2,_⟩:=k4
       have hl:=k3.len
       have hsh:w.shape? c=some (e,cs.size):=by simp only[ri,k2]
       refine cq.quiet h (v:= .pointer (some ⟨c,off,none⟩)) ?_ (.mp b off c hc)
       rw[kE,Lib.run_to_unsafe w ⟨c,off,none⟩ Ce Ia hj (by omega) hsh (by show off<cs.size;omega)]
       rfl
     · cases he
   · cases he
 · rename_i u b Ia Kh
   split at he
   · rename_i ty l Ce hb
     split at he
     · rename_i j hj
       simp only[cp,ie,ch] at he
       obtain⟨rfl,rfl,h1,h2,h3⟩:=he
       have h1:=ag h1
       have h2:=eh h2
       have h3:=eh h3
       subst h1
       rw[Kh] at hx
       generalize hz:bX x=z at hx kE
       cases hx with
       |mp _ _ c hc=>
       obtain⟨c',ob,vs,k1,k2,k3,k4,_,_⟩:=h.obs b _ _ (getD_some hb (by simp))
       rw[hc] at k1;cases k1
       obtain⟨cs,e,n,rfl,rfl,_,q1,q2,_⟩:=k4
       have hl:=k3.len
       have hsh:w.shape? c=some (e,cs.size):=by simp only[ri,k2]
       refine cq.quiet h (v:= .pointer (some ⟨c,0,none⟩)) ?_ (.mp b 0 c hc)
       rw[kE,Lib.run_from_unsafe w ⟨c,0,none⟩ Ce Ia hj hsh (Kg (by omega) ((Nat.le_div_iff_mul_le (by omega)).2 (by omega)))]
       rfl
     · cases he
   · cases he
 · rename_i Ia hnot
   split at he
   · rename_i e Ce
     split at he
     · rename_i hue
       split at he
       · rename_i n aJ ok gi
         simp only[cp,ie,ch] at he
         obtain⟨rfl,rfl,rfl,h1⟩:=he
         obtain⟨vs,s1,s2,_,s4,s5⟩:=fF (P:=P) h gi hx
         obtain⟨ns,n1,n2⟩:=MR s1 h1
         have s6:=s5 n (bj _)
         rw[dk (by omega),n1] at s6
         have hnl:ns.length=n:=by rw[n1] at s2;simpa using s2
         generalize hz:bX x=z at hx kE s4 s6
         refine cq.quiet h (v:= .string ⟨(ns.map fun n=>se n.toNat).toArray⟩) ?_ (by rw[n2];exact .p _ _ (.sc _))
         rw[kE]
         cases z with
         |slice ad len cap=>
          have hlen:len=n:=by simpa[kx] using s4
          subst hlen
          cases ad with
          |none=>
           have:ns=[]:=by
            have:(#[]:Array Value)=(ns.map (sd .u8)).toArray:=by simpa[kv] using s6
            have:=congrArg Array.size this
            simp at this
            exact na.1 (by omega)
           subst this
           simp[convert,run_underlying Ce,run_underlying Ia,run_underlying hue,Conv.bytesToString,sg,sf]
           rfl
          |some ad=>
           have jP:(loadCells ad len).run P w = .ok (ns.map (sd .u8)).toArray w:=by simpa[kv] using s6
           have:=run_bytesToString (P:=P) w ad len cap ns jP
           simp only[convert,il,run_underlying Ce,run_underlying Ia,run_underlying hue,iu,this,foldl_push]
           simp[sg,sf]
           rfl
         |string s=>
          exfalso
          generalize hxx:ρ x=xx at hx hnot gi
          cases hx with
          |p pv _ hp=>cases hp;exact hnot s rfl
          |aj=>simp[contents] at gi
         |_=>simp[kx] at s4
       · cases he
     · cases he
   · cases he
 · simp only[gn,ie,and_true] at he
   obtain⟨v,h1,rfl,rfl⟩:=he
   obtain⟨cv,k1,k2⟩:=eT hr (fun _ _=>by rw[ho];exact fun e=>by cases e) h1
   exact cq.quiet h k1 k2
end ops
section
variable {P:Program} {g:Gh} {m:Mem} {w:World}
set_option linter.unusedVariables false in
theorem zN (h:Rel g m w) {x k a:AV} {cx ck:Value} {t:TypeId} {ok:Bool} (hx:VA g w x cx) (hk:VA g w k ck) (he:vC P (fun i=>m.getD i .dead) t x k ok=some a) :
  ∃v,(py t cx ck ok).run P w = .ok v w∧VA g w a v:=by
 unfold vC at he
 cases he
set_option linter.unusedVariables false in
theorem sM (h:Rel g m w) {x k v a:AV} {cx ck cv:Value} {t:TypeId} {us:mX} (hx:VA g w x cx) (hk:VA g w k ck) (hv:VA g w v cv)
  (he:hY P (fun i=>m.getD i .dead) t x k v=some (a,us,true)) :
  ∃w',(px t cx ck cv).run P w = .ok () w'∧a = .aA []∧Rel g (apply m us) w'∧Ext g w g w'∧dc g m w g (apply m us) w':=by
 unfold hY at he
 cases he
end
section
variable {P:Program} {g:Gh} {m:Mem} {w:World}
theorem uj {d:TypeDesc} {k:Value} (h:plainKey d k=true):sT d k:=by
 cases d<;>cases k<;>simp_all [plainKey,sT]
theorem um {t:TypeId} {z:AV} (h:HR P t=some z) : ∃cz,(∀w,(zeroValue t).run P w = .ok cz w)∧VA g w z cz:=by
 unfold HR at h
 cases hi:P.info? t with
 |none=>simp[hi] at h
 |some i=>
  cases hz:i.zero with
  |none=>simp[hi,hz] at h
  |some c=>
   simp only[hi,hz,Option.map_some,cp] at h
   subst h
   exact⟨c,fun w=>by simp[zeroValue,typeInfo,hi,hz],VA.Se c⟩
set_option linter.unusedVariables false in
theorem wX {t xt:TypeId} {x v:AV} {cx:Value} {ok:Bool} (he:wz P t x ok=some v) (hx:VA g w x cx) : ∃cv,(Instr.typeAssert cx xt t ok).run P w = .ok cv w∧VA g w v cv:=by
 unfold wz at he
 cases he
theorem uo {d:TypeDesc} {k:Value} : ∀{ks:List Value} {vs:List AV} {bs:List Nat} {cs:List Value} {r:Option AV} (n:Nat),oP d k ks vs bs=some r→cA g w vs cs →
  match r with
  |some v=> ∃i cv,pA d k (entriesOf ks cs bs) n=some (some (i,cv))∧VA g w v cv
  |none=>pA d k (entriesOf ks cs bs) n=some none
 |[],[],[],[],r,n,h,_=>by
  simp only[oP,cp] at h
  subst h
  rfl
 |k'::ks,v::vs,b::bs,c::cs,r,n,h,hv=>by
  simp only[oP] at h
  simp only[entriesOf,pA]
  cases hs:ra d k k' with
  |none=>rw[hs] at h;cases h
  |some q=>
   rw[hs] at h
   cases q with
   |true=>
    simp only[cp] at h
    subst h
    exact⟨n,c,rfl,hv.1⟩
   |false=>exact uo (n+1) h hv.2
 |_,_::_,_,[],_,_,_,hv=>hv.elim
 |_,[],_,_::_,_,_,_,hv=>hv.elim
 |_::_,[],_,_,_,_,h,_=>by simp[oP] at h
 |[],_::_,_,_,_,_,h,_=>by simp[oP] at h
 |[],[],_::_,_,_,_,h,_=>by simp[oP] at h
 |_::_,_::_,[],_,_,_,h,_=>by simp[oP] at h
theorem key_eq {k:Value} {cv:Value} (h:VA g w (.p (.sc k)) cv):cv=k:=by
 rw[VA.pv] at h
 cases h
 rfl
theorem DF (h:Rel g m w) {x:AV} {cx:Value} (hx:VA g w x cx) {ks:List Value} {vs:List AV} {bs:List Nat} (he:mapOf (fun i=>m.getD i .dead) x=some (ks,vs,bs)) :
  ∃cs,cA g w vs cs∧((cx = .map none∧ks=[]∧vs=[]∧bs=[]) ∨ ∃r clock,cx = .map (some r)∧w.heap[r]? = some (.map (entriesOf ks cs bs).toArray clock)):=by
 unfold mapOf at he
 split at he
 · simp only[cp,ie] at he
   obtain⟨rfl,rfl,rfl⟩:=he
   exact⟨[],trivial,.inl ⟨key_eq hx,rfl,rfl,rfl⟩⟩
 · rename_i b
   split at he
   · rename_i ks' bs' clock vs' hb
     simp only[cp,ie] at he
     obtain⟨rfl,rfl,rfl⟩:=he
     obtain⟨c,ob,cs,k1,k2,k3,k4,_⟩:=h.obs b _ _ (getD_some hb (by simp))
     simp only[aG.is] at k4
     subst k4
     cases hx with
     |vm _ c' hc=>
      rw[k1] at hc;cases hc
      exact⟨cs,k3,.inr ⟨c,clock,rfl,k2⟩⟩
   · cases he
 · cases he
theorem wY (h:Rel g m w) {x k a:AV} {cx ck:Value} {t:TypeId} {ok:Bool} (hx:VA g w x cx) (hk:VA g w k ck) (he:kW P (fun i=>m.getD i .dead) t x k ok=some a) :
  ∃v,(py t cx ck ok).run P w = .ok v w∧VA g w a v:=by
 unfold kW at he
 split at he
 · rename_i key
   obtain rfl:=key_eq hk
   split at he
   · rename_i kt et hm
     split at he
     · rename_i d z ks vs bs hd hz hmap
       cases hp:plainKey d ck with
       |false=>simp[hp] at he
       |true=>
        simp only[hp,cond_true] at he
        have hik:=uj hp
        obtain⟨cz,Mi,Mj⟩:=um (g:=g) (w:=w) hz
        obtain⟨cs,hcs,MS⟩:=DF h hx hmap
        have hc : ∀e,(pD e 10000 kt ck).run P w = .ok () w:=fun e=>sR hd hik e 9999
        have abe:entriesOf [] cs []=[]:=by cases cs<;>rfl
        cases hf:oP d ck ks vs bs with
        |none=>simp[hf] at he
        |some r=>
         have hs:=uo (g:=g) (w:=w) 0 hf hcs
         cases r with
         |none=>
          simp only[hf,cp] at he
          subst he
          simp only at hs
          have hk:=sm (w:=w) hd hs
          refine⟨cond ok (.tuple #[cz,.bool false]) cz,?_,?_⟩
          · rcases MS with⟨rfl,rfl,rfl,rfl⟩ | ⟨r,clock,rfl,hr⟩
            · rw[abe] at hk
              cases ok<;>simp[py,run_underlying hm,hc,hk,Mi,pa]
            · cases ok<;>simp[py,run_underlying hm,si hr,hc,hk,Mi,pa]
          · cases ok with
            |true=>exact VA.mR.2 ⟨Mj,.p _ _ (.sc _),trivial⟩
            |false=>exact Mj
         |some u=>
          simp only[hf,cp] at he
          subst he
          obtain⟨i,cv,hs1,hs2⟩:=hs
          have hk:=sm (w:=w) hd hs1
          refine⟨cond ok (.tuple #[cv,.bool true]) cv,?_,?_⟩
          · rcases MS with⟨rfl,rfl,rfl,rfl⟩ | ⟨r,clock,rfl,hr⟩
            · rw[abe] at hk
              cases ok<;>simp[py,run_underlying hm,hc,hk,pa]
            · cases ok<;>simp[py,run_underlying hm,si hr,hc,hk,pa]
          · cases ok with
            |true=>exact VA.mR.2 ⟨hs2,.p _ _ (.sc _),trivial⟩
            |false=>exact hs2
     · cases he
   · cases he
 · exact zN h hx hk he
 · cases he
theorem wZ {d:TypeDesc} {k:Value} {v:AV} {cv:Value} (hik:sT d k) (hv:VA g w v cv) : ∀{ks:List Value} {vs:List AV} {bs:List Nat} {cs:List Value} {r:Option (List AV)} (n:Nat),wq d k v ks vs bs=some r→cA g w vs cs →
  match r with
  |some l=> ∃i o cs',pA d k (entriesOf ks cs bs) n=some (some (n+i,o))∧((entriesOf ks cs bs)[i]?).map (·.key)=some k∧(entriesOf ks cs bs).modify i (fun e=>{e with key:=k,val:=cv})=entriesOf ks cs' bs∧cA g w l cs'
  |none=>pA d k (entriesOf ks cs bs) n=some none∧ks.length=vs.length∧bs.length=vs.length
 |[],[],[],[],r,n,h,_=>by
  simp only[wq,cp] at h
  subst h
  exact⟨rfl,rfl,rfl⟩
 |k'::ks,u::vs,b::bs,c::cs,r,n,h,hvs=>by
  simp only[wq] at h
  simp only[entriesOf,pA]
  cases hs:ra d k k' with
  |none=>rw[hs] at h;cases h
  |some q=>
   rw[hs] at h
   cases q with
   |true=>
    simp only[cp] at h
    subst h
    have hkk:k'=k:=by
     cases d<;>cases k<;>simp only[sT] at hik<;>cases k'<;>simp only[ra] at hs<;>first
      |cases hs
      |(split at hs
        · rename_i e1;subst e1;simp at hs;subst hs;rfl
        · cases hs)
      |(simp only[cp,s0,beq_iff_eq] at hs;subst hs;rfl)
    subst hkk
    exact⟨0,c,cv::cs,rfl,rfl,rfl,hv,hvs.2⟩
   |false=>
    cases hr:wq d k v ks vs bs with
    |none=>simp[hr] at h
    |some r'=>
     have ih:=wZ hik hv (n+1) hr hvs.2
     cases r' with
     |none=>
      simp only[hr,cp] at h
      subst h
      exact⟨ih.1,by simp[ih.2.1],by simp[ih.2.2]⟩
     |some l=>
      simp only[hr,cp] at h
      subst h
      obtain⟨i,o,cs',q1,q2,q3,q4⟩:=ih
      refine⟨i+1,o,c::cs',by rw[q1];simp;omega,by simpa using q2,?_,hvs.1,q4⟩
      simp only[List.modify_succ_cons,entriesOf,q3]
 |_,_::_,_,[],_,_,_,hv=>hv.elim
 |_,[],_,_::_,_,_,_,hv=>hv.elim
 |_::_,[],_,_,_,_,h,_=>by simp[wq] at h
 |[],_::_,_,_,_,_,h,_=>by simp[wq] at h
 |[],[],_::_,_,_,_,h,_=>by simp[wq] at h
 |_::_,_::_,[],_,_,_,h,_=>by simp[wq] at h
theorem jQ {k:Value} {cv:Value} {b:Nat} : ∀{ks cs:List Value} {bs:List Nat},ks.length=cs.length→bs.length=cs.length→entriesOf ks cs bs++[{key:=k,val:=cv,born:=b}]=entriesOf (ks++[k]) (cs++[cv]) (bs++[b])
 |[],[],[],_,_=>rfl
 |_::ks,_::cs,_::bs,h,h'=>by simp[entriesOf,jQ (ks:=ks) (cs:=cs) (bs:=bs) (by simpa using h) (by simpa using h')]
 |[],_::_,_,h,_=>by simp at h
 |_::_,[],_,h,_=>by simp at h
 |[],[],_::_,_,h=>by simp at h
 |_::_,_::_,[],_,h=>by simp at h
theorem cW (w:World) {r:Nat} {o':Obj} {o:Obj} (hb:w.heap[r]? = some o) :
  (∀k,k≠r→({w with heap:=w.heap.setIfInBounds r o'}:World).heap[k]? = w.heap[k]?)∧({w with heap:=w.heap.setIfInBounds r o'}:World).heap.size=w.heap.size∧({w with heap:=w.heap.setIfInBounds r o'}:World).heap[r]? = some o':=
 ⟨fun k hk=>(ta hb).2 k hk,by simp,(ta hb).1⟩
theorem qR (h:Rel g m w) {x k v a:AV} {cx ck cv:Value} {t:TypeId} {us:mX} (hx:VA g w x cx) (hk:VA g w k ck) (hv:VA g w v cv)
  (he:gE P (fun i=>m.getD i .dead) t x k v=some (a,us,true)) :
  ∃w',(px t cx ck cv).run P w = .ok () w'∧a = .aA []∧Rel g (apply m us) w'∧Ext g w g w'∧dc g m w g (apply m us) w':=by
 unfold gE at he
 split at he
 · rename_i b key
   obtain rfl:=key_eq hk
   split at he
   · rename_i kt et ks bs clock vs hm hb
     split at he
     · rename_i d hd
       cases hp:plainKey d ck with
       |false=>simp[hp] at he
       |true=>
        simp only[hp,cond_true] at he
        have hik:=uj hp
        have hib:=getD_some hb (by simp)
        obtain⟨c,ob,cs,k1,k2,k3,k4,_⟩:=h.obs b _ _ hib
        simp only[aG.is] at k4
        subst k4
        cases hx with
        |vm _ c' hc=>
         rw[k1] at hc;cases hc
         have MT : ∀e,(pD e 10000 kt ck).run P w = .ok () w:=fun e=>sR hd hik e 9999
         cases hu:wq d ck v ks vs bs with
         |none=>simp[hu] at he
         |some r=>
          have hs:=wZ (g:=g) (w:=w) hik hv 0 hu k3
          cases r with
          |some l=>
           simp only[hu,cp,ie,and_true] at he
           obtain⟨rfl,rfl⟩:=he
           obtain⟨i,o,cs',q1,q2,q3,q4⟩:=hs
           rw[pj] at q1
           have hfind:=sm (w:=w) hd q1
           obtain⟨e1,e2,e3⟩:=cW w (o':= .map (entriesOf ks cs' bs).toArray clock) k2
           obtain⟨r1,r2,r3⟩:=h.gz (FM:= .map ks bs clock) (l':=l) (vs':=cs') hib k1 e1 e2 rfl rfl rfl e3 rfl q4
           refine⟨_,?_,rfl,r1,r2,r3⟩
           have hsame:qf 10000 ck ck=true:=by
            cases d<;>cases ck<;>simp only[sT] at hik<;>simp[qf,s0]
           have hmod:(entriesOf ks cs bs).toArray.modify i (fun e=>{e with key:=ck,val:=cv})=(entriesOf ks cs' bs).toArray:=by
            rw[←q3];simp
           simp[px,run_underlying hm,si k2,MT,hfind,rb,hsame,ss _ k2,pa,q2,q3]
          |none=>
           simp only[hu,cp,ie,and_true] at he
           obtain⟨rfl,rfl⟩:=he
           obtain⟨q1,q2,q3⟩:=hs
           have hlen:=k3.len
           have hfind:=sm (w:=w) hd q1
           obtain⟨e1,e2,e3⟩:=cW w (o':= .map (entriesOf (ks++[ck]) (cs++[cv]) (bs++[clock])).toArray (clock+1)) k2
           obtain⟨r1,r2,r3⟩:=h.gz (FM:= .map (ks++[ck]) (bs++[clock]) (clock+1)) (l':=vs++[v]) (vs':=cs++[cv]) hib k1 e1 e2 rfl rfl rfl e3 rfl (k3.append (⟨hv,trivial⟩:cA g w [v] [cv]))
           refine⟨_,?_,rfl,r1,r2,r3⟩
           have MU:(entriesOf ks cs bs).toArray.push {key:=ck,val:=cv,born:=clock}=(entriesOf (ks++[ck]) (cs++[cv]) (bs++[clock])).toArray:=by
            rw[←jQ (by omega) (by omega)];simp
           simp[px,run_underlying hm,si k2,MT,hfind,MU,ss _ k2,pa]
     · cases he
   · cases he
 · exact sM h hx hk hv he
 · cases he
abbrev qS (ns:List ByteArray) (bs:List Nat):List MapEntry:=entriesOf (ns.map .string) (ns.map fun _=> .bool true) bs
theorem xd : ∀{ns:List ByteArray} {bs:List Nat} {e:MapEntry},e∈qS ns bs → ∃x∈ns,e.key = .string x∧e.val = .bool true
 |x::ns,b::bs,e,h=>by
  rcases oi.1 h with rfl | h
  · exact⟨x,.head _,rfl,rfl⟩
  · obtain⟨y,h1,h2⟩:=xd (ns:=ns) (bs:=bs) h
    exact⟨y,.tail _ h1,h2⟩
 |[],_,_,h=>by cases h
 |_::_,[],_,h=>by cases h
theorem Ib : ∀{ns:List ByteArray} {bs:List Nat} {x:ByteArray},bs.length=ns.length→x∈ns → ∃e∈qS ns bs,e.key = .string x
 |y::ns,b::bs,x,hl,h=>by
  rcases oi.1 h with rfl | h
  · exact⟨_,.head _,rfl⟩
  · obtain⟨e,h1,h2⟩:=Ib (ns:=ns) (bs:=bs) (by simpa using hl) h
    exact⟨e,.tail _ h1,h2⟩
 |[],_,_,_,h=>by cases h
 |_::_,[],_,hl,_=>by simp at hl
theorem DG {ns:List ByteArray} {s:ByteArray}:fX ns s=true↔s∈ns:=by
 have e : ∀x:ByteArray,(x.data.toList==s.data.toList)=true↔x=s:=fun x=>by
  rw[beq_iff_eq]
  constructor
  · intro h
    obtain⟨⟨a⟩⟩:=x
    obtain⟨⟨b⟩⟩:=s
    simpa using h
  · rintro rfl;rfl
 unfold fX
 rw[List.any_eq_true]
 constructor
 · rintro ⟨x,h1,h2⟩
   rwa [←(e x).1 h2]
 · intro h
   exact⟨s,h,(e s).2 rfl⟩
theorem Aw {ns:List ByteArray} {bs:List Nat} (hl:bs.length=ns.length) (s:ByteArray) :
  (fX ns s=false∧pA .string (.string s) (qS ns bs) 0=some none) ∨
    (fX ns s=true ∧ ∃j e,pA .string (.string s) (qS ns bs) 0=some (some (j,.bool true))∧(qS ns bs)[j]? = some e∧e.key = .string s∧e.val = .bool true):=by
 have hk:sT .string (.string s):=trivial
 rcases MapKept.findNow_spec hk (qS ns bs) 0 (fun x hx=>by
  obtain⟨y,_,h2,_⟩:=xd hx
  rw[h2];trivial) with⟨h1,h2⟩ | ⟨j,e,h1,h2,h3⟩
 · refine .inl ⟨?_,h1⟩
   cases hh:fX ns s with
   |false=>rfl
   |true=>
    obtain⟨e,k1,k2⟩:=Ib hl (DG.1 hh)
    exact absurd k2 (h2 e k1)
 · obtain⟨y,k1,k2,k3⟩:=xd (mc h2)
   refine .inr ⟨DG.2 ?_,j,e,?_,h2,h3,k3⟩
   · rw[k2] at h3
     cases h3
     exact k1
   · rw[h1,k3,pj]
theorem xe (g:Gh) (w0:World) {t:TypeId} (h:qD P t=true) : ∃kt et,P.underlying t=some (.map kt et)∧P.underlying kt=some .string ∧ ∀w,(zeroValue et).run P w = .ok (.bool false) w:=by
 unfold qD at h
 split at h
 · rename_i kt et hm
   split at h
   · rename_i h1 h2
     obtain⟨cz,z1,z2⟩:=um (g:=g) (w:=w0) h2
     rw[VA.pv] at z2
     cases z2
     exact⟨kt,et,hm,h1,z1⟩
   · cases h
 · cases h
theorem qT (h:Rel g m w) {x:AV} {cx:Value} (hx:VA g w x cx) {ns:List ByteArray} (he:pM (fun i=>m.getD i .dead) x=some ns) :
  ∃b r bs clock l,x = .vm b∧m[b]? = some (.ob (.smap ns) l)∧g.bS b=some r∧cx = .map (some r)∧w.heap[r]? = some (.map (qS ns bs).toArray clock)∧bs.length=ns.length∧cA g w l []:=by
 unfold pM at he
 split at he
 · rename_i b
   split at he
   · rename_i ns' l hb
     simp only[cp] at he
     subst he
     have hib:=getD_some hb (by simp)
     obtain⟨c,ob,cs,k1,k2,k3,k4,_⟩:=h.obs b _ _ hib
     simp only[aG.is] at k4
     obtain⟨rfl,bs,clock,rfl,k5⟩:=k4
     cases hx with
     |vm _ c' hc=>
      rw[k1] at hc;cases hc
      exact⟨b,c,bs,clock,l,rfl,hib,k1,rfl,k2,k5,k3⟩
   · cases he
 · cases he
theorem Cf (h:Rel g m w) {x k a:AV} {cx ck:Value} {t:TypeId} {ok:Bool} (hx:VA g w x cx) (hk:VA g w k ck) (he:sD P (fun i=>m.getD i .dead) t x k ok=some a) :
  ∃v,(py t cx ck ok).run P w = .ok v w∧VA g w a v:=by
 unfold sD at he
 split at he
 · rename_i ns hs
   obtain⟨b,r,bs,clock,l,rfl,h1,h2,rfl,h3,h4,h5⟩:=qT h hx hs
   split at he
   · rename_i s
     obtain rfl:=key_eq hk
     split at he
     · rename_i ht
       obtain⟨kt,et,t1,t2,t3⟩:=xe g w ht
       simp only[cp] at he
       subst he
       have hc : ∀e,(pD e 10000 kt (.string s)).run P w = .ok () w:=fun e=>sR t2 (d:= .string) (k:= .string s) trivial e 9999
       refine⟨cond ok (.tuple #[.bool (fX ns s),.bool (fX ns s)]) (.bool (fX ns s)),?_,?_⟩
       · rcases Aw h4 s with⟨q0,q1⟩ | ⟨q0,j,e,q1,q2,q3,q4⟩
         · have hf:=sm (w:=w) t2 q1
           cases ok<;>simp[py,run_underlying t1,si h3,hc,hf,t3,pa,q0]
         · have hf:=sm (w:=w) t2 q1
           cases ok<;>simp[py,run_underlying t1,si h3,hc,hf,pa,q0]
       · cases ok with
         |true=>exact VA.mR.2 ⟨.p _ _ (.sc _),.p _ _ (.sc _),trivial⟩
         |false=>exact .p _ _ (.sc _)
     · cases he
   · cases he
 · exact wY h hx hk he
theorem uq (h:Rel g m w) {x k v a:AV} {cx ck cv:Value} {t:TypeId} {us:mX} (hx:VA g w x cx) (hk:VA g w k ck) (hv:VA g w v cv)
  (he:wv P (fun i=>m.getD i .dead) t x k v=some (a,us,true)) :
  ∃w',(px t cx ck cv).run P w = .ok () w'∧a = .aA []∧Rel g (apply m us) w'∧Ext g w g w'∧dc g m w g (apply m us) w':=by
 unfold wv at he
 split at he
 · rename_i ns hs
   obtain⟨b,r,bs,clock,l,rfl,h1,h2,rfl,h3,h4,h5⟩:=qT h hx hs
   split at he
   · rename_i b' s Kh
     cases Kh
     obtain rfl:=key_eq hk
     obtain rfl:=key_eq hv
     split at he
     · rename_i ht
       obtain⟨kt,et,t1,t2,t3⟩:=xe g w ht
       simp only[cp,ie,and_true] at he
       obtain⟨rfl,rfl⟩:=he
       have hc : ∀e,(pD e 10000 kt (.string s)).run P w = .ok () w:=fun e=>sR t2 (d:= .string) (k:= .string s) trivial e 9999
       rcases Aw h4 s with⟨q0,q1⟩ | ⟨q0,j,e,q1,q2,q3,q4⟩
       · have hf:=sm (w:=w) t2 q1
         have ea:qC ns s=ns++[s]:=by unfold qC;rw[q0];rfl
         rw[ea]
         have MU:(qS ns bs).toArray.push {key:= .string s,val:= .bool true,born:=clock}=(qS (ns++[s]) (bs++[clock])).toArray:=by
          have k:=jQ (k:= .string s) (cv:= .bool true) (b:=clock) (ks:=ns.map .string) (cs:=ns.map fun _=> .bool true) (bs:=bs) (by simp) (by simpa using h4)
          simp only[qS,List.map_append,oe,List.map_nil]
          rw[←k]
          simp
         obtain⟨e1,e2,e3⟩:=cW w (o':= .map (qS (ns++[s]) (bs++[clock])).toArray (clock+1)) h3
         obtain⟨r1,r2,r3⟩:=h.gz (FM:= .smap (ns++[s])) (l':=[]) (vs':=[]) h1 h2 e1 e2 rfl rfl rfl e3 ⟨rfl,bs++[clock],clock+1,rfl,by simp[h4]⟩ trivial
         refine⟨_,?_,rfl,r1,r2,r3⟩
         simp[px,run_underlying t1,si h3,hc,hf,MU,ss _ h3,pa]
       · have hf:=sm (w:=w) t2 q1
         have ea:qC ns s=ns:=by unfold qC;rw[q0];rfl
         rw[ea]
         have hmod:((qS ns bs).modify j fun e=>{key:= .string s,val:= .bool true,born:=e.born})=qS ns bs:=by
          apply List.ext_getElem?
          intro i
          rw[List.getElem?_modify]
          by_cases ij:j=i
          · subst ij
            rw[q2]
            obtain⟨ek,ev,eb⟩:=e
            simp only at q3 q4
            subst q3 q4
            simp
          · simp[ij]
         obtain⟨e1,e2,e3⟩:=cW w (o':= .map (qS ns bs).toArray clock) h3
         obtain⟨r1,r2,r3⟩:=h.gz (FM:= .smap ns) (l':=[]) (vs':=[]) h1 h2 e1 e2 rfl rfl rfl e3 ⟨rfl,bs,clock,rfl,h4⟩ trivial
         refine⟨_,?_,rfl,r1,r2,r3⟩
         have hsame:qf 10000 (.string s) (.string s)=true:=by simp[qf,s0]
         simp[px,run_underlying t1,si h3,hc,hf,rb,hsame,ss _ h3,pa,q2,q3,hmod]
     · cases he
   · cases he
 · exact qR h hx hk hv he
theorem Ax {t e:TypeId} (hd:P.underlying t=some (.pointer e)) (a:Addr):(tf t (.pointer (some a)) (.pointer none)).run P w = .ok false w∧(tf t (.pointer none) (.pointer (some a))).run P w = .ok false w:=by
 refine⟨?_,?_⟩
 · show(tc (9999+1) t _ _).run P w = .ok false w
   rw[tc];simp only[il,run_underlying hd,iu];rfl
 · show(tc (9999+1) t _ _).run P w = .ok false w
   rw[tc];simp only[il,run_underlying hd,iu];rfl
theorem Ay {t k e:TypeId} (hd:P.underlying t=some (.map k e)) (a:Nat):(tf t (.map (some a)) (.map none)).run P w = .ok false w∧(tf t (.map none) (.map (some a))).run P w = .ok false w:=by
 refine⟨?_,?_⟩
 · show(tc (9999+1) t _ _).run P w = .ok false w
   rw[tc];simp only[il,run_underlying hd,iu];rfl
 · show(tc (9999+1) t _ _).run P w = .ok false w
   rw[tc];simp only[il,run_underlying hd,iu];rfl
theorem jq (op:BinOp) (t:TypeId) (a b:Operand):(∀p q,(eqGuard op t a b (.pointer p) (.pointer q)).run P w = .ok () w) ∧ ∀p q,(eqGuard op t a b (.map p) (.map q)).run P w = .ok () w:=by
 refine⟨fun p q=> ?_,fun p q=> ?_⟩<;>(unfold eqGuard;cases op<;>rfl)
theorem xg (t:TypeId) {cx cy:Value} (h:(∃p q,cx = .pointer p∧cy = .pointer q) ∨ ∃p q,cx = .map p∧cy = .map q) (op:BinOp) (ho:op = .eql∨op = .neq) :
  binOp op t cx cy=(do let r ←tf t cx cy;pure (.bool (if op = .eql then r else !r)):Sem Value):=by
 rcases h with⟨p,q,rfl,rfl⟩ | ⟨p,q,rfl,rfl⟩<;>rcases ho with rfl | rfl<;>rfl
theorem xh {d:TypeDesc} {x y:AV} {cx cy:Value} (hx:VA g w x cx) (hy:VA g w y cy) (h:Ah d x y=true) :
  (∃e a,d = .pointer e∧cx = .pointer (some a)∧cy = .pointer none) ∨ ∃k e a,d = .map k e∧cx = .map (some a)∧cy = .map none:=by
 unfold Ah at h
 split at h
 · split at h
   · obtain rfl:=key_eq hy
     split at h
     · rw[VA.pv] at hx
       cases hx
       exact .inl ⟨_,_,rfl,rfl,rfl⟩
     · cases hx
       exact .inl ⟨_,_,rfl,rfl,rfl⟩
     · cases h
   · cases h
 · split at h
   · obtain rfl:=key_eq hy
     split at h
     · cases hx
       exact .inr ⟨_,_,_,rfl,rfl,rfl⟩
     · cases h
   · cases h
 · cases h
theorem DH {ρ:Operand→AV} {bX:Operand→Value} (hr : ∀x,VA g w (ρ x) (bX x)) {o:Oper} {op:BinOp} {t yt:TypeId} {x y:Operand} (ho:o.op = .binOp op t x y yt) {a:AV} {us:mX} {ok:Bool} (he:HT P op t (ρ x) (ρ y)=some (a,us,ok)) :
  us=[] ∧ ∃v,(execOp bX o).run P w = .ok (.value v) w∧VA g w a v:=by
 unfold HT at he
 split at he
 · rename_i d hd
   have key:Ah d (ρ x) (ρ y)=true∨Ah d (ρ y) (ρ x)=true→(∀op':BinOp,(eqGuard op' t x y (bX x) (bX y)).run P w = .ok () w)∧(tf t (bX x) (bX y)).run P w = .ok false w∧((∃p q,bX x = .pointer p∧bX y = .pointer q) ∨ ∃p q,bX x = .map p∧bX y = .map q):=by
    rintro (h | h)
    · rcases xh (hr x) (hr y) h with⟨e,a,rfl,e1,e2⟩ | ⟨k,e,a,rfl,e1,e2⟩
      · rw[e1,e2]
        exact⟨fun op'=>(jq op' t x y).1 _ _,(Ax hd _).1,.inl ⟨_,_,rfl,rfl⟩⟩
      · rw[e1,e2]
        exact⟨fun op'=>(jq op' t x y).2 _ _,(Ay hd _).1,.inr ⟨_,_,rfl,rfl⟩⟩
    · rcases xh (hr y) (hr x) h with⟨e,a,rfl,e1,e2⟩ | ⟨k,e,a,rfl,e1,e2⟩
      · rw[e1,e2]
        exact⟨fun op'=>(jq op' t x y).1 _ _,(Ax hd _).2,.inl ⟨_,_,rfl,rfl⟩⟩
      · rw[e1,e2]
        exact⟨fun op'=>(jq op' t x y).2 _ _,(Ay hd _).2,.inr ⟨_,_,rfl,rfl⟩⟩
   split at he
   · rename_i hok
     rw[ib] at hok
     obtain⟨k1,k2,k3⟩:=key hok
     simp only[cp,ie] at he
     obtain⟨rfl,rfl,_⟩:=he
     refine⟨rfl,.bool false,?_,.p _ _ (.sc _)⟩
     simp only[execOp,ho,il,k1,iu,xg t k3 _ (.inl rfl),k2,im]
     rfl
   · rename_i hok
     rw[ib] at hok
     obtain⟨k1,k2,k3⟩:=key hok
     simp only[cp,ie] at he
     obtain⟨rfl,rfl,_⟩:=he
     refine⟨rfl,.bool true,?_,.p _ _ (.sc _)⟩
     simp only[execOp,ho,il,k1,iu,xg t k3 _ (.inr rfl),k2,im]
     rfl
   · cases he
 · cases he
end
section
variable {P:Program} {g:Gh} {m:Mem} {w:World}
theorem Rel.move (h:Rel g m w) {b br c:Nat} {k:aG} {l:List AV} (hb:m[b]? = some (.ob k l)) (hc:g.bS b=some c) (hn:m[br]? = some .free) :
  Rel (g.put br c (g.lo b) (g.hi b)) ((m.set b .dead).set br (.ob k l)) w∧Ext g w (g.put br c (g.lo b) (g.hi b)) w∧dc g m w (g.put br c (g.lo b) (g.hi b)) ((m.set b .dead).set br (.ob k l)) w:=by
 have hne:b≠br:=fun e=>by subst e;rw[hb] at hn;cases hn
 have hf:=h.free br hn
 have get : ∀j x,((m.set b .dead).set br (.ob k l))[j]? = some x→(j=br∧x = .ob k l)∨x = .dead∨(j≠br∧j≠b∧m[j]? = some x):=by
  intro j x hj
  rcases aP hj with⟨e,q⟩ | ⟨hjn,q⟩
  · exact .inl ⟨e,q⟩
  · rcases aP q with⟨_,q⟩ | ⟨Cc,q⟩
    · exact .inr (.inl q)
    · exact .inr (.inr ⟨hjn,Cc,q⟩)
 have bo : ∀j,j≠br→(g.put br c (g.lo b) (g.hi b)).bS j=g.bS j:=fun j hj=>by simp[Gh.put,hj]
 have bi:(g.put br c (g.lo b) (g.hi b)).bS br=some c:=by simp[Gh.put]
 have ext:Ext g w (g.put br c (g.lo b) (g.hi b)) w:=⟨fun j c' hj=>by
  have:j≠br:=fun e=>by subst e;rw[hf] at hj;cases hj
  simp[Gh.put,this,hj],fun _ _ p=>⟨p,rfl⟩⟩
 have ne : ∀j x c',j≠b→m[j]? = some x→x.dz=true→g.bS j=some c'→c'≠c:=fun j x c' Cc hj ho fm e=>Cc (h.inj j b x _ c hj hb ho rfl (e▸fm) hc)
 obtain⟨c0,ob,vs,h1,h2,h3,h4,h5,h6⟩:=h.obs b _ _ hb
 rw[hc] at h1;cases h1
 refine⟨⟨fun j hj=> ?_,fun j hj=> ?_,fun j x kk hj hk=> ?_,fun j c' hj fm=> ?_,fun j q x x' c' hj hk ho ho' gG iE=> ?_,h.there,fun j kk ll hj=> ?_⟩,ext,⟨bj _,fun _ _ _=>rfl,fun _ _ p=>⟨p,rfl⟩,fun _ _ p=> .inl p,fun c' ho=> ?_,rfl,rfl,rfl⟩⟩
 · have hl:=bF hn
   simp only[dq] at hj
   rw[bo j (by omega)];exact h.vJ j hj
 · rcases get j _ hj with⟨_,e⟩ | e | ⟨hjn,_,e⟩
   · cases e
   · cases e
   · rw[bo j hjn];exact h.free j e
 · rcases get j _ hj with⟨_,e⟩ | e | ⟨hjn,Cc,e⟩
   · subst e;cases hk
   · subst e;cases hk
   · obtain⟨c1,cs1,e1,n1,q1,q2,q3,q4,q5⟩:=h.cells j x kk e hk
     exact⟨c1,cs1,e1,n1,(bo j hjn).trans q1,q2,q3,q4.mono ext,q5⟩
 · rcases get j _ hj with⟨_,e⟩ | e | ⟨hjn,Cc,e⟩
   · cases e
   · cases e
   · rw[bo j hjn] at fm
     obtain⟨cs1,e1,n1,q2,q3,q4,q5⟩:=h.tok j c' e fm
     have e1:(g.put br c (g.lo b) (g.hi b)).hi j=g.hi j:=by simp[Gh.put,hjn]
     have e2:(g.put br c (g.lo b) (g.hi b)).lo j=g.lo j:=by simp[Gh.put,hjn]
     rw[e1,e2]
     exact⟨cs1,_,n1,q2,q3,q4,q5⟩
 · rcases get j _ hj with⟨rfl,e⟩ | e | ⟨hjn,Cc,e⟩
   · rcases get q _ hk with⟨rfl,_⟩ | e' | ⟨hqn,hqb,e'⟩
     · rfl
     · subst e';simp[aU.dz] at ho'
     · rw[bi] at gG;cases gG
       rw[bo q hqn] at iE
       exact absurd rfl (ne q x' _ hqb e' ho' iE)
   · subst e;simp[aU.dz] at ho
   · rcases get q _ hk with⟨rfl,_⟩ | e' | ⟨hqn,hqb,e'⟩
     · rw[bi] at iE;cases iE
       rw[bo j hjn] at gG
       exact absurd rfl (ne j x _ Cc e ho gG)
     · subst e';simp[aU.dz] at ho'
     · rw[bo j hjn] at gG;rw[bo q hqn] at iE
       exact h.inj j q x x' c' e e' ho ho' gG iE
 · rcases get j _ hj with⟨rfl,e⟩ | e | ⟨hjn,Cc,e⟩
   · cases e
     exact⟨c,ob,vs,bi,h2,h3.mono ext,h4,h5,by simpa[Gh.put] using h6⟩
   · cases e
   · obtain⟨c1,o1,vs1,q1,q2,q3,q4,q5,q6⟩:=h.obs j kk ll e
     exact⟨c1,o1,vs1,(bo j hjn).trans q1,q2,q3.mono ext,q4,q5,by simpa[Gh.put,hjn] using q6⟩
 · obtain⟨j,x,hj,hx,MH⟩:=ho
   rcases get j _ hj with⟨rfl,e⟩ | e | ⟨hjn,Cc,e⟩
   · rw[bi] at MH;cases MH
     exact .inl ⟨b,_,hb,rfl,hc⟩
   · subst e;simp[aU.dz] at hx
   · rw[bo j hjn] at MH
     exact .inl ⟨j,x,e,hx,MH⟩
theorem xj {α:Type} : ∀(n l:List α) (o:Nat),o+n.length≤l.length→(cZ l o n).take (o+n.length)=l.take o++n
 |[],l,o,_=>by simp[cZ]
 |v::n,l,o,h=>by
  simp only[ma] at h
  have:=xj n (l.set o v) (o+1) (by simp;omega)
  simp only[cZ,ma]
  rw[show o+(n.length+1)=o+1+n.length by omega,this,List.take_succ_eq_append_getElem (by simp;omega),od,List.set_eq_of_length_le (by simp;omega)]
  simp
theorem DI (h:Rel g m w) {b c:Nat} {l:List AV} (hl:jx (m.getD b .dead)=some l) (hc:g.bS b=some c) :
  ∃cs e n,w.heap[c]? = some (.cells cs e n)∧n.2≤n.1∧cA g w l (cs.toList.take l.length)∧l.length≤cs.size ∧ ∀v∈cs.toList,v.oneCell'=true:=by
 have cells : ∀x,m[b]? = some x→x.cells?=some l → ∃cs e n,w.heap[c]? = some (.cells cs e n)∧n.2≤n.1∧cA g w l (cs.toList.take l.length)∧l.length≤cs.size ∧ ∀v∈cs.toList,v.oneCell'=true:=by
  intro x hx hxl
  obtain⟨c',cs,e,n,k1,k2,k3,k4,k5⟩:=h.cells b x l hx hxl
  rw[hc] at k1;cases k1
  have hlen:=k4.1.len
  simp only[ft] at hlen
  exact⟨cs,e,n,k2,k3,by rw[hlen,dk (by simp)];exact k4.1,by omega,k4.2⟩
 generalize hx:m.getD b .dead=x at hl
 unfold jx at hl
 split at hl
 · simp only[cp] at hl;subst hl
   exact cells _ (getD_some hx (by simp)) rfl
 · simp only[cp] at hl;subst hl
   exact cells _ (getD_some hx (by simp)) rfl
 · simp only[cp] at hl;subst hl
   obtain⟨c',ob,vs,k1,k2,k3,k4,_,_⟩:=h.obs b _ _ (getD_some hx (by simp))
   rw[hc] at k1;cases k1
   obtain⟨cs,e,n,rfl,_,q0,q1,q2,q3⟩:=k4
   have hlen:=k3.len
   exact⟨cs,e,n,k2,q0,by rw[hlen,←q1];exact k3,by omega,q3⟩
 · cases hl
theorem cA.abf {l:List PV} {vs:List Value} (h:HZ g w l vs):cA g w (l.map .p) vs:=bH.dF (by simpa using h.len) fun i a b=>by
 have:=h.get i (by simpa using a) b
 rw[df];exact .p _ _ this
theorem eV (h:Rel g m w) {sz n:Nat} {x:AV} {cx:Value} {l:List AV} (he:cO (fun i=>m.getD i .dead) sz x=some (n,l,true)) (hx:VA g w x cx) :
  ∃vs:List Value,cA g w l vs∧vs.length=n*sz∧(∀v∈vs,v.oneCell'=true)∧(kx cx).run P w = .ok n w ∧ ∀k,k≤n→(kv sz k cx).run P w = .ok (vs.take (k*sz)).toArray w:=by
 unfold cO at he
 split at he
 · rename_i n' aJ ok hc
   simp only[cp,ie] at he
   obtain⟨rfl,rfl,rfl⟩:=he
   obtain⟨vs,h1,h2,h3,h4,h5⟩:=fF (P:=P) h hc hx
   exact⟨vs,cA.abf h1,h2,h3,h4,h5⟩
 · split at he
   · rename_i b off len s cap _
     split at he
     · rename_i l0 hb
       simp only[cp,ie,ch,en] at he
       obtain⟨rfl,rfl,rfl,h1⟩:=he
       have h1:=eh h1
       cases hx with
       |ms _ _ _ _ cap c hc hcap=>
       obtain⟨c',cs,e,q,k1,k2,k3,k4,k5⟩:=h.cells b _ _ (getD_some hb (by simp)) rfl
       rw[hc] at k1;cases k1
       have hone:=k4.2
       have zK:=k4.1
       have hlen:=zK.len
       simp only[ft] at hlen
       have hvl:((cs.toList.drop off).take (len*s)).length=len*s:=by
        rw[du,List.length_drop,ft];omega
       refine⟨(cs.toList.drop off).take (len*s),nr ((zK.drop off).take (len*s)),hvl,fun v hv=>hone v (List.mem_of_mem_drop (da hv)),by simp[kx],fun k hk=> ?_⟩
       have hl:(((cs.toList.drop off).take (len*s)).take (k*s)).length=k*s:=by
        rw[du,hvl];exact pb (eQ _ hk)
       have:=run_loadCells_list (P:=P) w ⟨c,off,none⟩ (((cs.toList.drop off).take (len*s)).take (k*s)) (fun j v hj=>by
        rw[cP,bk k2]
        rw[c9] at hj
        split at hj
        · rw[c9] at hj
          split at hj
          · rw[dd] at hj;simpa using hj
          · cases hj
        · cases hj)
       rw[hl] at this
       simpa[kv] using this
     · cases he
   · cases he
theorem xk (h:Rel g m w) {sz n:Nat} {x:AV} {cx:Value} {l:List AV} (he:cO (fun i=>m.getD i .dead) sz x=some (n,l,true)) (hx:VA g w x cx) :
  ∃vs:List Value,cA g w l vs∧vs.length=n*sz∧(∀v∈vs,v.oneCell'=true)∧(kx cx).run P w.drew = .ok n w.drew ∧ ∀k,k≤n→(kv sz k cx).run P w.drew = .ok (vs.take (k*sz)).toArray w.drew:=by
 obtain⟨h1,h2,_⟩:=h.jL (w':=w.drew) rfl rfl rfl rfl
 obtain⟨vs,k1,k2,k3,k4,k5⟩:=eV (P:=P) h1 he (hx.mono h2)
 exact⟨vs,cA.mono (g:=g) (w:=w.drew) ⟨fun _ _ q=>⟨q,rfl,rfl⟩,fun c o p=>⟨p,(h2.pure c o p).2.symm⟩⟩ k1,k2,k3,k4,k5⟩
theorem DJ (K:aG) (h:Rel g m w) {br:Nat} (hn:m[br]? = some .free) {argTypes:Array TypeId} {ty sType xType elem:TypeId} {d:TypeDesc} {info:TypeInfo} {z:List AV} {x:AV} {cx:Value} {n:Nat} {aJ:List AV} {ad:Option Addr} {len cap:Nat} {l:List AV} {vs:List Value}
  (hs0:argTypes[0]? = some sType) (hx0:argTypes[1]? = some xType) (hu:P.underlying sType=some (.slice elem)) (sL:P.underlying xType=some d) (hd : ∀k,d ≠ .int k) (hi:P.info? elem=some info) (hz:zeroCells P elem=some z)
  (hx:VA g w x cx) (gi:cO (fun i=>m.getD i .dead) info.size x=some (n,aJ,true)) (h2:1≤info.size) (h3:z.length=info.size) (h4:(len+n)*info.bytes≤ef) (h5:len+n≤ef)
  (hl:cA g w l vs) (hone : ∀v∈vs,v.oneCell'=true) (hvl:vs.length=len*info.size) (jP:(kv info.size len (.slice ad len cap)).run P w.drew = .ok vs.toArray w.drew) (eg : ¬len+n≤cap)
  (hK : ∀(all:Array Value) (vx zs:List Value),cA g w aJ vx→all.toList=vs++vx++zs→(vs++vx).length≤all.size→(∀v∈all.toList,v.oneCell'=true)→(∀v∈zs,∃a∈z,VA g w a v)→all.size≤9223372036854775807*info.size→K.is (.cells all elem) (vs++vx)∧K.room (.cells all elem) all.size) :
  ∃newCap g' w',(((do pure (.value (←sa argTypes ty #[.slice ad len cap,cx])):Sem Next)).run P w) = .ok (.value (.slice (some ⟨w.heap.size,0,none⟩) (len+n) newCap)) w' ∧
   Rel g' (m.set br (.ob K (l++aJ))) w'∧Ext g w g' w'∧dc g m w g' (m.set br (.ob K (l++aJ))) w'∧VA g' w' (.ms br 0 (len+n) info.size none) (.slice (some ⟨w.heap.size,0,none⟩) (len+n) newCap):=by
 obtain⟨zv,z1,z2⟩:=dg (g:=g) (w:=w) hz
 have hzl:=z2.1.len
 simp only[ft] at hzl
 have hzs:zv.cells.size=info.size:=by omega
 have hsz:fZ P elem=some info.size:=by simp[fZ,hi]
 unfold ef at h4 h5
 obtain⟨_,_,_,_,l3,_⟩:=eV (P:=P) h gi hx
 obtain⟨vx,x1,x2,zO,x3,x4⟩:=xk (P:=P) h gi hx
 have x5:=x4 n (bj _)
 rw[dk (by omega)] at x5
 obtain⟨d1,d2,d3⟩:=h.jL (w':=w.drew) rfl rfl rfl rfl
 have kD:=kN (len+n) cap elem (w.tape w.drawn (.appendCap (len+n) cap elem))
 have hub:(rp (len+n) cap elem).cut (w.tape w.drawn (.appendCap (len+n) cap elem))≤9223372036854775807:=by
  have hlt:=pt (w.tape w.drawn (.appendCap (len+n) cap elem)) (show 0<2 ^ 63-(len+n) by omega)
  show len+n+w.tape w.drawn (.appendCap (len+n) cap elem)%(2 ^ 63-(len+n))≤9223372036854775807
  omega
 generalize hnc:(rp (len+n) cap elem).cut (w.tape w.drawn (.appendCap (len+n) cap elem))=newCap at kD hub
 have MQ:(rv zv.cells (newCap-(len+n))).size=(newCap-(len+n))*info.size:=by simp[rv,hzs]
 have hmul:(len+n)*info.size=len*info.size+n*info.size:=pf _ _ _
 have hall:(vs.toArray++vx.toArray++rv zv.cells (newCap-(len+n))).size=newCap*info.size:=by
  simp only[lh,nc,MQ,hvl,x2]
  rw[fe,hmul]
  have:=eQ info.size kD
  rw[hmul] at this
  omega
 have abh : ∀v∈(rv zv.cells (newCap-(len+n))).toList,v.oneCell'=true:=by
  intro v hv
  simp only[rv,fx,ed] at hv
  obtain⟨i,_,rfl⟩:=hv
  have hlt:i%zv.cells.size<zv.cells.size:=pt _ (by omega)
  rw[getElem!_pos zv.cells _ hlt]
  exact z2.2 _ (by simp)
 have afk : ∀v∈(rv zv.cells (newCap-(len+n))).toList,∃a∈z,VA g w a v:=by
  intro v hv
  simp only[rv,fx,ed] at hv
  obtain⟨i,_,rfl⟩:=hv
  have hlt:i%zv.cells.size<zv.cells.size:=pt _ (by omega)
  rw[getElem!_pos zv.cells _ hlt]
  have hz':i%zv.cells.size<z.length:=by omega
  exact⟨z[i%zv.cells.size],List.getElem_mem hz',by have:=z2.1.get (i%zv.cells.size) hz' (by simpa using hlt);rwa [Array.getElem_toList] at this⟩
 generalize Ca:vs.toArray++vx.toArray++rv zv.cells (newCap-(len+n))=all at hall
 have nu:all.toList=vs++vx++(rv zv.cells (newCap-(len+n))).toList:=by rw[←Ca];simp
 have wW:pQ w (w.drew.alloc (.cells all elem)) (.cells all elem):=⟨rfl,rfl,rfl,rfl⟩
 have zK:cA g w (l++aJ) (vs++vx):=hl.append x1
 have SC : ∀v∈all.toList,v.oneCell'=true:=fun v hv=>by
  rw[nu] at hv
  rcases mi.1 hv with q | q
  · rcases mi.1 q with q | q
    · exact hone v q
    · exact zO v q
  · exact abh v q
 have hKK:=hK all vx _ x1 nu (by rw[hall,de,hvl,x2,←hmul];exact eQ _ kD) SC afk (by rw[hall];exact eQ _ hub)
 obtain⟨r1,r2,r3⟩:=h.qJ all.size (ob:=K) (l:=l++aJ) (vs:=vs++vx) hn zK wW
  hKK.1 hKK.2
 refine⟨newCap,_,_,?_,r1,r2,r3,.mg br 0 _ _ newCap w.heap.size (by simp[Gh.put]) kD (by simp[Gh.put,hall])⟩
 have Wx : ¬(((len+n:Nat):Int)>rn.max):=by
  rw[show rn.max=9223372036854775807 from by decide];omega
 have hgrow : ¬(sb (len+n) cap*info.bytes>2 ^ 48):=by
  have:=growslice_fits (need:=len+n) (old:=cap) (bytes:=info.bytes) (by omega) (by omega)
  omega
 simp only[sa,hs0,hx0,mb,lv,lL,il,run_underlying hu,iu,aS hsz,run_underlying sL,im,oE,if_false,l3,eg,oR,Wx,false_and,iF hi,hgrow,run_choose,rr,hnc,rk,run_askRoom,jP,x5,z1,Ca,if_true,newRow,run_newObj,rf,rh]
theorem Cg (pq:Bool) (h:Rel g m w) {br:Nat} (hn:m[br]? = some .free) {argTypes:Array TypeId} {ty sType xType elem:TypeId} {d:TypeDesc} {info:TypeInfo} {z:List AV} {x:AV} {cx:Value} {n:Nat} {aJ:List AV} {ad:Option Addr} {len cap:Nat} {l:List AV} {vs:List Value}
  (hs0:argTypes[0]? = some sType) (hx0:argTypes[1]? = some xType) (hu:P.underlying sType=some (.slice elem)) (sL:P.underlying xType=some d) (hd : ∀k,d ≠ .int k) (hi:P.info? elem=some info) (hz:zeroCells P elem=some z)
  (hx:VA g w x cx) (gi:cO (fun i=>m.getD i .dead) info.size x=some (n,aJ,true)) (h2:1≤info.size) (h3:z.length=info.size) (h4:(len+n)*info.bytes≤ef) (h5:len+n≤ef)
  (hl:cA g w l vs) (hone : ∀v∈vs,v.oneCell'=true) (hvl:vs.length=len*info.size) (jP:(kv info.size len (.slice ad len cap)).run P w.drew = .ok vs.toArray w.drew) (eg : ¬len+n≤cap) :
  ∃newCap g' w',(((do pure (.value (←sa argTypes ty #[.slice ad len cap,cx])):Sem Next)).run P w) = .ok (.value (.slice (some ⟨w.heap.size,0,none⟩) (len+n) newCap)) w' ∧
   Rel g' (m.set br (.ob (.gr elem pq) (l++aJ))) w'∧Ext g w g' w'∧dc g m w g' (m.set br (.ob (.gr elem pq) (l++aJ))) w'∧VA g' w' (.ms br 0 (len+n) info.size none) (.slice (some ⟨w.heap.size,0,none⟩) (len+n) newCap):=
 DJ (.gr elem pq) h hn hs0 hx0 hu sL hd hi hz hx gi h2 h3 h4 h5 hl hone hvl jP eg fun all vx zs _ nu hle abi _ _=>
  ⟨⟨all,elem,(0,0),rfl,rfl,bj _,by rw[nu,mv (bj _),np],hle,abi⟩,rfl⟩
theorem iP : ∀{l:List AV} {vs:List Value},allBy l=true→cA g w l vs → ∀v∈vs,∃k,v = .int .u8 k
 |[],[],_,_=>fun v hv=>by cases hv
 |a::l,v::vs,h,k=>by
  simp only[allBy,ch] at h
  intro u hu
  cases hu with
  |head=>
   have hk:=k.1
   have h1:=h.1
   match a,h1,hk with
   |.p (.sc (.int .u8 n)),_,hk=>
    rw[VA.pv] at hk
    cases hk
    exact⟨n,rfl⟩
  |tail _ hu=>exact iP h.2 k.2 u hu
 |[],_::_,_,h=>h.elim
 |_::_,[],_,h=>h.elim
theorem Az : ∀{l:List AV},allBy l=true → ∀a∈l,allBy [a]=true
 |x::l,h,a,ha=>by
  simp only[allBy,ch] at h
  cases ha with
  |head=>simp[allBy,h.1]
  |tail _ ha=>exact Az h.2 a ha
theorem DK (h:Rel g m w) {br:Nat} (hn:m[br]? = some .free) {argTypes:Array TypeId} {ty sType xType elem:TypeId} {d:TypeDesc} {info:TypeInfo} {z:List AV} {x:AV} {cx:Value} {n:Nat} {aJ:List AV} {ad:Option Addr} {len cap:Nat} {l:List AV} {vs:List Value}
  (hs0:argTypes[0]? = some sType) (hx0:argTypes[1]? = some xType) (hu:P.underlying sType=some (.slice elem)) (sL:P.underlying xType=some d) (hd : ∀k,d ≠ .int k) (hi:P.info? elem=some info) (hz:zeroCells P elem=some z)
  (hx:VA g w x cx) (gi:cO (fun i=>m.getD i .dead) info.size x=some (n,aJ,true)) (h2:1≤info.size) (h3:z.length=info.size) (h4:(len+n)*info.bytes≤ef) (h5:len+n≤ef)
  (hl:cA g w l vs) (vN : ∀v∈vs,∃k,v = .int .u8 k) (Wz:info.size=1) (hbz:allBy z=true) (hbp:allBy aJ=true) (hvl:vs.length=len*info.size) (jP:(kv info.size len (.slice ad len cap)).run P w.drew = .ok vs.toArray w.drew) (eg : ¬len+n≤cap) :
  ∃newCap g' w',(((do pure (.value (←sa argTypes ty #[.slice ad len cap,cx])):Sem Next)).run P w) = .ok (.value (.slice (some ⟨w.heap.size,0,none⟩) (len+n) newCap)) w' ∧
   Rel g' (m.set br (.ob (.gb elem) (l++aJ))) w'∧Ext g w g' w'∧dc g m w g' (m.set br (.ob (.gb elem) (l++aJ))) w'∧VA g' w' (.ms br 0 (len+n) info.size none) (.slice (some ⟨w.heap.size,0,none⟩) (len+n) newCap):=
 DJ (.gb elem) h hn hs0 hx0 hu sL hd hi hz hx gi h2 h3 h4 h5 hl (fun v hv=>by obtain⟨k,rfl⟩:=vN v hv;rfl) hvl jP eg fun all vx zs hx1 nu hle _ hzs hsz=>
  ⟨⟨all,elem,(0,0),rfl,rfl,bj _,by rw[nu,mv (bj _),np],hle,fun v hv=>by
    rw[nu] at hv
    rcases mi.1 hv with q | q
    · rcases mi.1 q with q | q
      · exact vN v q
      · exact iP hbp hx1 v q
    · obtain⟨a,ha,zK⟩:=hzs v q
      exact iP (l:=[a]) (vs:=[v]) (Az hbz a ha) ⟨zK,trivial⟩ v (.head _),by rw[Wz,Nat.mul_one] at hsz;exact hsz⟩,rfl⟩
theorem run_append_room (h:Rel g m w) {argTypes:Array TypeId} {ty sType xType elem:TypeId} {d:TypeDesc} {info:TypeInfo} {x:AV} {cx:Value} {n:Nat} {aJ:List AV} {c len cap:Nat} {cs:Array Value} {e:TypeId} {q:Nat×Nat}
  (hs0:argTypes[0]? = some sType) (hx0:argTypes[1]? = some xType) (hu:P.underlying sType=some (.slice elem)) (sL:P.underlying xType=some d) (hd : ∀k,d ≠ .int k) (hi:P.info? elem=some info)
  (hx:VA g w x cx) (gi:cO (fun i=>m.getD i .dead) info.size x=some (n,aJ,true)) (hc:w.heap[c]? = some (.cells cs e q)) (hq:q.2≤q.1) (hroom:(len+n)*info.size≤cs.size) (eg:len+n≤cap) :
  ∃w' cs' vx,(((do pure (.value (←sa argTypes ty #[.slice (some ⟨c,0,none⟩) len cap,cx])):Sem Next)).run P w) = .ok (.value (.slice (some ⟨c,0,none⟩) (len+n) cap)) w' ∧
   cA g w aJ vx∧vx.length=n*info.size∧(∀v∈vx,v.oneCell'=true)∧cs'.toList=cZ cs.toList (len*info.size) vx∧w'.heap[c]? = some (.cells cs' e q) ∧
   (∀k,k≠c→w'.heap[k]? = w.heap[k]?)∧w'.heap.size=w.heap.size∧w'.os=w.os∧w'.tape=w.tape∧w'.output=w.output:=by
 have hsz:fZ P elem=some info.size:=by simp[fZ,hi]
 obtain⟨vx,x1,x2,zO,x3,x4⟩:=eV (P:=P) h gi hx
 have x5:=x4 n (bj _)
 rw[dk (by omega)] at x5
 have hmul:(len+n)*info.size=len*info.size+n*info.size:=pf _ _ _
 obtain⟨w',cs',p1,p2,p3,p4,p5,p6,p7,p8⟩:=ir (P:=P) c (len*info.size) vx 0 w cs e q hc (fun j hj=> .inl hq) (by omega) zO
 simp only[ph] at p3
 refine⟨w',cs',vx,?_,x1,x2,zO,p3,p2,p4,p5,p6,p7,p8⟩
 have Ww:(⟨c,0,none⟩:Addr).add (len*info.size)=⟨c,len*info.size,none⟩:=by rw[cP,pj]
 simp only[sa,hs0,hx0,mb,lv,lL,il,run_underlying hu,iu,aS hsz,run_underlying sL,im,oE,if_false,x3,eg,if_true,oR,x5,Ww,p1]
theorem nv {c len cap sz:Nat} {cs:Array Value} {e:TypeId} {q:Nat×Nat} (hc:w.heap[c]? = some (.cells cs e q)) (hl:len*sz≤cs.size) :
  (kv sz len (.slice (some ⟨c,0,none⟩) len cap)).run P w = .ok (cs.toList.take (len*sz)).toArray w:=by
 have:=run_loadCells_list (P:=P) w ⟨c,0,none⟩ (cs.toList.take (len*sz)) (fun j v hj=>by
  rw[cP,pj,bk hc]
  rw[c9] at hj
  split at hj
  · simpa using hj
  · cases hj)
 rw[du,ft,pb hl] at this
 simpa[kv] using this
theorem nw (h:Rel g m w) {br:Nat} (hn:m[br]? = some .free) {argTypes:Array TypeId} {ty sType xType elem t:TypeId} {d:TypeDesc} {info:TypeInfo} {z:List AV} {x:AV} {cs cx:Value} {b len n:Nat} {pq:Bool} {l aJ:List AV}
  (hs0:argTypes[0]? = some sType) (hx0:argTypes[1]? = some xType) (hu:P.underlying sType=some (.slice elem)) (sL:P.underlying xType=some d) (hd' : ∀k,d ≠ .int k) (hi:P.info? elem=some info) (hz:zeroCells P elem=some z)
  (hs:VA g w (.ms b 0 len info.size none) cs) (hx:VA g w x cx) (gi:cO (fun i=>m.getD i .dead) info.size x=some (n,aJ,true)) (vN:m[b]? = some (.ob (.gr t pq) l))
  (h2:1≤info.size) (h3:z.length=info.size) (h4:(len+n)*info.bytes≤ef) (h5:len+n≤ef) (h7:len*info.size≤l.length) (h8:t=elem) :
  cq g m w (((do pure (.value (←sa argTypes ty #[cs,cx])):Sem Next)).run P w) (.ms br 0 (len+n) info.size none) (apply m [(b,.dead),(br,.ob (.gr t (pq&&jE (fun i=>m.getD i .dead) info.size x)) (l.take (len*info.size)++aJ))]):=by
 subst h8
 cases hs with
 |mg _ _ _ _ cap c hc hcap hroom=>
 have hne:b≠br:=fun e=>by subst e;rw[vN] at hn;cases hn
 obtain⟨c',ob,vs,k1,k2,k3,k4,k5,k6⟩:=h.obs b _ _ vN
 rw[hc] at k1;cases k1
 obtain⟨cells,e,q,rfl,qt,q0,q1,q2,q3⟩:=k4
 have Au:=k3.len
 have k6:cells.size=g.hi b:=k6
 have hmul:(len+n)*info.size=len*info.size+n*info.size:=pf _ _ _
 by_cases eg:len+n≤cap
 · have Wv:(len+n)*info.size≤cap*info.size:=eQ _ eg
   obtain⟨w',cs',vx,r0,x1,x2,zO,p3,p2,p4,p5,p6,p7,p8⟩:=run_append_room (P:=P) (ty:=ty) h hs0 hx0 hu sL hd' hi hx gi k2 q0 (by omega) eg
   have Mh:=x1.len
   have hsize:cs'.size=cells.size:=by
    have:=congrArg nb p3
    rw[gH] at this;simpa using this
   have zK:cA g w (l.take (len*info.size)++aJ) (vs.take (len*info.size)++vx):=(k3.take _).append x1
   have htl:(vs.take (len*info.size)).length=len*info.size:=by rw[du];omega
   obtain⟨r1,r2,r3⟩:=h.gz (FM:= .gr t (pq&&jE (fun i=>m.getD i .dead) info.size x)) (l':=l.take (len*info.size)++aJ) (vs':=vs.take (len*info.size)++vx) vN hc p4 p5 p6 p7 p8 p2
    ⟨cs',e,q,rfl,qt,q0,by
      rw[de,htl,p3,xj vx cells.toList _ (by simp;omega),q1,mr,pb (by omega)],by rw[de,htl,x2,hsize];omega,fun v hv=>by
      rw[p3] at hv
      exact jM _ _ _ q3 zO v hv⟩ zK (by show cs'.size=g.hi b;rw[hsize];exact k6)
   have hb':(m.set b (.ob (.gr t (pq&&jE (fun i=>m.getD i .dead) info.size x)) (l.take (len*info.size)++aJ)))[b]? = some (.ob (.gr t (pq&&jE (fun i=>m.getD i .dead) info.size x)) (l.take (len*info.size)++aJ)):=by rw[ln (bF vN)]
   obtain⟨s1,s2,s3⟩:=r1.move hb' hc (by rw[lr hne];exact hn)
   rw[ml] at s1 s3
   exact⟨_,w',_,.inl r0,.mg br 0 _ _ cap c (by simp[Gh.put]) eg (by simp[Gh.put];omega),s1,r2.trans s2,r3.trans s3⟩
 · have jP:=nv (P:=P) (w:=w.drew) (c:=c) (len:=len) (cap:=cap) (sz:=info.size) k2 (by omega)
   have hvt:vs.take (len*info.size)=cells.toList.take (len*info.size):=by rw[q1,mr,pb (by omega)]
   obtain⟨newCap,g',w',r0,r1,r2,r3,r4⟩:=Cg (P:=P) (pq&&jE (fun i=>m.getD i .dead) info.size x) (ty:=ty) (l:=l.take (len*info.size)) (vs:=cells.toList.take (len*info.size)) h hn hs0 hx0 hu sL hd' hi hz hx gi h2 h3 h4 h5 (by rw[←hvt];exact k3.take _)
    (fun v hv=>q3 v (da hv)) (by rw[du,ft];omega) jP eg
   obtain⟨t1,t2⟩:=r1.kill b
   have e1:((m.set br (.ob (.gr t (pq&&jE (fun i=>m.getD i .dead) info.size x)) (l.take (len*info.size)++aJ))).set b .dead)=apply m [(b,.dead),(br,.ob (.gr t (pq&&jE (fun i=>m.getD i .dead) info.size x)) (l.take (len*info.size)++aJ))]:=by
    simp only[apply]
    exact ov _ _ (fun e=>hne e.symm)
   rw[e1] at t1 t2
   exact⟨_,w',g',.inl r0,r4,t1,r2,r3.trans t2⟩
theorem xl (h:Rel g m w) {br:Nat} (hn:m[br]? = some .free) {argTypes:Array TypeId} {ty sType xType elem t:TypeId} {d:TypeDesc} {info:TypeInfo} {z:List AV} {x:AV} {cs cx:Value} {b len n:Nat} {l aJ:List AV}
  (hs0:argTypes[0]? = some sType) (hx0:argTypes[1]? = some xType) (hu:P.underlying sType=some (.slice elem)) (sL:P.underlying xType=some d) (hd' : ∀k,d ≠ .int k) (hi:P.info? elem=some info) (hz:zeroCells P elem=some z)
  (hs:VA g w (.ms b 0 len info.size none) cs) (hx:VA g w x cx) (gi:cO (fun i=>m.getD i .dead) info.size x=some (n,aJ,true)) (vN:m[b]? = some (.ob (.gb t) l)) (Wz:info.size=1) (hbz:allBy z=true) (hbp:allBy aJ=true)
  (h2:1≤info.size) (h3:z.length=info.size) (h4:(len+n)*info.bytes≤ef) (h5:len+n≤ef) (h7:len*info.size≤l.length) (h8:t=elem) :
  cq g m w (((do pure (.value (←sa argTypes ty #[cs,cx])):Sem Next)).run P w) (.ms br 0 (len+n) info.size none) (apply m [(b,.dead),(br,.ob (.gb t) (l.take (len*info.size)++aJ))]):=by
 subst h8
 cases hs with
 |mg _ _ _ _ cap c hc hcap hroom=>
 have hne:b≠br:=fun e=>by subst e;rw[vN] at hn;cases hn
 obtain⟨c',ob,vs,k1,k2,k3,k4,k5,k6⟩:=h.obs b _ _ vN
 rw[hc] at k1;cases k1
 obtain⟨cells,e,q,rfl,qt,q0,q1,q2,q3,q4⟩:=k4
 have Au:=k3.len
 have k6:cells.size=g.hi b:=k6
 have hmul:(len+n)*info.size=len*info.size+n*info.size:=pf _ _ _
 by_cases eg:len+n≤cap
 · have Wv:(len+n)*info.size≤cap*info.size:=eQ _ eg
   obtain⟨w',cs',vx,r0,x1,x2,zO,p3,p2,p4,p5,p6,p7,p8⟩:=run_append_room (P:=P) (ty:=ty) h hs0 hx0 hu sL hd' hi hx gi k2 q0 (by omega) eg
   have Mh:=x1.len
   have hsize:cs'.size=cells.size:=by
    have:=congrArg nb p3
    rw[gH] at this;simpa using this
   have zK:cA g w (l.take (len*info.size)++aJ) (vs.take (len*info.size)++vx):=(k3.take _).append x1
   have htl:(vs.take (len*info.size)).length=len*info.size:=by rw[du];omega
   obtain⟨r1,r2,r3⟩:=h.gz (FM:= .gb t) (l':=l.take (len*info.size)++aJ) (vs':=vs.take (len*info.size)++vx) vN hc p4 p5 p6 p7 p8 p2
    ⟨cs',e,q,rfl,qt,q0,by
      rw[de,htl,p3,xj vx cells.toList _ (by simp;omega),q1,mr,pb (by omega)],by rw[de,htl,x2,hsize];omega,fun v hv=>by
      rw[p3] at hv
      exact jM (p:=fun v=> ∃k,v = .int .u8 k) _ _ _ q3 (iP hbp x1) v hv,by rw[hsize];exact q4⟩ zK (by show cs'.size=g.hi b;rw[hsize];exact k6)
   have hb':(m.set b (.ob (.gb t) (l.take (len*info.size)++aJ)))[b]? = some (.ob (.gb t) (l.take (len*info.size)++aJ)):=by rw[ln (bF vN)]
   obtain⟨s1,s2,s3⟩:=r1.move hb' hc (by rw[lr hne];exact hn)
   rw[ml] at s1 s3
   exact⟨_,w',_,.inl r0,.mg br 0 _ _ cap c (by simp[Gh.put]) eg (by simp[Gh.put];omega),s1,r2.trans s2,r3.trans s3⟩
 · have jP:=nv (P:=P) (w:=w.drew) (c:=c) (len:=len) (cap:=cap) (sz:=info.size) k2 (by omega)
   have hvt:vs.take (len*info.size)=cells.toList.take (len*info.size):=by rw[q1,mr,pb (by omega)]
   obtain⟨newCap,g',w',r0,r1,r2,r3,r4⟩:=DK (P:=P) (ty:=ty) (l:=l.take (len*info.size)) (vs:=cells.toList.take (len*info.size)) h hn hs0 hx0 hu sL hd' hi hz hx gi h2 h3 h4 h5 (by rw[←hvt];exact k3.take _)
    (fun v hv=>q3 v (da hv)) Wz hbz hbp (by rw[du,ft];omega) jP eg
   obtain⟨t1,t2⟩:=r1.kill b
   have e1:((m.set br (.ob (.gb t) (l.take (len*info.size)++aJ))).set b .dead)=apply m [(b,.dead),(br,.ob (.gb t) (l.take (len*info.size)++aJ))]:=by
    simp only[apply]
    exact ov _ _ (fun e=>hne e.symm)
   rw[e1] at t1 t2
   exact⟨_,w',g',.inl r0,r4,t1,r2,r3.trans t2⟩
theorem zP {m:Mem} {b sz:Nat} {t:TypeId} {pre:List Value} {l:List AV} {X:aU} {x:AV} {r:Nat×List AV×Bool} (hb:m[b]? = some (.ob (.stk t pre) l)) (h:cO (fun i=>m.getD i .dead) sz x=some r) :
  cO (fun i=>(m.set b X).getD i .dead) sz x=some r:=by
 have hd:m.getD b .dead = .ob (.stk t pre) l:=by rw[cb,hb];rfl
 have off : ∀i,i≠b→(m.set b X).getD i .dead=m.getD i .dead:=fun i hi=>by
  rw[cb,lr (fun e=>hi e.symm),cb]
 have same : ∀y,(∀o len s cap,y ≠ .ms b o len s cap)→contents (fun i=>(m.set b X).getD i .dead) sz y=contents (fun i=>m.getD i .dead) sz y:=fun y hy=>by
  cases y with
  |p v=>
   cases v with
   |sc u=>cases u<;>rfl
   |_=>rfl
  |ms b' o len s cap=>
   have hb':b'≠b:=fun e=>hy o len s cap (e▸rfl)
   cases cap with
   |none=>
    unfold contents
    dsimp only
    rw[off b' hb']
   |some q=>
    unfold contents
    dsimp only
    rw[off b' hb']
  |_=>rfl
 by_cases hx : ∃o len s cap,x = .ms b o len s cap
 · obtain⟨o,len,s,cap,rfl⟩:=hx
   exfalso
   unfold cO at h
   cases cap with
   |none=>
    have e:contents (fun i=>m.getD i .dead) sz (.ms b o len s none)=none:=by
     unfold contents
     dsimp only
     rw[hd]
    rw[e] at h
    cases h
   |some q=>
    have e:contents (fun i=>m.getD i .dead) sz (.ms b o len s (some q))=none:=by
     unfold contents
     dsimp only
     rw[hd]
    rw[e] at h
    dsimp only at h
    rw[hd] at h
    cases h
 · rw[←h]
   unfold cO
   rw[same x fun o len s cap e=>hx ⟨o,len,s,cap,e⟩]
   cases x with
   |ms b' o len s cap=>
    have hb':b'≠b:=fun e=>hx ⟨o,len,s,cap,e▸rfl⟩
    cases cap with
    |none=>rfl
    |some q=>
     dsimp only
     rw[off b' hb']
   |_=>rfl
theorem xm (h:Rel g m w) {br:Nat} (hn:m[br]? = some .free) {argTypes:Array TypeId} {ty:TypeId} {s x a:AV} {cs cx:Value} {us:mX}
  (hs:VA g w s cs) (hx:VA g w x cx) (he:fB P (fun i=>m.getD i .dead) br argTypes s x=some (a,us,true)) :
  cq g m w (((do pure (.value (←sa argTypes ty #[cs,cx])):Sem Next)).run P w) a (apply m us):=by
 unfold fB at he
 split at he
 · rename_i sType xType hs0 hx0
   split at he
   · cases he
   · rename_i elem d hd hu sL
     have hd' : ∀k,d ≠ .int k:=fun k e=>hd k e
     split at he
     · rename_i info z hi hz
       split at he
       · rename_i n aJ ok gi
         dsimp only at he
         split at he
         ·
          rename_i b len sz
          split at he
          · rename_i t pq l hb
            simp only[cp,ie,ch] at he
            obtain⟨rfl,rfl,⟨rfl,h2,h3,h4,h5⟩,h6,h7,h8⟩:=he
            have h6:=ag h6
            subst h6
            exact nw h hn hs0 hx0 hu sL hd' hi hz hs hx gi (getD_some hb (by simp)) (eh h2) (ag h3) (eh h4) (eh h5) (eh h7) (ag h8)
          ·
           rename_i t l hb
           simp only[cp,ie,ch] at he
           obtain⟨rfl,rfl,⟨rfl,h2,h3,h4,h5⟩,h6,h7,h8,Wz,h9,h10⟩:=he
           have h6:=ag h6
           subst h6
           have h7:=ag h7
           have hgb:=xl (ty:=ty) h hn hs0 hx0 hu sL hd' hi hz hs hx gi (getD_some hb (by simp)) (ag Wz) h9 h10 (eh h2) (ag h3) (eh h4) (eh h5) (pw h7) (ag h8)
           rwa [dk (pw h7.symm)] at hgb
          ·
           rename_i t pre l hb
           simp only[cp,ie,ch] at he
           obtain⟨rfl,rfl,⟨rfl,h2,h3,h4,h5⟩,h6,h7,h8,h9⟩:=he
           have h6:=ag h6
           subst h6
           have vN:=getD_some hb (by simp)
           have Sy:=bF vN
           have hne:b≠br:=fun e=>by subst e;rw[vN] at hn;cases hn
           have h7':=eh h7
           have h9':=eh h9
           obtain⟨hg,hst⟩:=h.F1 vN
           have hgn:(m.set b (.ob (.gr t false) (exactly pre++l)))[br]? = some .free:=by rw[lr hne];exact hn
           obtain⟨v,w',g',o1,o2,o3,o4,o5⟩:=nw (P:=P) (ty:=ty) hg hgn hs0 hx0 hu sL hd' hi hz hs hx (zP (X:= .ob (.gr t false) (exactly pre++l)) vN gi) (by rw[ln Sy]) (eh h2) (ag h3) (eh h4) (eh h5)
            (by rw[de,bL];exact h7') (ag h8)
           have abk:(exactly pre++l).take (len*info.size)++aJ=exactly pre++(l.take (len*info.size-pre.length)++aJ):=by
            rw[List.take_append,bL,dk (by rw[bL];exact h9'),List.append_assoc]
           simp only[apply,ml] at o3 o5
           rw[abk] at o3 o5
           have hnl:br<(m.set b .dead).length:=by rw[dq];exact bF hn
           obtain⟨z1,z2⟩:=o3.ML (b:=br) (by rw[ln hnl])
           rw[ml] at z1 z2
           exact⟨v,w',g',o1,o2,z1,o4,(hst.trans o5).trans z2⟩
          · cases he
         ·
          rename_i len sz cells
          split at he
          · rename_i hn0
            simp only[cp,ie,ch] at he
            obtain⟨rfl,rfl,rfl,_⟩:=he
            have hn0:=ag hn0
            subst hn0
            have hvs:=hs
            cases hs with
            |os _ _ _ _ ad cap hps zE=>
            have hcap:cap=len:=by
             rcases zE with e | ⟨t,b,o,e,_⟩
             · exact e
             · cases e
            subst hcap
            have hsz:fZ P elem=some info.size:=by simp[fZ,hi]
            obtain⟨vx,_,_,_,x3,x4⟩:=eV (P:=P) h gi hx
            have x5:=x4 0 (bj _)
            simp only[Nat.zero_mul,List.take_zero] at x5
            refine cq.quiet h (v:= .slice ad cap cap) ?_ hvs
            cases ad with
            |none=>simp[sa,hs0,hx0,run_underlying hu,aS hsz,run_underlying sL,x3,x5,pa]
            |some ad=>simp[sa,hs0,hx0,run_underlying hu,aS hsz,run_underlying sL,x3,x5,storeCells,pa]
          rename_i hn0
          split at he
          · rename_i hu8
            simp only[cp,ie,ch] at he
            obtain⟨rfl,rfl,⟨rfl,h2,h3,h4,h5⟩,h6,SD,Wz,hb2,hb3⟩:=he
            have h1:1≤n:=by
             rcases pn n with e | e
             · subst e;cases hn0
             · exact e
            have h2:=eh h2
            have h3:=ag h3
            have h4:=eh h4
            have h5:=eh h5
            cases hs with
            |os _ _ _ _ ad cap hps zE=>
            have hcap:cap=len:=by
             rcases zE with e | ⟨t,b,o,e,_⟩
             · exact e
             · cases e
            subst hcap
            have DE:=jm hps h6
            obtain⟨d1,d2,d3⟩:=h.jL (w':=w.drew) rfl rfl rfl rfl
            obtain⟨vs,s1,s2,SB,s3,s4⟩:=lf (P:=P) (DE.mono d2.pure)
            have s5:=s4 cap (bj _)
            rw[dk (by omega)] at s5
            have MO:=s1.len
            have zK:cA g w (cells.map .p) vs:=bH.dF (by simpa using MO) fun i a b=>by
             have:=s1.get i (by simpa using a) b
             rw[df]
             exact .p _ _ (this.mono (g:=g) (w:=w.drew) fun c o p=>⟨p,(d2.pure c o p).2.symm⟩)
            obtain⟨newCap,g',w',r0,r1,r2,r3,r4⟩:=DK (P:=P) (ty:=ty) (l:=cells.map .p) (vs:=vs) (cap:=cap) h hn hs0 hx0 hu sL hd' hi hz hx gi h2 h3 h4 h5 zK (iP SD zK) (ag Wz) hb2 hb3 s2 s5 (by omega)
            exact⟨_,w',g',.inl r0,r4,r1,r2,r3⟩
          · rename_i hu8
            simp only[cp,ie,ch] at he
            obtain⟨rfl,rfl,⟨rfl,h2,h3,h4,h5⟩,h6⟩:=he
            have h1:1≤n:=by
             rcases pn n with e | e
             · subst e;cases hn0
             · exact e
            have h2:=eh h2
            have h3:=ag h3
            have h4:=eh h4
            have h5:=eh h5
            cases hs with
            |os _ _ _ _ ad cap hps zE=>
            have hcap:cap=len:=by
             rcases zE with e | ⟨t,b,o,e,_⟩
             · exact e
             · cases e
            subst hcap
            have DE:=jm hps h6
            obtain⟨d1,d2,d3⟩:=h.jL (w':=w.drew) rfl rfl rfl rfl
            obtain⟨vs,s1,s2,SB,s3,s4⟩:=lf (P:=P) (DE.mono d2.pure)
            have s5:=s4 cap (bj _)
            rw[dk (by omega)] at s5
            have MO:=s1.len
            have zK:cA g w (cells.map .p) vs:=bH.dF (by simpa using MO) fun i a b=>by
             have:=s1.get i (by simpa using a) b
             rw[df]
             exact .p _ _ (this.mono (g:=g) (w:=w.drew) fun c o p=>⟨p,(d2.pure c o p).2.symm⟩)
            obtain⟨newCap,g',w',r0,r1,r2,r3,r4⟩:=Cg (P:=P) (jE (fun i=>m.getD i .dead) info.size x) (ty:=ty) (l:=cells.map .p) (vs:=vs) (cap:=cap) h hn hs0 hx0 hu sL hd' hi hz hx gi h2 h3 h4 h5 zK SB s2 s5 (by omega)
            exact⟨_,w',g',.inl r0,r4,r1,r2,r3⟩
         ·
          rename_i b len sz cap
          split at he
          · rename_i l hl
            cases hs with
            |ms _ _ _ _ cap c hc hcap=>
            obtain⟨cells,e,q,k2,q0,k3,q2,q3⟩:=DI h hl hc
            have hmul:(len+n)*info.size=len*info.size+n*info.size:=pf _ _ _
            cases hr:ai (len+n) cap with
            |true=>
             have eg:=eh hr
             simp only[hr,cond_true] at he
             split at he
             · rename_i b' ok' hp
               simp only[cp,ie,ch] at he
               obtain⟨rfl,rfl,⟨rfl,h2,h3,h4,h5⟩,rfl,h6⟩:=he
               have h6:=ag h6
               subst h6
               obtain⟨vx0,x0,x2',_⟩:=eV (P:=P) h gi hx
               have ai9:=x0.len
               have hroom:len*info.size+aJ.length≤l.length:=by
                rcases jO hp with⟨l',pS,_,hroom⟩ | ⟨t0,pq,l',pS,_,hroom⟩ | ⟨t0,pre,l',pS,_,_,hroom⟩
                rotate_left 2
                · have pS:m.getD b .dead = .ob (.stk t0 pre) l':=pS
                  rw[pS] at hl;cases hl
                · have:l'=l:=by
                   generalize m.getD b .dead=B at hl pS
                   cases B<;>simp_all [jx,aU.cells?]
                  rw[←this];exact hroom
                · have pS:m.getD b .dead = .ob (.gr t0 pq) l':=pS
                  have:l'=l:=by
                   have hl:jx (m.getD b .dead)=some l:=hl
                   rw[pS] at hl;simpa[jx] using hl
                  rw[←this];rw[wQ] at hroom;exact hroom
               have WA:(len+n)*info.size≤cells.size:=by omega
               obtain⟨w',cs',vx,r0,x1,x2,zO,p3,p2,p4,p5,p6,p7,p8⟩:=run_append_room (P:=P) (ty:=ty) h hs0 hx0 hu sL hd' hi hx gi k2 q0 WA eg
               have Mh:=x1.len
               have hxa:cA g w aJ vx:=x1
               rcases jO hp with⟨l',pS,MV,F3⟩ | ⟨t0,pq,l',pS,rfl,F3⟩ | ⟨t0,pre,l',pS,rfl,_,F3⟩
               rotate_left 2
               · have pS:m.getD b .dead = .ob (.stk t0 pre) l':=pS
                 rw[pS] at hl;cases hl
               · have hm:m[b]? = some (m.getD b .dead):=getD_some rfl (fun e=>by
                  have pS:(m.getD b .dead).cells?=some l':=pS
                  rw[e] at pS;cases pS)
                 obtain⟨c',cs0,e0,q0',y1,y2,y3,y4,y5⟩:=h.cells b _ l' hm pS
                 rw[hc] at y1;cases y1
                 rw[k2] at y2;cases y2
                 obtain⟨r1,r2,r3⟩:=h.write (b':=b') hm pS hc MV p4 p5 p6 p7 p8 p2 y3 (by rw[p3];exact⟨y4.1.cZ _ hxa,jM _ _ _ y4.2 zO⟩)
                 exact⟨_,w',g,.inl r0,.ms b 0 _ _ cap c hc eg,r1,r2,r3⟩
               · have hm:m[b]? = some (.ob (.gr t0 pq) l'):=getD_some pS (by simp)
                 obtain⟨r1,r2,r3⟩:=h.wR hm hc k2 (wP hxa) zO F3 p3 p4 p5 p6 p7 p8 p2
                 exact⟨_,w',g,.inl r0,.ms b 0 _ _ cap c hc eg,r1,r2,r3⟩
             · cases he
            |false=>
             have eg : ¬len+n≤cap:=fun k=>by rw[pk k] at hr;cases hr
             simp only[hr,cond_false,cp,ie,ch] at he
             obtain⟨rfl,rfl,⟨rfl,h2,h3,h4,h5⟩,h6,h7⟩:=he
             have h2:=eh h2
             have h3:=ag h3
             have h4:=eh h4
             have h5:=eh h5
             have h6:=ag h6
             have h7:=eh h7
             subst h6
             have jP:=nv (P:=P) (w:=w.drew) (c:=c) (len:=len) (cap:=cap) (sz:=info.size) k2 (by omega)
             obtain⟨newCap,g',w',r0,r1,r2,r3,r4⟩:=Cg (P:=P) (aa6 (m.getD b .dead)&&jE (fun i=>m.getD i .dead) info.size x) (ty:=ty) (l:=l.take (len*info.size)) (vs:=cells.toList.take (len*info.size)) h hn hs0 hx0 hu sL hd' hi hz hx gi h2 h3 h4 h5
              (by have:=k3.take (len*info.size);rwa [mr,pb h7] at this)
              (fun v hv=>q3 v (da hv)) (by rw[du,ft];omega) jP eg
             exact⟨_,w',g',.inl r0,r4,r1,r2,r3⟩
          · cases he
         · cases he
       · cases he
     · cases he
   · cases he
 · cases he
theorem ur {s:AV} {cs:Value} (h:VA g w s cs):VA g w (m5 s) cs:=by
 unfold m5
 split
 · rw[VA.pv] at h
   cases h with
   |ps _ _ _ b o cap f hl hc hz hp hv=>omega
   |pP sz a cap hz=>
    obtain⟨rfl,rfl⟩:=hz.resolve_left (by omega)
    exact .os none 0 0 [] none 0 (.pP 0 none 0 (.inr ⟨rfl,rfl⟩)) (.inl rfl)
 · exact h
end
section
variable {P:Program} {g:Gh} {m:Mem} {w:World}
theorem DL {x:AV} {cx:Value} {b:Bool} (hx:VA g w x cx) (h:HU x=some b) : ∃a len cap,cx = .slice a len cap∧a.isNone=b:=by
 have key : ∀{len sz:Nat} {cs:List PV} {cx:Value},VP g w (.ps len sz cs) cx→cond (ai 1 len) (some false) (cond (Nat.beq sz 0) (some true) none)=some b → ∃a len cap,cx = .slice a len cap∧a.isNone=b:=by
  intro len sz cs cx hx h
  cases hl:ai 1 len with
  |true=>
   simp only[hl,cond_true,cp] at h
   subst h
   have hl:=eh hl
   cases hx with
   |ps _ _ _ b o cap f hl hc hz hp hv=>exact⟨_,_,_,rfl,rfl⟩
   |pP sz a cap hz=>omega
  |false=>
   simp only[hl,cond_false] at h
   cases hs:Nat.beq sz 0 with
   |false=>simp[hs] at h
   |true=>
    simp only[hs,cond_true,cp] at h
    subst h
    have hs:=ag hs
    subst hs
    cases hx with
    |ps _ _ _ b o cap f hl hc hz hp hv=>omega
    |pP sz a cap hz=>
     obtain⟨rfl,_⟩:=hz.resolve_left (by omega)
     exact⟨_,_,_,rfl,rfl⟩
 unfold HU at h
 split at h
 · rw[VA.pv] at hx;exact key hx h
 · cases hx with
   |os _ _ _ _ a cap hx hr=>exact key hx h
 · cases hx with
   |ms _ _ _ _ cap c hc hcap=>
    simp only[cp] at h
    exact⟨_,_,_,rfl,h⟩
   |mg _ _ _ _ cap c hc hcap=>
    simp only[cp] at h
    exact⟨_,_,_,rfl,h⟩
 · cases h
set_option linter.unusedVariables false in
theorem vh {ρ:Operand→AV} {bX:Operand→Value} (hr : ∀x,VA g w (ρ x) (bX x)) {o:Oper} {op:BinOp} {t yt:TypeId} {x y:Operand} (ho:o.op = .binOp op t x y yt) (hsame:BW (ρ x) (ρ y)=true)
  {a:AV} {us:mX} {ok:Bool} (he:om P op t=some (a,us,ok)):us=[] ∧ ∃v,(execOp bX o).run P w = .ok (.value v) w∧VA g w a v:=by
 unfold om at he
 cases he
set_option linter.unusedVariables false in
theorem qU {x a:AV} {cx:Value} (hx:VA g w x cx) {us:mX} {ts:Array TypeId} {ty:TypeId} (he:m7 x=some (a,us,true)) :
  us=[] ∧ ∃v,(Builtin.unsafeSliceData_ ts ty #[cx]).run P w = .ok v w∧VA g w a v:=by
 unfold m7 at he
 cases he
set_option linter.unusedVariables false in
theorem ny (h:Rel g m w) {x n a:AV} {cx cn:Value} (hx:VA g w x cx) (hn:VA g w n cn) {us:mX} {ts:Array TypeId} {ty:TypeId} (he:eL P (fun i=>m.getD i .dead) ts.toList x n=some (a,us,true)) :
  cq g m w (((do pure (.value (←Builtin.unsafeString_ ts ty #[cx,cn])):Sem Next)).run P w) a (apply m us):=by
 unfold eL at he
 cases he
end
end Go.Am
end
