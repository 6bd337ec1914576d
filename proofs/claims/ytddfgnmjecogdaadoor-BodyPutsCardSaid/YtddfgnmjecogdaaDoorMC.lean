/-
Operations that make or write blocks.
Appends, copies, conversions of texts.
Maps whose keys are arrays or structs, up to the order of their entries: the operations.
Maps whose keys are integers, strings or bools; comparisons with nil: the operations.
Lists that may have more room than is told: 'append' to lists that are written later.
What strings.Builder does with addresses: compared with itself; the address of a list's first element; the string of bytes that are written no more.
-/
import Derived.Test.YtddfgnmjecogdaaDoorMB
import Derived.IntWalk
import Derived.Lib.Builder
import Derived.DeepKeys3
import Derived.MapKept
import Derived.Lib.UnsafeStr
section
namespace Go.Am
open Go.RowKit
theorem heap_setCell {w:World} {c o:Nat} {v:Value} {cs:Array Value} {e:TypeId} {n:Nat×Nat} (h:w.heap[c]? = some (.cells cs e n)) :
  (w.setCell ⟨c,o,none⟩ v).heap[c]? = some (.cells (cs.setIfInBounds o v) e n) ∧ ∀k,k≠c→(w.setCell ⟨c,o,none⟩ v).heap[k]? = w.heap[k]? :=by
 refine⟨?_,fun k hk=>Below.heap_setCell _ _ _ _ hk⟩
 simp[World.setCell,Array.getElem?_modify,h]
section ops
variable {P:Program} {g:Gh} {m:Mem} {w:World}
theorem eU (c off:Nat) : ∀(vs:List Value) (i:Nat) (w:World) (cs:Array Value) (e:TypeId) (n:Nat×Nat),w.heap[c]? = some (.cells cs e n) →
  (∀j,j<vs.length→n.2≤n.1∨off+i+j<n.1)→off+i+vs.length≤cs.size→(∀v∈vs,v.oneCell'=true) →
  ∃w' cs',(storeCells ⟨c,off,none⟩ vs i).run P w = .ok () w'∧w'.heap[c]? = some (.cells cs' e n)∧cs'.toList=bN cs.toList (off+i) vs∧(∀k,k≠c→w'.heap[k]? = w.heap[k]?) ∧
   w'.heap.size=w.heap.size∧w'.os=w.os∧w'.tape=w.tape∧w'.output=w.output
 |[],i,w,cs,e,n,h,_,_,_=>⟨w,cs,rfl,h,rfl,fun _ _=>rfl,rfl,rfl,rfl,rfl⟩
 |v::vs,i,w,cs,e,n,h,hf,hl,h1=>by
  simp only[List.length_cons] at hl
  obtain⟨k1,k2⟩:=heap_setCell (o:=off+i) (v:=v) h
  have hcell:w.cell? ⟨c,off+i,none⟩=some cs[off+i]:=by rw[aD h,Array.getElem?_eq_getElem (by omega)]
  have hfz:w.frozen? ⟨c,off+i,none⟩=false:=by
   have:=hf 0 (by simp)
   simp only[World.frozen?,h,Bool.and_eq_false_iff,decide_eq_false_iff_not]
   omega
  obtain⟨w',cs',q1,q2,q3,q4,q5,q6,q7,q8⟩:=eU c off vs (i+1) (w.setCell ⟨c,off+i,none⟩ v) (cs.setIfInBounds (off+i) v) e n k1
   (fun j hj=>by have:=hf (j+1) (by simp;omega);omega) (by simp;omega) (fun u hu=>h1 u (.tail _ hu))
  refine⟨w',cs',?_,q2,?_,fun k hk=>(q4 k hk).trans (k2 k hk),q5.trans (by simp),q6,q7,q8⟩
  · simp only[storeCells,Sem.run_bind,bw,run_store P w _ v _ (h1 v (.head _)),hcell,hfz,Bool.false_eq_true,if_false,Result.andThen_ok,q1]
  · rw[q3];simp[bN,Nat.add_assoc]
theorem pM {α:Type} (f:Nat→α) (n:Nat) (h:n=0):((Array.range n).map f).toList=[]:=by subst h;simp
theorem fA {α:Type} : ∀(n l:List α) (o:Nat),(bN l o n).length=l.length
 |[],_,_=>rfl
 |x::n,l,o=>by simp[bN,fA n]
theorem vR {α β:Type} (f:α→β) : ∀(n l:List α) (o:Nat),(bN l o n).map f=bN (l.map f) o (n.map f)
 |[],_,_=>rfl
 |x::n,l,o=>by simp[bN,vR f n,List.map_set]
theorem pN {α:Type} : ∀(n l:List α) (o k:Nat),k<o∨o+n.length≤k→(bN l o n)[k]? = l[k]?
 |[],_,_,_,_=>rfl
 |x::n,l,o,k,h=>by
  simp only[List.length_cons] at h
  rw[bN,pN n _ (o+1) k (by omega),List.getElem?_set_ne (by omega)]
theorem vS {α:Type} : ∀(n l:List α) (o k:Nat) (_:k<n.length),o+n.length≤l.length→(bN l o n)[o+k]? = n[k]?
 |x::n,l,o,0,_,h=>by
  simp only[List.length_cons] at h
  simp only[bN,Nat.add_zero]
  rw[pN n _ (o+1) o (.inl (Nat.lt_succ_self _)),List.getElem?_set_self (by omega)]
  rfl
 |x::n,l,o,k+1,hk,h=>by
  simp only[List.length_cons] at h
  have hk:k<n.length:=by simpa using hk
  simp only[bN,show o+(k+1)=o+1+k by omega]
  rw[vS n _ (o+1) k hk (by rw[List.length_set];omega)]
  simp
 |[],_,_,_,hk,_=>by simp at hk
theorem vT {g:Gh} {w:World} {v:AV} {cv:Value} (h:VA g w v cv):VA g w (vC v) cv:=by
 unfold vC
 split
 · cases h with
   |os tok len sz cells a cap h hr=>exact .p _ _ h
 · exact h
theorem jq {g:Gh} {w:World} : ∀{l:List AV} {cs:List Value},bM g w l cs→bM g w (l.map vC) cs
 |[],[],_=>trivial
 |_::_,_::_,h=>⟨vT h.1,jq h.2⟩
 |[],_::_,h=>h.elim
 |_::_,[],h=>h.elim
theorem pO {g:Gh} {w:World} {q:Bool} {l:List AV} {cs:List Value} (h:bM g w l cs):bM g w (A4 q l) cs:=by
 cases q with
 |true=>exact jq h
 |false=>exact h
theorem pP (q:Bool) (l:List AV):(A4 q l).length=l.length:=by
 cases q with
 |true=>exact List.length_map ..
 |false=>rfl
theorem gd {b b':av} {off:Nat} {vs:List AV} (h:lJ b off vs=some (b',true)):(∃l,b.cells?=some l∧b'.cells?=some (bN l off vs)∧off+vs.length≤l.length) ∨
  ∃t q l,b = .ob (.gr t q) l∧b' = .ob (.gr t q) (bN l off (A4 q vs))∧off+(A4 q vs).length≤l.length:=by
 unfold lJ at h
 split at h
 · rename_i l
   split at h
   · rename_i bQ hp
     simp only[Option.some.injEq,Prod.mk.injEq] at h
     obtain⟨rfl,h1⟩:=h
     refine .inl ⟨l.map .p,rfl,?_,by simpa using Nat.le_of_ble_eq_true h1⟩
     simp[av.cells?,vR,lU hp]
   · simp only[Option.some.injEq,Prod.mk.injEq] at h
     obtain⟨rfl,h1⟩:=h
     exact .inl ⟨l.map .p,rfl,rfl,by simpa using Nat.le_of_ble_eq_true h1⟩
 · rename_i l
   simp only[Option.some.injEq,Prod.mk.injEq] at h
   obtain⟨rfl,h1⟩:=h
   exact .inl ⟨l,rfl,rfl,Nat.le_of_ble_eq_true h1⟩
 · rename_i t pq l
   simp only[Option.some.injEq,Prod.mk.injEq] at h
   obtain⟨rfl,h1⟩:=h
   exact .inr ⟨_,_,l,rfl,rfl,by rw[pP];exact Nat.le_of_ble_eq_true h1⟩
 · cases h
theorem sK {α:Type} : ∀(n l:List α) (o k:Nat),o+n.length≤k→(bN l o n).take k=bN (l.take k) o n
 |[],_,_,_,_=>rfl
 |v::n,l,o,k,h=>by
  simp only[List.length_cons] at h
  simp only[bN]
  rw[sK n (l.set o v) (o+1) k (by omega),List.take_set]
theorem Rel.vU {m:Mem} {w w':World} (h:Rel g m w) {b c:Nat} {k xs:List AV} {us:List Value} {off:Nat} {cs cs':Array Value} {e t:TypeId} {pq:Bool} {n:Nat×Nat} (hb:m[b]? = some (.ob (.gr t pq) k)) (hc:g.aN b=some c) (hcs:w.heap[c]? = some (.cells cs e n))
  (hx:bM g w xs us) (hone : ∀v∈us,v.oneCell'=true) (hroom:off+xs.length≤k.length) (hl:cs'.toList=bN cs.toList off us)
  (hw : ∀j,j≠c→w'.heap[j]? = w.heap[j]?) (hs:w'.heap.size=w.heap.size) (ho:w'.os=w.os) (ht:w'.tape=w.tape) (hu:w'.output=w.output) (hh:w'.heap[c]? = some (.cells cs' e n)) :
  Rel g (m.set b (.ob (.gr t pq) (bN k off xs))) w'∧Ext g w g w'∧bO g m w g (m.set b (.ob (.gr t pq) (bN k off xs))) w':=by
 obtain⟨c',ob,vs,h1,h2,h3,h4,h5,h6⟩:=h.obs b _ _ hb
 rw[hc] at h1;cases h1
 obtain⟨cs0,e0,n0,rfl,qt,q0,q1,q2,q3⟩:=h4
 rw[hcs] at h2;cases h2
 have j8:=h3.len
 have hxl:=hx.len
 have hsz:cs'.size=cs.size:=by
  have:=congrArg List.length hl
  rw[fA] at this;simpa using this
 have hvl:(bN vs off us).length=vs.length:=fA _ _ _
 refine h.eE (xO:= .gr t pq) (l':=bN k off xs) (vs':=bN vs off us) hb hc hw hs ho ht hu hh ⟨cs',e,n,rfl,qt,q0,?_,by omega,fun v hv=> ?_⟩ (h3.bN off hx) (by show cs'.size=g.hi b;rw[hsz];exact h6)
 · rw[hvl,hl,sK us cs.toList off vs.length (by omega),←q1]
 · rw[hl] at hv
   exact fZ _ _ _ q3 hone v hv
theorem rN (h:Rel g m w) {t:TypeId} {a v r:AV} {ca cv:Value} {us:iX} (ha:VA g w a ca) (hv:VA g w v cv) (he:lK P (fun i=>m.getD i .dead) t a v=some (r,us,true)) :
  ∃w',(Instr.storeAt t ca cv).run P w = .ok () w'∧r = .aO []∧Rel g (apply m us) w'∧Ext g w g w'∧bO g m w g (apply m us) w':=by
 unfold lK at he
 split at he
 · rename_i b off n hsz
   split at he
   · rename_i b' ok hp
     simp only[Option.some.injEq,Prod.mk.injEq,Bool.and_eq_true,Nat.beq_eq] at he
     obtain⟨rfl,rfl,⟨rfl,h1⟩,h2⟩:=he
     obtain⟨k1,k2⟩:=gP h1 hv
     cases ha with
     |mp _ _ c hc=>
     have hsize:cv.cells.size=n:=by have j8:=k1.len;simp at j8;omega
     rcases gd hp with⟨l,hl,hl',hroom⟩ | ⟨t0,pq,l,hl,rfl,hroom⟩
     case inr=>
      have hm:m[b]? = some (.ob (.gr t0 pq) l):=getD_some hl (by simp)
      obtain⟨c',ob,vs,h1',h2',h3',h4',M4,M5⟩:=h.obs b _ _ hm
      rw[hc] at h1';cases h1'
      obtain⟨cs,e,q,rfl,_,q0,q1,q2,q3⟩:=h4'
      have hlen:=h3'.len
      have j8:=k1.len
      have E8:=hroom
      rw[pP] at E8
      simp at j8
      obtain⟨w',cs',p1,p2,p3,p4,p5,p6,p7,p8⟩:=eU (P:=P) c off cv.cells.toList 0 w cs e q h2' (fun _ _=> .inl q0) (by simp;omega) k2
      simp only[Nat.add_zero] at p3
      obtain⟨r1,r2,r3⟩:=h.vU hm hc h2' (pO k1) k2 hroom p3 p4 p5 p6 p7 p8 p2
      exact⟨w',by simp[Instr.storeAt,Instr.sureAddr,storeVar,az hsz,hsize,p1],rfl,r1,r2,r3⟩
     have hm:m[b]? = some (m.getD b .dead):=getD_some rfl (fun e=>by
      have hl:(m.getD b .dead).cells?=some l:=hl
      rw[e] at hl;cases hl)
     obtain⟨c',cs,e,q,q1,q2,q3,q4,q5⟩:=h.cells b _ l hm hl
     rw[hc] at q1;cases q1
     have hlen:=q4.1.len
     have j8:=k1.len
     simp at hlen j8
     obtain⟨w',cs',p1,p2,p3,p4,p5,p6,p7,p8⟩:=eU (P:=P) c off cv.cells.toList 0 w cs e q q2 (fun _ _=> .inl q3) (by simp;omega) k2
     simp only[Nat.add_zero] at p3
     obtain⟨r1,r2,r3⟩:=h.write (b':=b') hm hl hc hl' p4 p5 p6 p7 p8 p2 q3 (by rw[p3];exact⟨q4.1.bN off k1,fZ _ _ _ q4.2 k2⟩)
     refine⟨w',?_,rfl,r1,r2,r3⟩
     simp[Instr.storeAt,Instr.sureAddr,storeVar,az hsz,hsize,p1]
   · cases he
 · cases he
theorem rO (h:Rel g m w) {aF:Nat} (hn:m[aF]? = some .free) {t:TypeId} {a:AV} {us:iX} {ok:Bool} (he:tV P aF t=some (a,us,ok)) {ty:TypeId} {pos:String} {o:Oper} {aV:Operand→Value} (ho:o.op = .alloc t) (_:ty=ty) (_:pos=pos) :
  bh g m w ((execOp aV o).run P w) a (apply m us):=by
 unfold tV at he
 simp only[Option.map_eq_some_iff,Prod.mk.injEq] at he
 obtain⟨l,hz,rfl,rfl,rfl⟩:=he
 obtain⟨z,y9,xQ⟩:=br (g:=g) (w:=w) hz
 refine bh.alloc h hn (jj l) xQ (e:=t) (v:= .pointer (some ⟨w.heap.size,0,none⟩)) ?_ fun g' hg=> .mp aF 0 _ hg
 simp[execOp,ho,Instr.alloc,y9,newVar,newRow]
theorem pQ (h:Rel g m w) {aF:Nat} (hn:m[aF]? = some .free) {t:TypeId} {a:AV} {us:iX} {ok:Bool} (he:oV P aF t=some (a,us,ok)) {o:Oper} {aV:Operand→Value} (ho:o.op = .alloc t) :
  bh g m w ((execOp aV o).run P w) a (apply m us):=by
 unfold oV at he
 simp only[Option.map_eq_some_iff,Prod.mk.injEq] at he
 obtain⟨l,hz,rfl,rfl,rfl⟩:=he
 obtain⟨z,y9,xQ⟩:=br (g:=g) (w:=w) hz
 have hlen:=xQ.1.len
 obtain⟨r1,r2,r3⟩:=h.lV z.cells.size (ob:= .gr t false) (l:=l) (vs:=z.cells.toList) hn xQ.1 (cE w (.cells z.cells t)) ⟨z.cells,t,(0,0),rfl,rfl,Nat.le_refl _,(List.take_of_length_le (Nat.le_refl _)).symm,by simp,xQ.2⟩ rfl
 refine⟨.pointer (some ⟨w.heap.size,0,none⟩),_,_,.inl ?_,.mp aF 0 _ (by simp[Gh.put]),r1,r2,r3⟩
 simp[execOp,ho,Instr.alloc,y9,newVar,newRow]
theorem vV (h:Rel g m w) {aF:Nat} (hn:m[aF]? = some .free) {v a:AV} {cv:Value} {us:iX} (hv:VA g w v cv) (he:A5 aF v=some (a,us,true)) {t:TypeId} {r:Result Next} (hr:r = .ok (.value (.pointer (some ⟨w.heap.size,0,none⟩))) (w.alloc (.cells cv.cells t))) :
  bh g m w r a (apply m us):=by
 unfold A5 at he
 simp only[Option.some.injEq,Prod.mk.injEq] at he
 obtain⟨rfl,rfl,h1⟩:=he
 exact bh.alloc h hn (jj _) (gP h1 hv) (e:=t) hr fun g' hg=> .mp aF 0 _ hg
theorem bh.sL (h:Rel g m w) {len size:Nat} {bQ:List PV} {cs:Array Value} {e:TypeId} (hv:vJ g w bQ cs.toList) (ho : ∀v∈cs.toList,v.oneCell'=true) (hl:cs.size=len*size) (y9:1≤size) {r:Result Next}
  (hr:r = .ok (.value (.slice (some ⟨w.heap.size,0,none⟩) len len)) (w.alloc (.cells cs e))):bh g m w r (.os none len size bQ) m:=by
 obtain⟨h1,h2,h3⟩:=h.jV (cE w (.cells cs e))
 have Bs:=hv.len
 simp at Bs
 refine⟨_,_,_,.inl hr,.os none len size bQ _ len ?_ (.inl rfl),h1,h2,h3⟩
 refine .ps len size bQ w.heap.size 0 len (fun k=>cs.getD k undef) (by omega) (Nat.le_refl _) y9 (fun k hk=> ?_) fun k hk=> ?_
 · have:k<cs.size:=by omega
   refine⟨.inr ⟨rfl,by omega,by omega⟩,?_,by simpa[Array.getD,this] using ho cs[k] (by simp)⟩
   rw[aD (cE w (.cells cs e)).new]
   simp[Array.getD,this]
 · have:k<cs.size:=by omega
   have hk2:=hv.get k hk (by simpa using this)
   simp only[Array.getD,this,dite_true]
   exact hk2.mono h2.pure
theorem nK {elem:TypeId} {wr:Bool} {cells:List AV} {bQ:List PV} (h:xH P elem wr cells=some bQ):fL cells=some bQ:=by
 unfold xH at h
 split at h
 · cases h
 · exact h
theorem kZ (h:Rel g m w) {aF:Nat} (hn:m[aF]? = some .free) {wr:Bool} {t:TypeId} {len:Nat} {parts:List (Nat×AV)} {gb:Array (Nat×Value)} {a:AV} {us:iX}
  (he:iq P wr aF t len parts=some (a,us,true)) (hp:aK (fun a b=>a.1=b.1∧VA g w a.2 b.2) parts gb.toList) :
  bh g m w (((do pure (.value (←Instr.buildSlice t len gb)):Sem Next)).run P w) a (apply m us):=by
 unfold iq at he
 split at he
 · rename_i elem hu
   split at he
   · rename_i size z hsz hz
     split at he
     · rename_i cells ok hf
       obtain⟨size',z0,e1,e2,e3,e4,rfl⟩:=Bt hz
       rw[hsz] at e1;cases e1
       obtain⟨zv,z1,z2⟩:=br (g:=g) (w:=w) e2
       have hzl:=z2.1.len
       simp at hzl
       have hzs:zv.cells.size=size:=by omega
       have key : ∀(b:Bool),ok=true→Nat.ble (len*size) 16777216=true →
        ∃ux,(Instr.buildSlice t len gb).run P w = .ok (.slice (some ⟨w.heap.size,0,none⟩) len len) (w.alloc (.cells ux elem))∧vK g w cells ux.toList∧ux.size=len*size:=by
        intro _ hok hle
        subst hok
        have hle:=Nat.le_of_ble_eq_true hle
        have vW:vK g w (bp z0 len) ((Array.range (len*size)).map ((if len*size=0 then #[] else zv.cells)[· % (if len*size=0 then #[] else zv.cells).size]!)).toList:=by
         by_cases e:len*size=0
         · have:len=0:=by rcases Nat.mul_eq_zero.1 e with k | k<;>omega
           rw[pM _ _ e,this];exact⟨trivial,fun _ h=>by cases h⟩
         · simp only[e,if_false]
           have h1:=mV z2.1 len
           have h2:=uy z2.2 len
           rw[hzs] at h1 h2 ⊢;exact⟨h1,h2⟩
        obtain⟨ux,f1,f2,f3⟩:=gH hp vW hf
        refine⟨ux,?_,f2,by rw[f3];simp⟩
        have hnot : ¬(len*size>2 ^ 24):=by omega
        clear vW f2 f3
        by_cases e:len*size=0
        · simp only[e,if_true] at f1 hnot
          simp only[Instr.buildSlice,Sem.run_bind,run_underlying hu,Result.andThen_ok,az hsz,hnot,if_false,e,if_true,f1,newRow,run_newObj,World.alloc_eq,Sem.run_pure]
        · simp only[e,if_false] at f1
          simp only[Instr.buildSlice,Sem.run_bind,run_underlying hu,Result.andThen_ok,az hsz,hnot,if_false,e,z1,f1,newRow,run_newObj,World.alloc_eq,Sem.run_pure]
       split at he
       · rename_i bQ vX
         simp only[Option.some.injEq,Prod.mk.injEq,Bool.and_eq_true] at he
         obtain⟨rfl,rfl,hok,hle⟩:=he
         obtain⟨ux,k1,k2,k3⟩:=key true hok hle
         exact bh.sL (e:=elem) h (b8 (nK vX) k2.1) k2.2 k3 (by omega) (by simp[k1])
       · rename_i bQ vX
         simp only[Option.some.injEq,Prod.mk.injEq,Bool.and_eq_true] at he
         obtain⟨rfl,rfl,hok,hle⟩:=he
         obtain⟨ux,k1,k2,k3⟩:=key true hok hle
         have Ll:=b8 (nK vX) k2.1
         have AZ:bM g w (bQ.map .p) ux.toList:=aK.bV (by simpa using Ll.len) fun i a b=>by
          have:=Ll.get i (by simpa using a) b
          rw[List.getElem_map];exact .p _ _ this
         obtain⟨r1,r2,r3⟩:=h.lV ux.size (ob:= .gr elem true) (l:=bQ.map .p) (vs:=ux.toList) hn AZ (cE w (.cells ux elem)) ⟨ux,elem,(0,0),rfl,rfl,Nat.le_refl _,(List.take_of_length_le (Nat.le_refl _)).symm,by simp,k2.2⟩ rfl
         exact⟨_,_,_,.inl (by simp[k1]),.mg aF 0 len size len w.heap.size (by simp[Gh.put]) (Nat.le_refl _) (by simp[Gh.put];omega),r1,r2,r3⟩
       · simp only[Option.some.injEq,Prod.mk.injEq,Bool.and_eq_true] at he
         obtain⟨rfl,rfl,hok,hle⟩:=he
         obtain⟨ux,k1,k2,k3⟩:=key true hok hle
         exact bh.alloc h hn (jj _) k2 (e:=elem) (v:= .slice (some ⟨w.heap.size,0,none⟩) len len) (by simp[k1]) fun g' hg=> .ms aF 0 len size len _ hg (Nat.le_refl _)
     · cases he
   · cases he
 · cases he
theorem mW {n:Int} (h0:0≤n) (h1:n≤9223372036854775807):IntKind.i64.wrap n=n:=IntWalk.i64_in n ⟨by omega,h1⟩
theorem l6 (h:Rel g m w) {aF:Nat} (hn:m[aF]? = some .free) {t:TypeId} {len cap a:AV} {cl cc:Value} {us:iX}
  (hl:VA g w len cl) (hc:VA g w cap cc) (he:iZ P aF t len cap=some (a,us,true)) :
  bh g m w (((do pure (.value (←Instr.makeSlice t cl cc)):Sem Next)).run P w) a (apply m us):=by
 unfold iZ at he
 split at he
 · rename_i elem k l k' c hu
   rw[VA.pv] at hl hc
   cases hl;cases hc
   split at he
   · rename_i info aN hi hb
     simp only[Option.some.injEq,Prod.mk.injEq,Bool.and_eq_true,decide_eq_true_eq] at he
     obtain⟨rfl,rfl,⟨⟨h0,h1⟩,h2⟩,h3⟩:=he
     have h2:=Nat.le_of_ble_eq_true h2
     have h3:=Nat.le_of_ble_eq_true h3
     unfold aJ at h2 h3
     obtain⟨size,z,e1,e2,e3,e4,e5⟩:=Bu hb
     have hsize:size=info.size:=by simp[dg,hi] at e1;exact e1.symm
     obtain⟨zv,z1,z2⟩:=br (g:=g) (w:=w) e2
     have hzl:=z2.1.len
     simp at hzl
     have hzs:zv.cells.size=size:=by omega
     have hw1:IntKind.i64.wrap l=l:=mW h0 (by omega)
     have Jx:IntKind.i64.wrap c=c:=mW (by omega) (by omega)
     have JP:(c.toNat:Int)=c:=Int.toNat_of_nonneg (by omega)
     have rP:(info.bytes:Int)*c≤70368744177664:=by
      have:((info.bytes*c.toNat:Nat):Int)≤70368744177664:=Int.ofNat_le.2 h3
      rwa [Int.natCast_mul,JP] at this
     have vW:vK g w (bp z c.toNat) ((Array.range (c.toNat*size)).map ((if c.toNat*size=0 then #[] else zv.cells)[· % (if c.toNat*size=0 then #[] else zv.cells).size]!)).toList:=by
      by_cases e:c.toNat*size=0
      · have:c.toNat=0:=by rcases Nat.mul_eq_zero.1 e with k | k<;>omega
        rw[pM _ _ e,this];exact⟨trivial,fun _ h=>by cases h⟩
      · simp only[e,if_false]
        have h1:=mV z2.1 c.toNat
        have h2:=uy z2.2 c.toNat
        rw[hzs] at h1 h2 ⊢;exact⟨h1,h2⟩
     have hsz:dg P elem=some size:=e1
     refine bh.alloc h hn e5 vW (e:=elem) (v:= .slice (some ⟨w.heap.size,0,none⟩) l.toNat c.toNat) ?_ fun g' hg=>hsize ▸ .ms aF 0 l.toNat size c.toNat _ hg (by omega)
     have t1:(decide (c<0)||decide ((info.bytes:Int)*c>2 ^ 48))=false:=by simp only[Bool.or_eq_false_iff,decide_eq_false_iff_not];omega
     have t2:((decide (c<0)||decide ((info.bytes:Int)*c>2 ^ 48))||decide (l<0)||decide (l>c))=false:=by rw[t1,Bool.false_or,Bool.or_eq_false_iff,decide_eq_false_iff_not,decide_eq_false_iff_not];exact⟨by omega,by omega⟩
     by_cases e:c.toNat*size=0
     · simp only[Instr.makeSlice,Sem.run_bind,run_underlying hu,Result.andThen_ok,asInt,asIntOf,Sem.run_pure,cW hi,hw1,Jx,t2,Bool.false_eq_true,if_false,run_askRoom,az hsz,e,if_true,newRow,run_newObj,World.alloc_eq]
     · simp only[Instr.makeSlice,Sem.run_bind,run_underlying hu,Result.andThen_ok,asInt,asIntOf,Sem.run_pure,cW hi,hw1,Jx,t2,Bool.false_eq_true,if_false,run_askRoom,az hsz,e,z1,newRow,run_newObj,World.alloc_eq]
   · cases he
 · cases he
theorem nL {α:Type} (v:α) : ∀n,bp [v] n=List.replicate n v
 |0=>rfl
 |n+1=>by rw[bp,nL v n];rfl
theorem iN {z:AV} {pv:PV} (h:tU z=some pv) : ∀n,fL (List.replicate n z)=some (List.replicate n pv)
 |0=>rfl
 |n+1=>by simp only[List.replicate_succ,fL,h,iN h n]
theorem mX (h:Rel g m w) {t:TypeId} {len cap a:AV} {cl cc:Value} {us:iX}
  (hl:VA g w len cl) (hc:VA g w cap cc) (he:kS P t len cap=some (a,us,true)) :
  bh g m w (((do pure (.value (←Instr.makeSlice t cl cc)):Sem Next)).run P w) a (apply m us):=by
 unfold kS at he
 split at he
 · rename_i elem k l k' c hu
   rw[VA.pv] at hl hc
   cases hl;cases hc
   split at he
   · rename_i info z hi hz
     split at he
     · rename_i pv vX
       simp only[Option.some.injEq,Prod.mk.injEq,Bool.and_eq_true,decide_eq_true_eq] at he
       obtain⟨rfl,rfl,h0,rfl,h1,h2,h3⟩:=he
       have h1:=Nat.eq_of_beq_eq_true h1
       have h2:=Nat.le_of_ble_eq_true h2
       have h3:=Nat.le_of_ble_eq_true h3
       unfold aJ at h2 h3
       have hsz:dg P elem=some 1:=by simp[dg,hi,h1]
       obtain⟨zv,z1,z2⟩:=br (g:=g) (w:=w) hz
       have hzl:=z2.1.len
       simp at hzl
       have hzs:zv.cells.size=1:=by omega
       have hw1:IntKind.i64.wrap l=l:=mW h0 (by omega)
       have JP:(l.toNat:Int)=l:=Int.toNat_of_nonneg h0
       have rP:(info.bytes:Int)*l≤70368744177664:=by
        have:((info.bytes*l.toNat:Nat):Int)≤70368744177664:=Int.ofNat_le.2 h3
        rwa [Int.natCast_mul,JP] at this
       have vW:vK g w (bp [z] l.toNat) ((Array.range (l.toNat*1)).map ((if l.toNat*1=0 then #[] else zv.cells)[· % (if l.toNat*1=0 then #[] else zv.cells).size]!)).toList:=by
        by_cases e:l.toNat*1=0
        · have:l.toNat=0:=by omega
          rw[pM _ _ e,this];exact⟨trivial,fun _ h=>by cases h⟩
        · simp only[e,if_false]
          have k1:=mV z2.1 l.toNat
          have k2:=uy z2.2 l.toNat
          rw[hzs] at k1 k2 ⊢;exact⟨k1,k2⟩
       rw[nL] at vW
       have t1:(decide (l<0)||decide ((info.bytes:Int)*l>2 ^ 48))=false:=by simp only[Bool.or_eq_false_iff,decide_eq_false_iff_not];omega
       have t2:((decide (l<0)||decide ((info.bytes:Int)*l>2 ^ 48))||decide (l<0)||decide (l>l))=false:=by rw[t1,Bool.false_or,Bool.or_eq_false_iff,decide_eq_false_iff_not,decide_eq_false_iff_not];exact⟨by omega,by omega⟩
       refine bh.sL (e:=elem) h (b8 (iN vX _) vW.1) vW.2 (by simp) (Nat.le_refl 1) ?_
       by_cases e:l.toNat*1=0
       · simp only[Instr.makeSlice,Sem.run_bind,run_underlying hu,Result.andThen_ok,asInt,asIntOf,Sem.run_pure,cW hi,hw1,t2,Bool.false_eq_true,if_false,run_askRoom,az hsz,e,if_true,newRow,run_newObj,World.alloc_eq]
       · simp only[Instr.makeSlice,Sem.run_bind,run_underlying hu,Result.andThen_ok,asInt,asIntOf,Sem.run_pure,cW hi,hw1,t2,Bool.false_eq_true,if_false,run_askRoom,az hsz,e,z1,newRow,run_newObj,World.alloc_eq]
     · cases he
   · cases he
 · cases he
end ops
end Go.Am
end
section
namespace Go.Am
open Go.RowKit
section ops
variable {P:Program} {g:Gh} {m:Mem} {w:World}
theorem VP.mk {len sz cap b o:Nat} {cells:List PV} {us:List Value} (h:vJ g w cells us) (hl:us.length=len*sz) (hc:len≤cap) (hz:1≤sz)
  (hu : ∀k v,us[k]? = some v→w.cell? ⟨b,o+k,none⟩=some v∧g.pure b (o+k)∧v.oneCell'=true):VP g w (.ps len sz cells) (.slice (some ⟨b,o,none⟩) len cap):=by
 have HG:=h.len
 refine .ps len sz cells b o cap (fun k=>us.getD k undef) (by omega) hc hz (fun k hk=> ?_) fun k hk=> ?_
 · have:us[k]? = some us[k]:=List.getElem?_eq_getElem (by omega)
   obtain⟨h1,h2,h3⟩:=hu k _ this
   exact⟨h2,by rw[h1,List.getD_eq_getElem?_getD,this];rfl,by rw[List.getD_eq_getElem?_getD,this];exact h3⟩
 · have:us[k]? = some us[k]:=List.getElem?_eq_getElem (by omega)
   rw[List.getD_eq_getElem?_getD,this]
   exact h.get k hk (by omega)
theorem Bv {len sz cap:Nat} {cs:List PV} {ad:Option Addr} (h:VP g w (.ps len sz cs) (.slice ad len cap)) : ∀b o,(ad=some ⟨b,o,none⟩∨len=0) →
  ∃us,vJ g w cs us∧us.length=len*sz ∧ ∀k v,us[k]? = some v→w.cell? ⟨b,o+k,none⟩=some v∧g.pure b (o+k)∧v.oneCell'=true:=by
 intro b o ha
 cases h with
 |ps _ _ _ b' o' cap f hl hc hz hp hv=>
  rcases ha with ha | rfl
  · cases ha
    refine⟨(List.range cs.length).map f,aK.bV (by simp) fun i hi _=>by simpa using hv i hi,by simp[hl],fun k v hk=> ?_⟩
    simp only[List.getElem?_map,Option.map_eq_some_iff] at hk
    obtain⟨j,hj,rfl⟩:=hk
    obtain⟨hlt,hj⟩:=List.getElem?_eq_some_iff.1 hj
    simp at hlt hj;subst hj
    exact⟨(hp k hlt).2.1,(hp k hlt).1,(hp k hlt).2.2⟩
  · simp at hl;subst hl
    exact⟨[],trivial,by simp,fun k v hk=>by simp at hk⟩
 |lT=>exact⟨[],trivial,by simp,fun k v hk=>by simp at hk⟩
theorem rQ {aF:Nat} {tok:Option Nat} {us:iX} (hn:m[aF]? = some .free) (h:jY (fun i=>m.getD i .dead) aF tok=some us) (hr:Rel g m w) :
  ∃m1:Mem,apply m us=m1.set aF .tok∧m1[aF]? = some .free∧Rel g m1 w∧bO g m w g m1 w ∧ ∀t,tok=some t→m[t]? = some .tok∧m1=m.set t .dead:=by
 unfold jY at h
 split at h
 · simp only[Option.some.injEq] at h;subst h
   exact⟨m,rfl,hn,hr,bO.refl g m w,fun t e=>by cases e⟩
 · rename_i t
   split at h
   · rename_i ht
     simp only[Option.some.injEq] at h;subst h
     have ht:=getD_some ht (by simp)
     have hne:t≠aF:=fun e=>by subst e;rw[ht] at hn;cases hn
     obtain⟨k1,k2⟩:=hr.kill t
     refine⟨m.set t .dead,rfl,by rw[List.getElem?_set_ne hne];exact hn,k1,k2,fun t' e=>by cases e;exact⟨ht,rfl⟩⟩
   · cases h
theorem mU.drew {sz n:Nat} {x:AV} {cx:Value} {bQ:List PV} (h:Rel g m w) (hx:VA g w x cx) (he:contents (fun i=>m.getD i .dead) sz x=some (n,bQ,true)):mU P g w.drew sz n bQ cx:=by
 obtain⟨h1,h2,_⟩:=h.gY (w':=w.drew) rfl rfl rfl rfl
 exact cK h1 he (hx.mono h2)
theorem gQ (need old:Nat) (elem:TypeId) (t:Nat):need≤(Question.appendCap need old elem).cut t:=by simp[Question.cut]
theorem pR (h:Rel g m w) {aF:Nat} (hn:m[aF]? = some .free) {argTypes:Array TypeId} {ty:TypeId} {s x a:AV} {cs cx:Value} {us:iX}
  (hs:VA g w s cs) (hx:VA g w x cx) (he:fm P (fun i=>m.getD i .dead) aF argTypes s x=some (a,us,true)) :
  bh g m w (((do pure (.value (←Builtin.append_ argTypes ty #[cs,cx])):Sem Next)).run P w) a (apply m us):=by
 unfold fm at he
 split at he
 · rename_i sType xType hs0 hx0
   split at he
   · cases he
   · rename_i elem d hd hu xR
     split at he
     · rename_i info z hi hz
       split at he
       · rename_i n bQ ok tok len sz cells gu
         simp only[Option.map_eq_some_iff,Prod.mk.injEq,Bool.and_eq_true] at he
         obtain⟨us',LV,rfl,rfl,⟨⟨⟨⟨rfl,h1⟩,h2⟩,h3⟩,h4⟩,h5⟩:=he
         have h2:=Nat.le_of_ble_eq_true h2
         have h3:=Nat.eq_of_beq_eq_true h3
         have h4:=Nat.le_of_ble_eq_true h4
         have h5:=Nat.le_of_ble_eq_true h5
         unfold aJ at h4 h5
         obtain⟨zv,z1,z2⟩:=br (g:=g) (w:=w) hz
         have hzl:=z2.1.len
         simp only[Array.length_toList] at hzl
         have hzs:zv.cells.size=info.size:=by omega
         have hsz:dg P elem=some info.size:=by simp[dg,hi]
         obtain⟨m1,e1,e2,e3,e4,e5⟩:=rQ hn LV h
         cases hs with
         |os _ _ _ _ ad cap hps vO=>
         have Ad:VP g w (.ps len info.size cells) (.slice ad len cap):=gG hps (by
          rw[Bool.or_eq_true] at h1 ⊢
          refine h1.imp id fun k=> ?_
          simp only[Bool.and_eq_true] at k ⊢
          exact⟨k.1,Nat.ble_eq_true_of_le h2⟩)
         obtain⟨_,_,_,q,hcap⟩:=iC Ad
         cases q
         rw[e1]
         by_cases dP:len+n≤cap
         ·
          obtain⟨vx,x1,x2,hone,x3,x4⟩:=cK (P:=P) h gu hx
          have x5:=x4 n (Nat.le_refl _)
          rw[List.take_of_length_le (by omega)] at x5
          rcases vO with hfull | ⟨t,b,o,rfl,rfl,t1,t2,t3,t4⟩
          · have hn0:n=0:=by omega
            subst hn0
            have rR:vx=[]:=List.length_eq_zero_iff.1 (by simpa using x2)
            subst rR
            have vX:bQ=[]:=by cases bQ with
             |nil=>rfl
             |cons _ _=>exact x1.elim
            subst vX
            obtain⟨r1,r2⟩:=e3.oN e2
            refine⟨.slice ad (len+0) cap,w,g,.inl ?_,?_,r1,Ext.refl g w,e4.trans r2⟩
            · simp only[Builtin.append_,hs0,hx0,List.getElem?_toArray,List.getElem?_cons_zero,List.getElem?_cons_succ,Sem.run_bind,run_underlying hu,Result.andThen_ok,az hsz,run_underlying xR,Sem.run_pure,Bool.false_eq_true,if_false,x3,dP,if_true,Bool.not_false,x5]
              cases ad<;>simp[storeCells]
            · rw[List.append_nil]
              exact .os _ _ _ _ _ _ (by simpa using Ad) (.inl (by simpa using hfull))
          ·
           obtain⟨Lm,LW⟩:=e5 t rfl
           have hsize:sz=info.size:=by simpa using h1
           subst hsize
           obtain⟨Ae,e,q,k1,k2,k3,k4⟩:=h.tok t b Lm t1
           have hmul:(len+n)*info.size=len*info.size+n*info.size:=Nat.add_mul _ _ _
           have HH:(len+n)*info.size≤cap*info.size:=Nat.mul_le_mul_right _ dP
           obtain⟨w',za,p1,p2,p3,p4,p5,p6,p7,p8⟩:=eU (P:=P) b (o+len*info.size) vx 0 w Ae e q k1 (fun j hj=>k3.imp id fun k3=>by omega) (by omega) hone
           simp only[Nat.add_zero] at p3
           have JQ:za.size=Ae.size:=by
            have:=congrArg List.length p3
            rw[fA] at this;simpa using this
           have hsp:=h.spare (k:=n*info.size) Lm t1 hn k1 (by omega) p4 p5 p6 p7 p8 p2 JQ (fun c hc=>by
            have:za.toList[c]? = Ae.toList[c]? :=by rw[p3];exact pN _ _ _ _ (by omega)
            simpa using this)
           obtain⟨r1,r2,r3⟩:=hsp
           rw[LW]
           refine⟨.slice (some ⟨b,o,none⟩) (len+n) cap,w',_,.inl ?_,?_,r1,r2,r3⟩
           · have Bw:(⟨b,o,none⟩:Addr).add (len*info.size)=⟨b,o+len*info.size,none⟩:=bw _ _ _
             simp only[Builtin.append_,hs0,hx0,List.getElem?_toArray,List.getElem?_cons_zero,List.getElem?_cons_succ,Sem.run_bind,run_underlying hu,Result.andThen_ok,az hsz,run_underlying xR,Sem.run_pure,Bool.false_eq_true,if_false,x3,dP,if_true,Bool.not_false,x5,Bw,p1]
           · obtain⟨us,u1,u2,u3⟩:=Bv Ad b o (.inl rfl)
             refine .os _ _ _ _ _ _ (VP.mk (us:=us++vx) ((aK.mono (fun _ _=>VP.mono r2.pure) u1).append (aK.mono (fun _ _=>VP.mono r2.pure) x1)) (by simp;omega) dP h2 fun k v hk=> ?_) (.inr ⟨aF,b,o,rfl,rfl,by simp[Gh.put,Gh.more],by simp[Gh.put,Gh.more];omega,by simp[Gh.put,Gh.more,t3],dP⟩)
             rw[List.getElem?_append] at hk
             by_cases hlt:k<us.length
             · rw[if_pos hlt] at hk
               obtain⟨v1,v2,v3⟩:=u3 k v hk
               exact⟨(r2.pure _ _ v2).2.trans v1,(r2.pure _ _ v2).1,v3⟩
             · rw[if_neg hlt] at hk
               have hk':=aM hk
               have hnew:=vS vx Ae.toList (o+len*info.size) (k-us.length) hk' (by simp;omega)
               rw[←p3,hk] at hnew
               refine⟨?_,.inr ⟨rfl,by omega,by omega⟩,hone v (List.mem_of_getElem? hk)⟩
               rw[aD p2]
               rw[show o+len*info.size+(k-us.length)=o+k by omega] at hnew
               simpa using hnew
         ·
          obtain⟨d1,d2,d3⟩:=h.gY (w':=w.drew) rfl rfl rfl rfl
          obtain⟨_,_,_,_,l3,_⟩:=cK (P:=P) h gu hx
          obtain⟨vx,x1,x2,hone,x3,x4⟩:=mU.drew (P:=P) h hx gu
          have x5:=x4 n (Nat.le_refl _)
          rw[List.take_of_length_le (by omega)] at x5
          obtain⟨vs,s1,s2,E9,s3,s4⟩:=j7 (P:=P) (Ad.mono d2.pure)
          have s5:=s4 len (Nat.le_refl _)
          rw[List.take_of_length_le (by omega)] at s5
          have gI:=gQ (len+n) cap elem (w.tape w.drawn (.appendCap (len+n) cap elem))
          generalize hnc:(Question.appendCap (len+n) cap elem).cut (w.tape w.drawn (.appendCap (len+n) cap elem))=newCap at gI
          have Bx:(Builtin.zeroCells zv.cells (newCap-(len+n))).size=(newCap-(len+n))*info.size:=by simp[Builtin.zeroCells,hzs]
          have hall:(vs.toArray++vx.toArray++Builtin.zeroCells zv.cells (newCap-(len+n))).size=newCap*info.size:=by
           simp only[Array.size_append,List.size_toArray,Bx,s2,x2]
           rw[Nat.sub_mul,Nat.add_mul]
           have:=Nat.mul_le_mul_right info.size gI
           rw[Nat.add_mul] at this
           omega
          generalize uz:vs.toArray++vx.toArray++Builtin.zeroCells zv.cells (newCap-(len+n))=all at hall
          have pT:kW w (w.drew.alloc (.cells all elem)) (.cells all elem):=⟨rfl,rfl,rfl,rfl⟩
          have hmul:(len+n)*info.size=len*info.size+n*info.size:=Nat.add_mul _ _ _
          have hle:(len+n)*info.size≤all.size:=by rw[hall];exact Nat.mul_le_mul_right _ gI
          obtain⟨r1,r2,r3⟩:=e3.fresh (k:=(len+n)*info.size) e2 pT hle (.inl (Nat.le_refl _))
          refine⟨.slice (some ⟨w.heap.size,0,none⟩) (len+n) newCap,_,_,.inl ?_,?_,r1,r2,e4.trans r3⟩
          · have Fa : ¬(((len+n:Nat):Int)>IntKind.i64.max):=by
             rw[show IntKind.i64.max=9223372036854775807 from by decide];omega
            have hgrow : ¬(Builtin.nextslicecap (len+n) cap*info.bytes>2 ^ 48):=by
             have:=growslice_fits (need:=len+n) (old:=cap) (bytes:=info.bytes) (by omega) (by omega)
             omega
            simp only[Builtin.append_,hs0,hx0,List.getElem?_toArray,List.getElem?_cons_zero,List.getElem?_cons_succ,Sem.run_bind,run_underlying hu,Result.andThen_ok,az hsz,run_underlying xR,Sem.run_pure,Bool.false_eq_true,if_false,l3,dP,Bool.not_false,Fa,false_and,cW hi,hgrow,run_choose,Question.forced,hnc,World.drew_eq,run_askRoom,s5,x5,z1,uz,if_true,newRow,run_newObj,World.alloc_eq,World.size_drew]
          · have hnew:(w.drew.alloc (.cells all elem)).heap[w.heap.size]? = some (.cells all elem):=pT.new
            have sM:all.toList=vs++vx++(Builtin.zeroCells zv.cells (newCap-(len+n))).toList:=by rw[←uz];simp
            refine .os _ _ _ _ _ _ (VP.mk (us:=vs++vx) ?_ (by simp;omega) gI h2 fun k v hk=> ?_) (.inr ⟨aF,w.heap.size,0,rfl,rfl,by simp[Gh.put,Gh.more],by simp[Gh.put,Gh.more],by simp[Gh.put,Gh.more,hall],gI⟩)
            · exact(aK.mono (fun _ _=>VP.mono (g:=g) (w:=w.drew) (fun c o p=>⟨(r2.pure c o p).1,(r2.pure c o p).2⟩)) s1).append (aK.mono (fun _ _=>VP.mono (g:=g) (w:=w.drew) (fun c o p=>⟨(r2.pure c o p).1,(r2.pure c o p).2⟩)) x1)
            · have hk':=aM hk
              simp only[List.length_append] at hk'
              refine⟨?_,.inr ⟨rfl,by omega,by omega⟩,?_⟩
              · rw[aD hnew,←Array.getElem?_toList,sM,Nat.zero_add,List.getElem?_append_left (by simpa using hk')]
                exact hk
              · rcases List.mem_append.1 (List.mem_of_getElem? hk) with q | q
                · exact E9 v q
                · exact hone v q
       · cases he
     · cases he
   · cases he
 · cases he
theorem uA (h:Rel g m w) {argTypes:Array TypeId} {ty:TypeId} {d s a:AV} {cd cx:Value} {us:iX}
  (hd:VA g w d cd) (hx:VA g w s cx) (he:mP P (fun i=>m.getD i .dead) argTypes d s=some (a,us,true)) :
  bh g m w (((do pure (.value (←Builtin.copy_ argTypes ty #[cd,cx])):Sem Next)).run P w) a (apply m us):=by
 unfold mP at he
 split at he
 · rename_i t ht
   split at he
   · rename_i elem hu
     split at he
     · rename_i size hsz
       split at he
       · rename_i n bQ ok b off len sz cap gu
         split at he
         · rename_i l hl
           simp only[Option.some.injEq,Prod.mk.injEq,Bool.and_eq_true] at he
           obtain⟨rfl,rfl,⟨rfl,h1⟩,h2⟩:=he
           have h1:=Nat.eq_of_beq_eq_true h1
           have h2:=Nat.le_of_ble_eq_true h2
           subst h1
           have hm:=getD_some hl (by simp)
           obtain⟨vx,x1,x2,hone,x3,x4⟩:=cK (P:=P) h gu hx
           have x5:=x4 (Nat.min n len) (Nat.min_le_left _ _)
           cases hd with
           |ms _ _ _ _ cap c hc hcap=>
           obtain⟨c',Ae,e,q,k1,k2,k3,k4,k5⟩:=h.cells b _ _ hm rfl
           rw[hc] at k1;cases k1
           have hlen:=k4.1.len
           simp only[List.length_map,Array.length_toList] at hlen
           have hmin:Nat.min n len*sz≤n*sz:=Nat.mul_le_mul_right _ (Nat.min_le_left _ _)
           have Ln:Nat.min n len*sz≤len*sz:=Nat.mul_le_mul_right _ (Nat.min_le_right _ _)
           have HI:(vx.take (Nat.min n len*sz)).length=Nat.min n len*sz:=by rw[List.length_take,x2];exact Nat.min_eq_left hmin
           obtain⟨w',za,p1,p2,p3,p4,p5,p6,p7,p8⟩:=eU (P:=P) c off (vx.take (Nat.min n len*sz)) 0 w Ae e q k2 (fun _ _=> .inl k3) (by omega) (fun v hv=>hone v (List.mem_of_mem_take hv))
           simp only[Nat.add_zero] at p3
           have Dw : ∀(new:List Value) (l:List Value) (o:Nat),o+new.length≤l.length→bN l o new=l.take o++new++l.drop (o+new.length):=by
            intro new
            induction new with
            |nil=>intro l o _;simp[bN]
            |cons x new ih=>
             intro l o ho
             simp only[List.length_cons] at ho
             rw[bN,ih _ _ (by simp;omega)]
             have hlt:o<l.length:=by omega
             rw[List.drop_set_of_lt (by omega),List.take_add_one,List.take_set_of_le (Nat.le_refl _)]
             simp only[List.getElem?_set_self hlt,Option.toList_some,List.length_cons,List.append_assoc,List.singleton_append]
             rw[show o+(new.length+1)=o+1+new.length by omega]
           have LX:vJ g w (bQ.take (Nat.min n len*sz)) (vx.take (Nat.min n len*sz)):=x1.take _
           have hmap : ∀{l:List PV} {vs:List Value},vJ g w l vs→bM g w (l.map .p) vs:=fun hh=>aK.HC _ (fun _ _ k=> .p _ _ k) hh
           have hcells:vK g w ((l.take off++bQ.take (Nat.min n len*sz)++l.drop (off+Nat.min n len*sz)).map .p) za.toList:=by
            refine⟨?_,by rw[p3];exact fZ _ _ _ k4.2 (fun v hv=>hone v (List.mem_of_mem_take hv))⟩
            rw[p3,Dw _ _ _ (by simp[HI];omega),HI]
            simp only[List.map_append,List.map_take,List.map_drop]
            refine((k4.1.take off).append ?_).append (k4.1.drop _)
            rw[←List.map_take];exact hmap LX
           obtain⟨r1,r2,r3⟩:=h.write (b':= .pc (l.take off++bQ.take (Nat.min n len*sz)++l.drop (off+Nat.min n len*sz))) hm rfl hc rfl p4 p5 p6 p7 p8 p2 k3 hcells
           refine⟨goInt (Nat.min n len),w',g,.inl ?_,.p _ _ (.sc _),r1,r2,r3⟩
           simp only[Builtin.copy_,ht,List.getElem?_toArray,List.getElem?_cons_zero,List.getElem?_cons_succ,Sem.run_bind,run_underlying hu,Result.andThen_ok,x3,az hsz,x5,p1,Sem.run_pure]
         · cases he
       · cases he
     · cases he
   · cases he
 · cases he
theorem By {bQ:List PV} {vs:List Value} (h:vJ g w bQ vs) (hb:bQ.all isByte=true) : ∃ns:List Int,vs=ns.map (Value.int .u8)∧bQ.map byteOf=ns.map fun n=>UInt8.ofNat n.toNat:=by
 induction bQ generalizing vs with
 |nil=>cases vs with
  |nil=>exact⟨[],rfl,rfl⟩
  |cons _ _=>exact h.elim
 |cons p bQ ih=>
  cases vs with
  |nil=>exact h.elim
  |cons v vs=>
   simp only[List.all_cons,Bool.and_eq_true] at hb
   obtain⟨ns,e1,e2⟩:=ih h.2 hb.2
   have h1:=h.1
   cases h1 with
   |sc=>
    cases v<;>simp only[isByte,Bool.false_eq_true,false_and] at hb
    rename_i k n
    cases k<;>simp only[Bool.false_eq_true,false_and] at hb
    exact⟨n::ns,by rw[e1];rfl,by rw[List.map_cons,e2];rfl⟩
   |_=>simp[isByte] at hb
theorem xS (w:World) (all:Array Value) (e:TypeId) :
  (w.alloc (.cells all e)).freeze {block:=w.heap.size,off:=all.size} 1={w with heap:=w.heap.push (.cells all e (all.size,all.size+1))}:=by
 simp only[World.freeze,World.alloc]
 rw[if_neg (by decide)]
 congr 1
 apply Array.ext_getElem?
 intro j
 rw[Array.getElem?_modify,Array.getElem?_push,Array.getElem?_push]
 by_cases hj:j=w.heap.size
 · subst hj;simp
 · rw[if_neg (fun h=>hj h.symm),if_neg hj,if_neg hj]
theorem Af (w:World) (all:Array Value) (e:TypeId):(w.alloc (.cells all e)).shape? w.heap.size=some (e,all.size):=by
 simp only[World.shape?,(cE w (.cells all e)).new]
theorem foldl_push : ∀(ns:List Int) (s:ByteArray),ns.foldl (fun r n=>r.push (UInt8.ofNat n.toNat)) s=⟨(s.data.toList++ns.map fun n=>UInt8.ofNat n.toNat).toArray⟩
 |[],s=>by cases s;simp
 |n::ns,s=>by
  rw[List.foldl_cons,foldl_push ns]
  cases s
  simp[ByteArray.push]
theorem Rel.zb {m:Mem} (h:Rel g m w) {b c:Nat} {l:List PV} (hb:m[b]? = some (.pc l)) (hc:g.aN b=some c) :
  Rel (g.more c 0 l.length) (m.set b .dead) w∧Ext g w (g.more c 0 l.length) w∧bO g m w (g.more c 0 l.length) (m.set b .dead) w:=by
 obtain⟨c',cs,e,n,k1,k2,k3,k4,k5⟩:=h.cells b _ _ hb rfl
 rw[hc] at k1;cases k1
 have hlen:=k4.1.len
 simp only[List.length_map,Array.length_toList] at hlen
 have ext:Ext g w (g.more c 0 l.length) w:=⟨fun _ _ h=>⟨h,rfl,rfl⟩,fun _ _ p=>⟨.inl p,rfl⟩⟩
 have ne : ∀j x c',j≠b→m[j]? = some x→x.bG=true→g.aN j=some c'→c'≠c:=fun j x c' l7 hj ho cY e=>l7 (h.inj j b x _ c hj hb ho rfl (e▸cY) hc)
 refine⟨⟨fun j hj=>h.pF j (by simpa using hj),fun j hj=> ?_,fun j x k hj hk=> ?_,fun j c' hj cY=> ?_,fun j k x x' c' hj hk ho ho' dO dY=> ?_,fun c' o p=> ?_,fun j kk ll hj=> ?_⟩,ext,⟨Nat.le_refl _,fun _ _ _=>rfl,fun _ _ p=>⟨.inl p,rfl⟩,fun c' o p=> ?_,fun c' ho=> ?_,rfl,rfl,rfl⟩⟩
 · rcases aC hj with⟨_,e⟩ | ⟨_,e⟩
   · cases e
   · exact h.free j e
 · rcases aC hj with⟨_,e⟩ | ⟨l7,e⟩
   · subst e;cases hk
   · obtain⟨c1,cs1,e1,n1,q1,q2,q3,q4,q5⟩:=h.cells j x k e hk
     refine⟨c1,cs1,e1,n1,q1,q2,q3,q4.mono ext,fun o p=> ?_⟩
     rcases p with p | ⟨rfl,_⟩
     · exact q5 o p
     · exact ne j x _ l7 e (bz hk) q1 rfl
 · rcases aC hj with⟨_,e⟩ | ⟨l7,e⟩
   · cases e
   · obtain⟨cs1,e1,n1,q2,q3,q4,q5⟩:=h.tok j c' e cY
     refine⟨cs1,e1,n1,q2,q3,q4,fun o a b p=> ?_⟩
     rcases p with p | ⟨rfl,_⟩
     · exact q5 o a b p
     · exact ne j _ _ l7 e rfl cY rfl
 · rcases aC hj with⟨_,e⟩ | ⟨_,e⟩
   · subst e;simp[av.bG] at ho
   · rcases aC hk with⟨_,e'⟩ | ⟨_,e'⟩
     · subst e';simp[av.bG] at ho'
     · exact h.inj j k x x' c' e e' ho ho' dO dY
 · rcases p with p | ⟨rfl,_,p⟩
   · exact h.there c' o p
   · exact⟨cs[o],by rw[aD k2,Array.getElem?_eq_getElem (by omega)]⟩
 · rcases aC hj with⟨_,e⟩ | ⟨l7,e⟩
   · cases e
   · obtain⟨c1,o1,vs1,q1,q2,q3,q4,q5,q6⟩:=h.obs j kk ll e
     exact⟨c1,o1,vs1,q1,q2,q3.mono ext,q4,fun o p=>p.elim (q5 o) fun q=>ne j _ c1 l7 e rfl q1 q.1,q6⟩
 · rcases p with p | ⟨rfl,_⟩
   · exact .inl p
   · exact .inr (.inl ⟨b,_,hb,rfl,hc⟩)
 · rcases mS ho with⟨q,_⟩ | ⟨j,x,_,q1,q2,q3⟩
   · simp[av.bG] at q
   · exact .inl ⟨j,x,q1,q2,q3⟩
theorem Rel.Fb {m:Mem} {w':World} {c:Nat} {cs:Array Value} {e:TypeId} {n n':Nat×Nat} (h:Rel g m w) (hno : ¬dH g m c) (h1:w.heap[c]? = some (.cells cs e n)) (h2:w'.heap[c]? = some (.cells cs e n'))
  (h3 : ∀k,k≠c→w'.heap[k]? = w.heap[k]?):Rel g m w'∧Ext g w g w':=by
 have hcell : ∀b o,w'.cell? ⟨b,o,none⟩=w.cell? ⟨b,o,none⟩:=by
  intro b o
  by_cases e:b=c
  · subst e;rw[aD h1,aD h2]
  · exact b7 (h3 b e)
 have ext:Ext g w g w':=⟨fun _ _ q=>⟨q,rfl,rfl⟩,fun b o p=>⟨p,hcell b o⟩⟩
 have ne : ∀j x c',m[j]? = some x→x.bG=true→g.aN j=some c'→c'≠c:=fun j x c' hj ho cY e=>hno ⟨j,x,hj,ho,e▸cY⟩
 refine⟨⟨h.pF,h.free,fun j x k hj hk=> ?_,fun j c' hj cY=> ?_,h.inj,fun b o p=> ?_,fun j kk ll hj=> ?_⟩,ext⟩
 · obtain⟨c1,cs1,e1,n1,q1,q2,q3,q4,q5⟩:=h.cells j x k hj hk
   exact⟨c1,cs1,e1,n1,q1,(h3 c1 (ne j x c1 hj (bz hk) q1)).trans q2,q3,q4.mono ext,q5⟩
 · obtain⟨cs1,e1,n1,q2,q3,q4,q5⟩:=h.tok j c' hj cY
   exact⟨cs1,e1,n1,(h3 c' (ne j _ c' hj rfl cY)).trans q2,q3,q4,q5⟩
 · obtain⟨v,hv⟩:=h.there b o p
   exact⟨v,(hcell b o).trans hv⟩
 · obtain⟨c1,o1,vs1,q1,q2,q3,q4⟩:=h.obs j kk ll hj
   exact⟨c1,o1,vs1,q1,(h3 c1 (ne j _ c1 hj rfl q1)).trans q2,q3.mono ext,q4⟩
theorem uB (w:World) {c off:Nat} {cs:Array Value} {e:TypeId} {n:Nat×Nat} (h:w.heap[c]? = some (.cells cs e n)) :
  (∃n',(w.freeze ⟨c,off,none⟩ 1).heap[c]? = some (.cells cs e n'))∧(∀k,k≠c→(w.freeze ⟨c,off,none⟩ 1).heap[k]? = w.heap[k]?)∧(w.freeze ⟨c,off,none⟩ 1).heap.size=w.heap.size ∧
    (w.freeze ⟨c,off,none⟩ 1).os=w.os∧(w.freeze ⟨c,off,none⟩ 1).tape=w.tape∧(w.freeze ⟨c,off,none⟩ 1).output=w.output:=by
 unfold World.freeze
 rw[if_neg (by decide)]
 refine⟨?_,fun k hk=> ?_,by simp,rfl,rfl,rfl⟩
 · obtain⟨lo,hi⟩:=n
   refine⟨if lo==hi then(off,off+1) else(min lo off,max hi (off+1)),?_⟩
   show(w.heap.modify c _)[c]? = _
   rw[Array.getElem?_modify,if_pos rfl,h]
   rfl
 · show(w.heap.modify c _)[k]? = _
   rw[Array.getElem?_modify,if_neg (fun e=>hk e.symm)]
theorem Ag {e count n:Nat} (hc:1≤P.cellsOf e) (hn:n≤count):liesAt P P.depth e count 0 e n=true:=by
 have hd:P.depth=(2*(P.types.size+Made.depth)+1)+1:=rfl
 rw[hd]
 simp only[liesAt,Bool.or_eq_true]
 left
 rw[hd]
 have h0 : ¬P.cellsOf e=0:=by omega
 simp[rowAt,hn,sameLayout,h0]
theorem oo (h:Rel g m w) {aF:Nat} (hn:m[aF]? = some .free) {ρ:Operand→AV} {aV:Operand→Value} {o:Oper} (hr : ∀x,VA g w (ρ x) (aV x)) {src dst:TypeId} {x:Operand}
  (ho:o.op = .convert src dst x) {a:AV} {us:iX} (he:convertOp P (fun i=>m.getD i .dead) aF ρ o src dst (ρ x)=some (a,us,true)) :
  bh g m w ((execOp aV o).run P w) a (apply m us):=by
 have hx:=hr x
 have gJ:(execOp aV o).run P w=((convert src dst (aV x)).run P w).andThen fun v w'=> .ok (.value v) w':=by simp only[execOp,ho,Sem.run_bind,Sem.run_pure]
 unfold convertOp at he
 split at he
 · rename_i k k' n zc Bz
   split at he
   · rename_i d uC
     simp only[Option.some.injEq,Prod.mk.injEq,and_true] at he
     obtain⟨rfl,rfl⟩:=he
     rw[Bz,VA.pv] at hx
     generalize hz:aV x=z at hx gJ
     cases hx
     refine bh.quiet h (v:= .int k (k.wrap n)) ?_ (.p _ _ (.sc _))
     rw[gJ]
     simp[convert,run_underlying uC,run_underlying zc,Conv.intToInt]
   · cases he
 · rename_i s zc Bz
   split at he
   · rename_i uC
     simp only[Option.some.injEq,Prod.mk.injEq,and_true] at he
     obtain⟨rfl,rfl⟩:=he
     rw[Bz,VA.pv] at hx
     generalize hz:aV x=z at hx gJ
     cases hx
     refine bh.quiet h (v:= .string s) ?_ (.p _ _ (.sc _))
     rw[gJ]
     simp[convert,run_underlying uC,run_underlying zc]
   · cases he
 · rename_i e s zc Bz
   split at he
   · rename_i uC Hp
     simp only[Option.some.injEq,Prod.mk.injEq,and_true] at he
     obtain⟨rfl,rfl⟩:=he
     rw[Bz,VA.pv] at hx
     generalize hz:aV x=z at hx gJ
     cases hx
     have gI:=gQ s.size 0 e (w.tape w.drawn (.appendCap s.size 0 e))
     generalize hnc:(Question.appendCap s.size 0 e).cut (w.tape w.drawn (.appendCap s.size 0 e))=newCap at gI
     generalize uz:(s.data.map fun b=>(Value.int .u8 b.toNat))++Array.replicate (newCap-s.size) (Value.int .u8 0)=all
     have hss:s.data.toList.length=s.size:=Array.length_toList
     have hall:all.size=newCap:=by
      rw[←uz];simp only[Array.size_append,Array.size_map,Array.size_replicate]
      have:s.data.size=s.size:=rfl
      omega
     have pT:kW w ({w.drew with heap:=w.heap.push (.cells all e (all.size,all.size+1))}:World) (.cells all e (all.size,all.size+1)):=⟨rfl,rfl,rfl,rfl⟩
     obtain⟨r1,r2,r3⟩:=h.fresh (k:=s.size) hn pT (by omega) (.inr (Nat.le_refl _))
     refine⟨.slice (some ⟨w.heap.size,0,none⟩) s.size newCap,_,_,.inl ?_,?_,r1,r2,r3⟩
     · rw[gJ]
       have hsh:=Af w.drew all e
       have hfz:=xS w.drew all e
       rw[World.size_drew] at hsh hfz
       simp only[convert,Sem.run_bind,run_underlying uC,run_underlying zc,run_underlying Hp,Result.andThen_ok,Conv.stringToBytes,run_choose,Question.forced,Bool.false_eq_true,if_false,hnc,World.drew_eq,uz,newRow,run_newObj,World.alloc_eq,Sem.run_pure,markStringish,run_shape,World.size_drew,hsh,run_freeze,hfz]
       rfl
     · rw[hss]
       have sM:all.toList=(s.data.toList.map fun b=>(Value.int .u8 b.toNat))++List.replicate (newCap-s.size) (Value.int .u8 0):=by rw[←uz];simp
       refine .os _ _ _ _ _ _ (VP.mk (us:=s.data.toList.map fun b=>(Value.int .u8 b.toNat)) (aK.bV (by simp) fun i a b=>by simp only[List.getElem_map];exact .sc _) (by simp[hss]) gI (Nat.le_refl _) fun k v hk=> ?_) (.inr ⟨aF,w.heap.size,0,rfl,rfl,by simp[Gh.put,Gh.more],by simp[Gh.put,Gh.more],by simp[Gh.put,Gh.more,hall],gI⟩)
       have hk':=aM hk
       rw[List.length_map,hss] at hk'
       refine⟨?_,.inr ⟨rfl,by omega,by omega⟩,?_⟩
       · rw[aD pT.new,←Array.getElem?_toList,sM,Nat.zero_add,List.getElem?_append_left (by rw[List.length_map,hss];exact hk')]
         exact hk
       · obtain⟨b,_,rfl⟩:=List.mem_map.1 (List.mem_of_getElem? hk);rfl
   · cases he
 · rename_i e b off len sz cap zc Bz
   split at he
   · rename_i e' l uC Hp hb
     simp only[Option.some.injEq,Prod.mk.injEq,Bool.and_eq_true] at he
     obtain⟨rfl,rfl,h1,h2,h3⟩:=he
     have h1:=Nat.eq_of_beq_eq_true h1
     have h2:=Nat.eq_of_beq_eq_true h2
     have h3:=Nat.le_of_ble_eq_true h3
     subst h1;subst h2
     obtain rfl:e'=e:=by have:=uC.symm.trans zc;cases this;rfl
     rw[Bz] at hx
     generalize hz:aV x=z at hx gJ
     cases hx with
     |ms _ _ _ _ cap c hc hcap=>
     have A0:=getD_some hb (by simp)
     obtain⟨c',cs,et,n,k1,k2,k3,k4,k5⟩:=h.cells b _ _ A0 rfl
     rw[hc] at k1;cases k1
     have hlen:=k4.1.len
     simp only[List.length_map,Array.length_toList] at hlen
     obtain⟨r1,r2,r3⟩:=h.zb A0 hc
     obtain⟨⟨n',f1⟩,f2,f3,f4,f5,f6⟩:=uB w (off:=cs.size) k2
     have hno : ¬dH (g.more c 0 l.length) (m.set b .dead) c:=by
      rintro ⟨j,x,hj,ho,xz⟩
      rcases aC hj with⟨_,e⟩ | ⟨l7,e⟩
      · subst e;simp[av.bG] at ho
      · exact l7 (h.inj j b x _ c e A0 ho rfl xz hc)
     obtain⟨s1,s2⟩:=r1.Fb hno k2 f1 f2
     have JR:vJ g w l cs.toList:=aK.bV (by simpa using k4.1.len) fun i a b=>by
      have:=k4.1.get i (by simpa using a) b
      rw[List.getElem_map,VA.pv] at this
      exact this
     have hpure : ∀o,o<l.length→(g.more c 0 l.length).pure c o:=fun o ho=> .inr ⟨rfl,Nat.zero_le _,ho⟩
     refine⟨.slice (some ⟨c,off,none⟩) len cap,_,_,.inl ?_,.p _ _ (VP.mk (us:=(cs.toList.drop off).take len) (aK.mono (fun _ _ q=>VP.mono (r2.trans s2).pure q) ((JR.drop off).take len)) (by simp;omega) hcap (Nat.le_refl _) fun k v hk=> ?_),s1,r2.trans s2,⟨by rw[f3];exact Nat.le_refl _,fun k _ hn=>f2 k fun e=>hn (e▸⟨b,_,A0,rfl,hc⟩),fun b o p=>(r2.trans s2).pure b o p,r3.fresh,r3.owned,f4,f5,f6⟩⟩
     · rw[gJ]
       have hsh:w.shape? c=some (et,cs.size):=by simp only[World.shape?,k2]
       simp only[convert,Sem.run_bind,run_underlying uC,run_underlying Hp,Result.andThen_ok,beq_self_eq_true,markStringish,run_shape,hsh,run_freeze,Sem.run_pure]
     · rw[List.getElem?_take] at hk
       split at hk
       · rename_i hlt
         rw[List.getElem?_drop] at hk
         have hk':=aM hk
         refine⟨by rw[aD f1];simpa using hk,hpure (off+k) (by omega),k4.2 v (List.mem_of_getElem? hk)⟩
       · cases hk
   · cases he
 · rename_i b off zc Bz
   split at he
   · rename_i t ty l uC hb
     split at he
     · rename_i j hj
       simp only[Option.some.injEq,Prod.mk.injEq,Bool.and_eq_true] at he
       obtain⟨rfl,rfl,h1,h2⟩:=he
       have h1:=Nat.le_of_ble_eq_true h1
       have h2:=Nat.le_of_ble_eq_true h2
       rw[Bz] at hx
       generalize hz:aV x=z at hx gJ
       cases hx with
       |mp _ _ c hc=>
       obtain⟨c',ob,vs,k1,k2,k3,k4,_,_⟩:=h.obs b _ _ (getD_some hb (by simp))
       rw[hc] at k1;cases k1
       obtain⟨cs,e,n,rfl,_,_,q1,q2,_⟩:=k4
       have hl:=k3.len
       have hsh:w.shape? c=some (e,cs.size):=by simp only[World.shape?,k2]
       refine bh.quiet h (v:= .pointer (some ⟨c,off,none⟩)) ?_ (.mp b off c hc)
       rw[gJ,Lib.run_to_unsafe w ⟨c,off,none⟩ uC zc hj (by omega) hsh (by show off<cs.size;omega)]
       rfl
     · cases he
   · cases he
 · rename_i u b zc Bz
   split at he
   · rename_i ty l uC hb
     split at he
     · rename_i j hj
       simp only[Option.some.injEq,Prod.mk.injEq,Bool.and_eq_true] at he
       obtain⟨rfl,rfl,h1,h2,h3⟩:=he
       have h1:=Nat.eq_of_beq_eq_true h1
       have h2:=Nat.le_of_ble_eq_true h2
       have h3:=Nat.le_of_ble_eq_true h3
       subst h1
       rw[Bz] at hx
       generalize hz:aV x=z at hx gJ
       cases hx with
       |mp _ _ c hc=>
       obtain⟨c',ob,vs,k1,k2,k3,k4,_,_⟩:=h.obs b _ _ (getD_some hb (by simp))
       rw[hc] at k1;cases k1
       obtain⟨cs,e,n,rfl,rfl,_,q1,q2,_⟩:=k4
       have hl:=k3.len
       have hsh:w.shape? c=some (e,cs.size):=by simp only[World.shape?,k2]
       refine bh.quiet h (v:= .pointer (some ⟨c,0,none⟩)) ?_ (.mp b 0 c hc)
       rw[gJ,Lib.run_from_unsafe w ⟨c,0,none⟩ uC zc hj hsh (Ag (by omega) ((Nat.le_div_iff_mul_le (by omega)).2 (by omega)))]
       rfl
     · cases he
   · cases he
 · rename_i zc hnot
   split at he
   · rename_i e uC
     split at he
     · rename_i Hp
       split at he
       · rename_i n bQ ok gu
         simp only[Option.some.injEq,Prod.mk.injEq,Bool.and_eq_true] at he
         obtain⟨rfl,rfl,rfl,h1⟩:=he
         obtain⟨vs,s1,s2,_,s4,s5⟩:=cK (P:=P) h gu hx
         obtain⟨ns,n1,n2⟩:=By s1 h1
         have s6:=s5 n (Nat.le_refl _)
         rw[List.take_of_length_le (by omega),n1] at s6
         have Jy:ns.length=n:=by rw[n1] at s2;simpa using s2
         generalize hz:aV x=z at hx gJ s4 s6
         refine bh.quiet h (v:= .string ⟨(ns.map fun n=>UInt8.ofNat n.toNat).toArray⟩) ?_ (by rw[n2];exact .p _ _ (.sc _))
         rw[gJ]
         cases z with
         |slice ad len cap=>
          have hlen:len=n:=by simpa[Builtin.lenOf] using s4
          subst hlen
          cases ad with
          |none=>
           have:ns=[]:=by
            have:(#[]:Array Value)=(ns.map (Value.int .u8)).toArray:=by simpa[Builtin.firstCells] using s6
            have:=congrArg Array.size this
            simp at this
            exact List.length_eq_zero_iff.1 (by omega)
           subst this
           simp[convert,run_underlying uC,run_underlying zc,run_underlying Hp,Conv.bytesToString,ByteArray.empty,ByteArray.emptyWithCapacity]
           rfl
          |some ad=>
           have l8:(loadCells ad len).run P w = .ok (ns.map (Value.int .u8)).toArray w:=by simpa[Builtin.firstCells] using s6
           have:=run_bytesToString (P:=P) w ad len cap ns l8
           simp only[convert,Sem.run_bind,run_underlying uC,run_underlying zc,run_underlying Hp,Result.andThen_ok,this,foldl_push]
           simp[ByteArray.empty,ByteArray.emptyWithCapacity]
           rfl
         |string s=>
          exfalso
          generalize M6:ρ x=xx at hx hnot gu
          cases hx with
          |p pv _ hp=>cases hp;exact hnot s rfl
          |ah=>simp[contents] at gu
         |_=>simp[Builtin.lenOf] at s4
       · cases he
     · cases he
   · cases he
 · simp only[Option.map_eq_some_iff,Prod.mk.injEq,and_true] at he
   obtain⟨v,h1,rfl,rfl⟩:=he
   obtain⟨cv,k1,k2⟩:=cQ hr (fun _ _=>by rw[ho];exact fun e=>by cases e) h1
   exact bh.quiet h k1 k2
end ops
end Go.Am
end
section
namespace Go.Am
open Go.RowKit
section
variable {P:Program} {g:Gh} {m:Mem} {w:World}
theorem sN {kt:TypeId} (h:nG P kt=true):WideMaps.KeyLaw P kt:=by
 simp only[nG,Bool.and_eq_true] at h
 exact deep_law (m:=20) (by omega) h.2.1 h.2.2 h.1
theorem j9 {kt:TypeId} {v:Value} {b:List UInt8} (h:oY P kt v=some b):keyOf P kt v=some (.string b):=by
 unfold oY at h
 split at h
 · rename_i s hs
   simp only[Option.some.injEq] at h
   rw[hs,h]
 · cases h
theorem jr {kt:TypeId} (hl:WideMaps.KeyLaw P kt) {x:Value} {b:List UInt8} (hx:oY P kt x=some b) : ∀{ks:List Value} {vs r:List AV} {cs:List Value} {bs:List Nat},lP P kt b ks vs=some r→bM g w vs cs→bs.length=cs.length →
  (∀e∈entriesOf ks cs bs,∃l,keyOf P kt e.key=some l)∧(∀e∈entriesOf ks cs bs,e.key=x → ∃v∈r,VA g w v e.val) ∧ ∀v∈r,∃e∈entriesOf ks cs bs,e.key=x
 |[],[],r,[],[],h,_,_=>by
  simp only[lP,Option.some.injEq] at h
  subst h
  exact⟨fun e he=>by simp[entriesOf] at he,fun e he=>by simp[entriesOf] at he,fun v hv=>by cases hv⟩
 |k::ks,v::vs,r,c::cs,n::bs,h,hv,hb=>by
  simp only[lP] at h
  split at h
  · rename_i b' r' h1 h2
    simp only[Option.some.injEq] at h
    obtain⟨i1,i2,i3⟩:=jr hl hx h2 hv.2 (by simpa using hb)
    have hk:=j9 h1
    have LY:=j9 hx
    cases hq:gD b b' with
    |true=>
     rw[hq] at h
     simp only[cond_true] at h
     subst h
     have LZ:=kV hq
     subst LZ
     have hkk:k=x:=hl.inj hk LY
     refine⟨?_,?_,?_⟩
     · intro e he
       simp only[entriesOf,List.mem_cons] at he
       rcases he with rfl | he
       · exact⟨_,hk⟩
       · exact i1 e he
     · intro e he Hq
       simp only[entriesOf,List.mem_cons] at he
       rcases he with rfl | he
       · exact⟨v,.head _,hv.1⟩
       · obtain⟨u,q1,q2⟩:=i2 e he Hq
         exact⟨u,.tail _ q1,q2⟩
     · intro u _
       exact⟨_,.head _,hkk⟩
    |false=>
     rw[hq] at h
     simp only[cond_false] at h
     subst h
     refine⟨?_,?_,?_⟩
     · intro e he
       simp only[entriesOf,List.mem_cons] at he
       rcases he with rfl | he
       · exact⟨_,hk⟩
       · exact i1 e he
     · intro e he Hq
       simp only[entriesOf,List.mem_cons] at he
       rcases he with rfl | he
       · exfalso
         have Hq:k=x:=Hq
         subst Hq
         rw[hx] at h1
         cases h1
         have : ∀l:List UInt8,gD l l=true:=by
          intro l
          induction l with
          |nil=>rfl
          |cons a l ih=>simp[gD,ih]
         rw[this] at hq;cases hq
       · exact i2 e he Hq
     · intro u hu
       obtain⟨e,q1,q2⟩:=i3 u hu
       exact⟨e,.tail _ q1,q2⟩
  · cases h
 |_,_::_,_,[],_,_,hv,_=>hv.elim
 |_,[],_,_::_,_,_,hv,_=>hv.elim
 |[],_::_,_,_::_,_,h,_,_=>by simp[lP] at h
 |_::_,[],_,[],_,h,_,_=>by simp[lP] at h
 |_,_,_,_::_,[],_,_,hb=>by simp at hb
 |_,_,_,[],_::_,_,_,hb=>by simp at hb
theorem pV {kt:TypeId} {b:List UInt8} {key:Value} {v:AV} {cv:Value} {n:Nat} (hv:VA g w v cv) : ∀{ks:List Value} {us:List AV} {cs:List Value} {bs:List Nat},bM g w us cs→ks.length=cs.length→bs.length=cs.length →
  ∃cs' bs',bM g w (rF P kt b key v ks us).2 cs'∧(rF P kt b key v ks us).1.length=cs'.length∧bs'.length=cs'.length ∧
   (entriesOf (rF P kt b key v ks us).1 cs' bs').Perm ({key:=key,val:=cv,born:=n}::entriesOf ks cs bs)
 |[],[],[],[],_,_,_=>⟨[cv],[n],⟨hv,trivial⟩,rfl,rfl,.refl _⟩
 |k::ks,u::us,c::cs,q::bs,h,h1,h2=>by
  have front : ∃cs' bs',bM g w (v::u::us) cs'∧(key::k::ks).length=cs'.length∧bs'.length=cs'.length∧(entriesOf (key::k::ks) cs' bs').Perm ({key:=key,val:=cv,born:=n}::entriesOf (k::ks) (c::cs) (q::bs)):=
   ⟨cv::c::cs,n::q::bs,⟨hv,h⟩,by simpa using h1,by simpa using h2,.refl _⟩
  unfold rF
  split
  · rename_i c' _
    cases tZ b c' with
    |true=>exact front
    |false=>
     obtain⟨cs',bs',p1,p2,p3,p4⟩:=pV hv (ks:=ks) (us:=us) (cs:=cs) (bs:=bs) h.2 (by simpa using h1) (by simpa using h2)
     refine⟨c::cs',q::bs',⟨h.1,p1⟩,by simpa using p2,by simpa using p3,?_⟩
     simp only[cond_false,entriesOf]
     exact(p4.cons _).trans (.swap _ _ _)
  · exact front
 |_,_::_,[],_,h,_,_=>h.elim
 |_,[],_::_,_,h,_,_=>h.elim
 |[],_::_,_::_,_,_,h,_=>by simp at h
 |_::_,[],[],_,_,h,_=>by simp at h
 |_,_,_::_,[],_,_,h=>by simp at h
 |_,_,[],_::_,_,_,h=>by simp at h
theorem uD (h:Rel g m w) {x:AV} {cx:Value} (hx:VA g w x cx) {ks:List Value} {vs:List AV} (he:mQ (fun i=>m.getD i .dead) x=some (ks,vs)) :
  ∃r es clock cs bs,cx = .map (some r)∧w.heap[r]? = some (.map es clock)∧bM g w vs cs∧ks.length=cs.length∧bs.length=cs.length∧es.toList.Perm (entriesOf ks cs bs):=by
 unfold mQ at he
 split at he
 · rename_i b
   split at he
   · rename_i ks' vs' hb
     simp only[Option.some.injEq,Prod.mk.injEq] at he
     obtain⟨rfl,rfl⟩:=he
     obtain⟨c,ob,cs,k1,k2,k3,k4,_⟩:=h.obs b _ _ (getD_some hb (by simp))
     simp only[mN.is] at k4
     obtain⟨es,clock,bs,rfl,q1,q2,q3⟩:=k4
     cases hx with
     |vm _ c' hc=>
      rw[k1] at hc;cases hc
      exact⟨c,es,clock,cs,bs,rfl,k2,k3,q1,q2,q3⟩
   · cases he
 · cases he
theorem vY {t:TypeId} {z:AV} (h:je P t=some z) : ∃cz,(∀w,(zeroValue t).run P w = .ok cz w)∧VA g w z cz:=by
 unfold je at h
 cases hi:P.info? t with
 |none=>simp[hi] at h
 |some i=>
  cases hz:i.zero with
  |none=>simp[hi,hz] at h
  |some c=>
   simp only[hi,hz,Option.map_some,Option.some.injEq] at h
   subst h
   exact⟨c,fun w=>by simp[zeroValue,typeInfo,hi,hz],VA.yR c⟩
theorem rS (h:Rel g m w) {x k a:AV} {cx ck:Value} {t:TypeId} {ok:Bool} (hx:VA g w x cx) (hk:VA g w k ck) (he:oF P (fun i=>m.getD i .dead) t x k ok=some a) :
  ∃v,(Instr.lookup t cx ck ok).run P w = .ok v w∧VA g w a v:=by
 unfold oF at he
 split at he
 · rename_i key kt et hkey hm
   obtain rfl:=xP hkey hk
   split at he
   · rename_i z ks vs b hz hu hb
     cases hw:nG P kt with
     |false=>rw[hw] at he;cases he
     |true=>
      rw[hw] at he
      simp only[cond_true] at he
      have hl:=sN hw
      obtain⟨cz,y9,xQ⟩:=vY (g:=g) (w:=w) hz
      obtain⟨r,es,clock,cs,bs,rfl,hr,hcs,e1,e2,e3⟩:=uD h hx hu
      have hlk:=j9 hb
      cases hf:lP P kt b ks vs with
      |none=>rw[hf] at he;cases he
      |some l=>
       rw[hf] at he
       obtain⟨f1,f2,f3⟩:=jr hl hb hf hcs e2
       have hc:=hl.check w es.isEmpty hlk
       rcases hl.find w hlk es.toList (fun e he=>f1 e (e3.mem_iff.1 he)) with⟨q1,q2⟩ | ⟨j,e,q1,q2,q3⟩
       · match l,he with
         |[],he=>
          simp only[Option.some.injEq] at he
          subst he
          refine⟨cond ok (.tuple #[cz,.bool false]) cz,?_,?_⟩
          · cases ok<;>simp[Instr.lookup,run_underlying hm,MapKept.run_getObj_map hr,hc,q1,y9,Result.andThen]
          · cases ok with
            |true=>exact VA.fY.2 ⟨xQ,.p _ _ (.sc _),trivial⟩
            |false=>exact xQ
         |[v],_=>
          obtain⟨e,p1,p2⟩:=f3 v (.head _)
          exact absurd p2 (q2 e (e3.mem_iff.2 p1))
       · have hmem:e∈es.toList:=List.mem_of_getElem? q2
         obtain⟨v,p1,p2⟩:=f2 e (e3.mem_iff.1 hmem) q3
         match l,he,p1 with
         |[u],he,p1=>
          obtain rfl:v=u:=by simpa using p1
          simp only[Option.some.injEq] at he
          subst he
          refine⟨cond ok (.tuple #[e.val,.bool true]) e.val,?_,?_⟩
          · cases ok<;>simp[Instr.lookup,run_underlying hm,MapKept.run_getObj_map hr,hc,q1,Result.andThen]
          · cases ok with
            |true=>exact VA.fY.2 ⟨p2,.p _ _ (.sc _),trivial⟩
            |false=>exact p2
   · cases he
 · cases he
theorem mY (h:Rel g m w) {x k v a:AV} {cx ck cv:Value} {t:TypeId} {us:iX} (hx:VA g w x cx) (hk:VA g w k ck) (hv:VA g w v cv)
  (he:eP P (fun i=>m.getD i .dead) t x k v=some (a,us,true)) :
  ∃w',(Instr.mapUpdate t cx ck cv).run P w = .ok () w'∧a = .aO []∧Rel g (apply m us) w'∧Ext g w g w'∧bO g m w g (apply m us) w':=by
 unfold eP at he
 split at he
 · rename_i b key kt et hkey hm
   obtain rfl:=xP hkey hk
   split at he
   · rename_i ks vs lb hb hlb
     cases hw:nG P kt with
     |false=>rw[hw] at he;cases he
     |true=>
      rw[hw] at he
      simp only[cond_true] at he
      have hl:=sN hw
      split at he
      · rename_i hf
        simp only[Option.some.injEq,Prod.mk.injEq,and_true] at he
        obtain⟨rfl,rfl⟩:=he
        have hib:=getD_some hb (by simp)
        obtain⟨c,ob,cs,k1,k2,k3,k4,_⟩:=h.obs b _ _ hib
        simp only[mN.is] at k4
        obtain⟨es,clock,bs,rfl,e1,e2,e3⟩:=k4
        cases hx with
        |vm _ c' hc=>
         rw[k1] at hc;cases hc
         have hlk:=j9 hlb
         obtain⟨f1,f2,f3⟩:=jr hl hlb hf k3 e2
         have uE:=hl.check w false hlk
         rcases hl.find w hlk es.toList (fun e he=>f1 e (e3.mem_iff.1 he)) with⟨q1,q2⟩ | ⟨j,e,q1,q2,q3⟩
         · obtain⟨cs',bs',p1,p2,p3,p4⟩:=pV (P:=P) (kt:=kt) (b:=lb) (key:=ck) (n:=clock) hv (ks:=ks) (us:=vs) (cs:=cs) (bs:=bs) k3 e1 e2
           obtain⟨s1,s2,s3⟩:(∀j,j≠c→({w with heap:=w.heap.setIfInBounds c (.map (es.push {key:=ck,val:=cv,born:=clock}) (clock+1))}:World).heap[j]? = w.heap[j]?) ∧
            ({w with heap:=w.heap.setIfInBounds c (.map (es.push {key:=ck,val:=cv,born:=clock}) (clock+1))}:World).heap.size=w.heap.size ∧
            ({w with heap:=w.heap.setIfInBounds c (.map (es.push {key:=ck,val:=cv,born:=clock}) (clock+1))}:World).heap[c]? = some (.map (es.push {key:=ck,val:=cv,born:=clock}) (clock+1)):=
            ⟨fun j hj=>(MapKept.heap_set k2).2 j hj,by simp,(MapKept.heap_set k2).1⟩
           obtain⟨r1,r2,r3⟩:=h.eE (xO:= .tT (rF P kt lb ck v ks vs).1) (l':=(rF P kt lb ck v ks vs).2) (vs':=cs') hib k1 s1 s2 rfl rfl rfl s3
            ⟨_,_,bs',rfl,p2,p3,by
              rw[Array.toList_push]
              exact(List.perm_append_comm.trans ((e3.cons _).trans p4.symm))⟩ p1
           refine⟨_,?_,rfl,r1,r2,r3⟩
           simp[Instr.mapUpdate,run_underlying hm,MapKept.run_getObj_map k2,uE,q1,MapKept.run_setObj_map _ k2,Result.andThen]
         · obtain⟨v',p1,_⟩:=f2 e (e3.mem_iff.1 (List.mem_of_getElem? q2)) q3
           cases p1
      · cases he
   · cases he
 · cases he
end
end Go.Am
end
section
namespace Go.Am
open Go.RowKit
section
variable {P:Program} {g:Gh} {m:Mem} {w:World}
theorem nM {d:TypeDesc} {k:Value} (h:plainKey d k=true):MapKept.IsKey d k:=by
 cases d<;>cases k<;>simp_all [plainKey,MapKept.IsKey]
theorem jt {t:TypeId} {z:AV} (h:je P t=some z) : ∃cz,(∀w,(zeroValue t).run P w = .ok cz w)∧VA g w z cz:=by
 unfold je at h
 cases hi:P.info? t with
 |none=>simp[hi] at h
 |some i=>
  cases hz:i.zero with
  |none=>simp[hi,hz] at h
  |some c=>
   simp only[hi,hz,Option.map_some,Option.some.injEq] at h
   subst h
   exact⟨c,fun w=>by simp[zeroValue,typeInfo,hi,hz],VA.yR c⟩
theorem pW {t s xt:TypeId} {ok:Bool} {cv:Value} {d:TypeDesc} (hu:P.underlying t=some d) (hni : ∀ms,d ≠ .interface ms) :
  (Instr.typeAssert (.iface s cv) xt t ok).run P w=(if s=t then(.ok (if ok then .tuple #[cv,.bool true] else cv) w) else
    (do if ok then pure (.tuple #[←zeroValue t,.bool false]) else runtimePanic (.typeAssertion (some xt) (some s) t ""):Sem Value).run P w):=by
 unfold Instr.typeAssert
 simp only[Sem.run_bind,run_underlying hu,Result.andThen_ok]
 cases d<;>first
  |exact absurd rfl (hni _)
  |(by_cases e:s=t<;>simp[e])
theorem Ah {t xt:TypeId} {d:TypeDesc} {ok:Bool} {v:AV} (hu:P.underlying t=some d) (Dx : ∀ms,d ≠ .interface ms) (s:TypeId) (u:AV) (cu:Value) (hv:VA g w u cu) (h:(match Nat.beq s t,ok with
  |true,true=>some (AV.aO [u,sB true])
  |true,false=>some u
  |false,true=>(je P t).map fun z=> .aO [z,sB false]
  |false,false=>none)=some v) : ∃cv,(Instr.typeAssert (.iface s cu) xt t ok).run P w = .ok cv w∧VA g w v cv:=by
 rw[pW hu Dx]
 cases hb:Nat.beq s t with
 |true=>
  have e:=Nat.eq_of_beq_eq_true hb
  rw[hb] at h
  rw[if_pos e]
  cases ok with
  |true=>
   simp only[Option.some.injEq] at h;subst h
   exact⟨_,rfl,VA.fY.2 ⟨hv,.p _ _ (.sc _),trivial⟩⟩
  |false=>
   simp only[Option.some.injEq] at h;subst h
   exact⟨_,rfl,hv⟩
 |false=>
  have e:s≠t:=fun e=>by subst e;rw[Nat.beq_refl] at hb;cases hb
  rw[hb] at h
  rw[if_neg e]
  cases ok with
  |true=>
   simp only[Option.map_eq_some_iff] at h
   obtain⟨z,hz,rfl⟩:=h
   obtain⟨cz,h1,h2⟩:=jt (g:=g) (w:=w) hz
   exact⟨.tuple #[cz,.bool false],by simp[h1],VA.fY.2 ⟨h2,.p _ _ (.sc _),trivial⟩⟩
  |false=>cases h
theorem pX {t xt:TypeId} {x v:AV} {cx:Value} {ok:Bool} (he:o7 P t x ok=some v) (hx:VA g w x cx) : ∃cv,(Instr.typeAssert cx xt t ok).run P w = .ok cv w∧VA g w v cv:=by
 unfold o7 at he
 split at he
 · cases he
 · rename_i d hni hu
   have Dx : ∀ms,d ≠ .interface ms:=fun ms e=>hni ms e
   have fin:= @Ah P g w t xt d ok v hu Dx
   split at he
   · cases hx with
     |p _ _ hx=>cases hx with
      |sc=>
       split at he
       · rename_i z hz
         simp only[Option.some.injEq] at he;subst he
         obtain⟨cz,h1,h2⟩:=jt (g:=g) (w:=w) hz
         refine⟨.tuple #[cz,.bool false],?_,VA.fY.2 ⟨h2,.p _ _ (.sc _),trivial⟩⟩
         unfold Instr.typeAssert
         simp only[Sem.run_bind,run_underlying hu,Result.andThen_ok]
         cases d<;>first
          |exact absurd rfl (Dx _)
          |simp[h1]
       · cases he
   · cases hx with
     |p _ _ hx=>cases hx with
      |gx _ _ cv h=>exact fin _ _ cv (.p _ _ h) he
   · cases hx with
     |gx _ _ cv h=>exact fin _ _ cv h he
   · cases hx with
     |p _ _ hx=>cases hx with
      |sc=>exact fin _ _ _ (VA.yR _) he
   · cases he
 · cases he
theorem nN {d:TypeDesc} {k:Value} : ∀{ks:List Value} {vs:List AV} {bs:List Nat} {cs:List Value} {r:Option AV} (n:Nat),kC d k ks vs bs=some r→bM g w vs cs →
  match r with
  |some v=> ∃i cv,Instr.findNow d k (entriesOf ks cs bs) n=some (some (i,cv))∧VA g w v cv
  |none=>Instr.findNow d k (entriesOf ks cs bs) n=some none
 |[],[],[],[],r,n,h,_=>by
  simp only[kC,Option.some.injEq] at h
  subst h
  rfl
 |k'::ks,v::vs,b::bs,c::cs,r,n,h,hv=>by
  simp only[kC] at h
  simp only[entriesOf,Instr.findNow]
  cases hs:Instr.sameNow d k k' with
  |none=>rw[hs] at h;cases h
  |some q=>
   rw[hs] at h
   cases q with
   |true=>
    simp only[Option.some.injEq] at h
    subst h
    exact⟨n,c,rfl,hv.1⟩
   |false=>exact nN (n+1) h hv.2
 |_,_::_,_,[],_,_,_,hv=>hv.elim
 |_,[],_,_::_,_,_,_,hv=>hv.elim
 |_::_,[],_,_,_,_,h,_=>by simp[kC] at h
 |[],_::_,_,_,_,_,h,_=>by simp[kC] at h
 |[],[],_::_,_,_,_,h,_=>by simp[kC] at h
 |_::_,_::_,[],_,_,_,h,_=>by simp[kC] at h
theorem key_eq {k:Value} {cv:Value} (h:VA g w (.p (.sc k)) cv):cv=k:=by
 rw[VA.pv] at h
 cases h
 rfl
theorem vZ (h:Rel g m w) {x:AV} {cx:Value} (hx:VA g w x cx) {ks:List Value} {vs:List AV} {bs:List Nat} (he:mapOf (fun i=>m.getD i .dead) x=some (ks,vs,bs)) :
  ∃cs,bM g w vs cs∧((cx = .map none∧ks=[]∧vs=[]∧bs=[]) ∨ ∃r clock,cx = .map (some r)∧w.heap[r]? = some (.map (entriesOf ks cs bs).toArray clock)):=by
 unfold mapOf at he
 split at he
 · simp only[Option.some.injEq,Prod.mk.injEq] at he
   obtain⟨rfl,rfl,rfl⟩:=he
   exact⟨[],trivial,.inl ⟨key_eq hx,rfl,rfl,rfl⟩⟩
 · rename_i b
   split at he
   · rename_i ks' bs' clock vs' hb
     simp only[Option.some.injEq,Prod.mk.injEq] at he
     obtain⟨rfl,rfl,rfl⟩:=he
     obtain⟨c,ob,cs,k1,k2,k3,k4,_⟩:=h.obs b _ _ (getD_some hb (by simp))
     simp only[mN.is] at k4
     subst k4
     cases hx with
     |vm _ c' hc=>
      rw[k1] at hc;cases hc
      exact⟨cs,k3,.inr ⟨c,clock,rfl,k2⟩⟩
   · cases he
 · cases he
theorem pY (h:Rel g m w) {x k a:AV} {cx ck:Value} {t:TypeId} {ok:Bool} (hx:VA g w x cx) (hk:VA g w k ck) (he:gV P (fun i=>m.getD i .dead) t x k ok=some a) :
  ∃v,(Instr.lookup t cx ck ok).run P w = .ok v w∧VA g w a v:=by
 unfold gV at he
 split at he
 · rename_i key
   obtain rfl:=key_eq hk
   split at he
   · rename_i kt et hm
     split at he
     · rename_i d z ks vs bs hd hz hmap
       cases hp:plainKey d ck with
       |false=>simp[hp] at he
       |true=>
        simp only[hp,cond_true] at he
        have hik:=nM hp
        obtain⟨cz,y9,xQ⟩:=jt (g:=g) (w:=w) hz
        obtain⟨cs,hcs,BA⟩:=vZ h hx hmap
        have hc : ∀e,(Instr.checkKey e 10000 kt ck).run P w = .ok () w:=fun e=>MapKept.run_checkKey hd hik e 9999
        have HJ:entriesOf [] cs []=[]:=by cases cs<;>rfl
        cases hf:kC d ck ks vs bs with
        |none=>simp[hf] at he
        |some r=>
         have hs:=nN (g:=g) (w:=w) 0 hf hcs
         cases r with
         |none=>
          simp only[hf,Option.some.injEq] at he
          subst he
          simp only at hs
          have hk:=MapKept.run_findKey (w:=w) hd hs
          refine⟨cond ok (.tuple #[cz,.bool false]) cz,?_,?_⟩
          · rcases BA with⟨rfl,rfl,rfl,rfl⟩ | ⟨r,clock,rfl,hr⟩
            · rw[HJ] at hk
              cases ok<;>simp[Instr.lookup,run_underlying hm,hc,hk,y9,Result.andThen]
            · cases ok<;>simp[Instr.lookup,run_underlying hm,MapKept.run_getObj_map hr,hc,hk,y9,Result.andThen]
          · cases ok with
            |true=>exact VA.fY.2 ⟨xQ,.p _ _ (.sc _),trivial⟩
            |false=>exact xQ
         |some u=>
          simp only[hf,Option.some.injEq] at he
          subst he
          obtain⟨i,cv,hs1,Hr⟩:=hs
          have hk:=MapKept.run_findKey (w:=w) hd hs1
          refine⟨cond ok (.tuple #[cv,.bool true]) cv,?_,?_⟩
          · rcases BA with⟨rfl,rfl,rfl,rfl⟩ | ⟨r,clock,rfl,hr⟩
            · rw[HJ] at hk
              cases ok<;>simp[Instr.lookup,run_underlying hm,hc,hk,Result.andThen]
            · cases ok<;>simp[Instr.lookup,run_underlying hm,MapKept.run_getObj_map hr,hc,hk,Result.andThen]
          · cases ok with
            |true=>exact VA.fY.2 ⟨Hr,.p _ _ (.sc _),trivial⟩
            |false=>exact Hr
     · cases he
   · cases he
 · exact rS h hx hk he
 · cases he
theorem pZ {d:TypeDesc} {k:Value} {v:AV} {cv:Value} (hik:MapKept.IsKey d k) (hv:VA g w v cv) : ∀{ks:List Value} {vs:List AV} {bs:List Nat} {cs:List Value} {r:Option (List AV)} (n:Nat),oZ d k v ks vs bs=some r→bM g w vs cs →
  match r with
  |some l=> ∃i o cs',Instr.findNow d k (entriesOf ks cs bs) n=some (some (n+i,o))∧((entriesOf ks cs bs)[i]?).map (·.key)=some k∧(entriesOf ks cs bs).modify i (fun e=>{e with key:=k,val:=cv})=entriesOf ks cs' bs∧bM g w l cs'
  |none=>Instr.findNow d k (entriesOf ks cs bs) n=some none∧ks.length=vs.length∧bs.length=vs.length
 |[],[],[],[],r,n,h,_=>by
  simp only[oZ,Option.some.injEq] at h
  subst h
  exact⟨rfl,rfl,rfl⟩
 |k'::ks,u::vs,b::bs,c::cs,r,n,h,hvs=>by
  simp only[oZ] at h
  simp only[entriesOf,Instr.findNow]
  cases hs:Instr.sameNow d k k' with
  |none=>rw[hs] at h;cases h
  |some q=>
   rw[hs] at h
   cases q with
   |true=>
    simp only[Option.some.injEq] at h
    subst h
    have hkk:k'=k:=by
     cases d<;>cases k<;>simp only[MapKept.IsKey] at hik<;>cases k'<;>simp only[Instr.sameNow] at hs<;>first
      |cases hs
      |(split at hs
        · rename_i e1;subst e1;simp at hs;subst hs;rfl
        · cases hs)
      |(simp only[Option.some.injEq,MapKept.bytes_beq,beq_iff_eq] at hs;subst hs;rfl)
    subst hkk
    exact⟨0,c,cv::cs,rfl,rfl,rfl,hv,hvs.2⟩
   |false=>
    cases hr:oZ d k v ks vs bs with
    |none=>simp[hr] at h
    |some r'=>
     have ih:=pZ hik hv (n+1) hr hvs.2
     cases r' with
     |none=>
      simp only[hr,Option.some.injEq] at h
      subst h
      exact⟨ih.1,by simp[ih.2.1],by simp[ih.2.2]⟩
     |some l=>
      simp only[hr,Option.some.injEq] at h
      subst h
      obtain⟨i,o,cs',q1,q2,q3,q4⟩:=ih
      refine⟨i+1,o,c::cs',by rw[q1];simp;omega,by simpa using q2,?_,hvs.1,q4⟩
      simp only[List.modify_succ_cons,entriesOf,q3]
 |_,_::_,_,[],_,_,_,hv=>hv.elim
 |_,[],_,_::_,_,_,_,hv=>hv.elim
 |_::_,[],_,_,_,_,h,_=>by simp[oZ] at h
 |[],_::_,_,_,_,_,h,_=>by simp[oZ] at h
 |[],[],_::_,_,_,_,h,_=>by simp[oZ] at h
 |_::_,_::_,[],_,_,_,h,_=>by simp[oZ] at h
theorem ju {k:Value} {cv:Value} {b:Nat} : ∀{ks cs:List Value} {bs:List Nat},ks.length=cs.length→bs.length=cs.length→entriesOf ks cs bs++[{key:=k,val:=cv,born:=b}]=entriesOf (ks++[k]) (cs++[cv]) (bs++[b])
 |[],[],[],_,_=>rfl
 |_::ks,_::cs,_::bs,h,h'=>by simp[entriesOf,ju (ks:=ks) (cs:=cs) (bs:=bs) (by simpa using h) (by simpa using h')]
 |[],_::_,_,h,_=>by simp at h
 |_::_,[],_,h,_=>by simp at h
 |[],[],_::_,_,h=>by simp at h
 |_::_,_::_,[],_,h=>by simp at h
theorem cj (w:World) {r:Nat} {o':Obj} {o:Obj} (hb:w.heap[r]? = some o) :
  (∀k,k≠r→({w with heap:=w.heap.setIfInBounds r o'}:World).heap[k]? = w.heap[k]?)∧({w with heap:=w.heap.setIfInBounds r o'}:World).heap.size=w.heap.size∧({w with heap:=w.heap.setIfInBounds r o'}:World).heap[r]? = some o':=
 ⟨fun k hk=>(MapKept.heap_set hb).2 k hk,by simp,(MapKept.heap_set hb).1⟩
theorem gK (h:Rel g m w) {x k v a:AV} {cx ck cv:Value} {t:TypeId} {us:iX} (hx:VA g w x cx) (hk:VA g w k ck) (hv:VA g w v cv)
  (he:dj P (fun i=>m.getD i .dead) t x k v=some (a,us,true)) :
  ∃w',(Instr.mapUpdate t cx ck cv).run P w = .ok () w'∧a = .aO []∧Rel g (apply m us) w'∧Ext g w g w'∧bO g m w g (apply m us) w':=by
 unfold dj at he
 split at he
 · rename_i b key
   obtain rfl:=key_eq hk
   split at he
   · rename_i kt et ks bs clock vs hm hb
     split at he
     · rename_i d hd
       cases hp:plainKey d ck with
       |false=>simp[hp] at he
       |true=>
        simp only[hp,cond_true] at he
        have hik:=nM hp
        have hib:=getD_some hb (by simp)
        obtain⟨c,ob,cs,k1,k2,k3,k4,_⟩:=h.obs b _ _ hib
        simp only[mN.is] at k4
        subst k4
        cases hx with
        |vm _ c' hc=>
         rw[k1] at hc;cases hc
         have uE : ∀e,(Instr.checkKey e 10000 kt ck).run P w = .ok () w:=fun e=>MapKept.run_checkKey hd hik e 9999
         cases hu:oZ d ck v ks vs bs with
         |none=>simp[hu] at he
         |some r=>
          have hs:=pZ (g:=g) (w:=w) hik hv 0 hu k3
          cases r with
          |some l=>
           simp only[hu,Option.some.injEq,Prod.mk.injEq,and_true] at he
           obtain⟨rfl,rfl⟩:=he
           obtain⟨i,o,cs',q1,q2,q3,q4⟩:=hs
           rw[Nat.zero_add] at q1
           have hfind:=MapKept.run_findKey (w:=w) hd q1
           obtain⟨e1,e2,e3⟩:=cj w (o':= .map (entriesOf ks cs' bs).toArray clock) k2
           obtain⟨r1,r2,r3⟩:=h.eE (xO:= .map ks bs clock) (l':=l) (vs':=cs') hib k1 e1 e2 rfl rfl rfl e3 rfl q4
           refine⟨_,?_,rfl,r1,r2,r3⟩
           have hsame:Instr.sameBits 10000 ck ck=true:=by
            cases d<;>cases ck<;>simp only[MapKept.IsKey] at hik<;>simp[Instr.sameBits,MapKept.bytes_beq]
           have hmod:(entriesOf ks cs bs).toArray.modify i (fun e=>{e with key:=ck,val:=cv})=(entriesOf ks cs' bs).toArray:=by
            rw[←q3];simp
           simp[Instr.mapUpdate,run_underlying hm,MapKept.run_getObj_map k2,uE,hfind,Instr.keyThatStays,hsame,MapKept.run_setObj_map _ k2,Result.andThen,q2,q3]
          |none=>
           simp only[hu,Option.some.injEq,Prod.mk.injEq,and_true] at he
           obtain⟨rfl,rfl⟩:=he
           obtain⟨q1,q2,q3⟩:=hs
           have hlen:=k3.len
           have hfind:=MapKept.run_findKey (w:=w) hd q1
           obtain⟨e1,e2,e3⟩:=cj w (o':= .map (entriesOf (ks++[ck]) (cs++[cv]) (bs++[clock])).toArray (clock+1)) k2
           obtain⟨r1,r2,r3⟩:=h.eE (xO:= .map (ks++[ck]) (bs++[clock]) (clock+1)) (l':=vs++[v]) (vs':=cs++[cv]) hib k1 e1 e2 rfl rfl rfl e3 rfl (k3.append (⟨hv,trivial⟩:bM g w [v] [cv]))
           refine⟨_,?_,rfl,r1,r2,r3⟩
           have HK:(entriesOf ks cs bs).toArray.push {key:=ck,val:=cv,born:=clock}=(entriesOf (ks++[ck]) (cs++[cv]) (bs++[clock])).toArray:=by
            rw[←ju (by omega) (by omega)];simp
           simp[Instr.mapUpdate,run_underlying hm,MapKept.run_getObj_map k2,uE,hfind,HK,MapKept.run_setObj_map _ k2,Result.andThen]
     · cases he
   · cases he
 · exact mY h hx hk hv he
 · cases he
theorem sO {t e:TypeId} (hd:P.underlying t=some (.pointer e)) (a:Addr):(Op.equal t (.pointer (some a)) (.pointer none)).run P w = .ok false w∧(Op.equal t (.pointer none) (.pointer (some a))).run P w = .ok false w:=by
 refine⟨?_,?_⟩
 · show(Op.equalIn (9999+1) t _ _).run P w = .ok false w
   rw[Op.equalIn];simp only[Sem.run_bind,run_underlying hd,Result.andThen_ok];rfl
 · show(Op.equalIn (9999+1) t _ _).run P w = .ok false w
   rw[Op.equalIn];simp only[Sem.run_bind,run_underlying hd,Result.andThen_ok];rfl
theorem sQ {t k e:TypeId} (hd:P.underlying t=some (.map k e)) (a:Nat):(Op.equal t (.map (some a)) (.map none)).run P w = .ok false w∧(Op.equal t (.map none) (.map (some a))).run P w = .ok false w:=by
 refine⟨?_,?_⟩
 · show(Op.equalIn (9999+1) t _ _).run P w = .ok false w
   rw[Op.equalIn];simp only[Sem.run_bind,run_underlying hd,Result.andThen_ok];rfl
 · show(Op.equalIn (9999+1) t _ _).run P w = .ok false w
   rw[Op.equalIn];simp only[Sem.run_bind,run_underlying hd,Result.andThen_ok];rfl
theorem dF (op:BinOp) (t:TypeId) (a b:Operand):(∀p q,(eqGuard op t a b (.pointer p) (.pointer q)).run P w = .ok () w) ∧ ∀p q,(eqGuard op t a b (.map p) (.map q)).run P w = .ok () w:=by
 refine⟨fun p q=> ?_,fun p q=> ?_⟩<;>(unfold eqGuard;cases op<;>rfl)
theorem iD (t:TypeId) {cx cy:Value} (h:(∃p q,cx = .pointer p∧cy = .pointer q) ∨ ∃p q,cx = .map p∧cy = .map q) (op:BinOp) (ho:op = .eql∨op = .neq) :
  binOp op t cx cy=(do let r ←Op.equal t cx cy;pure (.bool (if op = .eql then r else !r)):Sem Value):=by
 rcases h with⟨p,q,rfl,rfl⟩ | ⟨p,q,rfl,rfl⟩<;>rcases ho with rfl | rfl<;>rfl
theorem p9 {d:TypeDesc} {x y:AV} {cx cy:Value} (hx:VA g w x cx) (hy:VA g w y cy) (h:sv d x y=true) :
  (∃e a,d = .pointer e∧cx = .pointer (some a)∧cy = .pointer none) ∨ ∃k e a,d = .map k e∧cx = .map (some a)∧cy = .map none:=by
 unfold sv at h
 split at h
 · split at h
   · obtain rfl:=key_eq hy
     split at h
     · rw[VA.pv] at hx
       cases hx
       exact .inl ⟨_,_,rfl,rfl,rfl⟩
     · cases hx
       exact .inl ⟨_,_,rfl,rfl,rfl⟩
     · cases h
   · cases h
 · split at h
   · obtain rfl:=key_eq hy
     split at h
     · cases hx
       exact .inr ⟨_,_,_,rfl,rfl,rfl⟩
     · cases h
   · cases h
 · cases h
theorem v7 {ρ:Operand→AV} {aV:Operand→Value} (hr : ∀x,VA g w (ρ x) (aV x)) {o:Oper} {op:BinOp} {t yt:TypeId} {x y:Operand} (ho:o.op = .binOp op t x y yt) {a:AV} {us:iX} {ok:Bool} (he:yU P op t (ρ x) (ρ y)=some (a,us,ok)) :
  us=[] ∧ ∃v,(execOp aV o).run P w = .ok (.value v) w∧VA g w a v:=by
 unfold yU at he
 split at he
 · rename_i d hd
   have key:sv d (ρ x) (ρ y)=true∨sv d (ρ y) (ρ x)=true→(∀op':BinOp,(eqGuard op' t x y (aV x) (aV y)).run P w = .ok () w)∧(Op.equal t (aV x) (aV y)).run P w = .ok false w∧((∃p q,aV x = .pointer p∧aV y = .pointer q) ∨ ∃p q,aV x = .map p∧aV y = .map q):=by
    rintro (h | h)
    · rcases p9 (hr x) (hr y) h with⟨e,a,rfl,e1,e2⟩ | ⟨k,e,a,rfl,e1,e2⟩
      · rw[e1,e2]
        exact⟨fun op'=>(dF op' t x y).1 _ _,(sO hd _).1,.inl ⟨_,_,rfl,rfl⟩⟩
      · rw[e1,e2]
        exact⟨fun op'=>(dF op' t x y).2 _ _,(sQ hd _).1,.inr ⟨_,_,rfl,rfl⟩⟩
    · rcases p9 (hr y) (hr x) h with⟨e,a,rfl,e1,e2⟩ | ⟨k,e,a,rfl,e1,e2⟩
      · rw[e1,e2]
        exact⟨fun op'=>(dF op' t x y).1 _ _,(sO hd _).2,.inl ⟨_,_,rfl,rfl⟩⟩
      · rw[e1,e2]
        exact⟨fun op'=>(dF op' t x y).2 _ _,(sQ hd _).2,.inr ⟨_,_,rfl,rfl⟩⟩
   split at he
   · rename_i hok
     rw[Bool.or_eq_true] at hok
     obtain⟨k1,k2,k3⟩:=key hok
     simp only[Option.some.injEq,Prod.mk.injEq] at he
     obtain⟨rfl,rfl,_⟩:=he
     refine⟨rfl,.bool false,?_,.p _ _ (.sc _)⟩
     simp only[execOp,ho,Sem.run_bind,k1,Result.andThen_ok,iD t k3 _ (.inl rfl),k2,Sem.run_pure]
     rfl
   · rename_i hok
     rw[Bool.or_eq_true] at hok
     obtain⟨k1,k2,k3⟩:=key hok
     simp only[Option.some.injEq,Prod.mk.injEq] at he
     obtain⟨rfl,rfl,_⟩:=he
     refine⟨rfl,.bool true,?_,.p _ _ (.sc _)⟩
     simp only[execOp,ho,Sem.run_bind,k1,Result.andThen_ok,iD t k3 _ (.inr rfl),k2,Sem.run_pure]
     rfl
   · cases he
 · cases he
end
end Go.Am
end
section
namespace Go.Am
open Go.RowKit
section
variable {P:Program} {g:Gh} {m:Mem} {w:World}
theorem Rel.move (h:Rel g m w) {b aF c:Nat} {k:mN} {l:List AV} (hb:m[b]? = some (.ob k l)) (hc:g.aN b=some c) (hn:m[aF]? = some .free) :
  Rel (g.put aF c (g.lo b) (g.hi b)) ((m.set b .dead).set aF (.ob k l)) w∧Ext g w (g.put aF c (g.lo b) (g.hi b)) w∧bO g m w (g.put aF c (g.lo b) (g.hi b)) ((m.set b .dead).set aF (.ob k l)) w:=by
 have hne:b≠aF:=fun e=>by subst e;rw[hb] at hn;cases hn
 have hf:=h.free aF hn
 have get : ∀j x,((m.set b .dead).set aF (.ob k l))[j]? = some x→(j=aF∧x = .ob k l)∨x = .dead∨(j≠aF∧j≠b∧m[j]? = some x):=by
  intro j x hj
  rcases aC hj with⟨e,q⟩ | ⟨hjn,q⟩
  · exact .inl ⟨e,q⟩
  · rcases aC q with⟨_,q⟩ | ⟨l7,q⟩
    · exact .inr (.inl q)
    · exact .inr (.inr ⟨hjn,l7,q⟩)
 have bo : ∀j,j≠aF→(g.put aF c (g.lo b) (g.hi b)).aN j=g.aN j:=fun j hj=>by simp[Gh.put,hj]
 have bi:(g.put aF c (g.lo b) (g.hi b)).aN aF=some c:=by simp[Gh.put]
 have ext:Ext g w (g.put aF c (g.lo b) (g.hi b)) w:=⟨fun j c' hj=>by
  have:j≠aF:=fun e=>by subst e;rw[hf] at hj;cases hj
  simp[Gh.put,this,hj],fun _ _ p=>⟨p,rfl⟩⟩
 have ne : ∀j x c',j≠b→m[j]? = some x→x.bG=true→g.aN j=some c'→c'≠c:=fun j x c' l7 hj ho cY e=>l7 (h.inj j b x _ c hj hb ho rfl (e▸cY) hc)
 obtain⟨c0,ob,vs,h1,h2,h3,h4,h5,h6⟩:=h.obs b _ _ hb
 rw[hc] at h1;cases h1
 refine⟨⟨fun j hj=> ?_,fun j hj=> ?_,fun j x kk hj hk=> ?_,fun j c' hj cY=> ?_,fun j q x x' c' hj hk ho ho' dO dY=> ?_,h.there,fun j kk ll hj=> ?_⟩,ext,⟨Nat.le_refl _,fun _ _ _=>rfl,fun _ _ p=>⟨p,rfl⟩,fun _ _ p=> .inl p,fun c' ho=> ?_,rfl,rfl,rfl⟩⟩
 · have hl:=aM hn
   simp only[List.length_set] at hj
   rw[bo j (by omega)];exact h.pF j hj
 · rcases get j _ hj with⟨_,e⟩ | e | ⟨hjn,_,e⟩
   · cases e
   · cases e
   · rw[bo j hjn];exact h.free j e
 · rcases get j _ hj with⟨_,e⟩ | e | ⟨hjn,l7,e⟩
   · subst e;cases hk
   · subst e;cases hk
   · obtain⟨c1,cs1,e1,n1,q1,q2,q3,q4,q5⟩:=h.cells j x kk e hk
     exact⟨c1,cs1,e1,n1,(bo j hjn).trans q1,q2,q3,q4.mono ext,q5⟩
 · rcases get j _ hj with⟨_,e⟩ | e | ⟨hjn,l7,e⟩
   · cases e
   · cases e
   · rw[bo j hjn] at cY
     obtain⟨cs1,e1,n1,q2,q3,q4,q5⟩:=h.tok j c' e cY
     have e1:(g.put aF c (g.lo b) (g.hi b)).hi j=g.hi j:=by simp[Gh.put,hjn]
     have e2:(g.put aF c (g.lo b) (g.hi b)).lo j=g.lo j:=by simp[Gh.put,hjn]
     rw[e1,e2]
     exact⟨cs1,_,n1,q2,q3,q4,q5⟩
 · rcases get j _ hj with⟨rfl,e⟩ | e | ⟨hjn,l7,e⟩
   · rcases get q _ hk with⟨rfl,_⟩ | e' | ⟨Fc,HL,e'⟩
     · rfl
     · subst e';simp[av.bG] at ho'
     · rw[bi] at dO;cases dO
       rw[bo q Fc] at dY
       exact absurd rfl (ne q x' _ HL e' ho' dY)
   · subst e;simp[av.bG] at ho
   · rcases get q _ hk with⟨rfl,_⟩ | e' | ⟨Fc,HL,e'⟩
     · rw[bi] at dY;cases dY
       rw[bo j hjn] at dO
       exact absurd rfl (ne j x _ l7 e ho dO)
     · subst e';simp[av.bG] at ho'
     · rw[bo j hjn] at dO;rw[bo q Fc] at dY
       exact h.inj j q x x' c' e e' ho ho' dO dY
 · rcases get j _ hj with⟨rfl,e⟩ | e | ⟨hjn,l7,e⟩
   · cases e
     exact⟨c,ob,vs,bi,h2,h3.mono ext,h4,h5,by simpa[Gh.put] using h6⟩
   · cases e
   · obtain⟨c1,o1,vs1,q1,q2,q3,q4,q5,q6⟩:=h.obs j kk ll e
     exact⟨c1,o1,vs1,(bo j hjn).trans q1,q2,q3.mono ext,q4,q5,by simpa[Gh.put,hjn] using q6⟩
 · obtain⟨j,x,hj,hx,xz⟩:=ho
   rcases get j _ hj with⟨rfl,e⟩ | e | ⟨hjn,l7,e⟩
   · rw[bi] at xz;cases xz
     exact .inl ⟨b,_,hb,rfl,hc⟩
   · subst e;simp[av.bG] at hx
   · rw[bo j hjn] at xz
     exact .inl ⟨j,x,e,hx,xz⟩
theorem v8 {α:Type} : ∀(n l:List α) (o:Nat),o+n.length≤l.length→(bN l o n).take (o+n.length)=l.take o++n
 |[],l,o,_=>by simp[bN]
 |v::n,l,o,h=>by
  simp only[List.length_cons] at h
  have:=v8 n (l.set o v) (o+1) (by simp;omega)
  simp only[bN,List.length_cons]
  rw[show o+(n.length+1)=o+1+n.length by omega,this,List.take_succ_eq_append_getElem (by simp;omega),List.take_set,List.set_eq_of_length_le (by simp;omega)]
  simp
theorem we (h:Rel g m w) {b c:Nat} {l:List AV} (hl:fO (m.getD b .dead)=some l) (hc:g.aN b=some c) :
  ∃cs e n,w.heap[c]? = some (.cells cs e n)∧n.2≤n.1∧bM g w l (cs.toList.take l.length)∧l.length≤cs.size ∧ ∀v∈cs.toList,v.oneCell'=true:=by
 have cells : ∀x,m[b]? = some x→x.cells?=some l → ∃cs e n,w.heap[c]? = some (.cells cs e n)∧n.2≤n.1∧bM g w l (cs.toList.take l.length)∧l.length≤cs.size ∧ ∀v∈cs.toList,v.oneCell'=true:=by
  intro x hx hxl
  obtain⟨c',cs,e,n,k1,k2,k3,k4,k5⟩:=h.cells b x l hx hxl
  rw[hc] at k1;cases k1
  have hlen:=k4.1.len
  simp only[Array.length_toList] at hlen
  exact⟨cs,e,n,k2,k3,by rw[hlen,List.take_of_length_le (by simp)];exact k4.1,by omega,k4.2⟩
 generalize hx:m.getD b .dead=x at hl
 unfold fO at hl
 split at hl
 · simp only[Option.some.injEq] at hl;subst hl
   exact cells _ (getD_some hx (by simp)) rfl
 · simp only[Option.some.injEq] at hl;subst hl
   exact cells _ (getD_some hx (by simp)) rfl
 · simp only[Option.some.injEq] at hl;subst hl
   obtain⟨c',ob,vs,k1,k2,k3,k4,_,_⟩:=h.obs b _ _ (getD_some hx (by simp))
   rw[hc] at k1;cases k1
   obtain⟨cs,e,n,rfl,_,q0,q1,q2,q3⟩:=k4
   have hlen:=k3.len
   exact⟨cs,e,n,k2,q0,by rw[hlen,←q1];exact k3,by omega,q3⟩
 · cases hl
theorem bM.HM {l:List PV} {vs:List Value} (h:vJ g w l vs):bM g w (l.map .p) vs:=aK.bV (by simpa using h.len) fun i a b=>by
 have:=h.get i (by simpa using a) b
 rw[List.getElem_map];exact .p _ _ this
theorem cV (h:Rel g m w) {sz n:Nat} {x:AV} {cx:Value} {l:List AV} (he:dD (fun i=>m.getD i .dead) sz x=some (n,l,true)) (hx:VA g w x cx) :
  ∃vs:List Value,bM g w l vs∧vs.length=n*sz∧(∀v∈vs,v.oneCell'=true)∧(Builtin.lenOf cx).run P w = .ok n w ∧ ∀k,k≤n→(Builtin.firstCells sz k cx).run P w = .ok (vs.take (k*sz)).toArray w:=by
 unfold dD at he
 split at he
 · rename_i n' bQ ok hc
   simp only[Option.some.injEq,Prod.mk.injEq] at he
   obtain⟨rfl,rfl,rfl⟩:=he
   obtain⟨vs,h1,h2,h3,h4,h5⟩:=cK (P:=P) h hc hx
   exact⟨vs,bM.HM h1,h2,h3,h4,h5⟩
 · split at he
   · rename_i b off len s cap _
     split at he
     · rename_i l0 hb
       simp only[Option.some.injEq,Prod.mk.injEq,Bool.and_eq_true,Nat.beq_eq] at he
       obtain⟨rfl,rfl,rfl,h1⟩:=he
       have h1:=Nat.le_of_ble_eq_true h1
       cases hx with
       |ms _ _ _ _ cap c hc hcap=>
       obtain⟨c',cs,e,q,k1,k2,k3,k4,k5⟩:=h.cells b _ _ (getD_some hb (by simp)) rfl
       rw[hc] at k1;cases k1
       have hone:=k4.2
       have AZ:=k4.1
       have hlen:=AZ.len
       simp only[Array.length_toList] at hlen
       have hvl:((cs.toList.drop off).take (len*s)).length=len*s:=by
        rw[List.length_take,List.length_drop,Array.length_toList];omega
       refine⟨(cs.toList.drop off).take (len*s),jq ((AZ.drop off).take (len*s)),hvl,fun v hv=>hone v (List.mem_of_mem_drop (List.mem_of_mem_take hv)),by simp[Builtin.lenOf],fun k hk=> ?_⟩
       have hl:(((cs.toList.drop off).take (len*s)).take (k*s)).length=k*s:=by
        rw[List.length_take,hvl];exact Nat.min_eq_left (Nat.mul_le_mul_right _ hk)
       have:=run_loadCells_list (P:=P) w ⟨c,off,none⟩ (((cs.toList.drop off).take (len*s)).take (k*s)) (fun j v hj=>by
        rw[bw,aD k2]
        rw[List.getElem?_take] at hj
        split at hj
        · rw[List.getElem?_take] at hj
          split at hj
          · rw[List.getElem?_drop] at hj;simpa using hj
          · cases hj
        · cases hj)
       rw[hl] at this
       simpa[Builtin.firstCells] using this
     · cases he
   · cases he
theorem qa (h:Rel g m w) {sz n:Nat} {x:AV} {cx:Value} {l:List AV} (he:dD (fun i=>m.getD i .dead) sz x=some (n,l,true)) (hx:VA g w x cx) :
  ∃vs:List Value,bM g w l vs∧vs.length=n*sz∧(∀v∈vs,v.oneCell'=true)∧(Builtin.lenOf cx).run P w.drew = .ok n w.drew ∧ ∀k,k≤n→(Builtin.firstCells sz k cx).run P w.drew = .ok (vs.take (k*sz)).toArray w.drew:=by
 obtain⟨h1,h2,_⟩:=h.gY (w':=w.drew) rfl rfl rfl rfl
 obtain⟨vs,k1,k2,k3,k4,k5⟩:=cV (P:=P) h1 he (hx.mono h2)
 exact⟨vs,bM.mono (g:=g) (w:=w.drew) ⟨fun _ _ q=>⟨q,rfl,rfl⟩,fun c o p=>⟨p,(h2.pure c o p).2.symm⟩⟩ k1,k2,k3,k4,k5⟩
theorem uF (pq:Bool) (h:Rel g m w) {aF:Nat} (hn:m[aF]? = some .free) {argTypes:Array TypeId} {ty sType xType elem:TypeId} {d:TypeDesc} {info:TypeInfo} {z:List AV} {x:AV} {cx:Value} {n:Nat} {bQ:List AV} {ad:Option Addr} {len cap:Nat} {l:List AV} {vs:List Value}
  (hs0:argTypes[0]? = some sType) (hx0:argTypes[1]? = some xType) (hu:P.underlying sType=some (.slice elem)) (xR:P.underlying xType=some d) (hd : ∀k,d ≠ .int k) (hi:P.info? elem=some info) (hz:zeroCells P elem=some z)
  (hx:VA g w x cx) (gu:dD (fun i=>m.getD i .dead) info.size x=some (n,bQ,true)) (h2:1≤info.size) (h3:z.length=info.size) (h4:(len+n)*info.bytes≤aJ) (h5:len+n≤aJ)
  (hl:bM g w l vs) (hone : ∀v∈vs,v.oneCell'=true) (hvl:vs.length=len*info.size) (l8:(Builtin.firstCells info.size len (.slice ad len cap)).run P w.drew = .ok vs.toArray w.drew) (dP : ¬len+n≤cap) :
  ∃newCap g' w',(((do pure (.value (←Builtin.append_ argTypes ty #[.slice ad len cap,cx])):Sem Next)).run P w) = .ok (.value (.slice (some ⟨w.heap.size,0,none⟩) (len+n) newCap)) w' ∧
   Rel g' (m.set aF (.ob (.gr elem pq) (l++bQ))) w'∧Ext g w g' w'∧bO g m w g' (m.set aF (.ob (.gr elem pq) (l++bQ))) w'∧VA g' w' (.ms aF 0 (len+n) info.size none) (.slice (some ⟨w.heap.size,0,none⟩) (len+n) newCap):=by
 obtain⟨zv,z1,z2⟩:=br (g:=g) (w:=w) hz
 have hzl:=z2.1.len
 simp only[Array.length_toList] at hzl
 have hzs:zv.cells.size=info.size:=by omega
 have hsz:dg P elem=some info.size:=by simp[dg,hi]
 unfold aJ at h4 h5
 obtain⟨_,_,_,_,l3,_⟩:=cV (P:=P) h gu hx
 obtain⟨vx,x1,x2,uG,x3,x4⟩:=qa (P:=P) h gu hx
 have x5:=x4 n (Nat.le_refl _)
 rw[List.take_of_length_le (by omega)] at x5
 obtain⟨d1,d2,d3⟩:=h.gY (w':=w.drew) rfl rfl rfl rfl
 have gI:=gQ (len+n) cap elem (w.tape w.drawn (.appendCap (len+n) cap elem))
 generalize hnc:(Question.appendCap (len+n) cap elem).cut (w.tape w.drawn (.appendCap (len+n) cap elem))=newCap at gI
 have Bx:(Builtin.zeroCells zv.cells (newCap-(len+n))).size=(newCap-(len+n))*info.size:=by simp[Builtin.zeroCells,hzs]
 have hmul:(len+n)*info.size=len*info.size+n*info.size:=Nat.add_mul _ _ _
 have hall:(vs.toArray++vx.toArray++Builtin.zeroCells zv.cells (newCap-(len+n))).size=newCap*info.size:=by
  simp only[Array.size_append,List.size_toArray,Bx,hvl,x2]
  rw[Nat.sub_mul,hmul]
  have:=Nat.mul_le_mul_right info.size gI
  rw[hmul] at this
  omega
 have HN : ∀v∈(Builtin.zeroCells zv.cells (newCap-(len+n))).toList,v.oneCell'=true:=by
  intro v hv
  simp only[Builtin.zeroCells,Array.toList_map,List.mem_map] at hv
  obtain⟨i,_,rfl⟩:=hv
  have hlt:i%zv.cells.size<zv.cells.size:=Nat.mod_lt _ (by omega)
  rw[getElem!_pos zv.cells _ hlt]
  exact z2.2 _ (by simp)
 generalize uz:vs.toArray++vx.toArray++Builtin.zeroCells zv.cells (newCap-(len+n))=all at hall
 have sM:all.toList=vs++vx++(Builtin.zeroCells zv.cells (newCap-(len+n))).toList:=by rw[←uz];simp
 have pT:kW w (w.drew.alloc (.cells all elem)) (.cells all elem):=⟨rfl,rfl,rfl,rfl⟩
 have AZ:bM g w (l++bQ) (vs++vx):=hl.append x1
 obtain⟨r1,r2,r3⟩:=h.lV all.size (ob:= .gr elem pq) (l:=l++bQ) (vs:=vs++vx) hn AZ pT
  ⟨all,elem,(0,0),rfl,rfl,Nat.le_refl _,by rw[sM,List.take_append_of_le_length (Nat.le_refl _),List.take_length],by rw[hall,List.length_append,hvl,x2,←hmul];exact Nat.mul_le_mul_right _ gI,fun v hv=>by
    rw[sM] at hv
    rcases List.mem_append.1 hv with q | q
    · rcases List.mem_append.1 q with q | q
      · exact hone v q
      · exact uG v q
    · exact HN v q⟩ rfl
 refine⟨newCap,_,_,?_,r1,r2,r3,.mg aF 0 _ _ newCap w.heap.size (by simp[Gh.put]) gI (by simp[Gh.put,hall])⟩
 have Fa : ¬(((len+n:Nat):Int)>IntKind.i64.max):=by
  rw[show IntKind.i64.max=9223372036854775807 from by decide];omega
 have hgrow : ¬(Builtin.nextslicecap (len+n) cap*info.bytes>2 ^ 48):=by
  have:=growslice_fits (need:=len+n) (old:=cap) (bytes:=info.bytes) (by omega) (by omega)
  omega
 simp only[Builtin.append_,hs0,hx0,List.getElem?_toArray,List.getElem?_cons_zero,List.getElem?_cons_succ,Sem.run_bind,run_underlying hu,Result.andThen_ok,az hsz,run_underlying xR,Sem.run_pure,Bool.false_eq_true,if_false,l3,dP,Bool.not_false,Fa,false_and,cW hi,hgrow,run_choose,Question.forced,hnc,World.drew_eq,run_askRoom,l8,x5,z1,uz,if_true,newRow,run_newObj,World.alloc_eq,World.size_drew]
theorem run_append_room (h:Rel g m w) {argTypes:Array TypeId} {ty sType xType elem:TypeId} {d:TypeDesc} {info:TypeInfo} {x:AV} {cx:Value} {n:Nat} {bQ:List AV} {c len cap:Nat} {cs:Array Value} {e:TypeId} {q:Nat×Nat}
  (hs0:argTypes[0]? = some sType) (hx0:argTypes[1]? = some xType) (hu:P.underlying sType=some (.slice elem)) (xR:P.underlying xType=some d) (hd : ∀k,d ≠ .int k) (hi:P.info? elem=some info)
  (hx:VA g w x cx) (gu:dD (fun i=>m.getD i .dead) info.size x=some (n,bQ,true)) (hc:w.heap[c]? = some (.cells cs e q)) (hq:q.2≤q.1) (hroom:(len+n)*info.size≤cs.size) (dP:len+n≤cap) :
  ∃w' cs' vx,(((do pure (.value (←Builtin.append_ argTypes ty #[.slice (some ⟨c,0,none⟩) len cap,cx])):Sem Next)).run P w) = .ok (.value (.slice (some ⟨c,0,none⟩) (len+n) cap)) w' ∧
   bM g w bQ vx∧vx.length=n*info.size∧(∀v∈vx,v.oneCell'=true)∧cs'.toList=bN cs.toList (len*info.size) vx∧w'.heap[c]? = some (.cells cs' e q) ∧
   (∀k,k≠c→w'.heap[k]? = w.heap[k]?)∧w'.heap.size=w.heap.size∧w'.os=w.os∧w'.tape=w.tape∧w'.output=w.output:=by
 have hsz:dg P elem=some info.size:=by simp[dg,hi]
 obtain⟨vx,x1,x2,uG,x3,x4⟩:=cV (P:=P) h gu hx
 have x5:=x4 n (Nat.le_refl _)
 rw[List.take_of_length_le (by omega)] at x5
 have hmul:(len+n)*info.size=len*info.size+n*info.size:=Nat.add_mul _ _ _
 obtain⟨w',cs',p1,p2,p3,p4,p5,p6,p7,p8⟩:=eU (P:=P) c (len*info.size) vx 0 w cs e q hc (fun j hj=> .inl hq) (by omega) uG
 simp only[Nat.add_zero] at p3
 refine⟨w',cs',vx,?_,x1,x2,uG,p3,p2,p4,p5,p6,p7,p8⟩
 have Bw:(⟨c,0,none⟩:Addr).add (len*info.size)=⟨c,len*info.size,none⟩:=by rw[bw,Nat.zero_add]
 simp only[Builtin.append_,hs0,hx0,List.getElem?_toArray,List.getElem?_cons_zero,List.getElem?_cons_succ,Sem.run_bind,run_underlying hu,Result.andThen_ok,az hsz,run_underlying xR,Sem.run_pure,Bool.false_eq_true,if_false,x3,dP,if_true,Bool.not_false,x5,Bw,p1]
theorem nO {c len cap sz:Nat} {cs:Array Value} {e:TypeId} {q:Nat×Nat} (hc:w.heap[c]? = some (.cells cs e q)) (hl:len*sz≤cs.size) :
  (Builtin.firstCells sz len (.slice (some ⟨c,0,none⟩) len cap)).run P w = .ok (cs.toList.take (len*sz)).toArray w:=by
 have:=run_loadCells_list (P:=P) w ⟨c,0,none⟩ (cs.toList.take (len*sz)) (fun j v hj=>by
  rw[bw,Nat.zero_add,aD hc]
  rw[List.getElem?_take] at hj
  split at hj
  · simpa using hj
  · cases hj)
 rw[List.length_take,Array.length_toList,Nat.min_eq_left hl] at this
 simpa[Builtin.firstCells] using this
theorem qb (h:Rel g m w) {aF:Nat} (hn:m[aF]? = some .free) {argTypes:Array TypeId} {ty:TypeId} {s x a:AV} {cs cx:Value} {us:iX}
  (hs:VA g w s cs) (hx:VA g w x cx) (he:dh P (fun i=>m.getD i .dead) aF argTypes s x=some (a,us,true)) :
  bh g m w (((do pure (.value (←Builtin.append_ argTypes ty #[cs,cx])):Sem Next)).run P w) a (apply m us):=by
 unfold dh at he
 split at he
 · rename_i sType xType hs0 hx0
   split at he
   · cases he
   · rename_i elem d hd hu xR
     have hd' : ∀k,d ≠ .int k:=fun k e=>hd k e
     split at he
     · rename_i info z hi hz
       split at he
       · rename_i n bQ ok gu
         dsimp only at he
         split at he
         ·
          rename_i b len sz
          split at he
          · rename_i t pq l hb
            simp only[Option.some.injEq,Prod.mk.injEq,Bool.and_eq_true] at he
            obtain⟨rfl,rfl,⟨rfl,h2,h3,h4,h5⟩,h6,h7,h8⟩:=he
            have h8:=Nat.eq_of_beq_eq_true h8
            subst h8
            have h2:=Nat.le_of_ble_eq_true h2
            have h3:=Nat.eq_of_beq_eq_true h3
            have h4:=Nat.le_of_ble_eq_true h4
            have h5:=Nat.le_of_ble_eq_true h5
            have h6:=Nat.eq_of_beq_eq_true h6
            have h7:=Nat.le_of_ble_eq_true h7
            subst h6
            cases hs with
            |mg _ _ _ _ cap c hc hcap hroom=>
            have A0:=getD_some hb (by simp)
            have hne:b≠aF:=fun e=>by subst e;rw[A0] at hn;cases hn
            obtain⟨c',ob,vs,k1,k2,k3,k4,k5,k6⟩:=h.obs b _ _ A0
            rw[hc] at k1;cases k1
            obtain⟨cells,e,q,rfl,qt,q0,q1,q2,q3⟩:=k4
            have j8:=k3.len
            have k6:cells.size=g.hi b:=k6
            have hmul:(len+n)*info.size=len*info.size+n*info.size:=Nat.add_mul _ _ _
            by_cases dP:len+n≤cap
            · have HH:(len+n)*info.size≤cap*info.size:=Nat.mul_le_mul_right _ dP
              obtain⟨w',cs',vx,r0,x1,x2,uG,p3,p2,p4,p5,p6,p7,p8⟩:=run_append_room (P:=P) (ty:=ty) h hs0 hx0 hu xR hd' hi hx gu k2 q0 (by omega) dP
              have Bs:=x1.len
              have hsize:cs'.size=cells.size:=by
               have:=congrArg List.length p3
               rw[fA] at this;simpa using this
              have AZ:bM g w (l.take (len*info.size)++bQ) (vs.take (len*info.size)++vx):=(k3.take _).append x1
              have HI:(vs.take (len*info.size)).length=len*info.size:=by rw[List.length_take];omega
              obtain⟨r1,r2,r3⟩:=h.eE (xO:= .gr t (pq&&gC (fun i=>m.getD i .dead) info.size x)) (l':=l.take (len*info.size)++bQ) (vs':=vs.take (len*info.size)++vx) A0 hc p4 p5 p6 p7 p8 p2
               ⟨cs',e,q,rfl,qt,q0,by
                 rw[List.length_append,HI,p3,v8 vx cells.toList _ (by simp;omega),q1,List.take_take,Nat.min_eq_left (by omega)],by rw[List.length_append,HI,x2,hsize];omega,fun v hv=>by
                 rw[p3] at hv
                 exact fZ _ _ _ q3 uG v hv⟩ AZ (by show cs'.size=g.hi b;rw[hsize];exact k6)
              have hb':(m.set b (.ob (.gr t (pq&&gC (fun i=>m.getD i .dead) info.size x)) (l.take (len*info.size)++bQ)))[b]? = some (.ob (.gr t (pq&&gC (fun i=>m.getD i .dead) info.size x)) (l.take (len*info.size)++bQ)):=by rw[List.getElem?_set_self (aM A0)]
              obtain⟨s1,s2,s3⟩:=r1.move hb' hc (by rw[List.getElem?_set_ne hne];exact hn)
              rw[List.set_set] at s1 s3
              exact⟨_,w',_,.inl r0,.mg aF 0 _ _ cap c (by simp[Gh.put]) dP (by simp[Gh.put];omega),s1,r2.trans s2,r3.trans s3⟩
            · have l8:=nO (P:=P) (w:=w.drew) (c:=c) (len:=len) (cap:=cap) (sz:=info.size) k2 (by omega)
              have L0:vs.take (len*info.size)=cells.toList.take (len*info.size):=by rw[q1,List.take_take,Nat.min_eq_left (by omega)]
              obtain⟨newCap,g',w',r0,r1,r2,r3,r4⟩:=uF (P:=P) (pq&&gC (fun i=>m.getD i .dead) info.size x) (ty:=ty) (l:=l.take (len*info.size)) (vs:=cells.toList.take (len*info.size)) h hn hs0 hx0 hu xR hd' hi hz hx gu h2 h3 h4 h5 (by rw[←L0];exact k3.take _)
               (fun v hv=>q3 v (List.mem_of_mem_take hv)) (by rw[List.length_take,Array.length_toList];omega) l8 dP
              obtain⟨t1,t2⟩:=r1.kill b
              have e1:((m.set aF (.ob (.gr t (pq&&gC (fun i=>m.getD i .dead) info.size x)) (l.take (len*info.size)++bQ))).set b .dead)=apply m [(b,.dead),(aF,.ob (.gr t (pq&&gC (fun i=>m.getD i .dead) info.size x)) (l.take (len*info.size)++bQ))]:=by
               simp only[apply]
               exact List.set_comm _ _ (fun e=>hne e.symm)
              rw[e1] at t1 t2
              exact⟨_,w',g',.inl r0,r4,t1,r2,r3.trans t2⟩
          · cases he
         ·
          rename_i len sz cells
          split at he
          · rename_i hn0
            simp only[Option.some.injEq,Prod.mk.injEq,Bool.and_eq_true] at he
            obtain⟨rfl,rfl,rfl,_⟩:=he
            have hn0:=Nat.eq_of_beq_eq_true hn0
            subst hn0
            have hvs:=hs
            cases hs with
            |os _ _ _ _ ad cap hps vO=>
            have hcap:cap=len:=by
             rcases vO with e | ⟨t,b,o,e,_⟩
             · exact e
             · cases e
            subst hcap
            have hsz:dg P elem=some info.size:=by simp[dg,hi]
            obtain⟨vx,_,_,_,x3,x4⟩:=cV (P:=P) h gu hx
            have x5:=x4 0 (Nat.le_refl _)
            simp only[Nat.zero_mul,List.take_zero] at x5
            refine bh.quiet h (v:= .slice ad cap cap) ?_ hvs
            cases ad with
            |none=>simp[Builtin.append_,hs0,hx0,run_underlying hu,az hsz,run_underlying xR,x3,x5,Result.andThen]
            |some ad=>simp[Builtin.append_,hs0,hx0,run_underlying hu,az hsz,run_underlying xR,x3,x5,storeCells,Result.andThen]
          rename_i hn0
          simp only[Option.some.injEq,Prod.mk.injEq,Bool.and_eq_true] at he
          obtain⟨rfl,rfl,⟨rfl,h2,h3,h4,h5⟩,h6⟩:=he
          have h1:1≤n:=by
           rcases Nat.eq_zero_or_pos n with e | e
           · subst e;cases hn0
           · exact e
          have h2:=Nat.le_of_ble_eq_true h2
          have h3:=Nat.eq_of_beq_eq_true h3
          have h4:=Nat.le_of_ble_eq_true h4
          have h5:=Nat.le_of_ble_eq_true h5
          cases hs with
          |os _ _ _ _ ad cap hps vO=>
          have hcap:cap=len:=by
           rcases vO with e | ⟨t,b,o,e,_⟩
           · exact e
           · cases e
          subst hcap
          have Ad:=gG hps h6
          obtain⟨d1,d2,d3⟩:=h.gY (w':=w.drew) rfl rfl rfl rfl
          obtain⟨vs,s1,s2,E9,s3,s4⟩:=j7 (P:=P) (Ad.mono d2.pure)
          have s5:=s4 cap (Nat.le_refl _)
          rw[List.take_of_length_le (by omega)] at s5
          have HG:=s1.len
          have AZ:bM g w (cells.map .p) vs:=aK.bV (by simpa using HG) fun i a b=>by
           have:=s1.get i (by simpa using a) b
           rw[List.getElem_map]
           exact .p _ _ (this.mono (g:=g) (w:=w.drew) fun c o p=>⟨p,(d2.pure c o p).2.symm⟩)
          obtain⟨newCap,g',w',r0,r1,r2,r3,r4⟩:=uF (P:=P) (gC (fun i=>m.getD i .dead) info.size x) (ty:=ty) (l:=cells.map .p) (vs:=vs) (cap:=cap) h hn hs0 hx0 hu xR hd' hi hz hx gu h2 h3 h4 h5 AZ E9 s2 s5 (by omega)
          exact⟨_,w',g',.inl r0,r4,r1,r2,r3⟩
         ·
          rename_i b len sz cap
          split at he
          · rename_i l hl
            cases hs with
            |ms _ _ _ _ cap c hc hcap=>
            obtain⟨cells,e,q,k2,q0,k3,q2,q3⟩:=we h hl hc
            have hmul:(len+n)*info.size=len*info.size+n*info.size:=Nat.add_mul _ _ _
            cases hr:Nat.ble (len+n) cap with
            |true=>
             have dP:=Nat.le_of_ble_eq_true hr
             simp only[hr,cond_true] at he
             split at he
             · rename_i b' ok' hp
               simp only[Option.some.injEq,Prod.mk.injEq,Bool.and_eq_true] at he
               obtain⟨rfl,rfl,⟨rfl,h2,h3,h4,h5⟩,rfl,h6⟩:=he
               have h6:=Nat.eq_of_beq_eq_true h6
               subst h6
               obtain⟨M7,x0,M8,_⟩:=cV (P:=P) h gu hx
               have L1:=x0.len
               have hroom:len*info.size+bQ.length≤l.length:=by
                rcases gd hp with⟨l',vQ,_,hroom⟩ | ⟨t0,pq,l',vQ,_,hroom⟩
                · have:l'=l:=by
                   generalize m.getD b .dead=B at hl vQ
                   cases B<;>simp_all [fO,av.cells?]
                  rw[←this];exact hroom
                · have vQ:m.getD b .dead = .ob (.gr t0 pq) l':=vQ
                  have:l'=l:=by
                   have hl:fO (m.getD b .dead)=some l:=hl
                   rw[vQ] at hl;simpa[fO] using hl
                  rw[←this];rw[pP] at hroom;exact hroom
               have Fe:(len+n)*info.size≤cells.size:=by omega
               obtain⟨w',cs',vx,r0,x1,x2,uG,p3,p2,p4,p5,p6,p7,p8⟩:=run_append_room (P:=P) (ty:=ty) h hs0 hx0 hu xR hd' hi hx gu k2 q0 Fe dP
               have Bs:=x1.len
               have Lo:bM g w bQ vx:=x1
               rcases gd hp with⟨l',vQ,Ff,BB⟩ | ⟨t0,pq,l',vQ,rfl,BB⟩
               · have hm:m[b]? = some (m.getD b .dead):=getD_some rfl (fun e=>by
                  have vQ:(m.getD b .dead).cells?=some l':=vQ
                  rw[e] at vQ;cases vQ)
                 obtain⟨c',cs0,e0,M9,y1,y2,y3,y4,y5⟩:=h.cells b _ l' hm vQ
                 rw[hc] at y1;cases y1
                 rw[k2] at y2;cases y2
                 obtain⟨r1,r2,r3⟩:=h.write (b':=b') hm vQ hc Ff p4 p5 p6 p7 p8 p2 y3 (by rw[p3];exact⟨y4.1.bN _ Lo,fZ _ _ _ y4.2 uG⟩)
                 exact⟨_,w',g,.inl r0,.ms b 0 _ _ cap c hc dP,r1,r2,r3⟩
               · have hm:m[b]? = some (.ob (.gr t0 pq) l'):=getD_some vQ (by simp)
                 obtain⟨r1,r2,r3⟩:=h.vU hm hc k2 (pO Lo) uG BB p3 p4 p5 p6 p7 p8 p2
                 exact⟨_,w',g,.inl r0,.ms b 0 _ _ cap c hc dP,r1,r2,r3⟩
             · cases he
            |false=>
             have dP : ¬len+n≤cap:=fun k=>by rw[Nat.ble_eq_true_of_le k] at hr;cases hr
             simp only[hr,cond_false,Option.some.injEq,Prod.mk.injEq,Bool.and_eq_true] at he
             obtain⟨rfl,rfl,⟨rfl,h2,h3,h4,h5⟩,h6,h7⟩:=he
             have h2:=Nat.le_of_ble_eq_true h2
             have h3:=Nat.eq_of_beq_eq_true h3
             have h4:=Nat.le_of_ble_eq_true h4
             have h5:=Nat.le_of_ble_eq_true h5
             have h6:=Nat.eq_of_beq_eq_true h6
             have h7:=Nat.le_of_ble_eq_true h7
             subst h6
             have l8:=nO (P:=P) (w:=w.drew) (c:=c) (len:=len) (cap:=cap) (sz:=info.size) k2 (by omega)
             obtain⟨newCap,g',w',r0,r1,r2,r3,r4⟩:=uF (P:=P) (Hz (m.getD b .dead)&&gC (fun i=>m.getD i .dead) info.size x) (ty:=ty) (l:=l.take (len*info.size)) (vs:=cells.toList.take (len*info.size)) h hn hs0 hx0 hu xR hd' hi hz hx gu h2 h3 h4 h5
              (by have:=k3.take (len*info.size);rwa [List.take_take,Nat.min_eq_left h7] at this)
              (fun v hv=>q3 v (List.mem_of_mem_take hv)) (by rw[List.length_take,Array.length_toList];omega) l8 dP
             exact⟨_,w',g',.inl r0,r4,r1,r2,r3⟩
          · cases he
         · cases he
       · cases he
     · cases he
   · cases he
 · cases he
theorem nP {s:AV} {cs:Value} (h:VA g w s cs):VA g w (jc s) cs:=by
 unfold jc
 split
 · rw[VA.pv] at h
   cases h with
   |ps _ _ _ b o cap f hl hc hz hp hv=>omega
   |lT sz a cap hz=>
    obtain⟨rfl,rfl⟩:=hz.resolve_left (by omega)
    exact .os none 0 0 [] none 0 (.lT 0 none 0 (.inr ⟨rfl,rfl⟩)) (.inl rfl)
 · exact h
end
end Go.Am
end
section
namespace Go.Am
open Go.RowKit
section
variable {P:Program} {g:Gh} {m:Mem} {w:World}
theorem nQ {x:AV} {cx:Value} {b:Bool} (hx:VA g w x cx) (h:sw x=some b) : ∃a len cap,cx = .slice a len cap∧a.isNone=b:=by
 have key : ∀{len sz:Nat} {cs:List PV} {cx:Value},VP g w (.ps len sz cs) cx→cond (Nat.ble 1 len) (some false) (cond (Nat.beq sz 0) (some true) none)=some b → ∃a len cap,cx = .slice a len cap∧a.isNone=b:=by
  intro len sz cs cx hx h
  cases hl:Nat.ble 1 len with
  |true=>
   simp only[hl,cond_true,Option.some.injEq] at h
   subst h
   have hl:=Nat.le_of_ble_eq_true hl
   cases hx with
   |ps _ _ _ b o cap f hl hc hz hp hv=>exact⟨_,_,_,rfl,rfl⟩
   |lT sz a cap hz=>omega
  |false=>
   simp only[hl,cond_false] at h
   cases hs:Nat.beq sz 0 with
   |false=>simp[hs] at h
   |true=>
    simp only[hs,cond_true,Option.some.injEq] at h
    subst h
    have hs:=Nat.eq_of_beq_eq_true hs
    subst hs
    cases hx with
    |ps _ _ _ b o cap f hl hc hz hp hv=>omega
    |lT sz a cap hz=>
     obtain⟨rfl,_⟩:=hz.resolve_left (by omega)
     exact⟨_,_,_,rfl,rfl⟩
 unfold sw at h
 split at h
 · rw[VA.pv] at hx;exact key hx h
 · cases hx with
   |os _ _ _ _ a cap hx hr=>exact key hx h
 · cases hx with
   |ms _ _ _ _ cap c hc hcap=>
    simp only[Option.some.injEq] at h
    exact⟨_,_,_,rfl,h⟩
   |mg _ _ _ _ cap c hc hcap=>
    simp only[Option.some.injEq] at h
    exact⟨_,_,_,rfl,h⟩
 · cases h
theorem xT {x:AV} {cx:Value} (hx:VA g w x cx) (h:sw x=some true) : ∃n c,cx = .slice none n c:=by
 obtain⟨a,len,cap,rfl,ha⟩:=nQ hx h
 cases a with
 |none=>exact⟨len,cap,rfl⟩
 |some a=>cases ha
theorem ze : ∀{bQ:List PV} {vs:List Value},vJ g w bQ vs→bQ.all Dr=true → ∀{j:Nat} {y:UInt8},(bQ.map byteOf)[j]? = some y→vs[j]? = some (.int .u8 y.toNat)
 |[],[],_,_,j,y,hj=>by simp at hj
 |p::bQ,v::vs,h,hb,j,y,hj=>by
  simp only[List.all_cons,Bool.and_eq_true] at hb
  cases j with
  |zero=>
   simp only[List.map_cons,List.getElem?_cons_zero,Option.some.injEq] at hj ⊢
   have h1:=h.1
   unfold Dr at hb
   split at hb
   · rename_i n
     simp only[Bool.and_eq_true] at hb
     have k1:=of_decide_eq_true hb.1.1
     have k2:=of_decide_eq_true hb.1.2
     cases h1
     subst hj
     obtain⟨q,rfl⟩ : ∃q:Nat,n=q:=⟨n.toNat,by omega⟩
     have hq:q<256:=by omega
     simp[byteOf,Nat.mod_eq_of_lt hq]
   · cases hb.1
  |succ j=>
   simp only[List.map_cons,List.getElem?_cons_succ] at hj ⊢
   exact ze h.2 hb.2 hj
 |[],_::_,h,_,_,_,_=>h.elim
 |_::_,[],h,_,_,_,_=>h.elim
theorem oq {ρ:Operand→AV} {aV:Operand→Value} (hr : ∀x,VA g w (ρ x) (aV x)) {o:Oper} {op:BinOp} {t yt:TypeId} {x y:Operand} (ho:o.op = .binOp op t x y yt) (hsame:oG (ρ x) (ρ y)=true)
  {a:AV} {us:iX} {ok:Bool} (he:jZ P op t=some (a,us,ok)):us=[] ∧ ∃v,(execOp aV o).run P w = .ok (.value v) w∧VA g w a v:=by
 have hp : ∃p,aV x = .pointer (some p)∧aV y = .pointer (some p):=by
  have h1:=hr x
  have h2:=hr y
  unfold oG at hsame
  split at hsame
  · rename_i b o' c q e1 e2
    rw[e1] at h1
    rw[e2] at h2
    simp only[Bool.and_eq_true] at hsame
    have k1:=Nat.eq_of_beq_eq_true hsame.1
    have k2:=Nat.eq_of_beq_eq_true hsame.2
    subst k1;subst k2
    generalize aV x=cx at *
    generalize aV y=cy at *
    cases h1 with
    |mp _ _ c1 dO=>
    cases h2 with
    |mp _ _ c2 dY=>
     rw[dO] at dY;cases dY
     exact⟨_,rfl,rfl⟩
  · cases hsame
 obtain⟨p,hx,hy⟩:=hp
 unfold jZ at he
 split at he
 · rename_i e hu
   have heq : ∀j,P.info? e=some j→(Op.equal t (.pointer (some p)) (.pointer (some p))).run P w = .ok true w:=by
    intro j hj
    have h : ∀d:Nat,(Op.equalIn (d+1) t (.pointer (some p)) (.pointer (some p))).run P w = .ok true w:=fun d=>by
     simp[Op.equalIn,run_underlying hu,sizeOf,typeInfo,hj,run_sameAddr_same]
    exact h 9999
   split at he
   · rename_i j hj
     simp only[Option.some.injEq,Prod.mk.injEq] at he
     obtain⟨rfl,rfl,_⟩:=he
     refine⟨rfl,.bool true,?_,.p _ _ (.sc _)⟩
     simp only[execOp,ho,hx,hy,Sem.run_bind,(dF (P:=P) (w:=w) .eql t x y).1,Result.andThen_ok,iD t (.inl ⟨some p,some p,rfl,rfl⟩) _ (.inl rfl),heq j hj,Sem.run_pure]
     rfl
   · rename_i j hj
     simp only[Option.some.injEq,Prod.mk.injEq] at he
     obtain⟨rfl,rfl,_⟩:=he
     refine⟨rfl,.bool false,?_,.p _ _ (.sc _)⟩
     simp only[execOp,ho,hx,hy,Sem.run_bind,(dF (P:=P) (w:=w) .neq t x y).1,Result.andThen_ok,iD t (.inl ⟨some p,some p,rfl,rfl⟩) _ (.inr rfl),heq j hj,Sem.run_pure]
     rfl
   · cases he
 · cases he
theorem l9 {x a:AV} {cx:Value} (hx:VA g w x cx) {us:iX} {ts:Array TypeId} {ty:TypeId} (he:jf x=some (a,us,true)) :
  us=[] ∧ ∃v,(Builtin.unsafeSliceData_ ts ty #[cx]).run P w = .ok v w∧VA g w a v:=by
 unfold jf at he
 split at he
 · rename_i hn
   simp only[Option.some.injEq,Prod.mk.injEq,and_true] at he
   obtain⟨rfl,rfl⟩:=he
   obtain⟨n,c,rfl⟩:=xT hx hn
   exact⟨rfl,_,Lib.run_unsafeSliceData_nil w ts ty n c,.p _ _ (.sc _)⟩
 · split at he
   · rename_i b off len sz cap _
     simp only[Option.some.injEq,Prod.mk.injEq] at he
     obtain⟨rfl,rfl,h1⟩:=he
     have h1:=Nat.le_of_ble_eq_true h1
     cases hx with
     |ms _ _ _ _ cap c hc hcap=>exact⟨rfl,_,Lib.run_unsafeSliceData_row w ts ty ⟨c,off,none⟩ len cap (by omega),.mp b off c hc⟩
     |mg _ _ _ _ cap c hc hcap _=>exact⟨rfl,_,Lib.run_unsafeSliceData_row w ts ty ⟨c,off,none⟩ len cap (by omega),.mp b off c hc⟩
   · cases he
theorem uH (w:World) {c off k:Nat} {cs:Array Value} {e:TypeId} {n:Nat×Nat} (h:w.heap[c]? = some (.cells cs e n)) :
  (∃n',(w.freeze ⟨c,off,none⟩ k).heap[c]? = some (.cells cs e n'))∧(∀j,j≠c→(w.freeze ⟨c,off,none⟩ k).heap[j]? = w.heap[j]?)∧(w.freeze ⟨c,off,none⟩ k).heap.size=w.heap.size ∧
    (w.freeze ⟨c,off,none⟩ k).os=w.os∧(w.freeze ⟨c,off,none⟩ k).tape=w.tape∧(w.freeze ⟨c,off,none⟩ k).output=w.output:=by
 unfold World.freeze
 split
 · exact⟨⟨n,h⟩,fun _ _=>rfl,rfl,rfl,rfl,rfl⟩
 · refine⟨?_,fun j hj=> ?_,by simp,rfl,rfl,rfl⟩
   · obtain⟨lo,hi⟩:=n
     refine⟨if lo==hi then(off,off+k) else(min lo off,max hi (off+k)),?_⟩
     show(w.heap.modify c _)[c]? = _
     rw[Array.getElem?_modify,if_pos rfl,h]
     rfl
   · show(w.heap.modify c _)[j]? = _
     rw[Array.getElem?_modify,if_neg (fun e=>hj e.symm)]
theorem nR : ∀{l:List AV},l.all Bd=true → ∃bQ,fL l=some bQ∧bQ.all Dr=true∧bQ.map byteOf=l.map Be
 |[],_=>⟨[],rfl,rfl,rfl⟩
 |a::l,h=>by
  simp only[List.all_cons,Bool.and_eq_true] at h
  obtain⟨bQ,h1,h2,h3⟩:=nR h.2
  cases a with
  |p v=>exact⟨v::bQ,by simp[fL,tU,h1],by simp only[List.all_cons,Bool.and_eq_true];exact⟨h.1,h2⟩,by simp[Be,h3]⟩
  |_=>exact absurd h.1 (by simp[Bd])
theorem jv (h:Rel g m w) {x n a:AV} {cx cn:Value} (hx:VA g w x cx) (hn:VA g w n cn) {us:iX} {ts:Array TypeId} {ty:TypeId} (he:cI P (fun i=>m.getD i .dead) ts.toList x n=some (a,us,true)) :
  bh g m w (((do pure (.value (←Builtin.unsafeString_ ts ty #[cx,cn])):Sem Next)).run P w) a (apply m us):=by
 unfold cI at he
 split at he
 · rename_i k
   obtain rfl:=key_eq hn
   split at he
   · rename_i pt it hts
     have hts:ts = #[pt,it]:=by have:=congrArg List.toArray hts;simpa using this
     subst hts
     split at he
     · rename_i hk
       split at he
       · simp only[Option.some.injEq,Prod.mk.injEq,and_true] at he
         obtain⟨rfl,rfl⟩:=he
         have hk:=of_decide_eq_true hk
         subst hk
         obtain rfl:=key_eq hx
         refine bh.quiet h (v:= .string .empty) ?_ (.p _ _ (.sc _))
         simp only[Sem.run_bind,Lib.run_unsafeString_none,Result.andThen_ok,Sem.run_pure]
       · cases he
     · rename_i hk
       split at he
       · rename_i e b t l hp Fg
         have hb:x = .mp b 0 ∧ ∃pq,m.getD b .dead = .ob (.gr t pq) l:=by
          unfold Bf at Fg
          split at Fg
          · split at Fg
            · rename_i hq
              simp only[Option.some.injEq,Prod.mk.injEq] at Fg
              obtain⟨rfl,rfl,rfl⟩:=Fg
              exact⟨rfl,_,hq⟩
            · cases Fg
          · cases Fg
         obtain⟨rfl,pq,hb⟩:=hb
         · simp only[Option.some.injEq,Prod.mk.injEq,Bool.and_eq_true] at he
           obtain⟨rfl,rfl,h1,h2,h3,h4,h5,h6⟩:=he
           obtain⟨bQ,vX,hu,hby⟩:=nR h1
           rw[←hby]
           have h2:=Nat.eq_of_beq_eq_true h2
           have h3:=Nat.eq_of_beq_eq_true h3
           have h4:=of_decide_eq_true h4
           have h5:=Nat.le_of_ble_eq_true h5
           have h6:=Nat.le_of_ble_eq_true h6
           subst h2
           obtain⟨q,rfl⟩ : ∃q:Nat,k=q:=⟨k.toNat,by omega⟩
           simp only[Int.toNat_natCast] at *
           cases hx with
           |mp _ _ c hc=>
           have A0:=getD_some hb (by simp)
           obtain⟨c',ob,vs,k1,k2,k3,k4,_,_⟩:=h.obs b _ _ A0
           rw[hc] at k1;cases k1
           obtain⟨cs,e,fr,rfl,rfl,q0,q1,q2,q3⟩:=k4
           have hl:=k3.len
           have hsub:vJ g w bQ (vs.take q):=b8 vX (k3.take q)
           have Jy:=hsub.len
           generalize Lp:bQ.map byteOf=bs at *
           have HO:bs.length=q:=by rw[←Lp,List.length_map,Jy,List.length_take];omega
           have hcells : ∀j y,bs[j]? = some y→w.cell? ((⟨c,0,none⟩:Addr).add j)=some (.int .u8 y.toNat):=by
            intro j y hj
            have hjl:=aM hj
            have hcell:w.cell? ⟨c,j,none⟩=(vs.take q)[j]? :=by
             rw[aD k2,List.getElem?_take,if_pos (by omega),q1,List.getElem?_take,if_pos (by omega)]
             simp
            have Bw:(⟨c,0,none⟩:Addr).add j=⟨c,j,none⟩:=by
             unfold Addr.add
             by_cases hj0:j=0
             · subst hj0;simp
             · simp[hj0]
            rw[Bw,hcell]
            have hbyte:=ze hsub hu (j:=j) (y:=y) (by rw[Lp];exact hj)
            exact hbyte
           have hsh:w.shape? c=some (e,cs.size):=by simp only[World.shape?,k2]
           have hrun:=Lib.run_unsafeString_row (P:=P) w pt it ty e hp h3 c cs.size hsh bs (by intro q;subst q;simp at HO;omega) (by omega) (by unfold aJ at h6;omega) hcells
           rw[HO] at hrun
           obtain⟨⟨n',f1⟩,f2,f3,f4,f5,f6⟩:=uH w (off:=0) (k:=q) k2
           obtain⟨r1,r2,r3⟩:=h.eE (xO:= .EK) (l':=[]) (vs':=[]) A0 hc f2 f3 f4 f5 f6 f1 rfl trivial
           refine⟨.string ⟨bs.toArray⟩,_,g,.inl ?_,.p _ _ (.sc _),r1,r2,r3⟩
           simp only[Sem.run_bind,hrun,Result.andThen_ok,Sem.run_pure]
       · cases he
   · cases he
 · cases he
end
end Go.Am
end
