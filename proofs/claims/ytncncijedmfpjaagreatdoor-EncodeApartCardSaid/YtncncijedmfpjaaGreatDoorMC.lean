import Derived.Test.YtncncijedmfpjaaGreatDoorMB
import Derived.IntWalk
import Derived.Lib.Builder
import Derived.DeepKeys3
import Derived.MapKept
import Derived.Lib.UnsafeStr
open Array renaming length_toList→ib,getElem?_modify→mr,getElem?_eq_getElem→hZ,size_append→mv,getElem?_toList→my,range→il,getElem?_push→ic,toList_map→ik,getD→na
open List renaming take_of_length_le→eh,length_append→dT,getD_eq_getElem?_getD→di,getElem?_set_self→nb,length_take→eQ,getElem?_set_ne→nc,getElem?_cons_zero→np,getElem?_cons_succ→nz,length_cons→od,getElem?_toArray→oe,getElem_map→ed,mem_of_getElem?→oi,mem_of_mem_take→dv,length_map→ov,mem_append→oE,getElem?_take→du,set_set→oR,take_take→oT,take_append_of_le_length→o0,replicate→df,getElem?_append_left→o6,getElem?_eq_getElem→de,length_eq_zero_iff→pa,length_set→ek,length→pb,getElem?_drop→dE,size_toArray→pf,mem_map→fi,take_length→ph,take_set→pj,set_comm→pk
open Go.Sem renaming run_bind→kh,run_pure→kl
open Bool renaming and_eq_true→dp,false_eq_true→pn,or_eq_false_iff→po,not_false→pr,or_eq_true→j1,false_or→pt
open Go.Result renaming andThen_ok→km,andThen→pw
open Nat renaming le_of_ble_eq_true→ft,eq_of_beq_eq_true→bx,le_refl→dd,mul_le_mul_right→fx,min_eq_left→pA,add_mul→pB,add_zero→pC,zero_add→pD,ble_eq_true_of_le→qf,eq_zero_or_pos→qs,mul_eq_zero→ra,mod_lt→rb,ble→bm,le_of_eq→re,sub_mul→gl,beq_eq→fw
open Option.some renaming injEq→dq
open Prod.mk renaming injEq→kc
open Go.Instr renaming makeSlice→rf,buildSlice→rh,storeAt→ri,sureAddr→lb,alloc→rk
open Option renaming map_eq_some_iff→im
open Go.World renaming alloc_eq→rl,size_drew→rn,shape?→rp,drew_eq→rr,freeze→rv
open Go.IntKind renaming i64→sa
open Int renaming toNat_of_nonneg→sb,natCast_mul→sd,ofNat_le→se
open Go.Question renaming appendCap→sf,forced→sg
open Go.Builtin renaming zeroCells→si,append_→sm,firstCells→mb,lenOf→mc,nextslicecap→ss
open Go.Value renaming int→sR
open UInt8 renaming ofNat→sT
open ByteArray renaming emptyWithCapacity→s0,empty→ta
section
namespace Go.Am
open Go.RowKit
theorem heap_setCell {w:World} {c o:Nat} {v:Value} {cs:Array Value} {e:TypeId} {n:Nat×Nat} (h:w.heap[c]? = some (.cells cs e n)) :
  (w.setCell ⟨c,o,none⟩ v).heap[c]? = some (.cells (cs.setIfInBounds o v) e n) ∧ ∀k,k≠c→(w.setCell ⟨c,o,none⟩ v).heap[k]? = w.heap[k]? :=by
 refine⟨?_,fun k hk=>Below.heap_setCell _ _ _ _ hk⟩
 simp[World.setCell,mr,h]
section ops
variable {P:Program} {g:Gh} {m:Mem} {w:World}
theorem ig (c off:Nat) : ∀(vs:List Value) (i:Nat) (w:World) (cs:Array Value) (e:TypeId) (n:Nat×Nat),w.heap[c]? = some (.cells cs e n) →
  (∀j,j<vs.length→n.2≤n.1∨off+i+j<n.1)→off+i+vs.length≤cs.size→(∀v∈vs,v.oneCell'=true) →
  ∃w' cs',(storeCells ⟨c,off,none⟩ vs i).run P w = .ok () w'∧w'.heap[c]? = some (.cells cs' e n)∧cs'.toList=dy cs.toList (off+i) vs∧(∀k,k≠c→w'.heap[k]? = w.heap[k]?) ∧
   w'.heap.size=w.heap.size∧w'.os=w.os∧w'.tape=w.tape∧w'.output=w.output
 |[],i,w,cs,e,n,h,_,_,_=>⟨w,cs,rfl,h,rfl,fun _ _=>rfl,rfl,rfl,rfl,rfl⟩
 |v::vs,i,w,cs,e,n,h,hf,hl,h1=>by
  simp only[od] at hl
  obtain⟨k1,k2⟩:=heap_setCell (o:=off+i) (v:=v) h
  have hcell:w.cell? ⟨c,off+i,none⟩=some cs[off+i]:=by rw[aS h,hZ (by omega)]
  have hfz:w.frozen? ⟨c,off+i,none⟩=false:=by
   have:=hf 0 (by simp)
   simp only[World.frozen?,h,Bool.and_eq_false_iff,decide_eq_false_iff_not]
   omega
  obtain⟨w',cs',q1,q2,q3,q4,q5,q6,q7,q8⟩:=ig c off vs (i+1) (w.setCell ⟨c,off+i,none⟩ v) (cs.setIfInBounds (off+i) v) e n k1
   (fun j hj=>by have:=hf (j+1) (by simp;omega);omega) (by simp;omega) (fun u hu=>h1 u (.tail _ hu))
  refine⟨w',cs',?_,q2,?_,fun k hk=>(q4 k hk).trans (k2 k hk),q5.trans (by simp),q6,q7,q8⟩
  · simp only[storeCells,kh,cQ,run_store P w _ v _ (h1 v (.head _)),hcell,hfz,pn,if_false,km,q1]
  · rw[q3];simp[dy,Nat.add_assoc]
theorem uM {α:Type} (f:Nat→α) (n:Nat) (h:n=0):((il n).map f).toList=[]:=by subst h;simp
theorem gA {α:Type} : ∀(n l:List α) (o:Nat),(dy l o n).length=l.length
 |[],_,_=>rfl
 |x::n,l,o=>by simp[dy,gA n]
theorem B9 {α β:Type} (f:α→β) : ∀(n l:List α) (o:Nat),(dy l o n).map f=dy (l.map f) o (n.map f)
 |[],_,_=>rfl
 |x::n,l,o=>by simp[dy,B9 f n,List.map_set]
theorem uN {α:Type} : ∀(n l:List α) (o k:Nat),k<o∨o+n.length≤k→(dy l o n)[k]? = l[k]?
 |[],_,_,_,_=>rfl
 |x::n,l,o,k,h=>by
  simp only[od] at h
  rw[dy,uN n _ (o+1) k (by omega),nc (by omega)]
theorem Ca {α:Type} : ∀(n l:List α) (o k:Nat) (_:k<n.length),o+n.length≤l.length→(dy l o n)[o+k]? = n[k]?
 |x::n,l,o,0,_,h=>by
  simp only[od] at h
  simp only[dy,pC]
  rw[uN n _ (o+1) o (.inl (Nat.lt_succ_self _)),nb (by omega)]
  rfl
 |x::n,l,o,k+1,hk,h=>by
  simp only[od] at h
  have hk:k<n.length:=by simpa using hk
  simp only[dy,show o+(k+1)=o+1+k by omega]
  rw[Ca n _ (o+1) k hk (by rw[ek];omega)]
  simp
 |[],_,_,_,hk,_=>by simp at hk
theorem Cb {g:Gh} {w:World} {v:AV} {cv:Value} (h:VA g w v cv):VA g w (BV v) cv:=by
 unfold BV
 split
 · cases h with
   |os tok len sz cells a cap h hr=>exact .p _ _ h
 · exact h
theorem mR {g:Gh} {w:World} : ∀{l:List AV} {cs:List Value},cY g w l cs→cY g w (l.map BV) cs
 |[],[],_=>trivial
 |_::_,_::_,h=>⟨Cb h.1,mR h.2⟩
 |[],_::_,h=>h.elim
 |_::_,[],h=>h.elim
theorem uO {g:Gh} {w:World} {q:Bool} {l:List AV} {cs:List Value} (h:cY g w l cs):cY g w (JU q l) cs:=by
 cases q with
 |true=>exact mR h
 |false=>exact h
theorem uP (q:Bool) (l:List AV):(JU q l).length=l.length:=by
 cases q with
 |true=>exact ov ..
 |false=>rfl
theorem jG {b b':aN} {off:Nat} {vs:List AV} (h:pG b off vs=some (b',true)):(∃l,b.cells?=some l∧b'.cells?=some (dy l off vs)∧off+vs.length≤l.length) ∨
  (∃t q l,b = .ob (.gr t q) l∧b' = .ob (.gr t q) (dy l off (JU q vs))∧off+(JU q vs).length≤l.length) ∨
  ∃t pre l,b = .ob (.stk t pre) l∧b' = .ob (.stk t pre) (dy l (off-pre.length) vs)∧pre.length≤off∧off-pre.length+vs.length≤l.length:=by
 unfold pG at h
 split at h
 · rename_i l
   split at h
   · rename_i aJ hp
     simp only[dq,kc] at h
     obtain⟨rfl,h1⟩:=h
     refine .inl ⟨l.map .p,rfl,?_,by simpa using ft h1⟩
     simp[aN.cells?,B9,pN hp]
   · simp only[dq,kc] at h
     obtain⟨rfl,h1⟩:=h
     exact .inl ⟨l.map .p,rfl,rfl,by simpa using ft h1⟩
 · rename_i l
   simp only[dq,kc] at h
   obtain⟨rfl,h1⟩:=h
   exact .inl ⟨l,rfl,rfl,ft h1⟩
 · rename_i t pq l
   simp only[dq,kc] at h
   obtain⟨rfl,h1⟩:=h
   exact .inr (.inl ⟨_,_,l,rfl,rfl,by rw[uP];exact ft h1⟩)
 · rename_i t pre l
   simp only[dq,kc,dp] at h
   obtain⟨rfl,h1,h2⟩:=h
   exact .inr (.inr ⟨_,_,l,rfl,rfl,ft h1,ft h2⟩)
 · cases h
theorem sA {α:Type} : ∀(n pre l:List α) (o:Nat),pre.length≤o→dy (pre++l) o n=pre++dy l (o-pre.length) n
 |[],_,_,_,_=>rfl
 |v::n,pre,l,o,h=>by
  simp only[dy]
  rw[List.set_append_right _ _ h,sA n pre _ (o+1) (by omega)]
  congr 2
  omega
theorem yM {α:Type} : ∀(n l:List α) (o k:Nat),o+n.length≤k→(dy l o n).take k=dy (l.take k) o n
 |[],_,_,_,_=>rfl
 |v::n,l,o,k,h=>by
  simp only[od] at h
  simp only[dy]
  rw[yM n (l.set o v) (o+1) k (by omega),pj]
theorem Rel.uQ {m:Mem} {w w':World} (h:Rel g m w) {b c:Nat} {k xs:List AV} {us:List Value} {off:Nat} {cs cs':Array Value} {e t:TypeId} {pq:Bool} {n:Nat×Nat} (hb:m[b]? = some (.ob (.gr t pq) k)) (hc:g.bL b=some c) (hcs:w.heap[c]? = some (.cells cs e n))
  (hx:cY g w xs us) (hone : ∀v∈us,v.oneCell'=true) (hroom:off+xs.length≤k.length) (hl:cs'.toList=dy cs.toList off us)
  (hw : ∀j,j≠c→w'.heap[j]? = w.heap[j]?) (hs:w'.heap.size=w.heap.size) (ho:w'.os=w.os) (ht:w'.tape=w.tape) (hu:w'.output=w.output) (hh:w'.heap[c]? = some (.cells cs' e n)) :
  Rel g (m.set b (.ob (.gr t pq) (dy k off xs))) w'∧Ext g w g w'∧dm g m w g (m.set b (.ob (.gr t pq) (dy k off xs))) w':=by
 obtain⟨c',ob,vs,h1,h2,h3,h4,h5,h6⟩:=h.obs b _ _ hb
 rw[hc] at h1;cases h1
 obtain⟨cs0,e0,n0,rfl,qt,q0,q1,q2,q3⟩:=h4
 rw[hcs] at h2;cases h2
 have Cc:=h3.len
 have hxl:=hx.len
 have hsz:cs'.size=cs.size:=by
  have:=congrArg pb hl
  rw[gA] at this;simpa using this
 have hvl:(dy vs off us).length=vs.length:=gA _ _ _
 refine h.j8 (JB:= .gr t pq) (l':=dy k off xs) (vs':=dy vs off us) hb hc hw hs ho ht hu hh ⟨cs',e,n,rfl,qt,q0,?_,by omega,fun v hv=> ?_⟩ (h3.dy off hx) (by show cs'.size=g.hi b;rw[hsz];exact h6)
 · rw[hvl,hl,yM us cs.toList off vs.length (by omega),←q1]
 · rw[hl] at hv
   exact jE _ _ _ q3 hone v hv
theorem xJ (h:Rel g m w) {t:TypeId} {a v r:AV} {ca cv:Value} {us:nF} (ha:VA g w a ca) (hv:VA g w v cv) (he:pH P (fun i=>m.getD i .dead) t a v=some (r,us,true)) :
  ∃w',(ri t ca cv).run P w = .ok () w'∧r = .aK []∧Rel g (apply m us) w'∧Ext g w g w'∧dm g m w g (apply m us) w':=by
 unfold pH at he
 split at he
 · rename_i b off n hsz
   split at he
   · rename_i b' ok hp
     simp only[dq,kc,dp,fw] at he
     obtain⟨rfl,rfl,⟨rfl,h1⟩,h2⟩:=he
     obtain⟨k1,k2⟩:=kr h1 hv
     cases ha with
     |mp _ _ c hc=>
     have hsize:cv.cells.size=n:=by have Cc:=k1.len;simp at Cc;omega
     rcases jG hp with⟨l,hl,hl',hroom⟩ | ⟨t0,pq,l,hl,rfl,hroom⟩ | ⟨t0,pre,l,hl,rfl,hpre,hroom⟩
     case inr.inr=>
      have hm:m[b]? = some (.ob (.stk t0 pre) l):=getD_some hl (by simp)
      obtain⟨hg,hs0⟩:=h.EC hm
      have N9:=bG hm
      have Wr:(m.set b (.ob (.gr t0 false) (exactly pre++l)))[b]? = some (.ob (.gr t0 false) (exactly pre++l)):=by rw[nb N9]
      obtain⟨c',ob,vs,h1',h2',h3',h4',h5',h6'⟩:=hg.obs b _ _ Wr
      rw[hc] at h1';cases h1'
      obtain⟨cs,e,q,rfl,_,q0,q1,q2,q3⟩:=h4'
      have hlen:=h3'.len
      have Cc:=k1.len
      rw[dT,bJ] at hlen
      simp at Cc
      obtain⟨w',cs',p1,p2,p3,p4,p5,p6,p7,p8⟩:=ig (P:=P) c off cv.cells.toList 0 w cs e q h2' (fun _ _=> .inl q0) (by simp;omega) k2
      simp only[pC] at p3
      obtain⟨r1,r2,r3⟩:=hg.uQ Wr hc h2' k1 k2 (by rw[dT,bJ];omega) p3 p4 p5 p6 p7 p8 p2
      rw[sA _ _ _ _ (by rw[bJ];exact hpre),bJ,oR] at r1 r3
      obtain⟨z1,z2⟩:=r1.Kg (b:=b) (by rw[nb N9])
      rw[oR] at z1 z2
      exact⟨w',by simp[ri,lb,storeVar,aE hsz,hsize,p1],rfl,z1,r2,(hs0.trans r3).trans z2⟩
     case inr.inl=>
      have hm:m[b]? = some (.ob (.gr t0 pq) l):=getD_some hl (by simp)
      obtain⟨c',ob,vs,h1',h2',h3',h4',h5',h6'⟩:=h.obs b _ _ hm
      rw[hc] at h1';cases h1'
      obtain⟨cs,e,q,rfl,_,q0,q1,q2,q3⟩:=h4'
      have hlen:=h3'.len
      have Cc:=k1.len
      have RV:=hroom
      rw[uP] at RV
      simp at Cc
      obtain⟨w',cs',p1,p2,p3,p4,p5,p6,p7,p8⟩:=ig (P:=P) c off cv.cells.toList 0 w cs e q h2' (fun _ _=> .inl q0) (by simp;omega) k2
      simp only[pC] at p3
      obtain⟨r1,r2,r3⟩:=h.uQ hm hc h2' (uO k1) k2 hroom p3 p4 p5 p6 p7 p8 p2
      exact⟨w',by simp[ri,lb,storeVar,aE hsz,hsize,p1],rfl,r1,r2,r3⟩
     have hm:m[b]? = some (m.getD b .dead):=getD_some rfl (fun e=>by
      have hl:(m.getD b .dead).cells?=some l:=hl
      rw[e] at hl;cases hl)
     obtain⟨c',cs,e,q,q1,q2,q3,q4,q5⟩:=h.cells b _ l hm hl
     rw[hc] at q1;cases q1
     have hlen:=q4.1.len
     have Cc:=k1.len
     simp at hlen Cc
     obtain⟨w',cs',p1,p2,p3,p4,p5,p6,p7,p8⟩:=ig (P:=P) c off cv.cells.toList 0 w cs e q q2 (fun _ _=> .inl q3) (by simp;omega) k2
     simp only[pC] at p3
     obtain⟨r1,r2,r3⟩:=h.write (b':=b') hm hl hc hl' p4 p5 p6 p7 p8 p2 q3 (by rw[p3];exact⟨q4.1.dy off k1,jE _ _ _ q4.2 k2⟩)
     refine⟨w',?_,rfl,r1,r2,r3⟩
     simp[ri,lb,storeVar,aE hsz,hsize,p1]
   · cases he
 · cases he
theorem xK (h:Rel g m w) {aV:Nat} (hn:m[aV]? = some .free) {t:TypeId} {a:AV} {us:nF} {ok:Bool} (he:Ad P aV t=some (a,us,ok)) {ty:TypeId} {pos:String} {o:Oper} {cz:Operand→Value} (ho:o.op = .alloc t) (_:ty=ty) (_:pos=pos) :
  cr g m w ((execOp cz o).run P w) a (apply m us):=by
 unfold Ad at he
 simp only[im,kc] at he
 obtain⟨l,hz,rfl,rfl,rfl⟩:=he
 obtain⟨z,N7,N8⟩:=cM (g:=g) (w:=w) hz
 refine cr.alloc h hn (mN l) N8 (e:=t) (v:= .pointer (some ⟨w.heap.size,0,none⟩)) ?_ fun g' hg=> .mp aV 0 _ hg
 simp[execOp,ho,rk,N7,newVar,newRow]
theorem uR (h:Rel g m w) {aV:Nat} (hn:m[aV]? = some .free) {t:TypeId} {a:AV} {us:nF} {ok:Bool} (he:uo P aV t=some (a,us,ok)) {o:Oper} {cz:Operand→Value} (ho:o.op = .alloc t) :
  cr g m w ((execOp cz o).run P w) a (apply m us):=by
 unfold uo at he
 simp only[im,kc] at he
 obtain⟨l,hz,rfl,rfl,rfl⟩:=he
 obtain⟨z,N7,N8⟩:=cM (g:=g) (w:=w) hz
 have hlen:=N8.1.len
 obtain⟨r1,r2,r3⟩:=h.pO z.cells.size (ob:= .gr t false) (l:=l) (vs:=z.cells.toList) hn N8.1 (ew w (.cells z.cells t)) ⟨z.cells,t,(0,0),rfl,rfl,dd _,(eh (dd _)).symm,by simp,N8.2⟩ rfl
 refine⟨.pointer (some ⟨w.heap.size,0,none⟩),_,_,.inl ?_,.mp aV 0 _ (by simp[Gh.put]),r1,r2,r3⟩
 simp[execOp,ho,rk,N7,newVar,newRow]
theorem Cd (h:Rel g m w) {aV:Nat} (hn:m[aV]? = some .free) {v a:AV} {cv:Value} {us:nF} (hv:VA g w v cv) (he:JV aV v=some (a,us,true)) {t:TypeId} {r:Result Next} (hr:r = .ok (.value (.pointer (some ⟨w.heap.size,0,none⟩))) (w.alloc (.cells cv.cells t))) :
  cr g m w r a (apply m us):=by
 unfold JV at he
 simp only[dq,kc] at he
 obtain⟨rfl,rfl,h1⟩:=he
 exact cr.alloc h hn (mN _) (kr h1 hv) (e:=t) hr fun g' hg=> .mp aV 0 _ hg
theorem cr.yN (h:Rel g m w) {len size:Nat} {aJ:List PV} {cs:Array Value} {e:TypeId} (hv:F0 g w aJ cs.toList) (ho : ∀v∈cs.toList,v.oneCell'=true) (hl:cs.size=len*size) (N7:1≤size) {r:Result Next}
  (hr:r = .ok (.value (.slice (some ⟨w.heap.size,0,none⟩) len len)) (w.alloc (.cells cs e))):cr g m w r (.os none len size aJ) m:=by
 obtain⟨h1,h2,h3⟩:=h.nD (ew w (.cells cs e))
 have JC:=hv.len
 simp at JC
 refine⟨_,_,_,.inl hr,.os none len size aJ _ len ?_ (.inl rfl),h1,h2,h3⟩
 refine .ps len size aJ w.heap.size 0 len (fun k=>cs.getD k undef) (by omega) (dd _) N7 (fun k hk=> ?_) fun k hk=> ?_
 · have:k<cs.size:=by omega
   refine⟨.inr ⟨rfl,by omega,by omega⟩,?_,by simpa[na,this] using ho cs[k] (by simp)⟩
   rw[aS (ew w (.cells cs e)).new]
   simp[na,this]
 · have:k<cs.size:=by omega
   have hk2:=hv.get k hk (by simpa using this)
   simp only[na,this,dite_true]
   exact hk2.mono h2.pure
theorem sC {elem:TypeId} {wr:Bool} {cells:List AV} {aJ:List PV} (h:Et P elem wr cells=some aJ):jX cells=some aJ:=by
 unfold Et at h
 split at h
 · cases h
 · exact h
theorem oN (h:Rel g m w) {aV:Nat} (hn:m[aV]? = some .free) {wr:Bool} {t:TypeId} {len:Nat} {parts:List (Nat×AV)} {jF:Array (Nat×Value)} {a:AV} {us:nF}
  (he:lC P wr aV t len parts=some (a,us,true)) (hp:bI (fun a b=>a.1=b.1∧VA g w a.2 b.2) parts jF.toList) :
  cr g m w (((do pure (.value (←rh t len jF)):Sem Next)).run P w) a (apply m us):=by
 unfold lC at he
 split at he
 · rename_i elem hu
   split at he
   · rename_i size z hsz hz
     split at he
     · rename_i cells ok hf
       obtain⟨size',z0,e1,e2,e3,e4,rfl⟩:=Kh hz
       rw[hsz] at e1;cases e1
       obtain⟨zv,z1,z2⟩:=cM (g:=g) (w:=w) e2
       have hzl:=z2.1.len
       simp at hzl
       have hzs:zv.cells.size=size:=by omega
       have key : ∀(b:Bool),ok=true→bm (len*size) 16777216=true →
        ∃Ax,(rh t len jF).run P w = .ok (.slice (some ⟨w.heap.size,0,none⟩) len len) (w.alloc (.cells Ax elem))∧Ej g w cells Ax.toList∧Ax.size=len*size:=by
        intro _ hok hle
        subst hok
        have hle:=ft hle
        have Ce:Ej g w (cL z0 len) ((il (len*size)).map ((if len*size=0 then #[] else zv.cells)[· % (if len*size=0 then #[] else zv.cells).size]!)).toList:=by
         by_cases e:len*size=0
         · have:len=0:=by rcases ra.1 e with k | k<;>omega
           rw[uM _ _ e,this];exact⟨trivial,fun _ h=>by cases h⟩
         · simp only[e,if_false]
           have h1:=ru z2.1 len
           have h2:=Ay z2.2 len
           rw[hzs] at h1 h2 ⊢;exact⟨h1,h2⟩
        obtain⟨Ax,f1,f2,f3⟩:=j9 hp Ce hf
        refine⟨Ax,?_,f2,by rw[f3];simp⟩
        have hnot : ¬(len*size>2 ^ 24):=by omega
        clear Ce f2 f3
        by_cases e:len*size=0
        · simp only[e,if_true] at f1 hnot
          simp only[rh,kh,run_underlying hu,km,aE hsz,hnot,if_false,e,if_true,f1,newRow,run_newObj,rl,kl]
        · simp only[e,if_false] at f1
          simp only[rh,kh,run_underlying hu,km,aE hsz,hnot,if_false,e,z1,f1,newRow,run_newObj,rl,kl]
       split at he
       · rename_i aJ ED
         simp only[dq,kc,dp] at he
         obtain⟨rfl,rfl,hok,hle⟩:=he
         obtain⟨Ax,k1,k2,k3⟩:=key true hok hle
         exact cr.yN (e:=elem) h (dP (sC ED) k2.1) k2.2 k3 (by omega) (by simp[k1])
       · rename_i aJ ED
         simp only[dq,kc,dp] at he
         obtain⟨rfl,rfl,hok,hle⟩:=he
         obtain⟨Ax,k1,k2,k3⟩:=key true hok hle
         have hpp:=dP (sC ED) k2.1
         have xL:cY g w (aJ.map .p) Ax.toList:=bI.dz (by simpa using hpp.len) fun i a b=>by
          have:=hpp.get i (by simpa using a) b
          rw[ed];exact .p _ _ this
         obtain⟨r1,r2,r3⟩:=h.pO Ax.size (ob:= .gr elem true) (l:=aJ.map .p) (vs:=Ax.toList) hn xL (ew w (.cells Ax elem)) ⟨Ax,elem,(0,0),rfl,rfl,dd _,(eh (dd _)).symm,by simp,k2.2⟩ rfl
         exact⟨_,_,_,.inl (by simp[k1]),.mg aV 0 len size len w.heap.size (by simp[Gh.put]) (dd _) (by simp[Gh.put];omega),r1,r2,r3⟩
       · simp only[dq,kc,dp] at he
         obtain⟨rfl,rfl,hok,hle⟩:=he
         obtain⟨Ax,k1,k2,k3⟩:=key true hok hle
         exact cr.alloc h hn (mN _) k2 (e:=elem) (v:= .slice (some ⟨w.heap.size,0,none⟩) len len) (by simp[k1]) fun g' hg=> .ms aV 0 len size len _ hg (dd _)
     · cases he
   · cases he
 · cases he
theorem rz {n:Int} (h0:0≤n) (h1:n≤9223372036854775807):sa.wrap n=n:=IntWalk.i64_in n ⟨by omega,h1⟩
theorem pY (h:Rel g m w) {aV:Nat} (hn:m[aV]? = some .free) {t:TypeId} {len cap a:AV} {cl cc:Value} {us:nF}
  (hl:VA g w len cl) (hc:VA g w cap cc) (he:mF P aV t len cap=some (a,us,true)) :
  cr g m w (((do pure (.value (←rf t cl cc)):Sem Next)).run P w) a (apply m us):=by
 unfold mF at he
 split at he
 · rename_i elem k l k' c hu
   rw[VA.pv] at hl hc
   cases hl;cases hc
   split at he
   · rename_i info bL hi hb
     simp only[dq,kc,dp,decide_eq_true_eq] at he
     obtain⟨rfl,rfl,⟨⟨h0,h1⟩,h2⟩,h3⟩:=he
     have h2:=ft h2
     have h3:=ft h3
     unfold bH at h2 h3
     obtain⟨size,z,e1,e2,e3,e4,e5⟩:=Ki hb
     have hsize:size=info.size:=by simp[fK,hi] at e1;exact e1.symm
     obtain⟨zv,z1,z2⟩:=cM (g:=g) (w:=w) e2
     have hzl:=z2.1.len
     simp at hzl
     have hzs:zv.cells.size=size:=by omega
     have hw1:sa.wrap l=l:=rz h0 (by omega)
     have ZL:sa.wrap c=c:=rz (by omega) (by omega)
     have Z7:(c.toNat:Int)=c:=sb (by omega)
     have Oa:(info.bytes:Int)*c≤70368744177664:=by
      have:((info.bytes*c.toNat:Nat):Int)≤70368744177664:=se.2 h3
      rwa [sd,Z7] at this
     have Ce:Ej g w (cL z c.toNat) ((il (c.toNat*size)).map ((if c.toNat*size=0 then #[] else zv.cells)[· % (if c.toNat*size=0 then #[] else zv.cells).size]!)).toList:=by
      by_cases e:c.toNat*size=0
      · have:c.toNat=0:=by rcases ra.1 e with k | k<;>omega
        rw[uM _ _ e,this];exact⟨trivial,fun _ h=>by cases h⟩
      · simp only[e,if_false]
        have h1:=ru z2.1 c.toNat
        have h2:=Ay z2.2 c.toNat
        rw[hzs] at h1 h2 ⊢;exact⟨h1,h2⟩
     have hsz:fK P elem=some size:=e1
     refine cr.alloc h hn e5 Ce (e:=elem) (v:= .slice (some ⟨w.heap.size,0,none⟩) l.toNat c.toNat) ?_ fun g' hg=>hsize ▸ .ms aV 0 l.toNat size c.toNat _ hg (by omega)
     have t1:(decide (c<0)||decide ((info.bytes:Int)*c>2 ^ 48))=false:=by simp only[po,decide_eq_false_iff_not];omega
     have t2:((decide (c<0)||decide ((info.bytes:Int)*c>2 ^ 48))||decide (l<0)||decide (l>c))=false:=by rw[t1,pt,po,decide_eq_false_iff_not,decide_eq_false_iff_not];exact⟨by omega,by omega⟩
     by_cases e:c.toNat*size=0
     · simp only[rf,kh,run_underlying hu,km,asInt,asIntOf,kl,eY hi,hw1,ZL,t2,pn,if_false,run_askRoom,aE hsz,e,if_true,newRow,run_newObj,rl]
     · simp only[rf,kh,run_underlying hu,km,asInt,asIntOf,kl,eY hi,hw1,ZL,t2,pn,if_false,run_askRoom,aE hsz,e,z1,newRow,run_newObj,rl]
   · cases he
 · cases he
theorem sD {α:Type} (v:α) : ∀n,cL [v] n=df n v
 |0=>rfl
 |n+1=>by rw[cL,sD v n];rfl
theorem mh {z:AV} {pv:PV} (h:BT z=some pv) : ∀n,jX (df n z)=some (df n pv)
 |0=>rfl
 |n+1=>by simp only[List.replicate_succ,jX,h,mh h n]
theorem rA (h:Rel g m w) {t:TypeId} {len cap a:AV} {cl cc:Value} {us:nF}
  (hl:VA g w len cl) (hc:VA g w cap cc) (he:oH P t len cap=some (a,us,true)) :
  cr g m w (((do pure (.value (←rf t cl cc)):Sem Next)).run P w) a (apply m us):=by
 unfold oH at he
 split at he
 · rename_i elem k l k' c hu
   rw[VA.pv] at hl hc
   cases hl;cases hc
   split at he
   · rename_i info z hi hz
     split at he
     · rename_i pv ED
       simp only[dq,kc,dp,decide_eq_true_eq] at he
       obtain⟨rfl,rfl,h0,rfl,h1,h2,h3⟩:=he
       have h1:=bx h1
       have h2:=ft h2
       have h3:=ft h3
       unfold bH at h2 h3
       have hsz:fK P elem=some 1:=by simp[fK,hi,h1]
       obtain⟨zv,z1,z2⟩:=cM (g:=g) (w:=w) hz
       have hzl:=z2.1.len
       simp at hzl
       have hzs:zv.cells.size=1:=by omega
       have hw1:sa.wrap l=l:=rz h0 (by omega)
       have Z7:(l.toNat:Int)=l:=sb h0
       have Oa:(info.bytes:Int)*l≤70368744177664:=by
        have:((info.bytes*l.toNat:Nat):Int)≤70368744177664:=se.2 h3
        rwa [sd,Z7] at this
       have Ce:Ej g w (cL [z] l.toNat) ((il (l.toNat*1)).map ((if l.toNat*1=0 then #[] else zv.cells)[· % (if l.toNat*1=0 then #[] else zv.cells).size]!)).toList:=by
        by_cases e:l.toNat*1=0
        · have:l.toNat=0:=by omega
          rw[uM _ _ e,this];exact⟨trivial,fun _ h=>by cases h⟩
        · simp only[e,if_false]
          have k1:=ru z2.1 l.toNat
          have k2:=Ay z2.2 l.toNat
          rw[hzs] at k1 k2 ⊢;exact⟨k1,k2⟩
       rw[sD] at Ce
       have t1:(decide (l<0)||decide ((info.bytes:Int)*l>2 ^ 48))=false:=by simp only[po,decide_eq_false_iff_not];omega
       have t2:((decide (l<0)||decide ((info.bytes:Int)*l>2 ^ 48))||decide (l<0)||decide (l>l))=false:=by rw[t1,pt,po,decide_eq_false_iff_not,decide_eq_false_iff_not];exact⟨by omega,by omega⟩
       refine cr.yN (e:=elem) h (dP (mh ED _) Ce.1) Ce.2 (by simp) (dd 1) ?_
       by_cases e:l.toNat*1=0
       · simp only[rf,kh,run_underlying hu,km,asInt,asIntOf,kl,eY hi,hw1,t2,pn,if_false,run_askRoom,aE hsz,e,if_true,newRow,run_newObj,rl]
       · simp only[rf,kh,run_underlying hu,km,asInt,asIntOf,kl,eY hi,hw1,t2,pn,if_false,run_askRoom,aE hsz,e,z1,newRow,run_newObj,rl]
     · cases he
   · cases he
 · cases he
end ops
end Go.Am
end
section
namespace Go.Am
open Go.RowKit
section ops
variable {P:Program} {g:Gh} {m:Mem} {w:World}
theorem VP.mk {len sz cap b o:Nat} {cells:List PV} {us:List Value} (h:F0 g w cells us) (hl:us.length=len*sz) (hc:len≤cap) (hz:1≤sz)
  (hu : ∀k v,us[k]? = some v→w.cell? ⟨b,o+k,none⟩=some v∧g.pure b (o+k)∧v.oneCell'=true):VP g w (.ps len sz cells) (.slice (some ⟨b,o,none⟩) len cap):=by
 have HC:=h.len
 refine .ps len sz cells b o cap (fun k=>us.getD k undef) (by omega) hc hz (fun k hk=> ?_) fun k hk=> ?_
 · have:us[k]? = some us[k]:=de (by omega)
   obtain⟨h1,h2,h3⟩:=hu k _ this
   exact⟨h2,by rw[h1,di,this];rfl,by rw[di,this];exact h3⟩
 · have:us[k]? = some us[k]:=de (by omega)
   rw[di,this]
   exact h.get k hk (by omega)
theorem Kj {len sz cap:Nat} {cs:List PV} {ad:Option Addr} (h:VP g w (.ps len sz cs) (.slice ad len cap)) : ∀b o,(ad=some ⟨b,o,none⟩∨len=0) →
  ∃us,F0 g w cs us∧us.length=len*sz ∧ ∀k v,us[k]? = some v→w.cell? ⟨b,o+k,none⟩=some v∧g.pure b (o+k)∧v.oneCell'=true:=by
 intro b o ha
 cases h with
 |ps _ _ _ b' o' cap f hl hc hz hp hv=>
  rcases ha with ha | rfl
  · cases ha
    refine⟨(List.range cs.length).map f,bI.dz (by simp) fun i hi _=>by simpa using hv i hi,by simp[hl],fun k v hk=> ?_⟩
    simp only[List.getElem?_map,im] at hk
    obtain⟨j,hj,rfl⟩:=hk
    obtain⟨hlt,hj⟩:=List.getElem?_eq_some_iff.1 hj
    simp at hlt hj;subst hj
    exact⟨(hp k hlt).2.1,(hp k hlt).1,(hp k hlt).2.2⟩
  · simp at hl;subst hl
    exact⟨[],trivial,by simp,fun k v hk=>by simp at hk⟩
 |oK=>exact⟨[],trivial,by simp,fun k v hk=>by simp at hk⟩
theorem xM {aV:Nat} {tok:Option Nat} {us:nF} (hn:m[aV]? = some .free) (h:nH (fun i=>m.getD i .dead) aV tok=some us) (hr:Rel g m w) :
  ∃m1:Mem,apply m us=m1.set aV .tok∧m1[aV]? = some .free∧Rel g m1 w∧dm g m w g m1 w ∧ ∀t,tok=some t→m[t]? = some .tok∧m1=m.set t .dead:=by
 unfold nH at h
 split at h
 · simp only[dq] at h;subst h
   exact⟨m,rfl,hn,hr,dm.refl g m w,fun t e=>by cases e⟩
 · rename_i t
   split at h
   · rename_i ht
     simp only[dq] at h;subst h
     have ht:=getD_some ht (by simp)
     have hne:t≠aV:=fun e=>by subst e;rw[ht] at hn;cases hn
     obtain⟨k1,k2⟩:=hr.kill t
     refine⟨m.set t .dead,rfl,by rw[nc hne];exact hn,k1,k2,fun t' e=>by cases e;exact⟨ht,rfl⟩⟩
   · cases h
theorem rm.drew {sz n:Nat} {x:AV} {cx:Value} {aJ:List PV} (h:Rel g m w) (hx:VA g w x cx) (he:contents (fun i=>m.getD i .dead) sz x=some (n,aJ,true)):rm P g w.drew sz n aJ cx:=by
 obtain⟨h1,h2,_⟩:=h.jD (w':=w.drew) rfl rfl rfl rfl
 exact fB h1 he (hx.mono h2)
theorem kA (need old:Nat) (elem:TypeId) (t:Nat):need≤(sf need old elem).cut t:=by simp[Question.cut]
theorem uS (h:Rel g m w) {aV:Nat} (hn:m[aV]? = some .free) {argTypes:Array TypeId} {ty:TypeId} {s x a:AV} {cs cx:Value} {us:nF}
  (hs:VA g w s cs) (hx:VA g w x cx) (he:iH P (fun i=>m.getD i .dead) aV argTypes s x=some (a,us,true)) :
  cr g m w (((do pure (.value (←sm argTypes ty #[cs,cx])):Sem Next)).run P w) a (apply m us):=by
 unfold iH at he
 split at he
 · rename_i sType xType hs0 hx0
   split at he
   · cases he
   · rename_i elem d hd hu rB
     split at he
     · rename_i info z hi hz
       split at he
       · rename_i n aJ ok tok len sz cells fT
         simp only[im,kc,dp] at he
         obtain⟨us',htk,rfl,rfl,⟨⟨⟨⟨rfl,h1⟩,h2⟩,h3⟩,h4⟩,h5⟩:=he
         have h2:=ft h2
         have h3:=bx h3
         have h4:=ft h4
         have h5:=ft h5
         unfold bH at h4 h5
         obtain⟨zv,z1,z2⟩:=cM (g:=g) (w:=w) hz
         have hzl:=z2.1.len
         simp only[ib] at hzl
         have hzs:zv.cells.size=info.size:=by omega
         have hsz:fK P elem=some info.size:=by simp[fK,hi]
         obtain⟨m1,e1,e2,e3,e4,e5⟩:=xM hn htk h
         cases hs with
         |os _ _ _ _ ad cap hps xF=>
         have Cf:VP g w (.ps len info.size cells) (.slice ad len cap):=jh hps (by
          rw[j1] at h1 ⊢
          refine h1.imp id fun k=> ?_
          simp only[dp] at k ⊢
          exact⟨k.1,qf h2⟩)
         obtain⟨_,_,_,q,hcap⟩:=lK Cf
         cases q
         rw[e1]
         by_cases dX:len+n≤cap
         ·
          obtain⟨vx,x1,x2,hone,x3,x4⟩:=fB (P:=P) h fT hx
          have x5:=x4 n (dd _)
          rw[eh (by omega)] at x5
          rcases xF with hfull | ⟨t,b,o,rfl,rfl,t1,t2,t3,t4⟩
          · have hn0:n=0:=by omega
            subst hn0
            have xN:vx=[]:=pa.1 (by simpa using x2)
            subst xN
            have ED:aJ=[]:=by cases aJ with
             |nil=>rfl
             |cons _ _=>exact x1.elim
            subst ED
            obtain⟨r1,r2⟩:=e3.tZ e2
            refine⟨.slice ad (len+0) cap,w,g,.inl ?_,?_,r1,Ext.refl g w,e4.trans r2⟩
            · simp only[sm,hs0,hx0,oe,np,nz,kh,run_underlying hu,km,aE hsz,run_underlying rB,kl,pn,if_false,x3,dX,if_true,pr,x5]
              cases ad<;>simp[storeCells]
            · rw[List.append_nil]
              exact .os _ _ _ _ _ _ (by simpa using Cf) (.inl (by simpa using hfull))
          ·
           obtain⟨m1t,m1e⟩:=e5 t rfl
           have hsize:sz=info.size:=by simpa using h1
           subst hsize
           obtain⟨Ob,e,q,k1,k2,k3,k4⟩:=h.tok t b m1t t1
           have hmul:(len+n)*info.size=len*info.size+n*info.size:=pB _ _ _
           have RW:(len+n)*info.size≤cap*info.size:=fx _ dX
           obtain⟨w',Rn,p1,p2,p3,p4,p5,p6,p7,p8⟩:=ig (P:=P) b (o+len*info.size) vx 0 w Ob e q k1 (fun j hj=>k3.imp id fun k3=>by omega) (by omega) hone
           simp only[pC] at p3
           have Z8:Rn.size=Ob.size:=by
            have:=congrArg pb p3
            rw[gA] at this;simpa using this
           have hsp:=h.spare (k:=n*info.size) m1t t1 hn k1 (by omega) p4 p5 p6 p7 p8 p2 Z8 (fun c hc=>by
            have:Rn.toList[c]? = Ob.toList[c]? :=by rw[p3];exact uN _ _ _ _ (by omega)
            simpa using this)
           obtain⟨r1,r2,r3⟩:=hsp
           rw[m1e]
           refine⟨.slice (some ⟨b,o,none⟩) (len+n) cap,w',_,.inl ?_,?_,r1,r2,r3⟩
           · have RX:(⟨b,o,none⟩:Addr).add (len*info.size)=⟨b,o+len*info.size,none⟩:=cQ _ _ _
             simp only[sm,hs0,hx0,oe,np,nz,kh,run_underlying hu,km,aE hsz,run_underlying rB,kl,pn,if_false,x3,dX,if_true,pr,x5,RX,p1]
           · obtain⟨us,u1,u2,u3⟩:=Kj Cf b o (.inl rfl)
             refine .os _ _ _ _ _ _ (VP.mk (us:=us++vx) ((bI.mono (fun _ _=>VP.mono r2.pure) u1).append (bI.mono (fun _ _=>VP.mono r2.pure) x1)) (by simp;omega) dX h2 fun k v hk=> ?_) (.inr ⟨aV,b,o,rfl,rfl,by simp[Gh.put,Gh.more],by simp[Gh.put,Gh.more];omega,by simp[Gh.put,Gh.more,t3],dX⟩)
             rw[List.getElem?_append] at hk
             by_cases hlt:k<us.length
             · rw[if_pos hlt] at hk
               obtain⟨v1,v2,v3⟩:=u3 k v hk
               exact⟨(r2.pure _ _ v2).2.trans v1,(r2.pure _ _ v2).1,v3⟩
             · rw[if_neg hlt] at hk
               have hk':=bG hk
               have hnew:=Ca vx Ob.toList (o+len*info.size) (k-us.length) hk' (by simp;omega)
               rw[←p3,hk] at hnew
               refine⟨?_,.inr ⟨rfl,by omega,by omega⟩,hone v (oi hk)⟩
               rw[aS p2]
               rw[show o+len*info.size+(k-us.length)=o+k by omega] at hnew
               simpa using hnew
         ·
          obtain⟨d1,d2,d3⟩:=h.jD (w':=w.drew) rfl rfl rfl rfl
          obtain⟨_,_,_,_,l3,_⟩:=fB (P:=P) h fT hx
          obtain⟨vx,x1,x2,hone,x3,x4⟩:=rm.drew (P:=P) h hx fT
          have x5:=x4 n (dd _)
          rw[eh (by omega)] at x5
          obtain⟨vs,s1,s2,Oc,s3,s4⟩:=kO (P:=P) (Cf.mono d2.pure)
          have s5:=s4 len (dd _)
          rw[eh (by omega)] at s5
          have ke:=kA (len+n) cap elem (w.tape w.drawn (.appendCap (len+n) cap elem))
          generalize hnc:(sf (len+n) cap elem).cut (w.tape w.drawn (.appendCap (len+n) cap elem))=newCap at ke
          have Kk:(si zv.cells (newCap-(len+n))).size=(newCap-(len+n))*info.size:=by simp[si,hzs]
          have hall:(vs.toArray++vx.toArray++si zv.cells (newCap-(len+n))).size=newCap*info.size:=by
           simp only[mv,pf,Kk,s2,x2]
           rw[gl,pB]
           have:=fx info.size ke
           rw[pB] at this
           omega
          generalize Az:vs.toArray++vx.toArray++si zv.cells (newCap-(len+n))=all at hall
          have uT:oL w (w.drew.alloc (.cells all elem)) (.cells all elem):=⟨rfl,rfl,rfl,rfl⟩
          have hmul:(len+n)*info.size=len*info.size+n*info.size:=pB _ _ _
          have hle:(len+n)*info.size≤all.size:=by rw[hall];exact fx _ ke
          obtain⟨r1,r2,r3⟩:=e3.fresh (k:=(len+n)*info.size) e2 uT hle (.inl (dd _))
          refine⟨.slice (some ⟨w.heap.size,0,none⟩) (len+n) newCap,_,_,.inl ?_,?_,r1,r2,e4.trans r3⟩
          · have RY : ¬(((len+n:Nat):Int)>sa.max):=by
             rw[show sa.max=9223372036854775807 from by decide];omega
            have hgrow : ¬(ss (len+n) cap*info.bytes>2 ^ 48):=by
             have:=growslice_fits (need:=len+n) (old:=cap) (bytes:=info.bytes) (by omega) (by omega)
             omega
            simp only[sm,hs0,hx0,oe,np,nz,kh,run_underlying hu,km,aE hsz,run_underlying rB,kl,pn,if_false,l3,dX,pr,RY,false_and,eY hi,hgrow,run_choose,sg,hnc,rr,run_askRoom,s5,x5,z1,Az,if_true,newRow,run_newObj,rl,rn]
          · have hnew:(w.drew.alloc (.cells all elem)).heap[w.heap.size]? = some (.cells all elem):=uT.new
            have mS:all.toList=vs++vx++(si zv.cells (newCap-(len+n))).toList:=by rw[←Az];simp
            refine .os _ _ _ _ _ _ (VP.mk (us:=vs++vx) ?_ (by simp;omega) ke h2 fun k v hk=> ?_) (.inr ⟨aV,w.heap.size,0,rfl,rfl,by simp[Gh.put,Gh.more],by simp[Gh.put,Gh.more],by simp[Gh.put,Gh.more,hall],ke⟩)
            · exact(bI.mono (fun _ _=>VP.mono (g:=g) (w:=w.drew) (fun c o p=>⟨(r2.pure c o p).1,(r2.pure c o p).2⟩)) s1).append (bI.mono (fun _ _=>VP.mono (g:=g) (w:=w.drew) (fun c o p=>⟨(r2.pure c o p).1,(r2.pure c o p).2⟩)) x1)
            · have hk':=bG hk
              simp only[dT] at hk'
              refine⟨?_,.inr ⟨rfl,by omega,by omega⟩,?_⟩
              · rw[aS hnew,←my,mS,pD,o6 (by simpa using hk')]
                exact hk
              · rcases oE.1 (oi hk) with q | q
                · exact Oc v q
                · exact hone v q
       · cases he
     · cases he
   · cases he
 · cases he
set_option linter.unusedVariables false in
theorem AA (h:Rel g m w) {argTypes:Array TypeId} {ty:TypeId} {d s a:AV} {cd cx:Value} {us:nF}
  (hd:VA g w d cd) (hx:VA g w s cx) (he:qX P (fun i=>m.getD i .dead) argTypes d s=some (a,us,true)) :
  cr g m w (((do pure (.value (←Builtin.copy_ argTypes ty #[cd,cx])):Sem Next)).run P w) a (apply m us):=by
 unfold qX at he
 cases he
theorem Kl {aJ:List PV} {vs:List Value} (h:F0 g w aJ vs) (hb:aJ.all isByte=true) : ∃ns:List Int,vs=ns.map (sR .u8)∧aJ.map byteOf=ns.map fun n=>sT n.toNat:=by
 induction aJ generalizing vs with
 |nil=>cases vs with
  |nil=>exact⟨[],rfl,rfl⟩
  |cons _ _=>exact h.elim
 |cons p aJ ih=>
  cases vs with
  |nil=>exact h.elim
  |cons v vs=>
   simp only[List.all_cons,dp] at hb
   obtain⟨ns,e1,e2⟩:=ih h.2 hb.2
   have h1:=h.1
   cases h1 with
   |sc=>
    cases v<;>simp only[isByte,pn,false_and] at hb
    rename_i k n
    cases k<;>simp only[pn,false_and] at hb
    exact⟨n::ns,by rw[e1];rfl,by rw[List.map_cons,e2];rfl⟩
   |_=>simp[isByte] at hb
theorem EE (w:World) (all:Array Value) (e:TypeId) :
  (w.alloc (.cells all e)).freeze {block:=w.heap.size,off:=all.size} 1={w with heap:=w.heap.push (.cells all e (all.size,all.size+1))}:=by
 simp only[rv,World.alloc]
 rw[if_neg (by decide)]
 congr 1
 apply Array.ext_getElem?
 intro j
 rw[mr,ic,ic]
 by_cases hj:j=w.heap.size
 · subst hj;simp
 · rw[if_neg (fun h=>hj h.symm),if_neg hj,if_neg hj]
theorem HD (w:World) (all:Array Value) (e:TypeId):(w.alloc (.cells all e)).shape? w.heap.size=some (e,all.size):=by
 simp only[rp,(ew w (.cells all e)).new]
theorem foldl_push : ∀(ns:List Int) (s:ByteArray),ns.foldl (fun r n=>r.push (sT n.toNat)) s=⟨(s.data.toList++ns.map fun n=>sT n.toNat).toArray⟩
 |[],s=>by cases s;simp
 |n::ns,s=>by
  rw[List.foldl_cons,foldl_push ns]
  cases s
  simp[ByteArray.push]
theorem Rel.F2 {m:Mem} (h:Rel g m w) {b c:Nat} {l:List PV} (hb:m[b]? = some (.pc l)) (hc:g.bL b=some c) :
  Rel (g.more c 0 l.length) (m.set b .dead) w∧Ext g w (g.more c 0 l.length) w∧dm g m w (g.more c 0 l.length) (m.set b .dead) w:=by
 obtain⟨c',cs,e,n,k1,k2,k3,k4,k5⟩:=h.cells b _ _ hb rfl
 rw[hc] at k1;cases k1
 have hlen:=k4.1.len
 simp only[ov,ib] at hlen
 have ext:Ext g w (g.more c 0 l.length) w:=⟨fun _ _ h=>⟨h,rfl,rfl⟩,fun _ _ p=>⟨.inl p,rfl⟩⟩
 have ne : ∀j x c',j≠b→m[j]? = some x→x.cP=true→g.bL j=some c'→c'≠c:=fun j x c' pZ hj ho eB e=>pZ (h.inj j b x _ c hj hb ho rfl (e▸eB) hc)
 refine⟨⟨fun j hj=>h.sw j (by simpa using hj),fun j hj=> ?_,fun j x k hj hk=> ?_,fun j c' hj eB=> ?_,fun j k x x' c' hj hk ho ho' fQ gH=> ?_,fun c' o p=> ?_,fun j kk ll hj=> ?_⟩,ext,⟨dd _,fun _ _ _=>rfl,fun _ _ p=>⟨.inl p,rfl⟩,fun c' o p=> ?_,fun c' ho=> ?_,rfl,rfl,rfl⟩⟩
 · rcases aD hj with⟨_,e⟩ | ⟨_,e⟩
   · cases e
   · exact h.free j e
 · rcases aD hj with⟨_,e⟩ | ⟨pZ,e⟩
   · subst e;cases hk
   · obtain⟨c1,cs1,e1,n1,q1,q2,q3,q4,q5⟩:=h.cells j x k e hk
     refine⟨c1,cs1,e1,n1,q1,q2,q3,q4.mono ext,fun o p=> ?_⟩
     rcases p with p | ⟨rfl,_⟩
     · exact q5 o p
     · exact ne j x _ pZ e (cT hk) q1 rfl
 · rcases aD hj with⟨_,e⟩ | ⟨pZ,e⟩
   · cases e
   · obtain⟨cs1,e1,n1,q2,q3,q4,q5⟩:=h.tok j c' e eB
     refine⟨cs1,e1,n1,q2,q3,q4,fun o a b p=> ?_⟩
     rcases p with p | ⟨rfl,_⟩
     · exact q5 o a b p
     · exact ne j _ _ pZ e rfl eB rfl
 · rcases aD hj with⟨_,e⟩ | ⟨_,e⟩
   · subst e;simp[aN.cP] at ho
   · rcases aD hk with⟨_,e'⟩ | ⟨_,e'⟩
     · subst e';simp[aN.cP] at ho'
     · exact h.inj j k x x' c' e e' ho ho' fQ gH
 · rcases p with p | ⟨rfl,_,p⟩
   · exact h.there c' o p
   · exact⟨cs[o],by rw[aS k2,hZ (by omega)]⟩
 · rcases aD hj with⟨_,e⟩ | ⟨pZ,e⟩
   · cases e
   · obtain⟨c1,o1,vs1,q1,q2,q3,q4,q5,q6⟩:=h.obs j kk ll e
     exact⟨c1,o1,vs1,q1,q2,q3.mono ext,q4,fun o p=>p.elim (q5 o) fun q=>ne j _ c1 pZ e rfl q1 q.1,q6⟩
 · rcases p with p | ⟨rfl,_⟩
   · exact .inl p
   · exact .inr (.inl ⟨b,_,hb,rfl,hc⟩)
 · rcases qZ ho with⟨q,_⟩ | ⟨j,x,_,q1,q2,q3⟩
   · simp[aN.cP] at q
   · exact .inl ⟨j,x,q1,q2,q3⟩
theorem Rel.RZ {m:Mem} {w':World} {c:Nat} {cs:Array Value} {e:TypeId} {n n':Nat×Nat} (h:Rel g m w) (hno : ¬fP g m c) (h1:w.heap[c]? = some (.cells cs e n)) (h2:w'.heap[c]? = some (.cells cs e n'))
  (h3 : ∀k,k≠c→w'.heap[k]? = w.heap[k]?):Rel g m w'∧Ext g w g w':=by
 have hcell : ∀b o,w'.cell? ⟨b,o,none⟩=w.cell? ⟨b,o,none⟩:=by
  intro b o
  by_cases e:b=c
  · subst e;rw[aS h1,aS h2]
  · exact dO (h3 b e)
 have ext:Ext g w g w':=⟨fun _ _ q=>⟨q,rfl,rfl⟩,fun b o p=>⟨p,hcell b o⟩⟩
 have ne : ∀j x c',m[j]? = some x→x.cP=true→g.bL j=some c'→c'≠c:=fun j x c' hj ho eB e=>hno ⟨j,x,hj,ho,e▸eB⟩
 refine⟨⟨h.sw,h.free,fun j x k hj hk=> ?_,fun j c' hj eB=> ?_,h.inj,fun b o p=> ?_,fun j kk ll hj=> ?_⟩,ext⟩
 · obtain⟨c1,cs1,e1,n1,q1,q2,q3,q4,q5⟩:=h.cells j x k hj hk
   exact⟨c1,cs1,e1,n1,q1,(h3 c1 (ne j x c1 hj (cT hk) q1)).trans q2,q3,q4.mono ext,q5⟩
 · obtain⟨cs1,e1,n1,q2,q3,q4,q5⟩:=h.tok j c' hj eB
   exact⟨cs1,e1,n1,(h3 c' (ne j _ c' hj rfl eB)).trans q2,q3,q4,q5⟩
 · obtain⟨v,hv⟩:=h.there b o p
   exact⟨v,(hcell b o).trans hv⟩
 · obtain⟨c1,o1,vs1,q1,q2,q3,q4⟩:=h.obs j kk ll hj
   exact⟨c1,o1,vs1,q1,(h3 c1 (ne j _ c1 hj rfl q1)).trans q2,q3.mono ext,q4⟩
theorem AB (w:World) {c off:Nat} {cs:Array Value} {e:TypeId} {n:Nat×Nat} (h:w.heap[c]? = some (.cells cs e n)) :
  (∃n',(w.freeze ⟨c,off,none⟩ 1).heap[c]? = some (.cells cs e n'))∧(∀k,k≠c→(w.freeze ⟨c,off,none⟩ 1).heap[k]? = w.heap[k]?)∧(w.freeze ⟨c,off,none⟩ 1).heap.size=w.heap.size ∧
    (w.freeze ⟨c,off,none⟩ 1).os=w.os∧(w.freeze ⟨c,off,none⟩ 1).tape=w.tape∧(w.freeze ⟨c,off,none⟩ 1).output=w.output:=by
 unfold rv
 rw[if_neg (by decide)]
 refine⟨?_,fun k hk=> ?_,by simp,rfl,rfl,rfl⟩
 · obtain⟨lo,hi⟩:=n
   refine⟨if lo==hi then(off,off+1) else(min lo off,max hi (off+1)),?_⟩
   show(w.heap.modify c _)[c]? = _
   rw[mr,if_pos rfl,h]
   rfl
 · show(w.heap.modify c _)[k]? = _
   rw[mr,if_neg (fun e=>hk e.symm)]
theorem HE {e count n:Nat} (hc:1≤P.cellsOf e) (hn:n≤count):liesAt P P.depth e count 0 e n=true:=by
 have hd:P.depth=(2*(P.types.size+Made.depth)+1)+1:=rfl
 rw[hd]
 simp only[liesAt,j1]
 left
 rw[hd]
 have h0 : ¬P.cellsOf e=0:=by omega
 simp[rowAt,hn,sameLayout,h0]
theorem tE (h:Rel g m w) {aV:Nat} (hn:m[aV]? = some .free) {ρ:Operand→AV} {cz:Operand→Value} {o:Oper} (hr : ∀x,VA g w (ρ x) (cz x)) {src dst:TypeId} {x:Operand}
  (ho:o.op = .convert src dst x) {a:AV} {us:nF} (he:convertOp P (fun i=>m.getD i .dead) aV ρ o src dst (ρ x)=some (a,us,true)) :
  cr g m w ((execOp cz o).run P w) a (apply m us):=by
 have hx:=hr x
 have kf:(execOp cz o).run P w=((convert src dst (cz x)).run P w).andThen fun v w'=> .ok (.value v) w':=by simp only[execOp,ho,kh,kl]
 unfold convertOp at he
 split at he
 · rename_i k k' n F3 Km
   split at he
   · rename_i d AD
     simp only[dq,kc,and_true] at he
     obtain⟨rfl,rfl⟩:=he
     rw[Km,VA.pv] at hx
     generalize hz:cz x=z at hx kf
     cases hx
     refine cr.quiet h (v:= .int k (k.wrap n)) ?_ (.p _ _ (.sc _))
     rw[kf]
     simp[convert,run_underlying AD,run_underlying F3,Conv.intToInt]
   · cases he
 · rename_i s F3 Km
   split at he
   · rename_i AD
     simp only[dq,kc,and_true] at he
     obtain⟨rfl,rfl⟩:=he
     rw[Km,VA.pv] at hx
     generalize hz:cz x=z at hx kf
     cases hx
     refine cr.quiet h (v:= .string s) ?_ (.p _ _ (.sc _))
     rw[kf]
     simp[convert,run_underlying AD,run_underlying F3]
   · cases he
 · rename_i e s F3 Km
   split at he
   · rename_i AD Wt
     simp only[dq,kc,and_true] at he
     obtain⟨rfl,rfl⟩:=he
     rw[Km,VA.pv] at hx
     generalize hz:cz x=z at hx kf
     cases hx
     have ke:=kA s.size 0 e (w.tape w.drawn (.appendCap s.size 0 e))
     generalize hnc:(sf s.size 0 e).cut (w.tape w.drawn (.appendCap s.size 0 e))=newCap at ke
     generalize Az:(s.data.map fun b=>(sR .u8 b.toNat))++Array.replicate (newCap-s.size) (sR .u8 0)=all
     have hss:s.data.toList.length=s.size:=ib
     have hall:all.size=newCap:=by
      rw[←Az];simp only[mv,Array.size_map,Array.size_replicate]
      have:s.data.size=s.size:=rfl
      omega
     have uT:oL w ({w.drew with heap:=w.heap.push (.cells all e (all.size,all.size+1))}:World) (.cells all e (all.size,all.size+1)):=⟨rfl,rfl,rfl,rfl⟩
     obtain⟨r1,r2,r3⟩:=h.fresh (k:=s.size) hn uT (by omega) (.inr (dd _))
     refine⟨.slice (some ⟨w.heap.size,0,none⟩) s.size newCap,_,_,.inl ?_,?_,r1,r2,r3⟩
     · rw[kf]
       have hsh:=HD w.drew all e
       have hfz:=EE w.drew all e
       rw[rn] at hsh hfz
       simp only[convert,kh,run_underlying AD,run_underlying F3,run_underlying Wt,km,Conv.stringToBytes,run_choose,sg,pn,if_false,hnc,rr,Az,newRow,run_newObj,rl,kl,markStringish,run_shape,rn,hsh,run_freeze,hfz]
       rfl
     · rw[hss]
       have mS:all.toList=(s.data.toList.map fun b=>(sR .u8 b.toNat))++df (newCap-s.size) (sR .u8 0):=by rw[←Az];simp
       refine .os _ _ _ _ _ _ (VP.mk (us:=s.data.toList.map fun b=>(sR .u8 b.toNat)) (bI.dz (by simp) fun i a b=>by simp only[ed];exact .sc _) (by simp[hss]) ke (dd _) fun k v hk=> ?_) (.inr ⟨aV,w.heap.size,0,rfl,rfl,by simp[Gh.put,Gh.more],by simp[Gh.put,Gh.more],by simp[Gh.put,Gh.more,hall],ke⟩)
       have hk':=bG hk
       rw[ov,hss] at hk'
       refine⟨?_,.inr ⟨rfl,by omega,by omega⟩,?_⟩
       · rw[aS uT.new,←my,mS,pD,o6 (by rw[ov,hss];exact hk')]
         exact hk
       · obtain⟨b,_,rfl⟩:=fi.1 (oi hk);rfl
   · cases he
 · rename_i e b off len sz cap F3 Km
   split at he
   · rename_i e' l AD Wt hb
     simp only[dq,kc,dp] at he
     obtain⟨rfl,rfl,h1,h2,h3⟩:=he
     have h1:=bx h1
     have h2:=bx h2
     have h3:=ft h3
     subst h1;subst h2
     obtain rfl:e'=e:=by have:=AD.symm.trans F3;cases this;rfl
     rw[Km] at hx
     generalize hz:cz x=z at hx kf
     cases hx with
     |ms _ _ _ _ cap c hc hcap=>
     have xq:=getD_some hb (by simp)
     obtain⟨c',cs,et,n,k1,k2,k3,k4,k5⟩:=h.cells b _ _ xq rfl
     rw[hc] at k1;cases k1
     have hlen:=k4.1.len
     simp only[ov,ib] at hlen
     obtain⟨r1,r2,r3⟩:=h.F2 xq hc
     obtain⟨⟨n',f1⟩,f2,f3,f4,f5,f6⟩:=AB w (off:=cs.size) k2
     have hno : ¬fP (g.more c 0 l.length) (m.set b .dead) c:=by
      rintro ⟨j,x,hj,ho,Ek⟩
      rcases aD hj with⟨_,e⟩ | ⟨pZ,e⟩
      · subst e;simp[aN.cP] at ho
      · exact pZ (h.inj j b x _ c e xq ho rfl Ek hc)
     obtain⟨s1,s2⟩:=r1.RZ hno k2 f1 f2
     have Z9:F0 g w l cs.toList:=bI.dz (by simpa using k4.1.len) fun i a b=>by
      have:=k4.1.get i (by simpa using a) b
      rw[ed,VA.pv] at this
      exact this
     have hpure : ∀o,o<l.length→(g.more c 0 l.length).pure c o:=fun o ho=> .inr ⟨rfl,Nat.zero_le _,ho⟩
     refine⟨.slice (some ⟨c,off,none⟩) len cap,_,_,.inl ?_,.p _ _ (VP.mk (us:=(cs.toList.drop off).take len) (bI.mono (fun _ _ q=>VP.mono (r2.trans s2).pure q) ((Z9.drop off).take len)) (by simp;omega) hcap (dd _) fun k v hk=> ?_),s1,r2.trans s2,⟨by rw[f3];exact dd _,fun k _ hn=>f2 k fun e=>hn (e▸⟨b,_,xq,rfl,hc⟩),fun b o p=>(r2.trans s2).pure b o p,r3.fresh,r3.owned,f4,f5,f6⟩⟩
     · rw[kf]
       have hsh:w.shape? c=some (et,cs.size):=by simp only[rp,k2]
       simp only[convert,kh,run_underlying AD,run_underlying Wt,km,beq_self_eq_true,markStringish,run_shape,hsh,run_freeze,kl]
     · rw[du] at hk
       split at hk
       · rename_i hlt
         rw[dE] at hk
         have hk':=bG hk
         refine⟨by rw[aS f1];simpa using hk,hpure (off+k) (by omega),k4.2 v (oi hk)⟩
       · cases hk
   · cases he
 · rename_i b off F3 Km
   split at he
   · rename_i t ty l AD hb
     split at he
     · rename_i j hj
       simp only[dq,kc,dp] at he
       obtain⟨rfl,rfl,h1,h2⟩:=he
       have h1:=ft h1
       have h2:=ft h2
       rw[Km] at hx
       generalize hz:cz x=z at hx kf
       cases hx with
       |mp _ _ c hc=>
       obtain⟨c',ob,vs,k1,k2,k3,k4,_,_⟩:=h.obs b _ _ (getD_some hb (by simp))
       rw[hc] at k1;cases k1
       obtain⟨cs,e,n,rfl,_,_,q1,q2,_⟩:=k4
       have hl:=k3.len
       have hsh:w.shape? c=some (e,cs.size):=by simp only[rp,k2]
       refine cr.quiet h (v:= .pointer (some ⟨c,off,none⟩)) ?_ (.mp b off c hc)
       rw[kf,Lib.run_to_unsafe w ⟨c,off,none⟩ AD F3 hj (by omega) hsh (by show off<cs.size;omega)]
       rfl
     · cases he
   · cases he
 · rename_i u b F3 Km
   split at he
   · rename_i ty l AD hb
     split at he
     · rename_i j hj
       simp only[dq,kc,dp] at he
       obtain⟨rfl,rfl,h1,h2,h3⟩:=he
       have h1:=bx h1
       have h2:=ft h2
       have h3:=ft h3
       subst h1
       rw[Km] at hx
       generalize hz:cz x=z at hx kf
       cases hx with
       |mp _ _ c hc=>
       obtain⟨c',ob,vs,k1,k2,k3,k4,_,_⟩:=h.obs b _ _ (getD_some hb (by simp))
       rw[hc] at k1;cases k1
       obtain⟨cs,e,n,rfl,rfl,_,q1,q2,_⟩:=k4
       have hl:=k3.len
       have hsh:w.shape? c=some (e,cs.size):=by simp only[rp,k2]
       refine cr.quiet h (v:= .pointer (some ⟨c,0,none⟩)) ?_ (.mp b 0 c hc)
       rw[kf,Lib.run_from_unsafe w ⟨c,0,none⟩ AD F3 hj hsh (HE (by omega) ((Nat.le_div_iff_mul_le (by omega)).2 (by omega)))]
       rfl
     · cases he
   · cases he
 · rename_i F3 hnot
   split at he
   · rename_i e AD
     split at he
     · rename_i Wt
       split at he
       · rename_i n aJ ok fT
         simp only[dq,kc,dp] at he
         obtain⟨rfl,rfl,rfl,h1⟩:=he
         obtain⟨vs,s1,s2,_,s4,s5⟩:=fB (P:=P) h fT hx
         obtain⟨ns,n1,n2⟩:=Kl s1 h1
         have s6:=s5 n (dd _)
         rw[eh (by omega),n1] at s6
         have ZM:ns.length=n:=by rw[n1] at s2;simpa using s2
         generalize hz:cz x=z at hx kf s4 s6
         refine cr.quiet h (v:= .string ⟨(ns.map fun n=>sT n.toNat).toArray⟩) ?_ (by rw[n2];exact .p _ _ (.sc _))
         rw[kf]
         cases z with
         |slice ad len cap=>
          have hlen:len=n:=by simpa[mc] using s4
          subst hlen
          cases ad with
          |none=>
           have:ns=[]:=by
            have:(#[]:Array Value)=(ns.map (sR .u8)).toArray:=by simpa[mb] using s6
            have:=congrArg Array.size this
            simp at this
            exact pa.1 (by omega)
           subst this
           simp[convert,run_underlying AD,run_underlying F3,run_underlying Wt,Conv.bytesToString,ta,s0]
           rfl
          |some ad=>
           have jH:(loadCells ad len).run P w = .ok (ns.map (sR .u8)).toArray w:=by simpa[mb] using s6
           have:=run_bytesToString (P:=P) w ad len cap ns jH
           simp only[convert,kh,run_underlying AD,run_underlying F3,run_underlying Wt,km,this,foldl_push]
           simp[ta,s0]
           rfl
         |string s=>
          exfalso
          generalize hxx:ρ x=xx at hx hnot fT
          cases hx with
          |p pv _ hp=>cases hp;exact hnot s rfl
          |aT=>simp[contents] at fT
         |_=>simp[mc] at s4
       · cases he
     · cases he
   · cases he
 · simp only[im,kc,and_true] at he
   obtain⟨v,h1,rfl,rfl⟩:=he
   obtain⟨cv,k1,k2⟩:=eP hr (fun _ _=>by rw[ho];exact fun e=>by cases e) h1
   exact cr.quiet h k1 k2
end ops
end Go.Am
end
section
namespace Go.Am
open Go.RowKit
section
variable {P:Program} {g:Gh} {m:Mem} {w:World}
end
end Go.Am
end
section
namespace Go.Am
open Go.RowKit
section
variable {P:Program} {g:Gh} {m:Mem} {w:World}
set_option linter.unusedVariables false in
theorem uU {t xt:TypeId} {x v:AV} {cx:Value} {ok:Bool} (he:uw P t x ok=some v) (hx:VA g w x cx) : ∃cv,(Instr.typeAssert cx xt t ok).run P w = .ok cv w∧VA g w v cv:=by
 unfold uw at he
 cases he
set_option linter.unusedVariables false in
theorem uV (h:Rel g m w) {x k a:AV} {cx ck:Value} {t:TypeId} {ok:Bool} (hx:VA g w x cx) (hk:VA g w k ck) (he:uu P (fun i=>m.getD i .dead) t x k ok=some a) :
  ∃v,(Instr.lookup t cx ck ok).run P w = .ok v w∧VA g w a v:=by
 unfold uu at he
 cases he
theorem fC (w:World) {r:Nat} {o':Obj} {o:Obj} (hb:w.heap[r]? = some o) :
  (∀k,k≠r→({w with heap:=w.heap.setIfInBounds r o'}:World).heap[k]? = w.heap[k]?)∧({w with heap:=w.heap.setIfInBounds r o'}:World).heap.size=w.heap.size∧({w with heap:=w.heap.setIfInBounds r o'}:World).heap[r]? = some o':=
 ⟨fun k hk=>(MapKept.heap_set hb).2 k hk,by simp,(MapKept.heap_set hb).1⟩
set_option linter.unusedVariables false in
theorem kg (h:Rel g m w) {x k v a:AV} {cx ck cv:Value} {t:TypeId} {us:nF} (hx:VA g w x cx) (hk:VA g w k ck) (hv:VA g w v cv)
  (he:j6 P (fun i=>m.getD i .dead) t x k v=some (a,us,true)) :
  ∃w',(Instr.mapUpdate t cx ck cv).run P w = .ok () w'∧a = .aK []∧Rel g (apply m us) w'∧Ext g w g w'∧dm g m w g (apply m us) w':=by
 unfold j6 at he
 cases he
set_option linter.unusedVariables false in
theorem Cg {ρ:Operand→AV} {cz:Operand→Value} (hr : ∀x,VA g w (ρ x) (cz x)) {o:Oper} {op:BinOp} {t yt:TypeId} {x y:Operand} (ho:o.op = .binOp op t x y yt) {a:AV} {us:nF} {ok:Bool} (he:FR P op t (ρ x) (ρ y)=some (a,us,ok)) :
  us=[] ∧ ∃v,(execOp cz o).run P w = .ok (.value v) w∧VA g w a v:=by
 unfold FR at he
 cases he
end
end Go.Am
end
section
namespace Go.Am
open Go.RowKit
section
variable {P:Program} {g:Gh} {m:Mem} {w:World}
theorem Rel.move (h:Rel g m w) {b aV c:Nat} {k:dV} {l:List AV} (hb:m[b]? = some (.ob k l)) (hc:g.bL b=some c) (hn:m[aV]? = some .free) :
  Rel (g.put aV c (g.lo b) (g.hi b)) ((m.set b .dead).set aV (.ob k l)) w∧Ext g w (g.put aV c (g.lo b) (g.hi b)) w∧dm g m w (g.put aV c (g.lo b) (g.hi b)) ((m.set b .dead).set aV (.ob k l)) w:=by
 have hne:b≠aV:=fun e=>by subst e;rw[hb] at hn;cases hn
 have hf:=h.free aV hn
 have get : ∀j x,((m.set b .dead).set aV (.ob k l))[j]? = some x→(j=aV∧x = .ob k l)∨x = .dead∨(j≠aV∧j≠b∧m[j]? = some x):=by
  intro j x hj
  rcases aD hj with⟨e,q⟩ | ⟨hjn,q⟩
  · exact .inl ⟨e,q⟩
  · rcases aD q with⟨_,q⟩ | ⟨pZ,q⟩
    · exact .inr (.inl q)
    · exact .inr (.inr ⟨hjn,pZ,q⟩)
 have bo : ∀j,j≠aV→(g.put aV c (g.lo b) (g.hi b)).bL j=g.bL j:=fun j hj=>by simp[Gh.put,hj]
 have bi:(g.put aV c (g.lo b) (g.hi b)).bL aV=some c:=by simp[Gh.put]
 have ext:Ext g w (g.put aV c (g.lo b) (g.hi b)) w:=⟨fun j c' hj=>by
  have:j≠aV:=fun e=>by subst e;rw[hf] at hj;cases hj
  simp[Gh.put,this,hj],fun _ _ p=>⟨p,rfl⟩⟩
 have ne : ∀j x c',j≠b→m[j]? = some x→x.cP=true→g.bL j=some c'→c'≠c:=fun j x c' pZ hj ho eB e=>pZ (h.inj j b x _ c hj hb ho rfl (e▸eB) hc)
 obtain⟨c0,ob,vs,h1,h2,h3,h4,h5,h6⟩:=h.obs b _ _ hb
 rw[hc] at h1;cases h1
 refine⟨⟨fun j hj=> ?_,fun j hj=> ?_,fun j x kk hj hk=> ?_,fun j c' hj eB=> ?_,fun j q x x' c' hj hk ho ho' fQ gH=> ?_,h.there,fun j kk ll hj=> ?_⟩,ext,⟨dd _,fun _ _ _=>rfl,fun _ _ p=>⟨p,rfl⟩,fun _ _ p=> .inl p,fun c' ho=> ?_,rfl,rfl,rfl⟩⟩
 · have hl:=bG hn
   simp only[ek] at hj
   rw[bo j (by omega)];exact h.sw j hj
 · rcases get j _ hj with⟨_,e⟩ | e | ⟨hjn,_,e⟩
   · cases e
   · cases e
   · rw[bo j hjn];exact h.free j e
 · rcases get j _ hj with⟨_,e⟩ | e | ⟨hjn,pZ,e⟩
   · subst e;cases hk
   · subst e;cases hk
   · obtain⟨c1,cs1,e1,n1,q1,q2,q3,q4,q5⟩:=h.cells j x kk e hk
     exact⟨c1,cs1,e1,n1,(bo j hjn).trans q1,q2,q3,q4.mono ext,q5⟩
 · rcases get j _ hj with⟨_,e⟩ | e | ⟨hjn,pZ,e⟩
   · cases e
   · cases e
   · rw[bo j hjn] at eB
     obtain⟨cs1,e1,n1,q2,q3,q4,q5⟩:=h.tok j c' e eB
     have e1:(g.put aV c (g.lo b) (g.hi b)).hi j=g.hi j:=by simp[Gh.put,hjn]
     have e2:(g.put aV c (g.lo b) (g.hi b)).lo j=g.lo j:=by simp[Gh.put,hjn]
     rw[e1,e2]
     exact⟨cs1,_,n1,q2,q3,q4,q5⟩
 · rcases get j _ hj with⟨rfl,e⟩ | e | ⟨hjn,pZ,e⟩
   · rcases get q _ hk with⟨rfl,_⟩ | e' | ⟨R0,WN,e'⟩
     · rfl
     · subst e';simp[aN.cP] at ho'
     · rw[bi] at fQ;cases fQ
       rw[bo q R0] at gH
       exact absurd rfl (ne q x' _ WN e' ho' gH)
   · subst e;simp[aN.cP] at ho
   · rcases get q _ hk with⟨rfl,_⟩ | e' | ⟨R0,WN,e'⟩
     · rw[bi] at gH;cases gH
       rw[bo j hjn] at fQ
       exact absurd rfl (ne j x _ pZ e ho fQ)
     · subst e';simp[aN.cP] at ho'
     · rw[bo j hjn] at fQ;rw[bo q R0] at gH
       exact h.inj j q x x' c' e e' ho ho' fQ gH
 · rcases get j _ hj with⟨rfl,e⟩ | e | ⟨hjn,pZ,e⟩
   · cases e
     exact⟨c,ob,vs,bi,h2,h3.mono ext,h4,h5,by simpa[Gh.put] using h6⟩
   · cases e
   · obtain⟨c1,o1,vs1,q1,q2,q3,q4,q5,q6⟩:=h.obs j kk ll e
     exact⟨c1,o1,vs1,(bo j hjn).trans q1,q2,q3.mono ext,q4,q5,by simpa[Gh.put,hjn] using q6⟩
 · obtain⟨j,x,hj,hx,Ek⟩:=ho
   rcases get j _ hj with⟨rfl,e⟩ | e | ⟨hjn,pZ,e⟩
   · rw[bi] at Ek;cases Ek
     exact .inl ⟨b,_,hb,rfl,hc⟩
   · subst e;simp[aN.cP] at hx
   · rw[bo j hjn] at Ek
     exact .inl ⟨j,x,e,hx,Ek⟩
theorem uW {α:Type} : ∀(n l:List α) (o:Nat),o+n.length≤l.length→(dy l o n).take (o+n.length)=l.take o++n
 |[],l,o,_=>by simp[dy]
 |v::n,l,o,h=>by
  simp only[od] at h
  have:=uW n (l.set o v) (o+1) (by simp;omega)
  simp only[dy,od]
  rw[show o+(n.length+1)=o+1+n.length by omega,this,List.take_succ_eq_append_getElem (by simp;omega),pj,List.set_eq_of_length_le (by simp;omega)]
  simp
theorem Ch (h:Rel g m w) {b c:Nat} {l:List AV} (hl:jr (m.getD b .dead)=some l) (hc:g.bL b=some c) :
  ∃cs e n,w.heap[c]? = some (.cells cs e n)∧n.2≤n.1∧cY g w l (cs.toList.take l.length)∧l.length≤cs.size ∧ ∀v∈cs.toList,v.oneCell'=true:=by
 have cells : ∀x,m[b]? = some x→x.cells?=some l → ∃cs e n,w.heap[c]? = some (.cells cs e n)∧n.2≤n.1∧cY g w l (cs.toList.take l.length)∧l.length≤cs.size ∧ ∀v∈cs.toList,v.oneCell'=true:=by
  intro x hx hxl
  obtain⟨c',cs,e,n,k1,k2,k3,k4,k5⟩:=h.cells b x l hx hxl
  rw[hc] at k1;cases k1
  have hlen:=k4.1.len
  simp only[ib] at hlen
  exact⟨cs,e,n,k2,k3,by rw[hlen,eh (by simp)];exact k4.1,by omega,k4.2⟩
 generalize hx:m.getD b .dead=x at hl
 unfold jr at hl
 split at hl
 · simp only[dq] at hl;subst hl
   exact cells _ (getD_some hx (by simp)) rfl
 · simp only[dq] at hl;subst hl
   exact cells _ (getD_some hx (by simp)) rfl
 · simp only[dq] at hl;subst hl
   obtain⟨c',ob,vs,k1,k2,k3,k4,_,_⟩:=h.obs b _ _ (getD_some hx (by simp))
   rw[hc] at k1;cases k1
   obtain⟨cs,e,n,rfl,_,q0,q1,q2,q3⟩:=k4
   have hlen:=k3.len
   exact⟨cs,e,n,k2,q0,by rw[hlen,←q1];exact k3,by omega,q3⟩
 · cases hl
theorem cY.WO {l:List PV} {vs:List Value} (h:F0 g w l vs):cY g w (l.map .p) vs:=bI.dz (by simpa using h.len) fun i a b=>by
 have:=h.get i (by simpa using a) b
 rw[ed];exact .p _ _ this
theorem eW (h:Rel g m w) {sz n:Nat} {x:AV} {cx:Value} {l:List AV} (he:cN (fun i=>m.getD i .dead) sz x=some (n,l,true)) (hx:VA g w x cx) :
  ∃vs:List Value,cY g w l vs∧vs.length=n*sz∧(∀v∈vs,v.oneCell'=true)∧(mc cx).run P w = .ok n w ∧ ∀k,k≤n→(mb sz k cx).run P w = .ok (vs.take (k*sz)).toArray w:=by
 unfold cN at he
 split at he
 · rename_i n' aJ ok hc
   simp only[dq,kc] at he
   obtain⟨rfl,rfl,rfl⟩:=he
   obtain⟨vs,h1,h2,h3,h4,h5⟩:=fB (P:=P) h hc hx
   exact⟨vs,cY.WO h1,h2,h3,h4,h5⟩
 · split at he
   · rename_i b off len s cap _
     split at he
     · rename_i l0 hb
       simp only[dq,kc,dp,fw] at he
       obtain⟨rfl,rfl,rfl,h1⟩:=he
       have h1:=ft h1
       cases hx with
       |ms _ _ _ _ cap c hc hcap=>
       obtain⟨c',cs,e,q,k1,k2,k3,k4,k5⟩:=h.cells b _ _ (getD_some hb (by simp)) rfl
       rw[hc] at k1;cases k1
       have hone:=k4.2
       have xL:=k4.1
       have hlen:=xL.len
       simp only[ib] at hlen
       have hvl:((cs.toList.drop off).take (len*s)).length=len*s:=by
        rw[eQ,List.length_drop,ib];omega
       refine⟨(cs.toList.drop off).take (len*s),mR ((xL.drop off).take (len*s)),hvl,fun v hv=>hone v (List.mem_of_mem_drop (dv hv)),by simp[mc],fun k hk=> ?_⟩
       have hl:(((cs.toList.drop off).take (len*s)).take (k*s)).length=k*s:=by
        rw[eQ,hvl];exact pA (fx _ hk)
       have:=run_loadCells_list (P:=P) w ⟨c,off,none⟩ (((cs.toList.drop off).take (len*s)).take (k*s)) (fun j v hj=>by
        rw[cQ,aS k2]
        rw[du] at hj
        split at hj
        · rw[du] at hj
          split at hj
          · rw[dE] at hj;simpa using hj
          · cases hj
        · cases hj)
       rw[hl] at this
       simpa[mb] using this
     · cases he
   · cases he
theorem uX (h:Rel g m w) {sz n:Nat} {x:AV} {cx:Value} {l:List AV} (he:cN (fun i=>m.getD i .dead) sz x=some (n,l,true)) (hx:VA g w x cx) :
  ∃vs:List Value,cY g w l vs∧vs.length=n*sz∧(∀v∈vs,v.oneCell'=true)∧(mc cx).run P w.drew = .ok n w.drew ∧ ∀k,k≤n→(mb sz k cx).run P w.drew = .ok (vs.take (k*sz)).toArray w.drew:=by
 obtain⟨h1,h2,_⟩:=h.jD (w':=w.drew) rfl rfl rfl rfl
 obtain⟨vs,k1,k2,k3,k4,k5⟩:=eW (P:=P) h1 he (hx.mono h2)
 exact⟨vs,cY.mono (g:=g) (w:=w.drew) ⟨fun _ _ q=>⟨q,rfl,rfl⟩,fun c o p=>⟨p,(h2.pure c o p).2.symm⟩⟩ k1,k2,k3,k4,k5⟩
theorem Ci (K:dV) (h:Rel g m w) {aV:Nat} (hn:m[aV]? = some .free) {argTypes:Array TypeId} {ty sType xType elem:TypeId} {d:TypeDesc} {info:TypeInfo} {z:List AV} {x:AV} {cx:Value} {n:Nat} {aJ:List AV} {ad:Option Addr} {len cap:Nat} {l:List AV} {vs:List Value}
  (hs0:argTypes[0]? = some sType) (hx0:argTypes[1]? = some xType) (hu:P.underlying sType=some (.slice elem)) (rB:P.underlying xType=some d) (hd : ∀k,d ≠ .int k) (hi:P.info? elem=some info) (hz:zeroCells P elem=some z)
  (hx:VA g w x cx) (fT:cN (fun i=>m.getD i .dead) info.size x=some (n,aJ,true)) (h2:1≤info.size) (h3:z.length=info.size) (h4:(len+n)*info.bytes≤bH) (h5:len+n≤bH)
  (hl:cY g w l vs) (hone : ∀v∈vs,v.oneCell'=true) (hvl:vs.length=len*info.size) (jH:(mb info.size len (.slice ad len cap)).run P w.drew = .ok vs.toArray w.drew) (dX : ¬len+n≤cap)
  (hK : ∀(all:Array Value) (vx zs:List Value),cY g w aJ vx→all.toList=vs++vx++zs→(vs++vx).length≤all.size→(∀v∈all.toList,v.oneCell'=true)→(∀v∈zs,∃a∈z,VA g w a v)→all.size≤9223372036854775807*info.size→K.is (.cells all elem) (vs++vx)∧K.room (.cells all elem) all.size) :
  ∃newCap g' w',(((do pure (.value (←sm argTypes ty #[.slice ad len cap,cx])):Sem Next)).run P w) = .ok (.value (.slice (some ⟨w.heap.size,0,none⟩) (len+n) newCap)) w' ∧
   Rel g' (m.set aV (.ob K (l++aJ))) w'∧Ext g w g' w'∧dm g m w g' (m.set aV (.ob K (l++aJ))) w'∧VA g' w' (.ms aV 0 (len+n) info.size none) (.slice (some ⟨w.heap.size,0,none⟩) (len+n) newCap):=by
 obtain⟨zv,z1,z2⟩:=cM (g:=g) (w:=w) hz
 have hzl:=z2.1.len
 simp only[ib] at hzl
 have hzs:zv.cells.size=info.size:=by omega
 have hsz:fK P elem=some info.size:=by simp[fK,hi]
 unfold bH at h4 h5
 obtain⟨_,_,_,_,l3,_⟩:=eW (P:=P) h fT hx
 obtain⟨vx,x1,x2,xO,x3,x4⟩:=uX (P:=P) h fT hx
 have x5:=x4 n (dd _)
 rw[eh (by omega)] at x5
 obtain⟨d1,d2,d3⟩:=h.jD (w':=w.drew) rfl rfl rfl rfl
 have ke:=kA (len+n) cap elem (w.tape w.drawn (.appendCap (len+n) cap elem))
 have WQ:(sf (len+n) cap elem).cut (w.tape w.drawn (.appendCap (len+n) cap elem))≤9223372036854775807:=by
  have hlt:=rb (w.tape w.drawn (.appendCap (len+n) cap elem)) (show 0<2 ^ 63-(len+n) by omega)
  show len+n+w.tape w.drawn (.appendCap (len+n) cap elem)%(2 ^ 63-(len+n))≤9223372036854775807
  omega
 generalize hnc:(sf (len+n) cap elem).cut (w.tape w.drawn (.appendCap (len+n) cap elem))=newCap at ke WQ
 have Kk:(si zv.cells (newCap-(len+n))).size=(newCap-(len+n))*info.size:=by simp[si,hzs]
 have hmul:(len+n)*info.size=len*info.size+n*info.size:=pB _ _ _
 have hall:(vs.toArray++vx.toArray++si zv.cells (newCap-(len+n))).size=newCap*info.size:=by
  simp only[mv,pf,Kk,hvl,x2]
  rw[gl,hmul]
  have:=fx info.size ke
  rw[hmul] at this
  omega
 have WR : ∀v∈(si zv.cells (newCap-(len+n))).toList,v.oneCell'=true:=by
  intro v hv
  simp only[si,ik,fi] at hv
  obtain⟨i,_,rfl⟩:=hv
  have hlt:i%zv.cells.size<zv.cells.size:=rb _ (by omega)
  rw[getElem!_pos zv.cells _ hlt]
  exact z2.2 _ (by simp)
 have aaa : ∀v∈(si zv.cells (newCap-(len+n))).toList,∃a∈z,VA g w a v:=by
  intro v hv
  simp only[si,ik,fi] at hv
  obtain⟨i,_,rfl⟩:=hv
  have hlt:i%zv.cells.size<zv.cells.size:=rb _ (by omega)
  rw[getElem!_pos zv.cells _ hlt]
  have hz':i%zv.cells.size<z.length:=by omega
  exact⟨z[i%zv.cells.size],List.getElem_mem hz',by have:=z2.1.get (i%zv.cells.size) hz' (by simpa using hlt);rwa [Array.getElem_toList] at this⟩
 generalize Az:vs.toArray++vx.toArray++si zv.cells (newCap-(len+n))=all at hall
 have mS:all.toList=vs++vx++(si zv.cells (newCap-(len+n))).toList:=by rw[←Az];simp
 have uT:oL w (w.drew.alloc (.cells all elem)) (.cells all elem):=⟨rfl,rfl,rfl,rfl⟩
 have xL:cY g w (l++aJ) (vs++vx):=hl.append x1
 have Od : ∀v∈all.toList,v.oneCell'=true:=fun v hv=>by
  rw[mS] at hv
  rcases oE.1 hv with q | q
  · rcases oE.1 q with q | q
    · exact hone v q
    · exact xO v q
  · exact WR v q
 have hKK:=hK all vx _ x1 mS (by rw[hall,dT,hvl,x2,←hmul];exact fx _ ke) Od aaa (by rw[hall];exact fx _ WQ)
 obtain⟨r1,r2,r3⟩:=h.pO all.size (ob:=K) (l:=l++aJ) (vs:=vs++vx) hn xL uT
  hKK.1 hKK.2
 refine⟨newCap,_,_,?_,r1,r2,r3,.mg aV 0 _ _ newCap w.heap.size (by simp[Gh.put]) ke (by simp[Gh.put,hall])⟩
 have RY : ¬(((len+n:Nat):Int)>sa.max):=by
  rw[show sa.max=9223372036854775807 from by decide];omega
 have hgrow : ¬(ss (len+n) cap*info.bytes>2 ^ 48):=by
  have:=growslice_fits (need:=len+n) (old:=cap) (bytes:=info.bytes) (by omega) (by omega)
  omega
 simp only[sm,hs0,hx0,oe,np,nz,kh,run_underlying hu,km,aE hsz,run_underlying rB,kl,pn,if_false,l3,dX,pr,RY,false_and,eY hi,hgrow,run_choose,sg,hnc,rr,run_askRoom,jH,x5,z1,Az,if_true,newRow,run_newObj,rl,rn]
theorem AE (pq:Bool) (h:Rel g m w) {aV:Nat} (hn:m[aV]? = some .free) {argTypes:Array TypeId} {ty sType xType elem:TypeId} {d:TypeDesc} {info:TypeInfo} {z:List AV} {x:AV} {cx:Value} {n:Nat} {aJ:List AV} {ad:Option Addr} {len cap:Nat} {l:List AV} {vs:List Value}
  (hs0:argTypes[0]? = some sType) (hx0:argTypes[1]? = some xType) (hu:P.underlying sType=some (.slice elem)) (rB:P.underlying xType=some d) (hd : ∀k,d ≠ .int k) (hi:P.info? elem=some info) (hz:zeroCells P elem=some z)
  (hx:VA g w x cx) (fT:cN (fun i=>m.getD i .dead) info.size x=some (n,aJ,true)) (h2:1≤info.size) (h3:z.length=info.size) (h4:(len+n)*info.bytes≤bH) (h5:len+n≤bH)
  (hl:cY g w l vs) (hone : ∀v∈vs,v.oneCell'=true) (hvl:vs.length=len*info.size) (jH:(mb info.size len (.slice ad len cap)).run P w.drew = .ok vs.toArray w.drew) (dX : ¬len+n≤cap) :
  ∃newCap g' w',(((do pure (.value (←sm argTypes ty #[.slice ad len cap,cx])):Sem Next)).run P w) = .ok (.value (.slice (some ⟨w.heap.size,0,none⟩) (len+n) newCap)) w' ∧
   Rel g' (m.set aV (.ob (.gr elem pq) (l++aJ))) w'∧Ext g w g' w'∧dm g m w g' (m.set aV (.ob (.gr elem pq) (l++aJ))) w'∧VA g' w' (.ms aV 0 (len+n) info.size none) (.slice (some ⟨w.heap.size,0,none⟩) (len+n) newCap):=
 Ci (.gr elem pq) h hn hs0 hx0 hu rB hd hi hz hx fT h2 h3 h4 h5 hl hone hvl jH dX fun all vx zs _ mS hle WS _ _=>
  ⟨⟨all,elem,(0,0),rfl,rfl,dd _,by rw[mS,o0 (dd _),ph],hle,WS⟩,rfl⟩
theorem iM : ∀{l:List AV} {vs:List Value},allBy l=true→cY g w l vs → ∀v∈vs,∃k,v = .int .u8 k
 |[],[],_,_=>fun v hv=>by cases hv
 |a::l,v::vs,h,k=>by
  simp only[allBy,dp] at h
  intro u hu
  cases hu with
  |head=>
   have hk:=k.1
   have h1:=h.1
   match a,h1,hk with
   |.p (.sc (.int .u8 n)),_,hk=>
    rw[VA.pv] at hk
    cases hk
    exact⟨n,rfl⟩
  |tail _ hu=>exact iM h.2 k.2 u hu
 |[],_::_,_,h=>h.elim
 |_::_,[],_,h=>h.elim
theorem yO : ∀{l:List AV},allBy l=true → ∀a∈l,allBy [a]=true
 |x::l,h,a,ha=>by
  simp only[allBy,dp] at h
  cases ha with
  |head=>simp[allBy,h.1]
  |tail _ ha=>exact yO h.2 a ha
theorem Cj (h:Rel g m w) {aV:Nat} (hn:m[aV]? = some .free) {argTypes:Array TypeId} {ty sType xType elem:TypeId} {d:TypeDesc} {info:TypeInfo} {z:List AV} {x:AV} {cx:Value} {n:Nat} {aJ:List AV} {ad:Option Addr} {len cap:Nat} {l:List AV} {vs:List Value}
  (hs0:argTypes[0]? = some sType) (hx0:argTypes[1]? = some xType) (hu:P.underlying sType=some (.slice elem)) (rB:P.underlying xType=some d) (hd : ∀k,d ≠ .int k) (hi:P.info? elem=some info) (hz:zeroCells P elem=some z)
  (hx:VA g w x cx) (fT:cN (fun i=>m.getD i .dead) info.size x=some (n,aJ,true)) (h2:1≤info.size) (h3:z.length=info.size) (h4:(len+n)*info.bytes≤bH) (h5:len+n≤bH)
  (hl:cY g w l vs) (xq : ∀v∈vs,∃k,v = .int .u8 k) (R1:info.size=1) (hbz:allBy z=true) (ZN:allBy aJ=true) (hvl:vs.length=len*info.size) (jH:(mb info.size len (.slice ad len cap)).run P w.drew = .ok vs.toArray w.drew) (dX : ¬len+n≤cap) :
  ∃newCap g' w',(((do pure (.value (←sm argTypes ty #[.slice ad len cap,cx])):Sem Next)).run P w) = .ok (.value (.slice (some ⟨w.heap.size,0,none⟩) (len+n) newCap)) w' ∧
   Rel g' (m.set aV (.ob (.gb elem) (l++aJ))) w'∧Ext g w g' w'∧dm g m w g' (m.set aV (.ob (.gb elem) (l++aJ))) w'∧VA g' w' (.ms aV 0 (len+n) info.size none) (.slice (some ⟨w.heap.size,0,none⟩) (len+n) newCap):=
 Ci (.gb elem) h hn hs0 hx0 hu rB hd hi hz hx fT h2 h3 h4 h5 hl (fun v hv=>by obtain⟨k,rfl⟩:=xq v hv;rfl) hvl jH dX fun all vx zs hx1 mS hle _ hzs hsz=>
  ⟨⟨all,elem,(0,0),rfl,rfl,dd _,by rw[mS,o0 (dd _),ph],hle,fun v hv=>by
    rw[mS] at hv
    rcases oE.1 hv with q | q
    · rcases oE.1 q with q | q
      · exact xq v q
      · exact iM ZN hx1 v q
    · obtain⟨a,ha,xL⟩:=hzs v q
      exact iM (l:=[a]) (vs:=[v]) (yO hbz a ha) ⟨xL,trivial⟩ v (.head _),by rw[R1,Nat.mul_one] at hsz;exact hsz⟩,rfl⟩
theorem run_append_room (h:Rel g m w) {argTypes:Array TypeId} {ty sType xType elem:TypeId} {d:TypeDesc} {info:TypeInfo} {x:AV} {cx:Value} {n:Nat} {aJ:List AV} {c len cap:Nat} {cs:Array Value} {e:TypeId} {q:Nat×Nat}
  (hs0:argTypes[0]? = some sType) (hx0:argTypes[1]? = some xType) (hu:P.underlying sType=some (.slice elem)) (rB:P.underlying xType=some d) (hd : ∀k,d ≠ .int k) (hi:P.info? elem=some info)
  (hx:VA g w x cx) (fT:cN (fun i=>m.getD i .dead) info.size x=some (n,aJ,true)) (hc:w.heap[c]? = some (.cells cs e q)) (hq:q.2≤q.1) (hroom:(len+n)*info.size≤cs.size) (dX:len+n≤cap) :
  ∃w' cs' vx,(((do pure (.value (←sm argTypes ty #[.slice (some ⟨c,0,none⟩) len cap,cx])):Sem Next)).run P w) = .ok (.value (.slice (some ⟨c,0,none⟩) (len+n) cap)) w' ∧
   cY g w aJ vx∧vx.length=n*info.size∧(∀v∈vx,v.oneCell'=true)∧cs'.toList=dy cs.toList (len*info.size) vx∧w'.heap[c]? = some (.cells cs' e q) ∧
   (∀k,k≠c→w'.heap[k]? = w.heap[k]?)∧w'.heap.size=w.heap.size∧w'.os=w.os∧w'.tape=w.tape∧w'.output=w.output:=by
 have hsz:fK P elem=some info.size:=by simp[fK,hi]
 obtain⟨vx,x1,x2,xO,x3,x4⟩:=eW (P:=P) h fT hx
 have x5:=x4 n (dd _)
 rw[eh (by omega)] at x5
 have hmul:(len+n)*info.size=len*info.size+n*info.size:=pB _ _ _
 obtain⟨w',cs',p1,p2,p3,p4,p5,p6,p7,p8⟩:=ig (P:=P) c (len*info.size) vx 0 w cs e q hc (fun j hj=> .inl hq) (by omega) xO
 simp only[pC] at p3
 refine⟨w',cs',vx,?_,x1,x2,xO,p3,p2,p4,p5,p6,p7,p8⟩
 have RX:(⟨c,0,none⟩:Addr).add (len*info.size)=⟨c,len*info.size,none⟩:=by rw[cQ,pD]
 simp only[sm,hs0,hx0,oe,np,nz,kh,run_underlying hu,km,aE hsz,run_underlying rB,kl,pn,if_false,x3,dX,if_true,pr,x5,RX,p1]
theorem mT {c len cap sz:Nat} {cs:Array Value} {e:TypeId} {q:Nat×Nat} (hc:w.heap[c]? = some (.cells cs e q)) (hl:len*sz≤cs.size) :
  (mb sz len (.slice (some ⟨c,0,none⟩) len cap)).run P w = .ok (cs.toList.take (len*sz)).toArray w:=by
 have:=run_loadCells_list (P:=P) w ⟨c,0,none⟩ (cs.toList.take (len*sz)) (fun j v hj=>by
  rw[cQ,pD,aS hc]
  rw[du] at hj
  split at hj
  · simpa using hj
  · cases hj)
 rw[eQ,ib,pA hl] at this
 simpa[mb] using this
theorem mU (h:Rel g m w) {aV:Nat} (hn:m[aV]? = some .free) {argTypes:Array TypeId} {ty sType xType elem t:TypeId} {d:TypeDesc} {info:TypeInfo} {z:List AV} {x:AV} {cs cx:Value} {b len n:Nat} {pq:Bool} {l aJ:List AV}
  (hs0:argTypes[0]? = some sType) (hx0:argTypes[1]? = some xType) (hu:P.underlying sType=some (.slice elem)) (rB:P.underlying xType=some d) (hd' : ∀k,d ≠ .int k) (hi:P.info? elem=some info) (hz:zeroCells P elem=some z)
  (hs:VA g w (.ms b 0 len info.size none) cs) (hx:VA g w x cx) (fT:cN (fun i=>m.getD i .dead) info.size x=some (n,aJ,true)) (xq:m[b]? = some (.ob (.gr t pq) l))
  (h2:1≤info.size) (h3:z.length=info.size) (h4:(len+n)*info.bytes≤bH) (h5:len+n≤bH) (h7:len*info.size≤l.length) (h8:t=elem) :
  cr g m w (((do pure (.value (←sm argTypes ty #[cs,cx])):Sem Next)).run P w) (.ms aV 0 (len+n) info.size none) (apply m [(b,.dead),(aV,.ob (.gr t (pq&&jw (fun i=>m.getD i .dead) info.size x)) (l.take (len*info.size)++aJ))]):=by
 subst h8
 cases hs with
 |mg _ _ _ _ cap c hc hcap hroom=>
 have hne:b≠aV:=fun e=>by subst e;rw[xq] at hn;cases hn
 obtain⟨c',ob,vs,k1,k2,k3,k4,k5,k6⟩:=h.obs b _ _ xq
 rw[hc] at k1;cases k1
 obtain⟨cells,e,q,rfl,qt,q0,q1,q2,q3⟩:=k4
 have Cc:=k3.len
 have k6:cells.size=g.hi b:=k6
 have hmul:(len+n)*info.size=len*info.size+n*info.size:=pB _ _ _
 by_cases dX:len+n≤cap
 · have RW:(len+n)*info.size≤cap*info.size:=fx _ dX
   obtain⟨w',cs',vx,r0,x1,x2,xO,p3,p2,p4,p5,p6,p7,p8⟩:=run_append_room (P:=P) (ty:=ty) h hs0 hx0 hu rB hd' hi hx fT k2 q0 (by omega) dX
   have JC:=x1.len
   have hsize:cs'.size=cells.size:=by
    have:=congrArg pb p3
    rw[gA] at this;simpa using this
   have xL:cY g w (l.take (len*info.size)++aJ) (vs.take (len*info.size)++vx):=(k3.take _).append x1
   have WT:(vs.take (len*info.size)).length=len*info.size:=by rw[eQ];omega
   obtain⟨r1,r2,r3⟩:=h.j8 (JB:= .gr t (pq&&jw (fun i=>m.getD i .dead) info.size x)) (l':=l.take (len*info.size)++aJ) (vs':=vs.take (len*info.size)++vx) xq hc p4 p5 p6 p7 p8 p2
    ⟨cs',e,q,rfl,qt,q0,by
      rw[dT,WT,p3,uW vx cells.toList _ (by simp;omega),q1,oT,pA (by omega)],by rw[dT,WT,x2,hsize];omega,fun v hv=>by
      rw[p3] at hv
      exact jE _ _ _ q3 xO v hv⟩ xL (by show cs'.size=g.hi b;rw[hsize];exact k6)
   have hb':(m.set b (.ob (.gr t (pq&&jw (fun i=>m.getD i .dead) info.size x)) (l.take (len*info.size)++aJ)))[b]? = some (.ob (.gr t (pq&&jw (fun i=>m.getD i .dead) info.size x)) (l.take (len*info.size)++aJ)):=by rw[nb (bG xq)]
   obtain⟨s1,s2,s3⟩:=r1.move hb' hc (by rw[nc hne];exact hn)
   rw[oR] at s1 s3
   exact⟨_,w',_,.inl r0,.mg aV 0 _ _ cap c (by simp[Gh.put]) dX (by simp[Gh.put];omega),s1,r2.trans s2,r3.trans s3⟩
 · have jH:=mT (P:=P) (w:=w.drew) (c:=c) (len:=len) (cap:=cap) (sz:=info.size) k2 (by omega)
   have hvt:vs.take (len*info.size)=cells.toList.take (len*info.size):=by rw[q1,oT,pA (by omega)]
   obtain⟨newCap,g',w',r0,r1,r2,r3,r4⟩:=AE (P:=P) (pq&&jw (fun i=>m.getD i .dead) info.size x) (ty:=ty) (l:=l.take (len*info.size)) (vs:=cells.toList.take (len*info.size)) h hn hs0 hx0 hu rB hd' hi hz hx fT h2 h3 h4 h5 (by rw[←hvt];exact k3.take _)
    (fun v hv=>q3 v (dv hv)) (by rw[eQ,ib];omega) jH dX
   obtain⟨t1,t2⟩:=r1.kill b
   have e1:((m.set aV (.ob (.gr t (pq&&jw (fun i=>m.getD i .dead) info.size x)) (l.take (len*info.size)++aJ))).set b .dead)=apply m [(b,.dead),(aV,.ob (.gr t (pq&&jw (fun i=>m.getD i .dead) info.size x)) (l.take (len*info.size)++aJ))]:=by
    simp only[apply]
    exact pk _ _ (fun e=>hne e.symm)
   rw[e1] at t1 t2
   exact⟨_,w',g',.inl r0,r4,t1,r2,r3.trans t2⟩
theorem uY (h:Rel g m w) {aV:Nat} (hn:m[aV]? = some .free) {argTypes:Array TypeId} {ty sType xType elem t:TypeId} {d:TypeDesc} {info:TypeInfo} {z:List AV} {x:AV} {cs cx:Value} {b len n:Nat} {l aJ:List AV}
  (hs0:argTypes[0]? = some sType) (hx0:argTypes[1]? = some xType) (hu:P.underlying sType=some (.slice elem)) (rB:P.underlying xType=some d) (hd' : ∀k,d ≠ .int k) (hi:P.info? elem=some info) (hz:zeroCells P elem=some z)
  (hs:VA g w (.ms b 0 len info.size none) cs) (hx:VA g w x cx) (fT:cN (fun i=>m.getD i .dead) info.size x=some (n,aJ,true)) (xq:m[b]? = some (.ob (.gb t) l)) (R1:info.size=1) (hbz:allBy z=true) (ZN:allBy aJ=true)
  (h2:1≤info.size) (h3:z.length=info.size) (h4:(len+n)*info.bytes≤bH) (h5:len+n≤bH) (h7:len*info.size≤l.length) (h8:t=elem) :
  cr g m w (((do pure (.value (←sm argTypes ty #[cs,cx])):Sem Next)).run P w) (.ms aV 0 (len+n) info.size none) (apply m [(b,.dead),(aV,.ob (.gb t) (l.take (len*info.size)++aJ))]):=by
 subst h8
 cases hs with
 |mg _ _ _ _ cap c hc hcap hroom=>
 have hne:b≠aV:=fun e=>by subst e;rw[xq] at hn;cases hn
 obtain⟨c',ob,vs,k1,k2,k3,k4,k5,k6⟩:=h.obs b _ _ xq
 rw[hc] at k1;cases k1
 obtain⟨cells,e,q,rfl,qt,q0,q1,q2,q3,q4⟩:=k4
 have Cc:=k3.len
 have k6:cells.size=g.hi b:=k6
 have hmul:(len+n)*info.size=len*info.size+n*info.size:=pB _ _ _
 by_cases dX:len+n≤cap
 · have RW:(len+n)*info.size≤cap*info.size:=fx _ dX
   obtain⟨w',cs',vx,r0,x1,x2,xO,p3,p2,p4,p5,p6,p7,p8⟩:=run_append_room (P:=P) (ty:=ty) h hs0 hx0 hu rB hd' hi hx fT k2 q0 (by omega) dX
   have JC:=x1.len
   have hsize:cs'.size=cells.size:=by
    have:=congrArg pb p3
    rw[gA] at this;simpa using this
   have xL:cY g w (l.take (len*info.size)++aJ) (vs.take (len*info.size)++vx):=(k3.take _).append x1
   have WT:(vs.take (len*info.size)).length=len*info.size:=by rw[eQ];omega
   obtain⟨r1,r2,r3⟩:=h.j8 (JB:= .gb t) (l':=l.take (len*info.size)++aJ) (vs':=vs.take (len*info.size)++vx) xq hc p4 p5 p6 p7 p8 p2
    ⟨cs',e,q,rfl,qt,q0,by
      rw[dT,WT,p3,uW vx cells.toList _ (by simp;omega),q1,oT,pA (by omega)],by rw[dT,WT,x2,hsize];omega,fun v hv=>by
      rw[p3] at hv
      exact jE (p:=fun v=> ∃k,v = .int .u8 k) _ _ _ q3 (iM ZN x1) v hv,by rw[hsize];exact q4⟩ xL (by show cs'.size=g.hi b;rw[hsize];exact k6)
   have hb':(m.set b (.ob (.gb t) (l.take (len*info.size)++aJ)))[b]? = some (.ob (.gb t) (l.take (len*info.size)++aJ)):=by rw[nb (bG xq)]
   obtain⟨s1,s2,s3⟩:=r1.move hb' hc (by rw[nc hne];exact hn)
   rw[oR] at s1 s3
   exact⟨_,w',_,.inl r0,.mg aV 0 _ _ cap c (by simp[Gh.put]) dX (by simp[Gh.put];omega),s1,r2.trans s2,r3.trans s3⟩
 · have jH:=mT (P:=P) (w:=w.drew) (c:=c) (len:=len) (cap:=cap) (sz:=info.size) k2 (by omega)
   have hvt:vs.take (len*info.size)=cells.toList.take (len*info.size):=by rw[q1,oT,pA (by omega)]
   obtain⟨newCap,g',w',r0,r1,r2,r3,r4⟩:=Cj (P:=P) (ty:=ty) (l:=l.take (len*info.size)) (vs:=cells.toList.take (len*info.size)) h hn hs0 hx0 hu rB hd' hi hz hx fT h2 h3 h4 h5 (by rw[←hvt];exact k3.take _)
    (fun v hv=>q3 v (dv hv)) R1 hbz ZN (by rw[eQ,ib];omega) jH dX
   obtain⟨t1,t2⟩:=r1.kill b
   have e1:((m.set aV (.ob (.gb t) (l.take (len*info.size)++aJ))).set b .dead)=apply m [(b,.dead),(aV,.ob (.gb t) (l.take (len*info.size)++aJ))]:=by
    simp only[apply]
    exact pk _ _ (fun e=>hne e.symm)
   rw[e1] at t1 t2
   exact⟨_,w',g',.inl r0,r4,t1,r2,r3.trans t2⟩
theorem xP {m:Mem} {b sz:Nat} {t:TypeId} {pre:List Value} {l:List AV} {X:aN} {x:AV} {r:Nat×List AV×Bool} (hb:m[b]? = some (.ob (.stk t pre) l)) (h:cN (fun i=>m.getD i .dead) sz x=some r) :
  cN (fun i=>(m.set b X).getD i .dead) sz x=some r:=by
 have hd:m.getD b .dead = .ob (.stk t pre) l:=by rw[di,hb];rfl
 have off : ∀i,i≠b→(m.set b X).getD i .dead=m.getD i .dead:=fun i hi=>by
  rw[di,nc (fun e=>hi e.symm),di]
 have same : ∀y,(∀o len s cap,y ≠ .ms b o len s cap)→contents (fun i=>(m.set b X).getD i .dead) sz y=contents (fun i=>m.getD i .dead) sz y:=fun y hy=>by
  cases y with
  |p v=>
   cases v with
   |sc u=>cases u<;>rfl
   |_=>rfl
  |ms b' o len s cap=>
   have hb':b'≠b:=fun e=>hy o len s cap (e▸rfl)
   cases cap with
   |none=>
    unfold contents
    dsimp only
    rw[off b' hb']
   |some q=>
    unfold contents
    dsimp only
    rw[off b' hb']
  |_=>rfl
 by_cases hx : ∃o len s cap,x = .ms b o len s cap
 · obtain⟨o,len,s,cap,rfl⟩:=hx
   exfalso
   unfold cN at h
   cases cap with
   |none=>
    have e:contents (fun i=>m.getD i .dead) sz (.ms b o len s none)=none:=by
     unfold contents
     dsimp only
     rw[hd]
    rw[e] at h
    cases h
   |some q=>
    have e:contents (fun i=>m.getD i .dead) sz (.ms b o len s (some q))=none:=by
     unfold contents
     dsimp only
     rw[hd]
    rw[e] at h
    dsimp only at h
    rw[hd] at h
    cases h
 · rw[←h]
   unfold cN
   rw[same x fun o len s cap e=>hx ⟨o,len,s,cap,e⟩]
   cases x with
   |ms b' o len s cap=>
    have hb':b'≠b:=fun e=>hx ⟨o,len,s,cap,e▸rfl⟩
    cases cap with
    |none=>rfl
    |some q=>
     dsimp only
     rw[off b' hb']
   |_=>rfl
theorem uZ (h:Rel g m w) {aV:Nat} (hn:m[aV]? = some .free) {argTypes:Array TypeId} {ty:TypeId} {s x a:AV} {cs cx:Value} {us:nF}
  (hs:VA g w s cs) (hx:VA g w x cx) (he:fo P (fun i=>m.getD i .dead) aV argTypes s x=some (a,us,true)) :
  cr g m w (((do pure (.value (←sm argTypes ty #[cs,cx])):Sem Next)).run P w) a (apply m us):=by
 unfold fo at he
 split at he
 · rename_i sType xType hs0 hx0
   split at he
   · cases he
   · rename_i elem d hd hu rB
     have hd' : ∀k,d ≠ .int k:=fun k e=>hd k e
     split at he
     · rename_i info z hi hz
       split at he
       · rename_i n aJ ok fT
         dsimp only at he
         split at he
         ·
          rename_i b len sz
          split at he
          · rename_i t pq l hb
            simp only[dq,kc,dp] at he
            obtain⟨rfl,rfl,⟨rfl,h2,h3,h4,h5⟩,h6,h7,h8⟩:=he
            have h6:=bx h6
            subst h6
            exact mU h hn hs0 hx0 hu rB hd' hi hz hs hx fT (getD_some hb (by simp)) (ft h2) (bx h3) (ft h4) (ft h5) (ft h7) (bx h8)
          ·
           rename_i t l hb
           simp only[dq,kc,dp] at he
           obtain⟨rfl,rfl,⟨rfl,h2,h3,h4,h5⟩,h6,h7,h8,R1,h9,h10⟩:=he
           have h6:=bx h6
           subst h6
           have h7:=bx h7
           have Wr:=uY (ty:=ty) h hn hs0 hx0 hu rB hd' hi hz hs hx fT (getD_some hb (by simp)) (bx R1) h9 h10 (ft h2) (bx h3) (ft h4) (ft h5) (re h7) (bx h8)
           rwa [eh (re h7.symm)] at Wr
          ·
           rename_i t pre l hb
           simp only[dq,kc,dp] at he
           obtain⟨rfl,rfl,⟨rfl,h2,h3,h4,h5⟩,h6,h7,h8,h9⟩:=he
           have h6:=bx h6
           subst h6
           have xq:=getD_some hb (by simp)
           have N9:=bG xq
           have hne:b≠aV:=fun e=>by subst e;rw[xq] at hn;cases hn
           have h7':=ft h7
           have h9':=ft h9
           obtain⟨hg,hst⟩:=h.EC xq
           have hgn:(m.set b (.ob (.gr t false) (exactly pre++l)))[aV]? = some .free:=by rw[nc hne];exact hn
           obtain⟨v,w',g',o1,o2,o3,o4,o5⟩:=mU (P:=P) (ty:=ty) hg hgn hs0 hx0 hu rB hd' hi hz hs hx (xP (X:= .ob (.gr t false) (exactly pre++l)) xq fT) (by rw[nb N9]) (ft h2) (bx h3) (ft h4) (ft h5)
            (by rw[dT,bJ];exact h7') (bx h8)
           have WU:(exactly pre++l).take (len*info.size)++aJ=exactly pre++(l.take (len*info.size-pre.length)++aJ):=by
            rw[List.take_append,bJ,eh (by rw[bJ];exact h9'),List.append_assoc]
           simp only[apply,oR] at o3 o5
           rw[WU] at o3 o5
           have ZM:aV<(m.set b .dead).length:=by rw[ek];exact bG hn
           obtain⟨z1,z2⟩:=o3.Kg (b:=aV) (by rw[nb ZM])
           rw[oR] at z1 z2
           exact⟨v,w',g',o1,o2,z1,o4,(hst.trans o5).trans z2⟩
          · cases he
         ·
          rename_i len sz cells
          split at he
          · rename_i hn0
            simp only[dq,kc,dp] at he
            obtain⟨rfl,rfl,rfl,_⟩:=he
            have hn0:=bx hn0
            subst hn0
            have hvs:=hs
            cases hs with
            |os _ _ _ _ ad cap hps xF=>
            have hcap:cap=len:=by
             rcases xF with e | ⟨t,b,o,e,_⟩
             · exact e
             · cases e
            subst hcap
            have hsz:fK P elem=some info.size:=by simp[fK,hi]
            obtain⟨vx,_,_,_,x3,x4⟩:=eW (P:=P) h fT hx
            have x5:=x4 0 (dd _)
            simp only[Nat.zero_mul,List.take_zero] at x5
            refine cr.quiet h (v:= .slice ad cap cap) ?_ hvs
            cases ad with
            |none=>simp[sm,hs0,hx0,run_underlying hu,aE hsz,run_underlying rB,x3,x5,pw]
            |some ad=>simp[sm,hs0,hx0,run_underlying hu,aE hsz,run_underlying rB,x3,x5,storeCells,pw]
          rename_i hn0
          split at he
          · rename_i hu8
            simp only[dq,kc,dp] at he
            obtain⟨rfl,rfl,⟨rfl,h2,h3,h4,h5⟩,h6,Kn,R1,hb2,hb3⟩:=he
            have h1:1≤n:=by
             rcases qs n with e | e
             · subst e;cases hn0
             · exact e
            have h2:=ft h2
            have h3:=bx h3
            have h4:=ft h4
            have h5:=ft h5
            cases hs with
            |os _ _ _ _ ad cap hps xF=>
            have hcap:cap=len:=by
             rcases xF with e | ⟨t,b,o,e,_⟩
             · exact e
             · cases e
            subst hcap
            have Cf:=jh hps h6
            obtain⟨d1,d2,d3⟩:=h.jD (w':=w.drew) rfl rfl rfl rfl
            obtain⟨vs,s1,s2,Oc,s3,s4⟩:=kO (P:=P) (Cf.mono d2.pure)
            have s5:=s4 cap (dd _)
            rw[eh (by omega)] at s5
            have HC:=s1.len
            have xL:cY g w (cells.map .p) vs:=bI.dz (by simpa using HC) fun i a b=>by
             have:=s1.get i (by simpa using a) b
             rw[ed]
             exact .p _ _ (this.mono (g:=g) (w:=w.drew) fun c o p=>⟨p,(d2.pure c o p).2.symm⟩)
            obtain⟨newCap,g',w',r0,r1,r2,r3,r4⟩:=Cj (P:=P) (ty:=ty) (l:=cells.map .p) (vs:=vs) (cap:=cap) h hn hs0 hx0 hu rB hd' hi hz hx fT h2 h3 h4 h5 xL (iM Kn xL) (bx R1) hb2 hb3 s2 s5 (by omega)
            exact⟨_,w',g',.inl r0,r4,r1,r2,r3⟩
          · rename_i hu8
            simp only[dq,kc,dp] at he
            obtain⟨rfl,rfl,⟨rfl,h2,h3,h4,h5⟩,h6⟩:=he
            have h1:1≤n:=by
             rcases qs n with e | e
             · subst e;cases hn0
             · exact e
            have h2:=ft h2
            have h3:=bx h3
            have h4:=ft h4
            have h5:=ft h5
            cases hs with
            |os _ _ _ _ ad cap hps xF=>
            have hcap:cap=len:=by
             rcases xF with e | ⟨t,b,o,e,_⟩
             · exact e
             · cases e
            subst hcap
            have Cf:=jh hps h6
            obtain⟨d1,d2,d3⟩:=h.jD (w':=w.drew) rfl rfl rfl rfl
            obtain⟨vs,s1,s2,Oc,s3,s4⟩:=kO (P:=P) (Cf.mono d2.pure)
            have s5:=s4 cap (dd _)
            rw[eh (by omega)] at s5
            have HC:=s1.len
            have xL:cY g w (cells.map .p) vs:=bI.dz (by simpa using HC) fun i a b=>by
             have:=s1.get i (by simpa using a) b
             rw[ed]
             exact .p _ _ (this.mono (g:=g) (w:=w.drew) fun c o p=>⟨p,(d2.pure c o p).2.symm⟩)
            obtain⟨newCap,g',w',r0,r1,r2,r3,r4⟩:=AE (P:=P) (jw (fun i=>m.getD i .dead) info.size x) (ty:=ty) (l:=cells.map .p) (vs:=vs) (cap:=cap) h hn hs0 hx0 hu rB hd' hi hz hx fT h2 h3 h4 h5 xL Oc s2 s5 (by omega)
            exact⟨_,w',g',.inl r0,r4,r1,r2,r3⟩
         ·
          rename_i b len sz cap
          split at he
          · rename_i l hl
            cases hs with
            |ms _ _ _ _ cap c hc hcap=>
            obtain⟨cells,e,q,k2,q0,k3,q2,q3⟩:=Ch h hl hc
            have hmul:(len+n)*info.size=len*info.size+n*info.size:=pB _ _ _
            cases hr:bm (len+n) cap with
            |true=>
             have dX:=ft hr
             simp only[hr,cond_true] at he
             split at he
             · rename_i b' ok' hp
               simp only[dq,kc,dp] at he
               obtain⟨rfl,rfl,⟨rfl,h2,h3,h4,h5⟩,rfl,h6⟩:=he
               have h6:=bx h6
               subst h6
               obtain⟨vx0,x0,x2',_⟩:=eW (P:=P) h fT hx
               have adn:=x0.len
               have hroom:len*info.size+aJ.length≤l.length:=by
                rcases jG hp with⟨l',rq,_,hroom⟩ | ⟨t0,pq,l',rq,_,hroom⟩ | ⟨t0,pre,l',rq,_,_,hroom⟩
                rotate_left 2
                · have rq:m.getD b .dead = .ob (.stk t0 pre) l':=rq
                  rw[rq] at hl;cases hl
                · have:l'=l:=by
                   generalize m.getD b .dead=B at hl rq
                   cases B<;>simp_all [jr,aN.cells?]
                  rw[←this];exact hroom
                · have rq:m.getD b .dead = .ob (.gr t0 pq) l':=rq
                  have:l'=l:=by
                   have hl:jr (m.getD b .dead)=some l:=hl
                   rw[rq] at hl;simpa[jr] using hl
                  rw[←this];rw[uP] at hroom;exact hroom
               have R2:(len+n)*info.size≤cells.size:=by omega
               obtain⟨w',cs',vx,r0,x1,x2,xO,p3,p2,p4,p5,p6,p7,p8⟩:=run_append_room (P:=P) (ty:=ty) h hs0 hx0 hu rB hd' hi hx fT k2 q0 R2 dX
               have JC:=x1.len
               have hxa:cY g w aJ vx:=x1
               rcases jG hp with⟨l',rq,Oe,EF⟩ | ⟨t0,pq,l',rq,rfl,EF⟩ | ⟨t0,pre,l',rq,rfl,_,EF⟩
               rotate_left 2
               · have rq:m.getD b .dead = .ob (.stk t0 pre) l':=rq
                 rw[rq] at hl;cases hl
               · have hm:m[b]? = some (m.getD b .dead):=getD_some rfl (fun e=>by
                  have rq:(m.getD b .dead).cells?=some l':=rq
                  rw[e] at rq;cases rq)
                 obtain⟨c',cs0,e0,q0',y1,y2,y3,y4,y5⟩:=h.cells b _ l' hm rq
                 rw[hc] at y1;cases y1
                 rw[k2] at y2;cases y2
                 obtain⟨r1,r2,r3⟩:=h.write (b':=b') hm rq hc Oe p4 p5 p6 p7 p8 p2 y3 (by rw[p3];exact⟨y4.1.dy _ hxa,jE _ _ _ y4.2 xO⟩)
                 exact⟨_,w',g,.inl r0,.ms b 0 _ _ cap c hc dX,r1,r2,r3⟩
               · have hm:m[b]? = some (.ob (.gr t0 pq) l'):=getD_some rq (by simp)
                 obtain⟨r1,r2,r3⟩:=h.uQ hm hc k2 (uO hxa) xO EF p3 p4 p5 p6 p7 p8 p2
                 exact⟨_,w',g,.inl r0,.ms b 0 _ _ cap c hc dX,r1,r2,r3⟩
             · cases he
            |false=>
             have dX : ¬len+n≤cap:=fun k=>by rw[qf k] at hr;cases hr
             simp only[hr,cond_false,dq,kc,dp] at he
             obtain⟨rfl,rfl,⟨rfl,h2,h3,h4,h5⟩,h6,h7⟩:=he
             have h2:=ft h2
             have h3:=bx h3
             have h4:=ft h4
             have h5:=ft h5
             have h6:=bx h6
             have h7:=ft h7
             subst h6
             have jH:=mT (P:=P) (w:=w.drew) (c:=c) (len:=len) (cap:=cap) (sz:=info.size) k2 (by omega)
             obtain⟨newCap,g',w',r0,r1,r2,r3,r4⟩:=AE (P:=P) (WG (m.getD b .dead)&&jw (fun i=>m.getD i .dead) info.size x) (ty:=ty) (l:=l.take (len*info.size)) (vs:=cells.toList.take (len*info.size)) h hn hs0 hx0 hu rB hd' hi hz hx fT h2 h3 h4 h5
              (by have:=k3.take (len*info.size);rwa [oT,pA h7] at this)
              (fun v hv=>q3 v (dv hv)) (by rw[eQ,ib];omega) jH dX
             exact⟨_,w',g',.inl r0,r4,r1,r2,r3⟩
          · cases he
         · cases he
       · cases he
     · cases he
   · cases he
 · cases he
theorem sE {s:AV} {cs:Value} (h:VA g w s cs):VA g w (mG s) cs:=by
 unfold mG
 split
 · rw[VA.pv] at h
   cases h with
   |ps _ _ _ b o cap f hl hc hz hp hv=>omega
   |oK sz a cap hz=>
    obtain⟨rfl,rfl⟩:=hz.resolve_left (by omega)
    exact .os none 0 0 [] none 0 (.oK 0 none 0 (.inr ⟨rfl,rfl⟩)) (.inl rfl)
 · exact h
end
end Go.Am
end
section
namespace Go.Am
open Go.RowKit
section
variable {P:Program} {g:Gh} {m:Mem} {w:World}
theorem Ck {x:AV} {cx:Value} {b:Bool} (hx:VA g w x cx) (h:FT x=some b) : ∃a len cap,cx = .slice a len cap∧a.isNone=b:=by
 have key : ∀{len sz:Nat} {cs:List PV} {cx:Value},VP g w (.ps len sz cs) cx→cond (bm 1 len) (some false) (cond (Nat.beq sz 0) (some true) none)=some b → ∃a len cap,cx = .slice a len cap∧a.isNone=b:=by
  intro len sz cs cx hx h
  cases hl:bm 1 len with
  |true=>
   simp only[hl,cond_true,dq] at h
   subst h
   have hl:=ft hl
   cases hx with
   |ps _ _ _ b o cap f hl hc hz hp hv=>exact⟨_,_,_,rfl,rfl⟩
   |oK sz a cap hz=>omega
  |false=>
   simp only[hl,cond_false] at h
   cases hs:Nat.beq sz 0 with
   |false=>simp[hs] at h
   |true=>
    simp only[hs,cond_true,dq] at h
    subst h
    have hs:=bx hs
    subst hs
    cases hx with
    |ps _ _ _ b o cap f hl hc hz hp hv=>omega
    |oK sz a cap hz=>
     obtain⟨rfl,_⟩:=hz.resolve_left (by omega)
     exact⟨_,_,_,rfl,rfl⟩
 unfold FT at h
 split at h
 · rw[VA.pv] at hx;exact key hx h
 · cases hx with
   |os _ _ _ _ a cap hx hr=>exact key hx h
 · cases hx with
   |ms _ _ _ _ cap c hc hcap=>
    simp only[dq] at h
    exact⟨_,_,_,rfl,h⟩
   |mg _ _ _ _ cap c hc hcap=>
    simp only[dq] at h
    exact⟨_,_,_,rfl,h⟩
 · cases h
set_option linter.unusedVariables false in
theorem tF {ρ:Operand→AV} {cz:Operand→Value} (hr : ∀x,VA g w (ρ x) (cz x)) {o:Oper} {op:BinOp} {t yt:TypeId} {x y:Operand} (ho:o.op = .binOp op t x y yt) (hsame:Ah (ρ x) (ρ y)=true)
  {a:AV} {us:nF} {ok:Bool} (he:nJ P op t=some (a,us,ok)):us=[] ∧ ∃v,(execOp cz o).run P w = .ok (.value v) w∧VA g w a v:=by
 unfold nJ at he
 cases he
set_option linter.unusedVariables false in
theorem p9 {x a:AV} {cx:Value} (hx:VA g w x cx) {us:nF} {ts:Array TypeId} {ty:TypeId} (he:mI x=some (a,us,true)) :
  us=[] ∧ ∃v,(Builtin.unsafeSliceData_ ts ty #[cx]).run P w = .ok v w∧VA g w a v:=by
 unfold mI at he
 cases he
set_option linter.unusedVariables false in
theorem mW (h:Rel g m w) {x n a:AV} {cx cn:Value} (hx:VA g w x cx) (hn:VA g w n cn) {us:nF} {ts:Array TypeId} {ty:TypeId} (he:eD P (fun i=>m.getD i .dead) ts.toList x n=some (a,us,true)) :
  cr g m w (((do pure (.value (←Builtin.unsafeString_ ts ty #[cx,cn])):Sem Next)).run P w) a (apply m us):=by
 unfold eD at he
 cases he
end
end Go.Am
end
