import Derived.Test.YtddfgnmjecogdaaDoorMB
import Derived.IntWalk
import Derived.Lib.Builder
import Derived.DeepKeys3
import Derived.MapKept
import Derived.Lib.UnsafeStr
open Array renaming length_toList→jb,getElem?_modify→oe,getElem?_eq_getElem→ja,size_append→oi,getElem?_toList→ov,range→kc,getElem?_push→jn,toList_map→kb,getD→oR
open List renaming take_of_length_le→fe,getElem?_set_self→oT,getElem?_cons_zero→o0,getElem?_cons_succ→o6,length_append→ei,getD_eq_getElem?_getD→dt,length_take→fl,length_cons→pa,mem_of_getElem?→pb,getElem?_toArray→pf,getElem?_set_ne→ph,mem_of_mem_take→ed,getElem?_take→dT,length_map→pj,getElem_map→eQ,mem_cons→pk,mem_append→pn,set_set→po,take_take→pr,take_append_of_le_length→pw,replicate→dq,getElem?_append_left→px,getElem?_eq_getElem→dp,all_cons→py,map_cons→pA,length_eq_zero_iff→pB,length_set→fh,length→pC,getElem?_drop→eh,size_toArray→pD,append_assoc→qf,mem_map→gg,take_length→qs,map_append→ra,take_set→rb,map_take→re,set_comm→rf
open Go.Sem renaming run_bind→la,run_pure→lh
open Bool renaming and_eq_true→dv,false_eq_true→rh,or_eq_false_iff→ri,not_false→rk,or_eq_true→kx,false_or→rl
open Go.Result renaming andThen_ok→lj,andThen→rn
open Nat renaming le_of_ble_eq_true→gv,eq_of_beq_eq_true→bm,le_refl→df,mul_le_mul_right→ie,min_eq_left→rp,add_mul→rr,add_zero→rv,min→dk,zero_add→sa,ble_eq_true_of_le→sb,eq_zero_or_pos→sd,mul_eq_zero→se,min_le_left→sf,mod_lt→sg,ble→bj,beq→be,le_of_eq→si,sub_mul→im,beq_eq→ic
open Option.some renaming injEq→dC
open Prod.mk renaming injEq→kz
open Go.Instr renaming lookup→sl,mapUpdate→sm,findNow→ss,makeSlice→sR,typeAssert→sT,buildSlice→s0,checkKey→ta,sameBits→tc,storeAt→tf,sureAddr→ma,sameNow→tl,keyThatStays→tp,alloc→tz
open Option renaming map_eq_some_iff→kd,map_some→kl
open Go.World renaming alloc_eq→ua,size_drew→ub,shape?→ui,drew_eq→uv,freeze→vb
open Go.IntKind renaming i64→vj
open Int renaming toNat_of_nonneg→vt,natCast_mul→vz,ofNat_le→wc
open Go.Question renaming appendCap→wy,forced→xc
open Go.Builtin renaming zeroCells→xf,append_→xi,firstCells→nc,lenOf→nd,nextslicecap→xo,copy_→xv
open Go.Value renaming int→yb
open UInt8 renaming ofNat→ye
open ByteArray renaming emptyWithCapacity→yi,empty→yn
open Go.MapKept renaming run_getObj_map→yo,run_findKey→yr,run_setObj_map→yv,run_checkKey→zd,IsKey→zr,heap_set→zt,bytes_beq→Fs
open Go.Op renaming equalIn→Ha,equal→Hb
section
namespace Go.Am
open Go.RowKit
theorem heap_setCell {w:World} {c o:Nat} {v:Value} {cs:Array Value} {e:TypeId} {n:Nat×Nat} (h:w.heap[c]? = some (.cells cs e n)) :
  (w.setCell ⟨c,o,none⟩ v).heap[c]? = some (.cells (cs.setIfInBounds o v) e n) ∧ ∀k,k≠c→(w.setCell ⟨c,o,none⟩ v).heap[k]? = w.heap[k]? :=by
 refine⟨?_,fun k hk=>Below.heap_setCell _ _ _ _ hk⟩
 simp[World.setCell,oe,h]
section ops
variable {P:Program} {g:Gh} {m:Mem} {w:World}
theorem gy (c off:Nat) : ∀(vs:List Value) (i:Nat) (w:World) (cs:Array Value) (e:TypeId) (n:Nat×Nat),w.heap[c]? = some (.cells cs e n) →
  (∀j,j<vs.length→n.2≤n.1∨off+i+j<n.1)→off+i+vs.length≤cs.size→(∀v∈vs,v.oneCell'=true) →
  ∃w' cs',(storeCells ⟨c,off,none⟩ vs i).run P w = .ok () w'∧w'.heap[c]? = some (.cells cs' e n)∧cs'.toList=bM cs.toList (off+i) vs∧(∀k,k≠c→w'.heap[k]? = w.heap[k]?) ∧
   w'.heap.size=w.heap.size∧w'.os=w.os∧w'.tape=w.tape∧w'.output=w.output
 |[],i,w,cs,e,n,h,_,_,_=>⟨w,cs,rfl,h,rfl,fun _ _=>rfl,rfl,rfl,rfl,rfl⟩
 |v::vs,i,w,cs,e,n,h,hf,hl,h1=>by
  simp only[pa] at hl
  obtain⟨k1,k2⟩:=heap_setCell (o:=off+i) (v:=v) h
  have hcell:w.cell? ⟨c,off+i,none⟩=some cs[off+i]:=by rw[aM h,ja (by omega)]
  have hfz:w.frozen? ⟨c,off+i,none⟩=false:=by
   have:=hf 0 (by simp)
   simp only[World.frozen?,h,Bool.and_eq_false_iff,decide_eq_false_iff_not]
   omega
  obtain⟨w',cs',q1,q2,q3,q4,q5,q6,q7,q8⟩:=gy c off vs (i+1) (w.setCell ⟨c,off+i,none⟩ v) (cs.setIfInBounds (off+i) v) e n k1
   (fun j hj=>by have:=hf (j+1) (by simp;omega);omega) (by simp;omega) (fun u hu=>h1 u (.tail _ hu))
  refine⟨w',cs',?_,q2,?_,fun k hk=>(q4 k hk).trans (k2 k hk),q5.trans (by simp),q6,q7,q8⟩
  · simp only[storeCells,la,cB,run_store P w _ v _ (h1 v (.head _)),hcell,hfz,rh,if_false,lj,q1]
  · rw[q3];simp[bM,Nat.add_assoc]
theorem vE {α:Type} (f:Nat→α) (n:Nat) (h:n=0):((kc n).map f).toList=[]:=by subst h;simp
theorem gG {α:Type} : ∀(n l:List α) (o:Nat),(bM l o n).length=l.length
 |[],_,_=>rfl
 |x::n,l,o=>by simp[bM,gG n]
theorem Bz {α β:Type} (f:α→β) : ∀(n l:List α) (o:Nat),(bM l o n).map f=bM (l.map f) o (n.map f)
 |[],_,_=>rfl
 |x::n,l,o=>by simp[bM,Bz f n,List.map_set]
theorem vG {α:Type} : ∀(n l:List α) (o k:Nat),k<o∨o+n.length≤k→(bM l o n)[k]? = l[k]?
 |[],_,_,_,_=>rfl
 |x::n,l,o,k,h=>by
  simp only[pa] at h
  rw[bM,vG n _ (o+1) k (by omega),ph (by omega)]
theorem BA {α:Type} : ∀(n l:List α) (o k:Nat) (_:k<n.length),o+n.length≤l.length→(bM l o n)[o+k]? = n[k]?
 |x::n,l,o,0,_,h=>by
  simp only[pa] at h
  simp only[bM,rv]
  rw[vG n _ (o+1) o (.inl (Nat.lt_succ_self _)),oT (by omega)]
  rfl
 |x::n,l,o,k+1,hk,h=>by
  simp only[pa] at h
  have hk:k<n.length:=by simpa using hk
  simp only[bM,show o+(k+1)=o+1+k by omega]
  rw[BA n _ (o+1) k hk (by rw[fh];omega)]
  simp
 |[],_,_,_,hk,_=>by simp at hk
theorem BB {g:Gh} {w:World} {v:AV} {cv:Value} (h:VA g w v cv):VA g w (Bi v) cv:=by
 unfold Bi
 split
 · cases h with
   |os tok len sz cells a cap h hr=>exact .p _ _ h
 · exact h
theorem nj {g:Gh} {w:World} : ∀{l:List AV} {cs:List Value},bN g w l cs→bN g w (l.map Bi) cs
 |[],[],_=>trivial
 |_::_,_::_,h=>⟨BB h.1,nj h.2⟩
 |[],_::_,h=>h.elim
 |_::_,[],h=>h.elim
theorem vH {g:Gh} {w:World} {q:Bool} {l:List AV} {cs:List Value} (h:bN g w l cs):bN g w (Gc q l) cs:=by
 cases q with
 |true=>exact nj h
 |false=>exact h
theorem vI (q:Bool) (l:List AV):(Gc q l).length=l.length:=by
 cases q with
 |true=>exact pj ..
 |false=>rfl
theorem jN {b b':aH} {off:Nat} {vs:List AV} (h:qk b off vs=some (b',true)):(∃l,b.cells?=some l∧b'.cells?=some (bM l off vs)∧off+vs.length≤l.length) ∨
  (∃t q l,b = .ob (.gr t q) l∧b' = .ob (.gr t q) (bM l off (Gc q vs))∧off+(Gc q vs).length≤l.length) ∨
  ∃t pre l,b = .ob (.stk t pre) l∧b' = .ob (.stk t pre) (bM l (off-pre.length) vs)∧pre.length≤off∧off-pre.length+vs.length≤l.length:=by
 unfold qk at h
 split at h
 · rename_i l
   split at h
   · rename_i bV hp
     simp only[dC,kz] at h
     obtain⟨rfl,h1⟩:=h
     refine .inl ⟨l.map .p,rfl,?_,by simpa using gv h1⟩
     simp[aH.cells?,Bz,qv hp]
   · simp only[dC,kz] at h
     obtain⟨rfl,h1⟩:=h
     exact .inl ⟨l.map .p,rfl,rfl,by simpa using gv h1⟩
 · rename_i l
   simp only[dC,kz] at h
   obtain⟨rfl,h1⟩:=h
   exact .inl ⟨l,rfl,rfl,gv h1⟩
 · rename_i t pq l
   simp only[dC,kz] at h
   obtain⟨rfl,h1⟩:=h
   exact .inr (.inl ⟨_,_,l,rfl,rfl,by rw[vI];exact gv h1⟩)
 · rename_i t pre l
   simp only[dC,kz,dv] at h
   obtain⟨rfl,h1,h2⟩:=h
   exact .inr (.inr ⟨_,_,l,rfl,rfl,gv h1,gv h2⟩)
 · cases h
theorem kJ {α:Type} : ∀(n pre l:List α) (o:Nat),pre.length≤o→bM (pre++l) o n=pre++bM l (o-pre.length) n
 |[],_,_,_,_=>rfl
 |v::n,pre,l,o,h=>by
  simp only[bM]
  rw[List.set_append_right _ _ h,kJ n pre _ (o+1) (by omega)]
  congr 2
  omega
theorem yS {α:Type} : ∀(n l:List α) (o k:Nat),o+n.length≤k→(bM l o n).take k=bM (l.take k) o n
 |[],_,_,_,_=>rfl
 |v::n,l,o,k,h=>by
  simp only[pa] at h
  simp only[bM]
  rw[yS n (l.set o v) (o+1) k (by omega),rb]
theorem Rel.vJ {m:Mem} {w w':World} (h:Rel g m w) {b c:Nat} {k xs:List AV} {us:List Value} {off:Nat} {cs cs':Array Value} {e t:TypeId} {pq:Bool} {n:Nat×Nat} (hb:m[b]? = some (.ob (.gr t pq) k)) (hc:g.aP b=some c) (hcs:w.heap[c]? = some (.cells cs e n))
  (hx:bN g w xs us) (hone : ∀v∈us,v.oneCell'=true) (hroom:off+xs.length≤k.length) (hl:cs'.toList=bM cs.toList off us)
  (hw : ∀j,j≠c→w'.heap[j]? = w.heap[j]?) (hs:w'.heap.size=w.heap.size) (ho:w'.os=w.os) (ht:w'.tape=w.tape) (hu:w'.output=w.output) (hh:w'.heap[c]? = some (.cells cs' e n)) :
  Rel g (m.set b (.ob (.gr t pq) (bM k off xs))) w'∧Ext g w g w'∧cr g m w g (m.set b (.ob (.gr t pq) (bM k off xs))) w':=by
 obtain⟨c',ob,vs,h1,h2,h3,h4,h5,h6⟩:=h.obs b _ _ hb
 rw[hc] at h1;cases h1
 obtain⟨cs0,e0,n0,rfl,qt,q0,q1,q2,q3⟩:=h4
 rw[hcs] at h2;cases h2
 have BC:=h3.len
 have hxl:=hx.len
 have hsz:cs'.size=cs.size:=by
  have:=congrArg pC hl
  rw[gG] at this;simpa using this
 have hvl:(bM vs off us).length=vs.length:=gG _ _ _
 refine h.eX (xQ:= .gr t pq) (l':=bM k off xs) (vs':=bM vs off us) hb hc hw hs ho ht hu hh ⟨cs',e,n,rfl,qt,q0,?_,by omega,fun v hv=> ?_⟩ (h3.bM off hx) (by show cs'.size=g.hi b;rw[hsz];exact h6)
 · rw[hvl,hl,yS us cs.toList off vs.length (by omega),←q1]
 · rw[hl] at hv
   exact iS _ _ _ q3 hone v hv
theorem xX (h:Rel g m w) {t:TypeId} {a v r:AV} {ca cv:Value} {us:mW} (ha:VA g w a ca) (hv:VA g w v cv) (he:ql P (fun i=>m.getD i .dead) t a v=some (r,us,true)) :
  ∃w',(tf t ca cv).run P w = .ok () w'∧r = .bk []∧Rel g (apply m us) w'∧Ext g w g w'∧cr g m w g (apply m us) w':=by
 unfold ql at he
 split at he
 · rename_i b off n hsz
   split at he
   · rename_i b' ok hp
     simp only[dC,kz,dv,ic] at he
     obtain⟨rfl,rfl,⟨rfl,h1⟩,h2⟩:=he
     obtain⟨k1,k2⟩:=kT h1 hv
     cases ha with
     |mp _ _ c hc=>
     have hsize:cv.cells.size=n:=by have BC:=k1.len;simp at BC;omega
     rcases jN hp with⟨l,hl,hl',hroom⟩ | ⟨t0,pq,l,hl,rfl,hroom⟩ | ⟨t0,pre,l,hl,rfl,hpre,hroom⟩
     case inr.inr=>
      have hm:m[b]? = some (.ob (.stk t0 pre) l):=getD_some hl (by simp)
      obtain⟨hg,hs0⟩:=h.CZ hm
      have Jv:=aV hm
      have NK:(m.set b (.ob (.gr t0 false) (exactly pre++l)))[b]? = some (.ob (.gr t0 false) (exactly pre++l)):=by rw[oT Jv]
      obtain⟨c',ob,vs,h1',h2',h3',h4',S5,S6⟩:=hg.obs b _ _ NK
      rw[hc] at h1';cases h1'
      obtain⟨cs,e,q,rfl,_,q0,q1,q2,q3⟩:=h4'
      have hlen:=h3'.len
      have BC:=k1.len
      rw[ei,br] at hlen
      simp at BC
      obtain⟨w',cs',p1,p2,p3,p4,p5,p6,p7,p8⟩:=gy (P:=P) c off cv.cells.toList 0 w cs e q h2' (fun _ _=> .inl q0) (by simp;omega) k2
      simp only[rv] at p3
      obtain⟨r1,r2,r3⟩:=hg.vJ NK hc h2' k1 k2 (by rw[ei,br];omega) p3 p4 p5 p6 p7 p8 p2
      rw[kJ _ _ _ _ (by rw[br];exact hpre),br,po] at r1 r3
      obtain⟨z1,z2⟩:=r1.C0 (b:=b) (by rw[oT Jv])
      rw[po] at z1 z2
      exact⟨w',by simp[tf,ma,storeVar,aD hsz,hsize,p1],rfl,z1,r2,(hs0.trans r3).trans z2⟩
     case inr.inl=>
      have hm:m[b]? = some (.ob (.gr t0 pq) l):=getD_some hl (by simp)
      obtain⟨c',ob,vs,h1',h2',h3',h4',S5,S6⟩:=h.obs b _ _ hm
      rw[hc] at h1';cases h1'
      obtain⟨cs,e,q,rfl,_,q0,q1,q2,q3⟩:=h4'
      have hlen:=h3'.len
      have BC:=k1.len
      have LM:=hroom
      rw[vI] at LM
      simp at BC
      obtain⟨w',cs',p1,p2,p3,p4,p5,p6,p7,p8⟩:=gy (P:=P) c off cv.cells.toList 0 w cs e q h2' (fun _ _=> .inl q0) (by simp;omega) k2
      simp only[rv] at p3
      obtain⟨r1,r2,r3⟩:=h.vJ hm hc h2' (vH k1) k2 hroom p3 p4 p5 p6 p7 p8 p2
      exact⟨w',by simp[tf,ma,storeVar,aD hsz,hsize,p1],rfl,r1,r2,r3⟩
     have hm:m[b]? = some (m.getD b .dead):=getD_some rfl (fun e=>by
      have hl:(m.getD b .dead).cells?=some l:=hl
      rw[e] at hl;cases hl)
     obtain⟨c',cs,e,q,q1,q2,q3,q4,q5⟩:=h.cells b _ l hm hl
     rw[hc] at q1;cases q1
     have hlen:=q4.1.len
     have BC:=k1.len
     simp at hlen BC
     obtain⟨w',cs',p1,p2,p3,p4,p5,p6,p7,p8⟩:=gy (P:=P) c off cv.cells.toList 0 w cs e q q2 (fun _ _=> .inl q3) (by simp;omega) k2
     simp only[rv] at p3
     obtain⟨r1,r2,r3⟩:=h.write (b':=b') hm hl hc hl' p4 p5 p6 p7 p8 p2 q3 (by rw[p3];exact⟨q4.1.bM off k1,iS _ _ _ q4.2 k2⟩)
     refine⟨w',?_,rfl,r1,r2,r3⟩
     simp[tf,ma,storeVar,aD hsz,hsize,p1]
   · cases he
 · cases he
theorem xY (h:Rel g m w) {aO:Nat} (hn:m[aO]? = some .free) {t:TypeId} {a:AV} {us:mW} {ok:Bool} (he:zQ P aO t=some (a,us,ok)) {ty:TypeId} {pos:String} {o:Oper} {bF:Operand→Value} (ho:o.op = .alloc t) (_:ty=ty) (_:pos=pos) :
  bR g m w ((execOp bF o).run P w) a (apply m us):=by
 unfold zQ at he
 simp only[kd,kz] at he
 obtain⟨l,hz,rfl,rfl,rfl⟩:=he
 obtain⟨z,D5,C1⟩:=cj (g:=g) (w:=w) hz
 refine bR.alloc h hn (m9 l) C1 (e:=t) (v:= .pointer (some ⟨w.heap.size,0,none⟩)) ?_ fun g' hg=> .mp aO 0 _ hg
 simp[execOp,ho,tz,D5,newVar,newRow]
theorem vK (h:Rel g m w) {aO:Nat} (hn:m[aO]? = some .free) {t:TypeId} {a:AV} {us:mW} {ok:Bool} (he:va P aO t=some (a,us,ok)) {o:Oper} {bF:Operand→Value} (ho:o.op = .alloc t) :
  bR g m w ((execOp bF o).run P w) a (apply m us):=by
 unfold va at he
 simp only[kd,kz] at he
 obtain⟨l,hz,rfl,rfl,rfl⟩:=he
 obtain⟨z,D5,C1⟩:=cj (g:=g) (w:=w) hz
 have hlen:=C1.1.len
 obtain⟨r1,r2,r3⟩:=h.qx z.cells.size (ob:= .gr t false) (l:=l) (vs:=z.cells.toList) hn C1.1 (dX w (.cells z.cells t)) ⟨z.cells,t,(0,0),rfl,rfl,df _,(fe (df _)).symm,by simp,C1.2⟩ rfl
 refine⟨.pointer (some ⟨w.heap.size,0,none⟩),_,_,.inl ?_,.mp aO 0 _ (by simp[Gh.put]),r1,r2,r3⟩
 simp[execOp,ho,tz,D5,newVar,newRow]
theorem BD (h:Rel g m w) {aO:Nat} (hn:m[aO]? = some .free) {v a:AV} {cv:Value} {us:mW} (hv:VA g w v cv) (he:Gd aO v=some (a,us,true)) {t:TypeId} {r:Result Next} (hr:r = .ok (.value (.pointer (some ⟨w.heap.size,0,none⟩))) (w.alloc (.cells cv.cells t))) :
  bR g m w r a (apply m us):=by
 unfold Gd at he
 simp only[dC,kz] at he
 obtain⟨rfl,rfl,h1⟩:=he
 exact bR.alloc h hn (m9 _) (kT h1 hv) (e:=t) hr fun g' hg=> .mp aO 0 _ hg
theorem bR.yT (h:Rel g m w) {len size:Nat} {bV:List PV} {cs:Array Value} {e:TypeId} (hv:rI g w bV cs.toList) (ho : ∀v∈cs.toList,v.oneCell'=true) (hl:cs.size=len*size) (D5:1≤size) {r:Result Next}
  (hr:r = .ok (.value (.slice (some ⟨w.heap.size,0,none⟩) len len)) (w.alloc (.cells cs e))):bR g m w r (.os none len size bV) m:=by
 obtain⟨h1,h2,h3⟩:=h.kr (dX w (.cells cs e))
 have Fa:=hv.len
 simp at Fa
 refine⟨_,_,_,.inl hr,.os none len size bV _ len ?_ (.inl rfl),h1,h2,h3⟩
 refine .ps len size bV w.heap.size 0 len (fun k=>cs.getD k undef) (by omega) (df _) D5 (fun k hk=> ?_) fun k hk=> ?_
 · have:k<cs.size:=by omega
   refine⟨.inr ⟨rfl,by omega,by omega⟩,?_,by simpa[oR,this] using ho cs[k] (by simp)⟩
   rw[aM (dX w (.cells cs e)).new]
   simp[oR,this]
 · have:k<cs.size:=by omega
   have hk2:=hv.get k hk (by simpa using this)
   simp only[oR,this,dite_true]
   exact hk2.mono h2.pure
theorem tK {elem:TypeId} {wr:Bool} {cells:List AV} {bV:List PV} (h:CR P elem wr cells=some bV):jk cells=some bV:=by
 unfold CR at h
 split at h
 · cases h
 · exact h
theorem pJ (h:Rel g m w) {aO:Nat} (hn:m[aO]? = some .free) {wr:Bool} {t:TypeId} {len:Nat} {parts:List (Nat×AV)} {jM:Array (Nat×Value)} {a:AV} {us:mW}
  (he:lV P wr aO t len parts=some (a,us,true)) (hp:aW (fun a b=>a.1=b.1∧VA g w a.2 b.2) parts jM.toList) :
  bR g m w (((do pure (.value (←s0 t len jM)):Sem Next)).run P w) a (apply m us):=by
 unfold lV at he
 split at he
 · rename_i elem hu
   split at he
   · rename_i size z hsz hz
     split at he
     · rename_i cells ok hf
       obtain⟨size',z0,e1,e2,e3,e4,rfl⟩:=GG hz
       rw[hsz] at e1;cases e1
       obtain⟨zv,z1,z2⟩:=cj (g:=g) (w:=w) e2
       have hzl:=z2.1.len
       simp at hzl
       have hzs:zv.cells.size=size:=by omega
       have key : ∀(b:Bool),ok=true→bj (len*size) 16777216=true →
        ∃Ai,(s0 t len jM).run P w = .ok (.slice (some ⟨w.heap.size,0,none⟩) len len) (w.alloc (.cells Ai elem))∧Bs g w cells Ai.toList∧Ai.size=len*size:=by
        intro _ hok hle
        subst hok
        have hle:=gv hle
        have BE:Bs g w (cg z0 len) ((kc (len*size)).map ((if len*size=0 then #[] else zv.cells)[· % (if len*size=0 then #[] else zv.cells).size]!)).toList:=by
         by_cases e:len*size=0
         · have:len=0:=by rcases se.1 e with k | k<;>omega
           rw[vE _ _ e,this];exact⟨trivial,fun _ h=>by cases h⟩
         · simp only[e,if_false]
           have h1:=rV z2.1 len
           have h2:=Aj z2.2 len
           rw[hzs] at h1 h2 ⊢;exact⟨h1,h2⟩
        obtain⟨Ai,f1,f2,f3⟩:=kI hp BE hf
        refine⟨Ai,?_,f2,by rw[f3];simp⟩
        have hnot : ¬(len*size>2 ^ 24):=by omega
        clear BE f2 f3
        by_cases e:len*size=0
        · simp only[e,if_true] at f1 hnot
          simp only[s0,la,run_underlying hu,lj,aD hsz,hnot,if_false,e,if_true,f1,newRow,run_newObj,ua,lh]
        · simp only[e,if_false] at f1
          simp only[s0,la,run_underlying hu,lj,aD hsz,hnot,if_false,e,z1,f1,newRow,run_newObj,ua,lh]
       split at he
       · rename_i bV BF
         simp only[dC,kz,dv] at he
         obtain⟨rfl,rfl,hok,hle⟩:=he
         obtain⟨Ai,k1,k2,k3⟩:=key true hok hle
         exact bR.yT (e:=elem) h (cU (tK BF) k2.1) k2.2 k3 (by omega) (by simp[k1])
       · rename_i bV BF
         simp only[dC,kz,dv] at he
         obtain⟨rfl,rfl,hok,hle⟩:=he
         obtain⟨Ai,k1,k2,k3⟩:=key true hok hle
         have Sr:=cU (tK BF) k2.1
         have xZ:bN g w (bV.map .p) Ai.toList:=aW.cS (by simpa using Sr.len) fun i a b=>by
          have:=Sr.get i (by simpa using a) b
          rw[eQ];exact .p _ _ this
         obtain⟨r1,r2,r3⟩:=h.qx Ai.size (ob:= .gr elem true) (l:=bV.map .p) (vs:=Ai.toList) hn xZ (dX w (.cells Ai elem)) ⟨Ai,elem,(0,0),rfl,rfl,df _,(fe (df _)).symm,by simp,k2.2⟩ rfl
         exact⟨_,_,_,.inl (by simp[k1]),.mg aO 0 len size len w.heap.size (by simp[Gh.put]) (df _) (by simp[Gh.put];omega),r1,r2,r3⟩
       · simp only[dC,kz,dv] at he
         obtain⟨rfl,rfl,hok,hle⟩:=he
         obtain⟨Ai,k1,k2,k3⟩:=key true hok hle
         exact bR.alloc h hn (m9 _) k2 (e:=elem) (v:= .slice (some ⟨w.heap.size,0,none⟩) len len) (by simp[k1]) fun g' hg=> .ms aO 0 len size len _ hg (df _)
     · cases he
   · cases he
 · cases he
theorem rW {n:Int} (h0:0≤n) (h1:n≤9223372036854775807):vj.wrap n=n:=IntWalk.i64_in n ⟨by omega,h1⟩
theorem qE (h:Rel g m w) {aO:Nat} (hn:m[aO]? = some .free) {t:TypeId} {len cap a:AV} {cl cc:Value} {us:mW}
  (hl:VA g w len cl) (hc:VA g w cap cc) (he:mX P aO t len cap=some (a,us,true)) :
  bR g m w (((do pure (.value (←sR t cl cc)):Sem Next)).run P w) a (apply m us):=by
 unfold mX at he
 split at he
 · rename_i elem k l k' c hu
   rw[VA.pv] at hl hc
   cases hl;cases hc
   split at he
   · rename_i info aP hi hb
     simp only[dC,kz,dv,decide_eq_true_eq] at he
     obtain⟨rfl,rfl,⟨⟨h0,h1⟩,h2⟩,h3⟩:=he
     have h2:=gv h2
     have h3:=gv h3
     unfold b7 at h2 h3
     obtain⟨size,z,e1,e2,e3,e4,e5⟩:=GH hb
     have hsize:size=info.size:=by simp[fj,hi] at e1;exact e1.symm
     obtain⟨zv,z1,z2⟩:=cj (g:=g) (w:=w) e2
     have hzl:=z2.1.len
     simp at hzl
     have hzs:zv.cells.size=size:=by omega
     have hw1:vj.wrap l=l:=rW h0 (by omega)
     have F5:vj.wrap c=c:=rW (by omega) (by omega)
     have QB:(c.toNat:Int)=c:=vt (by omega)
     have C2:(info.bytes:Int)*c≤70368744177664:=by
      have:((info.bytes*c.toNat:Nat):Int)≤70368744177664:=wc.2 h3
      rwa [vz,QB] at this
     have BE:Bs g w (cg z c.toNat) ((kc (c.toNat*size)).map ((if c.toNat*size=0 then #[] else zv.cells)[· % (if c.toNat*size=0 then #[] else zv.cells).size]!)).toList:=by
      by_cases e:c.toNat*size=0
      · have:c.toNat=0:=by rcases se.1 e with k | k<;>omega
        rw[vE _ _ e,this];exact⟨trivial,fun _ h=>by cases h⟩
      · simp only[e,if_false]
        have h1:=rV z2.1 c.toNat
        have h2:=Aj z2.2 c.toNat
        rw[hzs] at h1 h2 ⊢;exact⟨h1,h2⟩
     have hsz:fj P elem=some size:=e1
     refine bR.alloc h hn e5 BE (e:=elem) (v:= .slice (some ⟨w.heap.size,0,none⟩) l.toNat c.toNat) ?_ fun g' hg=>hsize ▸ .ms aO 0 l.toNat size c.toNat _ hg (by omega)
     have t1:(decide (c<0)||decide ((info.bytes:Int)*c>2 ^ 48))=false:=by simp only[ri,decide_eq_false_iff_not];omega
     have t2:((decide (c<0)||decide ((info.bytes:Int)*c>2 ^ 48))||decide (l<0)||decide (l>c))=false:=by rw[t1,rl,ri,decide_eq_false_iff_not,decide_eq_false_iff_not];exact⟨by omega,by omega⟩
     by_cases e:c.toNat*size=0
     · simp only[sR,la,run_underlying hu,lj,asInt,asIntOf,lh,eO hi,hw1,F5,t2,rh,if_false,run_askRoom,aD hsz,e,if_true,newRow,run_newObj,ua]
     · simp only[sR,la,run_underlying hu,lj,asInt,asIntOf,lh,eO hi,hw1,F5,t2,rh,if_false,run_askRoom,aD hsz,e,z1,newRow,run_newObj,ua]
   · cases he
 · cases he
theorem tM {α:Type} (v:α) : ∀n,cg [v] n=dq n v
 |0=>rfl
 |n+1=>by rw[cg,tM v n];rfl
theorem mO {z:AV} {pv:PV} (h:zO z=some pv) : ∀n,jk (dq n z)=some (dq n pv)
 |0=>rfl
 |n+1=>by simp only[List.replicate_succ,jk,h,mO h n]
theorem rX (h:Rel g m w) {t:TypeId} {len cap a:AV} {cl cc:Value} {us:mW}
  (hl:VA g w len cl) (hc:VA g w cap cc) (he:pe P t len cap=some (a,us,true)) :
  bR g m w (((do pure (.value (←sR t cl cc)):Sem Next)).run P w) a (apply m us):=by
 unfold pe at he
 split at he
 · rename_i elem k l k' c hu
   rw[VA.pv] at hl hc
   cases hl;cases hc
   split at he
   · rename_i info z hi hz
     split at he
     · rename_i pv BF
       simp only[dC,kz,dv,decide_eq_true_eq] at he
       obtain⟨rfl,rfl,h0,rfl,h1,h2,h3⟩:=he
       have h1:=bm h1
       have h2:=gv h2
       have h3:=gv h3
       unfold b7 at h2 h3
       have hsz:fj P elem=some 1:=by simp[fj,hi,h1]
       obtain⟨zv,z1,z2⟩:=cj (g:=g) (w:=w) hz
       have hzl:=z2.1.len
       simp at hzl
       have hzs:zv.cells.size=1:=by omega
       have hw1:vj.wrap l=l:=rW h0 (by omega)
       have QB:(l.toNat:Int)=l:=vt h0
       have C2:(info.bytes:Int)*l≤70368744177664:=by
        have:((info.bytes*l.toNat:Nat):Int)≤70368744177664:=wc.2 h3
        rwa [vz,QB] at this
       have BE:Bs g w (cg [z] l.toNat) ((kc (l.toNat*1)).map ((if l.toNat*1=0 then #[] else zv.cells)[· % (if l.toNat*1=0 then #[] else zv.cells).size]!)).toList:=by
        by_cases e:l.toNat*1=0
        · have:l.toNat=0:=by omega
          rw[vE _ _ e,this];exact⟨trivial,fun _ h=>by cases h⟩
        · simp only[e,if_false]
          have k1:=rV z2.1 l.toNat
          have k2:=Aj z2.2 l.toNat
          rw[hzs] at k1 k2 ⊢;exact⟨k1,k2⟩
       rw[tM] at BE
       have t1:(decide (l<0)||decide ((info.bytes:Int)*l>2 ^ 48))=false:=by simp only[ri,decide_eq_false_iff_not];omega
       have t2:((decide (l<0)||decide ((info.bytes:Int)*l>2 ^ 48))||decide (l<0)||decide (l>l))=false:=by rw[t1,rl,ri,decide_eq_false_iff_not,decide_eq_false_iff_not];exact⟨by omega,by omega⟩
       refine bR.yT (e:=elem) h (cU (mO BF _) BE.1) BE.2 (by simp) (df 1) ?_
       by_cases e:l.toNat*1=0
       · simp only[sR,la,run_underlying hu,lj,asInt,asIntOf,lh,eO hi,hw1,t2,rh,if_false,run_askRoom,aD hsz,e,if_true,newRow,run_newObj,ua]
       · simp only[sR,la,run_underlying hu,lj,asInt,asIntOf,lh,eO hi,hw1,t2,rh,if_false,run_askRoom,aD hsz,e,z1,newRow,run_newObj,ua]
     · cases he
   · cases he
 · cases he
end ops
section ops
variable {P:Program} {g:Gh} {m:Mem} {w:World}
theorem VP.mk {len sz cap b o:Nat} {cells:List PV} {us:List Value} (h:rI g w cells us) (hl:us.length=len*sz) (hc:len≤cap) (hz:1≤sz)
  (hu : ∀k v,us[k]? = some v→w.cell? ⟨b,o+k,none⟩=some v∧g.pure b (o+k)∧v.oneCell'=true):VP g w (.ps len sz cells) (.slice (some ⟨b,o,none⟩) len cap):=by
 have Jw:=h.len
 refine .ps len sz cells b o cap (fun k=>us.getD k undef) (by omega) hc hz (fun k hk=> ?_) fun k hk=> ?_
 · have:us[k]? = some us[k]:=dp (by omega)
   obtain⟨h1,h2,h3⟩:=hu k _ this
   exact⟨h2,by rw[h1,dt,this];rfl,by rw[dt,this];exact h3⟩
 · have:us[k]? = some us[k]:=dp (by omega)
   rw[dt,this]
   exact h.get k hk (by omega)
theorem GI {len sz cap:Nat} {cs:List PV} {ad:Option Addr} (h:VP g w (.ps len sz cs) (.slice ad len cap)) : ∀b o,(ad=some ⟨b,o,none⟩∨len=0) →
  ∃us,rI g w cs us∧us.length=len*sz ∧ ∀k v,us[k]? = some v→w.cell? ⟨b,o+k,none⟩=some v∧g.pure b (o+k)∧v.oneCell'=true:=by
 intro b o ha
 cases h with
 |ps _ _ _ b' o' cap f hl hc hz hp hv=>
  rcases ha with ha | rfl
  · cases ha
    refine⟨(List.range cs.length).map f,aW.cS (by simp) fun i hi _=>by simpa using hv i hi,by simp[hl],fun k v hk=> ?_⟩
    simp only[List.getElem?_map,kd] at hk
    obtain⟨j,hj,rfl⟩:=hk
    obtain⟨hlt,hj⟩:=List.getElem?_eq_some_iff.1 hj
    simp at hlt hj;subst hj
    exact⟨(hp k hlt).2.1,(hp k hlt).1,(hp k hlt).2.2⟩
  · simp at hl;subst hl
    exact⟨[],trivial,by simp,fun k v hk=>by simp at hk⟩
 |mT=>exact⟨[],trivial,by simp,fun k v hk=>by simp at hk⟩
theorem x7 {aO:Nat} {tok:Option Nat} {us:mW} (hn:m[aO]? = some .free) (h:oo (fun i=>m.getD i .dead) aO tok=some us) (hr:Rel g m w) :
  ∃m1:Mem,apply m us=m1.set aO .tok∧m1[aO]? = some .free∧Rel g m1 w∧cr g m w g m1 w ∧ ∀t,tok=some t→m[t]? = some .tok∧m1=m.set t .dead:=by
 unfold oo at h
 split at h
 · simp only[dC] at h;subst h
   exact⟨m,rfl,hn,hr,cr.refl g m w,fun t e=>by cases e⟩
 · rename_i t
   split at h
   · rename_i ht
     simp only[dC] at h;subst h
     have ht:=getD_some ht (by simp)
     have hne:t≠aO:=fun e=>by subst e;rw[ht] at hn;cases hn
     obtain⟨k1,k2⟩:=hr.kill t
     refine⟨m.set t .dead,rfl,by rw[ph hne];exact hn,k1,k2,fun t' e=>by cases e;exact⟨ht,rfl⟩⟩
   · cases h
theorem rU.drew {sz n:Nat} {x:AV} {cx:Value} {bV:List PV} (h:Rel g m w) (hx:VA g w x cx) (he:contents (fun i=>m.getD i .dead) sz x=some (n,bV,true)):rU P g w.drew sz n bV cx:=by
 obtain⟨h1,h2,_⟩:=h.jK (w':=w.drew) rfl rfl rfl rfl
 exact ep h1 he (hx.mono h2)
theorem kU (need old:Nat) (elem:TypeId) (t:Nat):need≤(wy need old elem).cut t:=by simp[Question.cut]
theorem vL (h:Rel g m w) {aO:Nat} (hn:m[aO]? = some .free) {argTypes:Array TypeId} {ty:TypeId} {s x a:AV} {cs cx:Value} {us:mW}
  (hs:VA g w s cs) (hx:VA g w x cx) (he:iO P (fun i=>m.getD i .dead) aO argTypes s x=some (a,us,true)) :
  bR g m w (((do pure (.value (←xi argTypes ty #[cs,cx])):Sem Next)).run P w) a (apply m us):=by
 unfold iO at he
 split at he
 · rename_i sType xType hs0 hx0
   split at he
   · cases he
   · rename_i elem d hd hu rY
     split at he
     · rename_i info z hi hz
       split at he
       · rename_i n bV ok tok len sz cells fF
         simp only[kd,kz,dv] at he
         obtain⟨us',S7,rfl,rfl,⟨⟨⟨⟨rfl,h1⟩,h2⟩,h3⟩,h4⟩,h5⟩:=he
         have h2:=gv h2
         have h3:=bm h3
         have h4:=gv h4
         have h5:=gv h5
         unfold b7 at h4 h5
         obtain⟨zv,z1,z2⟩:=cj (g:=g) (w:=w) hz
         have hzl:=z2.1.len
         simp only[jb] at hzl
         have hzs:zv.cells.size=info.size:=by omega
         have hsz:fj P elem=some info.size:=by simp[fj,hi]
         obtain⟨m1,e1,e2,e3,e4,e5⟩:=x7 hn S7 h
         cases hs with
         |os _ _ _ _ ad cap hps xU=>
         have BG:VP g w (.ps len info.size cells) (.slice ad len cap):=jq hps (by
          rw[kx] at h1 ⊢
          refine h1.imp id fun k=> ?_
          simp only[dv] at k ⊢
          exact⟨k.1,sb h2⟩)
         obtain⟨_,_,_,q,hcap⟩:=l8 BG
         cases q
         rw[e1]
         by_cases dM:len+n≤cap
         ·
          obtain⟨vx,x1,x2,hone,x3,x4⟩:=ep (P:=P) h fF hx
          have x5:=x4 n (df _)
          rw[fe (by omega)] at x5
          rcases xU with hfull | ⟨t,b,o,rfl,rfl,t1,t2,t3,t4⟩
          · have hn0:n=0:=by omega
            subst hn0
            have x8:vx=[]:=pB.1 (by simpa using x2)
            subst x8
            have BF:bV=[]:=by cases bV with
             |nil=>rfl
             |cons _ _=>exact x1.elim
            subst BF
            obtain⟨r1,r2⟩:=e3.qw e2
            refine⟨.slice ad (len+0) cap,w,g,.inl ?_,?_,r1,Ext.refl g w,e4.trans r2⟩
            · simp only[xi,hs0,hx0,pf,o0,o6,la,run_underlying hu,lj,aD hsz,run_underlying rY,lh,rh,if_false,x3,dM,if_true,rk,x5]
              cases ad<;>simp[storeCells]
            · rw[List.append_nil]
              exact .os _ _ _ _ _ _ (by simpa using BG) (.inl (by simpa using hfull))
          ·
           obtain⟨Ss,S8⟩:=e5 t rfl
           have hsize:sz=info.size:=by simpa using h1
           subst hsize
           obtain⟨Fb,e,q,k1,k2,k3,k4⟩:=h.tok t b Ss t1
           have hmul:(len+n)*info.size=len*info.size+n*info.size:=rr _ _ _
           have LN:(len+n)*info.size≤cap*info.size:=ie _ dM
           obtain⟨w',D6,p1,p2,p3,p4,p5,p6,p7,p8⟩:=gy (P:=P) b (o+len*info.size) vx 0 w Fb e q k1 (fun j hj=>k3.imp id fun k3=>by omega) (by omega) hone
           simp only[rv] at p3
           have QC:D6.size=Fb.size:=by
            have:=congrArg pC p3
            rw[gG] at this;simpa using this
           have hsp:=h.spare (k:=n*info.size) Ss t1 hn k1 (by omega) p4 p5 p6 p7 p8 p2 QC (fun c hc=>by
            have:D6.toList[c]? = Fb.toList[c]? :=by rw[p3];exact vG _ _ _ _ (by omega)
            simpa using this)
           obtain⟨r1,r2,r3⟩:=hsp
           rw[S8]
           refine⟨.slice (some ⟨b,o,none⟩) (len+n) cap,w',_,.inl ?_,?_,r1,r2,r3⟩
           · have GJ:(⟨b,o,none⟩:Addr).add (len*info.size)=⟨b,o+len*info.size,none⟩:=cB _ _ _
             simp only[xi,hs0,hx0,pf,o0,o6,la,run_underlying hu,lj,aD hsz,run_underlying rY,lh,rh,if_false,x3,dM,if_true,rk,x5,GJ,p1]
           · obtain⟨us,u1,u2,u3⟩:=GI BG b o (.inl rfl)
             refine .os _ _ _ _ _ _ (VP.mk (us:=us++vx) ((aW.mono (fun _ _=>VP.mono r2.pure) u1).append (aW.mono (fun _ _=>VP.mono r2.pure) x1)) (by simp;omega) dM h2 fun k v hk=> ?_) (.inr ⟨aO,b,o,rfl,rfl,by simp[Gh.put,Gh.more],by simp[Gh.put,Gh.more];omega,by simp[Gh.put,Gh.more,t3],dM⟩)
             rw[List.getElem?_append] at hk
             by_cases hlt:k<us.length
             · rw[if_pos hlt] at hk
               obtain⟨v1,v2,v3⟩:=u3 k v hk
               exact⟨(r2.pure _ _ v2).2.trans v1,(r2.pure _ _ v2).1,v3⟩
             · rw[if_neg hlt] at hk
               have hk':=aV hk
               have hnew:=BA vx Fb.toList (o+len*info.size) (k-us.length) hk' (by simp;omega)
               rw[←p3,hk] at hnew
               refine⟨?_,.inr ⟨rfl,by omega,by omega⟩,hone v (pb hk)⟩
               rw[aM p2]
               rw[show o+len*info.size+(k-us.length)=o+k by omega] at hnew
               simpa using hnew
         ·
          obtain⟨d1,d2,d3⟩:=h.jK (w':=w.drew) rfl rfl rfl rfl
          obtain⟨_,_,_,_,l3,_⟩:=ep (P:=P) h fF hx
          obtain⟨vx,x1,x2,hone,x3,x4⟩:=rU.drew (P:=P) h hx fF
          have x5:=x4 n (df _)
          rw[fe (by omega)] at x5
          obtain⟨vs,s1,s2,Jx,s3,s4⟩:=lB (P:=P) (BG.mono d2.pure)
          have s5:=s4 len (df _)
          rw[fe (by omega)] at s5
          have kK:=kU (len+n) cap elem (w.tape w.drawn (.appendCap (len+n) cap elem))
          generalize hnc:(wy (len+n) cap elem).cut (w.tape w.drawn (.appendCap (len+n) cap elem))=newCap at kK
          have vM:(xf zv.cells (newCap-(len+n))).size=(newCap-(len+n))*info.size:=by simp[xf,hzs]
          have hall:(vs.toArray++vx.toArray++xf zv.cells (newCap-(len+n))).size=newCap*info.size:=by
           simp only[oi,pD,vM,s2,x2]
           rw[im,rr]
           have:=ie info.size kK
           rw[rr] at this
           omega
          generalize Ak:vs.toArray++vx.toArray++xf zv.cells (newCap-(len+n))=all at hall
          have vO:pH w (w.drew.alloc (.cells all elem)) (.cells all elem):=⟨rfl,rfl,rfl,rfl⟩
          have hmul:(len+n)*info.size=len*info.size+n*info.size:=rr _ _ _
          have hle:(len+n)*info.size≤all.size:=by rw[hall];exact ie _ kK
          obtain⟨r1,r2,r3⟩:=e3.fresh (k:=(len+n)*info.size) e2 vO hle (.inl (df _))
          refine⟨.slice (some ⟨w.heap.size,0,none⟩) (len+n) newCap,_,_,.inl ?_,?_,r1,r2,e4.trans r3⟩
          · have LO : ¬(((len+n:Nat):Int)>vj.max):=by
             rw[show vj.max=9223372036854775807 from by decide];omega
            have hgrow : ¬(xo (len+n) cap*info.bytes>2 ^ 48):=by
             have:=growslice_fits (need:=len+n) (old:=cap) (bytes:=info.bytes) (by omega) (by omega)
             omega
            simp only[xi,hs0,hx0,pf,o0,o6,la,run_underlying hu,lj,aD hsz,run_underlying rY,lh,rh,if_false,l3,dM,rk,LO,false_and,eO hi,hgrow,run_choose,xc,hnc,uv,run_askRoom,s5,x5,z1,Ak,if_true,newRow,run_newObj,ua,ub]
          · have hnew:(w.drew.alloc (.cells all elem)).heap[w.heap.size]? = some (.cells all elem):=vO.new
            have nk:all.toList=vs++vx++(xf zv.cells (newCap-(len+n))).toList:=by rw[←Ak];simp
            refine .os _ _ _ _ _ _ (VP.mk (us:=vs++vx) ?_ (by simp;omega) kK h2 fun k v hk=> ?_) (.inr ⟨aO,w.heap.size,0,rfl,rfl,by simp[Gh.put,Gh.more],by simp[Gh.put,Gh.more],by simp[Gh.put,Gh.more,hall],kK⟩)
            · exact(aW.mono (fun _ _=>VP.mono (g:=g) (w:=w.drew) (fun c o p=>⟨(r2.pure c o p).1,(r2.pure c o p).2⟩)) s1).append (aW.mono (fun _ _=>VP.mono (g:=g) (w:=w.drew) (fun c o p=>⟨(r2.pure c o p).1,(r2.pure c o p).2⟩)) x1)
            · have hk':=aV hk
              simp only[ei] at hk'
              refine⟨?_,.inr ⟨rfl,by omega,by omega⟩,?_⟩
              · rw[aM hnew,←ov,nk,sa,px (by simpa using hk')]
                exact hk
              · rcases pn.1 (pb hk) with q | q
                · exact Jx v q
                · exact hone v q
       · cases he
     · cases he
   · cases he
 · cases he
theorem Al (h:Rel g m w) {argTypes:Array TypeId} {ty:TypeId} {d s a:AV} {cd cx:Value} {us:mW}
  (hd:VA g w d cd) (hx:VA g w s cx) (he:rN P (fun i=>m.getD i .dead) argTypes d s=some (a,us,true)) :
  bR g m w (((do pure (.value (←xv argTypes ty #[cd,cx])):Sem Next)).run P w) a (apply m us):=by
 unfold rN at he
 split at he
 · rename_i t ht
   split at he
   · rename_i elem hu
     split at he
     · rename_i size hsz
       split at he
       · rename_i n bV ok b off len sz cap fF
         split at he
         · rename_i l hl
           simp only[dC,kz,dv] at he
           obtain⟨rfl,rfl,⟨rfl,h1⟩,h2⟩:=he
           have h1:=bm h1
           have h2:=gv h2
           subst h1
           have hm:=getD_some hl (by simp)
           obtain⟨vx,x1,x2,hone,x3,x4⟩:=ep (P:=P) h fF hx
           have x5:=x4 (dk n len) (sf _ _)
           cases hd with
           |ms _ _ _ _ cap c hc hcap=>
           obtain⟨c',Fb,e,q,k1,k2,k3,k4,k5⟩:=h.cells b _ _ hm rfl
           rw[hc] at k1;cases k1
           have hlen:=k4.1.len
           simp only[pj,jb] at hlen
           have hmin:dk n len*sz≤n*sz:=ie _ (sf _ _)
           have Su:dk n len*sz≤len*sz:=ie _ (Nat.min_le_right _ _)
           have Lh:(vx.take (dk n len*sz)).length=dk n len*sz:=by rw[fl,x2];exact rp hmin
           obtain⟨w',D6,p1,p2,p3,p4,p5,p6,p7,p8⟩:=gy (P:=P) c off (vx.take (dk n len*sz)) 0 w Fb e q k2 (fun _ _=> .inl k3) (by omega) (fun v hv=>hone v (ed hv))
           simp only[rv] at p3
           have Jy : ∀(new:List Value) (l:List Value) (o:Nat),o+new.length≤l.length→bM l o new=l.take o++new++l.drop (o+new.length):=by
            intro new
            induction new with
            |nil=>intro l o _;simp[bM]
            |cons x new ih=>
             intro l o ho
             simp only[pa] at ho
             rw[bM,ih _ _ (by simp;omega)]
             have hlt:o<l.length:=by omega
             rw[List.drop_set_of_lt (by omega),List.take_add_one,List.take_set_of_le (df _)]
             simp only[oT hlt,Option.toList_some,pa,qf,List.singleton_append]
             rw[show o+(new.length+1)=o+1+new.length by omega]
           have S9:rI g w (bV.take (dk n len*sz)) (vx.take (dk n len*sz)):=x1.take _
           have hmap : ∀{l:List PV} {vs:List Value},rI g w l vs→bN g w (l.map .p) vs:=fun hh=>aW.N9 _ (fun _ _ k=> .p _ _ k) hh
           have hcells:Bs g w ((l.take off++bV.take (dk n len*sz)++l.drop (off+dk n len*sz)).map .p) D6.toList:=by
            refine⟨?_,by rw[p3];exact iS _ _ _ k4.2 (fun v hv=>hone v (ed hv))⟩
            rw[p3,Jy _ _ _ (by simp[Lh];omega),Lh]
            simp only[ra,re,List.map_drop]
            refine((k4.1.take off).append ?_).append (k4.1.drop _)
            rw[←re];exact hmap S9
           obtain⟨r1,r2,r3⟩:=h.write (b':= .pc (l.take off++bV.take (dk n len*sz)++l.drop (off+dk n len*sz))) hm rfl hc rfl p4 p5 p6 p7 p8 p2 k3 hcells
           refine⟨goInt (dk n len),w',g,.inl ?_,.p _ _ (.sc _),r1,r2,r3⟩
           simp only[xv,ht,pf,o0,o6,la,run_underlying hu,lj,x3,aD hsz,x5,p1,lh]
         · cases he
       · cases he
     · cases he
   · cases he
 · cases he
theorem GK {bV:List PV} {vs:List Value} (h:rI g w bV vs) (hb:bV.all isByte=true) : ∃ns:List Int,vs=ns.map (yb .u8)∧bV.map byteOf=ns.map fun n=>ye n.toNat:=by
 induction bV generalizing vs with
 |nil=>cases vs with
  |nil=>exact⟨[],rfl,rfl⟩
  |cons _ _=>exact h.elim
 |cons p bV ih=>
  cases vs with
  |nil=>exact h.elim
  |cons v vs=>
   simp only[py,dv] at hb
   obtain⟨ns,e1,e2⟩:=ih h.2 hb.2
   have h1:=h.1
   cases h1 with
   |sc=>
    cases v<;>simp only[isByte,rh,false_and] at hb
    rename_i k n
    cases k<;>simp only[rh,false_and] at hb
    exact⟨n::ns,by rw[e1];rfl,by rw[pA,e2];rfl⟩
   |_=>simp[isByte] at hb
theorem C3 (w:World) (all:Array Value) (e:TypeId) :
  (w.alloc (.cells all e)).freeze {block:=w.heap.size,off:=all.size} 1={w with heap:=w.heap.push (.cells all e (all.size,all.size+1))}:=by
 simp only[vb,World.alloc]
 rw[if_neg (by decide)]
 congr 1
 apply Array.ext_getElem?
 intro j
 rw[oe,jn,jn]
 by_cases hj:j=w.heap.size
 · subst hj;simp
 · rw[if_neg (fun h=>hj h.symm),if_neg hj,if_neg hj]
theorem Fc (w:World) (all:Array Value) (e:TypeId):(w.alloc (.cells all e)).shape? w.heap.size=some (e,all.size):=by
 simp only[ui,(dX w (.cells all e)).new]
theorem foldl_push : ∀(ns:List Int) (s:ByteArray),ns.foldl (fun r n=>r.push (ye n.toNat)) s=⟨(s.data.toList++ns.map fun n=>ye n.toNat).toArray⟩
 |[],s=>by cases s;simp
 |n::ns,s=>by
  rw[List.foldl_cons,foldl_push ns]
  cases s
  simp[ByteArray.push]
theorem Rel.D7 {m:Mem} (h:Rel g m w) {b c:Nat} {l:List PV} (hb:m[b]? = some (.pc l)) (hc:g.aP b=some c) :
  Rel (g.more c 0 l.length) (m.set b .dead) w∧Ext g w (g.more c 0 l.length) w∧cr g m w (g.more c 0 l.length) (m.set b .dead) w:=by
 obtain⟨c',cs,e,n,k1,k2,k3,k4,k5⟩:=h.cells b _ _ hb rfl
 rw[hc] at k1;cases k1
 have hlen:=k4.1.len
 simp only[pj,jb] at hlen
 have ext:Ext g w (g.more c 0 l.length) w:=⟨fun _ _ h=>⟨h,rfl,rfl⟩,fun _ _ p=>⟨.inl p,rfl⟩⟩
 have ne : ∀j x c',j≠b→m[j]? = some x→x.bX=true→g.aP j=some c'→c'≠c:=fun j x c' mU hj ho dJ e=>mU (h.inj j b x _ c hj hb ho rfl (e▸dJ) hc)
 refine⟨⟨fun j hj=>h.rJ j (by simpa using hj),fun j hj=> ?_,fun j x k hj hk=> ?_,fun j c' hj dJ=> ?_,fun j k x x' c' hj hk ho ho' eI ff=> ?_,fun c' o p=> ?_,fun j kk ll hj=> ?_⟩,ext,⟨df _,fun _ _ _=>rfl,fun _ _ p=>⟨.inl p,rfl⟩,fun c' o p=> ?_,fun c' ho=> ?_,rfl,rfl,rfl⟩⟩
 · rcases aq hj with⟨_,e⟩ | ⟨_,e⟩
   · cases e
   · exact h.free j e
 · rcases aq hj with⟨_,e⟩ | ⟨mU,e⟩
   · subst e;cases hk
   · obtain⟨c1,cs1,e1,n1,q1,q2,q3,q4,q5⟩:=h.cells j x k e hk
     refine⟨c1,cs1,e1,n1,q1,q2,q3,q4.mono ext,fun o p=> ?_⟩
     rcases p with p | ⟨rfl,_⟩
     · exact q5 o p
     · exact ne j x _ mU e (bY hk) q1 rfl
 · rcases aq hj with⟨_,e⟩ | ⟨mU,e⟩
   · cases e
   · obtain⟨cs1,e1,n1,q2,q3,q4,q5⟩:=h.tok j c' e dJ
     refine⟨cs1,e1,n1,q2,q3,q4,fun o a b p=> ?_⟩
     rcases p with p | ⟨rfl,_⟩
     · exact q5 o a b p
     · exact ne j _ _ mU e rfl dJ rfl
 · rcases aq hj with⟨_,e⟩ | ⟨_,e⟩
   · subst e;simp[aH.bX] at ho
   · rcases aq hk with⟨_,e'⟩ | ⟨_,e'⟩
     · subst e';simp[aH.bX] at ho'
     · exact h.inj j k x x' c' e e' ho ho' eI ff
 · rcases p with p | ⟨rfl,_,p⟩
   · exact h.there c' o p
   · exact⟨cs[o],by rw[aM k2,ja (by omega)]⟩
 · rcases aq hj with⟨_,e⟩ | ⟨mU,e⟩
   · cases e
   · obtain⟨c1,o1,vs1,q1,q2,q3,q4,q5,q6⟩:=h.obs j kk ll e
     exact⟨c1,o1,vs1,q1,q2,q3.mono ext,q4,fun o p=>p.elim (q5 o) fun q=>ne j _ c1 mU e rfl q1 q.1,q6⟩
 · rcases p with p | ⟨rfl,_⟩
   · exact .inl p
   · exact .inr (.inl ⟨b,_,hb,rfl,hc⟩)
 · rcases oy ho with⟨q,_⟩ | ⟨j,x,_,q1,q2,q3⟩
   · simp[aH.bX] at q
   · exact .inl ⟨j,x,q1,q2,q3⟩
theorem Rel.LP {m:Mem} {w':World} {c:Nat} {cs:Array Value} {e:TypeId} {n n':Nat×Nat} (h:Rel g m w) (hno : ¬cA g m c) (h1:w.heap[c]? = some (.cells cs e n)) (h2:w'.heap[c]? = some (.cells cs e n'))
  (h3 : ∀k,k≠c→w'.heap[k]? = w.heap[k]?):Rel g m w'∧Ext g w g w':=by
 have hcell : ∀b o,w'.cell? ⟨b,o,none⟩=w.cell? ⟨b,o,none⟩:=by
  intro b o
  by_cases e:b=c
  · subst e;rw[aM h1,aM h2]
  · exact dB (h3 b e)
 have ext:Ext g w g w':=⟨fun _ _ q=>⟨q,rfl,rfl⟩,fun b o p=>⟨p,hcell b o⟩⟩
 have ne : ∀j x c',m[j]? = some x→x.bX=true→g.aP j=some c'→c'≠c:=fun j x c' hj ho dJ e=>hno ⟨j,x,hj,ho,e▸dJ⟩
 refine⟨⟨h.rJ,h.free,fun j x k hj hk=> ?_,fun j c' hj dJ=> ?_,h.inj,fun b o p=> ?_,fun j kk ll hj=> ?_⟩,ext⟩
 · obtain⟨c1,cs1,e1,n1,q1,q2,q3,q4,q5⟩:=h.cells j x k hj hk
   exact⟨c1,cs1,e1,n1,q1,(h3 c1 (ne j x c1 hj (bY hk) q1)).trans q2,q3,q4.mono ext,q5⟩
 · obtain⟨cs1,e1,n1,q2,q3,q4,q5⟩:=h.tok j c' hj dJ
   exact⟨cs1,e1,n1,(h3 c' (ne j _ c' hj rfl dJ)).trans q2,q3,q4,q5⟩
 · obtain⟨v,hv⟩:=h.there b o p
   exact⟨v,(hcell b o).trans hv⟩
 · obtain⟨c1,o1,vs1,q1,q2,q3,q4⟩:=h.obs j kk ll hj
   exact⟨c1,o1,vs1,q1,(h3 c1 (ne j _ c1 hj rfl q1)).trans q2,q3.mono ext,q4⟩
theorem An (w:World) {c off:Nat} {cs:Array Value} {e:TypeId} {n:Nat×Nat} (h:w.heap[c]? = some (.cells cs e n)) :
  (∃n',(w.freeze ⟨c,off,none⟩ 1).heap[c]? = some (.cells cs e n'))∧(∀k,k≠c→(w.freeze ⟨c,off,none⟩ 1).heap[k]? = w.heap[k]?)∧(w.freeze ⟨c,off,none⟩ 1).heap.size=w.heap.size ∧
    (w.freeze ⟨c,off,none⟩ 1).os=w.os∧(w.freeze ⟨c,off,none⟩ 1).tape=w.tape∧(w.freeze ⟨c,off,none⟩ 1).output=w.output:=by
 unfold vb
 rw[if_neg (by decide)]
 refine⟨?_,fun k hk=> ?_,by simp,rfl,rfl,rfl⟩
 · obtain⟨lo,hi⟩:=n
   refine⟨if lo==hi then(off,off+1) else(min lo off,max hi (off+1)),?_⟩
   show(w.heap.modify c _)[c]? = _
   rw[oe,if_pos rfl,h]
   rfl
 · show(w.heap.modify c _)[k]? = _
   rw[oe,if_neg (fun e=>hk e.symm)]
theorem Fe {e count n:Nat} (hc:1≤P.cellsOf e) (hn:n≤count):liesAt P P.depth e count 0 e n=true:=by
 have hd:P.depth=(2*(P.types.size+Made.depth)+1)+1:=rfl
 rw[hd]
 simp only[liesAt,kx]
 left
 rw[hd]
 have h0 : ¬P.cellsOf e=0:=by omega
 simp[rowAt,hn,sameLayout,h0]
theorem uq (h:Rel g m w) {aO:Nat} (hn:m[aO]? = some .free) {ρ:Operand→AV} {bF:Operand→Value} {o:Oper} (hr : ∀x,VA g w (ρ x) (bF x)) {src dst:TypeId} {x:Operand}
  (ho:o.op = .convert src dst x) {a:AV} {us:mW} (he:convertOp P (fun i=>m.getD i .dead) aO ρ o src dst (ρ x)=some (a,us,true)) :
  bR g m w ((execOp bF o).run P w) a (apply m us):=by
 have hx:=hr x
 have kL:(execOp bF o).run P w=((convert src dst (bF x)).run P w).andThen fun v w'=> .ok (.value v) w':=by simp only[execOp,ho,la,lh]
 unfold convertOp at he
 split at he
 · rename_i k k' n D8 Ff
   split at he
   · rename_i d Ao
     simp only[dC,kz,and_true] at he
     obtain⟨rfl,rfl⟩:=he
     rw[Ff,VA.pv] at hx
     generalize hz:bF x=z at hx kL
     cases hx
     refine bR.quiet h (v:= .int k (k.wrap n)) ?_ (.p _ _ (.sc _))
     rw[kL]
     simp[convert,run_underlying Ao,run_underlying D8,Conv.intToInt]
   · cases he
 · rename_i s D8 Ff
   split at he
   · rename_i Ao
     simp only[dC,kz,and_true] at he
     obtain⟨rfl,rfl⟩:=he
     rw[Ff,VA.pv] at hx
     generalize hz:bF x=z at hx kL
     cases hx
     refine bR.quiet h (v:= .string s) ?_ (.p _ _ (.sc _))
     rw[kL]
     simp[convert,run_underlying Ao,run_underlying D8]
   · cases he
 · rename_i e s D8 Ff
   split at he
   · rename_i Ao NM
     simp only[dC,kz,and_true] at he
     obtain⟨rfl,rfl⟩:=he
     rw[Ff,VA.pv] at hx
     generalize hz:bF x=z at hx kL
     cases hx
     have kK:=kU s.size 0 e (w.tape w.drawn (.appendCap s.size 0 e))
     generalize hnc:(wy s.size 0 e).cut (w.tape w.drawn (.appendCap s.size 0 e))=newCap at kK
     generalize Ak:(s.data.map fun b=>(yb .u8 b.toNat))++Array.replicate (newCap-s.size) (yb .u8 0)=all
     have hss:s.data.toList.length=s.size:=jb
     have hall:all.size=newCap:=by
      rw[←Ak];simp only[oi,Array.size_map,Array.size_replicate]
      have:s.data.size=s.size:=rfl
      omega
     have vO:pH w ({w.drew with heap:=w.heap.push (.cells all e (all.size,all.size+1))}:World) (.cells all e (all.size,all.size+1)):=⟨rfl,rfl,rfl,rfl⟩
     obtain⟨r1,r2,r3⟩:=h.fresh (k:=s.size) hn vO (by omega) (.inr (df _))
     refine⟨.slice (some ⟨w.heap.size,0,none⟩) s.size newCap,_,_,.inl ?_,?_,r1,r2,r3⟩
     · rw[kL]
       have hsh:=Fc w.drew all e
       have hfz:=C3 w.drew all e
       rw[ub] at hsh hfz
       simp only[convert,la,run_underlying Ao,run_underlying D8,run_underlying NM,lj,Conv.stringToBytes,run_choose,xc,rh,if_false,hnc,uv,Ak,newRow,run_newObj,ua,lh,markStringish,run_shape,ub,hsh,run_freeze,hfz]
       rfl
     · rw[hss]
       have nk:all.toList=(s.data.toList.map fun b=>(yb .u8 b.toNat))++dq (newCap-s.size) (yb .u8 0):=by rw[←Ak];simp
       refine .os _ _ _ _ _ _ (VP.mk (us:=s.data.toList.map fun b=>(yb .u8 b.toNat)) (aW.cS (by simp) fun i a b=>by simp only[eQ];exact .sc _) (by simp[hss]) kK (df _) fun k v hk=> ?_) (.inr ⟨aO,w.heap.size,0,rfl,rfl,by simp[Gh.put,Gh.more],by simp[Gh.put,Gh.more],by simp[Gh.put,Gh.more,hall],kK⟩)
       have hk':=aV hk
       rw[pj,hss] at hk'
       refine⟨?_,.inr ⟨rfl,by omega,by omega⟩,?_⟩
       · rw[aM vO.new,←ov,nk,sa,px (by rw[pj,hss];exact hk')]
         exact hk
       · obtain⟨b,_,rfl⟩:=gg.1 (pb hk);rfl
   · cases he
 · rename_i e b off len sz cap D8 Ff
   split at he
   · rename_i e' l Ao NM hb
     simp only[dC,kz,dv] at he
     obtain⟨rfl,rfl,h1,h2,h3⟩:=he
     have h1:=bm h1
     have h2:=bm h2
     have h3:=gv h3
     subst h1;subst h2
     obtain rfl:e'=e:=by have:=Ao.symm.trans D8;cases this;rfl
     rw[Ff] at hx
     generalize hz:bF x=z at hx kL
     cases hx with
     |ms _ _ _ _ cap c hc hcap=>
     have ur:=getD_some hb (by simp)
     obtain⟨c',cs,et,n,k1,k2,k3,k4,k5⟩:=h.cells b _ _ ur rfl
     rw[hc] at k1;cases k1
     have hlen:=k4.1.len
     simp only[pj,jb] at hlen
     obtain⟨r1,r2,r3⟩:=h.D7 ur hc
     obtain⟨⟨n',f1⟩,f2,f3,f4,f5,f6⟩:=An w (off:=cs.size) k2
     have hno : ¬cA (g.more c 0 l.length) (m.set b .dead) c:=by
      rintro ⟨j,x,hj,ho,rK⟩
      rcases aq hj with⟨_,e⟩ | ⟨mU,e⟩
      · subst e;simp[aH.bX] at ho
      · exact mU (h.inj j b x _ c e ur ho rfl rK hc)
     obtain⟨s1,s2⟩:=r1.LP hno k2 f1 f2
     have QD:rI g w l cs.toList:=aW.cS (by simpa using k4.1.len) fun i a b=>by
      have:=k4.1.get i (by simpa using a) b
      rw[eQ,VA.pv] at this
      exact this
     have hpure : ∀o,o<l.length→(g.more c 0 l.length).pure c o:=fun o ho=> .inr ⟨rfl,Nat.zero_le _,ho⟩
     refine⟨.slice (some ⟨c,off,none⟩) len cap,_,_,.inl ?_,.p _ _ (VP.mk (us:=(cs.toList.drop off).take len) (aW.mono (fun _ _ q=>VP.mono (r2.trans s2).pure q) ((QD.drop off).take len)) (by simp;omega) hcap (df _) fun k v hk=> ?_),s1,r2.trans s2,⟨by rw[f3];exact df _,fun k _ hn=>f2 k fun e=>hn (e▸⟨b,_,ur,rfl,hc⟩),fun b o p=>(r2.trans s2).pure b o p,r3.fresh,r3.owned,f4,f5,f6⟩⟩
     · rw[kL]
       have hsh:w.shape? c=some (et,cs.size):=by simp only[ui,k2]
       simp only[convert,la,run_underlying Ao,run_underlying NM,lj,beq_self_eq_true,markStringish,run_shape,hsh,run_freeze,lh]
     · rw[dT] at hk
       split at hk
       · rename_i hlt
         rw[eh] at hk
         have hk':=aV hk
         refine⟨by rw[aM f1];simpa using hk,hpure (off+k) (by omega),k4.2 v (pb hk)⟩
       · cases hk
   · cases he
 · rename_i b off D8 Ff
   split at he
   · rename_i t ty l Ao hb
     split at he
     · rename_i j hj
       simp only[dC,kz,dv] at he
       obtain⟨rfl,rfl,h1,h2⟩:=he
       have h1:=gv h1
       have h2:=gv h2
       rw[Ff] at hx
       generalize hz:bF x=z at hx kL
       cases hx with
       |mp _ _ c hc=>
       obtain⟨c',ob,vs,k1,k2,k3,k4,_,_⟩:=h.obs b _ _ (getD_some hb (by simp))
       rw[hc] at k1;cases k1
       obtain⟨cs,e,n,rfl,_,_,q1,q2,_⟩:=k4
       have hl:=k3.len
       have hsh:w.shape? c=some (e,cs.size):=by simp only[ui,k2]
       refine bR.quiet h (v:= .pointer (some ⟨c,off,none⟩)) ?_ (.mp b off c hc)
       rw[kL,Lib.run_to_unsafe w ⟨c,off,none⟩ Ao D8 hj (by omega) hsh (by show off<cs.size;omega)]
       rfl
     · cases he
   · cases he
 · rename_i u b D8 Ff
   split at he
   · rename_i ty l Ao hb
     split at he
     · rename_i j hj
       simp only[dC,kz,dv] at he
       obtain⟨rfl,rfl,h1,h2,h3⟩:=he
       have h1:=bm h1
       have h2:=gv h2
       have h3:=gv h3
       subst h1
       rw[Ff] at hx
       generalize hz:bF x=z at hx kL
       cases hx with
       |mp _ _ c hc=>
       obtain⟨c',ob,vs,k1,k2,k3,k4,_,_⟩:=h.obs b _ _ (getD_some hb (by simp))
       rw[hc] at k1;cases k1
       obtain⟨cs,e,n,rfl,rfl,_,q1,q2,_⟩:=k4
       have hl:=k3.len
       have hsh:w.shape? c=some (e,cs.size):=by simp only[ui,k2]
       refine bR.quiet h (v:= .pointer (some ⟨c,0,none⟩)) ?_ (.mp b 0 c hc)
       rw[kL,Lib.run_from_unsafe w ⟨c,0,none⟩ Ao D8 hj hsh (Fe (by omega) ((Nat.le_div_iff_mul_le (by omega)).2 (by omega)))]
       rfl
     · cases he
   · cases he
 · rename_i D8 hnot
   split at he
   · rename_i e Ao
     split at he
     · rename_i NM
       split at he
       · rename_i n bV ok fF
         simp only[dC,kz,dv] at he
         obtain⟨rfl,rfl,rfl,h1⟩:=he
         obtain⟨vs,s1,s2,_,s4,s5⟩:=ep (P:=P) h fF hx
         obtain⟨ns,n1,n2⟩:=GK s1 h1
         have s6:=s5 n (df _)
         rw[fe (by omega),n1] at s6
         have NN:ns.length=n:=by rw[n1] at s2;simpa using s2
         generalize hz:bF x=z at hx kL s4 s6
         refine bR.quiet h (v:= .string ⟨(ns.map fun n=>ye n.toNat).toArray⟩) ?_ (by rw[n2];exact .p _ _ (.sc _))
         rw[kL]
         cases z with
         |slice ad len cap=>
          have hlen:len=n:=by simpa[nd] using s4
          subst hlen
          cases ad with
          |none=>
           have:ns=[]:=by
            have:(#[]:Array Value)=(ns.map (yb .u8)).toArray:=by simpa[nc] using s6
            have:=congrArg Array.size this
            simp at this
            exact pB.1 (by omega)
           subst this
           simp[convert,run_underlying Ao,run_underlying D8,run_underlying NM,Conv.bytesToString,yn,yi]
           rfl
          |some ad=>
           have jO:(loadCells ad len).run P w = .ok (ns.map (yb .u8)).toArray w:=by simpa[nc] using s6
           have:=run_bytesToString (P:=P) w ad len cap ns jO
           simp only[convert,la,run_underlying Ao,run_underlying D8,run_underlying NM,lj,this,foldl_push]
           simp[yn,yi]
           rfl
         |string s=>
          exfalso
          generalize UD:ρ x=xx at hx hnot fF
          cases hx with
          |p pv _ hp=>cases hp;exact hnot s rfl
          |af=>simp[contents] at fF
         |_=>simp[nd] at s4
       · cases he
     · cases he
   · cases he
 · simp only[kd,kz,and_true] at he
   obtain⟨v,h1,rfl,rfl⟩:=he
   obtain⟨cv,k1,k2⟩:=eD hr (fun _ _=>by rw[ho];exact fun e=>by cases e) h1
   exact bR.quiet h k1 k2
end ops
section
variable {P:Program} {g:Gh} {m:Mem} {w:World}
theorem yU {kt:TypeId} (h:tF P kt=true):WideMaps.KeyLaw P kt:=by
 simp only[tF,dv] at h
 exact deep_law (m:=20) (by omega) h.2.1 h.2.2 h.1
theorem oB {kt:TypeId} {v:Value} {b:List UInt8} (h:vf P kt v=some b):keyOf P kt v=some (.string b):=by
 unfold vf at h
 split at h
 · rename_i s hs
   simp only[dC] at h
   rw[hs,h]
 · cases h
theorem nq {kt:TypeId} (hl:WideMaps.KeyLaw P kt) {x:Value} {b:List UInt8} (hx:vf P kt x=some b) : ∀{ks:List Value} {vs r:List AV} {cs:List Value} {bs:List Nat},qn P kt b ks vs=some r→bN g w vs cs→bs.length=cs.length →
  (∀e∈entriesOf ks cs bs,∃l,keyOf P kt e.key=some l)∧(∀e∈entriesOf ks cs bs,e.key=x → ∃v∈r,VA g w v e.val) ∧ ∀v∈r,∃e∈entriesOf ks cs bs,e.key=x
 |[],[],r,[],[],h,_,_=>by
  simp only[qn,dC] at h
  subst h
  exact⟨fun e he=>by simp[entriesOf] at he,fun e he=>by simp[entriesOf] at he,fun v hv=>by cases hv⟩
 |k::ks,v::vs,r,c::cs,n::bs,h,hv,hb=>by
  simp only[qn] at h
  split at h
  · rename_i b' r' h1 h2
    simp only[dC] at h
    obtain⟨i1,i2,i3⟩:=nq hl hx h2 hv.2 (by simpa using hb)
    have hk:=oB h1
    have Ta:=oB hx
    cases hq:kF b b' with
    |true=>
     rw[hq] at h
     simp only[cond_true] at h
     subst h
     have Tb:=pG hq
     subst Tb
     have hkk:k=x:=hl.inj hk Ta
     refine⟨?_,?_,?_⟩
     · intro e he
       simp only[entriesOf,pk] at he
       rcases he with rfl | he
       · exact⟨_,hk⟩
       · exact i1 e he
     · intro e he NO
       simp only[entriesOf,pk] at he
       rcases he with rfl | he
       · exact⟨v,.head _,hv.1⟩
       · obtain⟨u,q1,q2⟩:=i2 e he NO
         exact⟨u,.tail _ q1,q2⟩
     · intro u _
       exact⟨_,.head _,hkk⟩
    |false=>
     rw[hq] at h
     simp only[cond_false] at h
     subst h
     refine⟨?_,?_,?_⟩
     · intro e he
       simp only[entriesOf,pk] at he
       rcases he with rfl | he
       · exact⟨_,hk⟩
       · exact i1 e he
     · intro e he NO
       simp only[entriesOf,pk] at he
       rcases he with rfl | he
       · exfalso
         have NO:k=x:=NO
         subst NO
         rw[hx] at h1
         cases h1
         have : ∀l:List UInt8,kF l l=true:=by
          intro l
          induction l with
          |nil=>rfl
          |cons a l ih=>simp[kF,ih]
         rw[this] at hq;cases hq
       · exact i2 e he NO
     · intro u hu
       obtain⟨e,q1,q2⟩:=i3 u hu
       exact⟨e,.tail _ q1,q2⟩
  · cases h
 |_,_::_,_,[],_,_,hv,_=>hv.elim
 |_,[],_,_::_,_,_,hv,_=>hv.elim
 |[],_::_,_,_::_,_,h,_,_=>by simp[qn] at h
 |_::_,[],_,[],_,h,_,_=>by simp[qn] at h
 |_,_,_,_::_,[],_,_,hb=>by simp at hb
 |_,_,_,[],_::_,_,_,hb=>by simp at hb
theorem vP {kt:TypeId} {b:List UInt8} {key:Value} {v:AV} {cv:Value} {n:Nat} (hv:VA g w v cv) : ∀{ks:List Value} {us:List AV} {cs:List Value} {bs:List Nat},bN g w us cs→ks.length=cs.length→bs.length=cs.length →
  ∃cs' bs',bN g w (xO P kt b key v ks us).2 cs'∧(xO P kt b key v ks us).1.length=cs'.length∧bs'.length=cs'.length ∧
   (entriesOf (xO P kt b key v ks us).1 cs' bs').Perm ({key:=key,val:=cv,born:=n}::entriesOf ks cs bs)
 |[],[],[],[],_,_,_=>⟨[cv],[n],⟨hv,trivial⟩,rfl,rfl,.refl _⟩
 |k::ks,u::us,c::cs,q::bs,h,h1,h2=>by
  have front : ∃cs' bs',bN g w (v::u::us) cs'∧(key::k::ks).length=cs'.length∧bs'.length=cs'.length∧(entriesOf (key::k::ks) cs' bs').Perm ({key:=key,val:=cv,born:=n}::entriesOf (k::ks) (c::cs) (q::bs)):=
   ⟨cv::c::cs,n::q::bs,⟨hv,h⟩,by simpa using h1,by simpa using h2,.refl _⟩
  unfold xO
  split
  · rename_i c' _
    cases zU b c' with
    |true=>exact front
    |false=>
     obtain⟨cs',bs',p1,p2,p3,p4⟩:=vP hv (ks:=ks) (us:=us) (cs:=cs) (bs:=bs) h.2 (by simpa using h1) (by simpa using h2)
     refine⟨c::cs',q::bs',⟨h.1,p1⟩,by simpa using p2,by simpa using p3,?_⟩
     simp only[cond_false,entriesOf]
     exact(p4.cons _).trans (.swap _ _ _)
  · exact front
 |_,_::_,[],_,h,_,_=>h.elim
 |_,[],_::_,_,h,_,_=>h.elim
 |[],_::_,_::_,_,_,h,_=>by simp at h
 |_::_,[],[],_,_,h,_=>by simp at h
 |_,_,_::_,[],_,_,h=>by simp at h
 |_,_,[],_::_,_,_,h=>by simp at h
theorem Ap (h:Rel g m w) {x:AV} {cx:Value} (hx:VA g w x cx) {ks:List Value} {vs:List AV} (he:rO (fun i=>m.getD i .dead) x=some (ks,vs)) :
  ∃r es clock cs bs,cx = .map (some r)∧w.heap[r]? = some (.map es clock)∧bN g w vs cs∧ks.length=cs.length∧bs.length=cs.length∧es.toList.Perm (entriesOf ks cs bs):=by
 unfold rO at he
 split at he
 · rename_i b
   split at he
   · rename_i ks' vs' hb
     simp only[dC,kz] at he
     obtain⟨rfl,rfl⟩:=he
     obtain⟨c,ob,cs,k1,k2,k3,k4,_⟩:=h.obs b _ _ (getD_some hb (by simp))
     simp only[fR.is] at k4
     obtain⟨es,clock,bs,rfl,q1,q2,q3⟩:=k4
     cases hx with
     |vm _ c' hc=>
      rw[k1] at hc;cases hc
      exact⟨c,es,clock,cs,bs,rfl,k2,k3,q1,q2,q3⟩
   · cases he
 · cases he
theorem BH {t:TypeId} {z:AV} (h:mN P t=some z) : ∃cz,(∀w,(zeroValue t).run P w = .ok cz w)∧VA g w z cz:=by
 unfold mN at h
 cases hi:P.info? t with
 |none=>simp[hi] at h
 |some i=>
  cases hz:i.zero with
  |none=>simp[hi,hz] at h
  |some c=>
   simp only[hi,hz,kl,dC] at h
   subst h
   exact⟨c,fun w=>by simp[zeroValue,typeInfo,hi,hz],VA.DU c⟩
theorem x9 (h:Rel g m w) {x k a:AV} {cx ck:Value} {t:TypeId} {ok:Bool} (hx:VA g w x cx) (hk:VA g w k ck) (he:uH P (fun i=>m.getD i .dead) t x k ok=some a) :
  ∃v,(sl t cx ck ok).run P w = .ok v w∧VA g w a v:=by
 unfold uH at he
 split at he
 · rename_i key kt et hkey hm
   obtain rfl:=CY hkey hk
   split at he
   · rename_i z ks vs b hz hu hb
     cases hw:tF P kt with
     |false=>rw[hw] at he;cases he
     |true=>
      rw[hw] at he
      simp only[cond_true] at he
      have hl:=yU hw
      obtain⟨cz,D5,C1⟩:=BH (g:=g) (w:=w) hz
      obtain⟨r,es,clock,cs,bs,rfl,hr,hcs,e1,e2,e3⟩:=Ap h hx hu
      have hlk:=oB hb
      cases hf:qn P kt b ks vs with
      |none=>rw[hf] at he;cases he
      |some l=>
       rw[hf] at he
       obtain⟨f1,f2,f3⟩:=nq hl hb hf hcs e2
       have hc:=hl.check w es.isEmpty hlk
       rcases hl.find w hlk es.toList (fun e he=>f1 e (e3.mem_iff.1 he)) with⟨q1,q2⟩ | ⟨j,e,q1,q2,q3⟩
       · match l,he with
         |[],he=>
          simp only[dC] at he
          subst he
          refine⟨cond ok (.tuple #[cz,.bool false]) cz,?_,?_⟩
          · cases ok<;>simp[sl,run_underlying hm,yo hr,hc,q1,D5,rn]
          · cases ok with
            |true=>exact VA.je.2 ⟨C1,.p _ _ (.sc _),trivial⟩
            |false=>exact C1
         |[v],_=>
          obtain⟨e,p1,p2⟩:=f3 v (.head _)
          exact absurd p2 (q2 e (e3.mem_iff.2 p1))
       · have hmem:e∈es.toList:=pb q2
         obtain⟨v,p1,p2⟩:=f2 e (e3.mem_iff.1 hmem) q3
         match l,he,p1 with
         |[u],he,p1=>
          obtain rfl:v=u:=by simpa using p1
          simp only[dC] at he
          subst he
          refine⟨cond ok (.tuple #[e.val,.bool true]) e.val,?_,?_⟩
          · cases ok<;>simp[sl,run_underlying hm,yo hr,hc,q1,rn]
          · cases ok with
            |true=>exact VA.je.2 ⟨p2,.p _ _ (.sc _),trivial⟩
            |false=>exact p2
   · cases he
 · cases he
theorem rZ (h:Rel g m w) {x k v a:AV} {cx ck cv:Value} {t:TypeId} {us:mW} (hx:VA g w x cx) (hk:VA g w k ck) (hv:VA g w v cv)
  (he:iD P (fun i=>m.getD i .dead) t x k v=some (a,us,true)) :
  ∃w',(sm t cx ck cv).run P w = .ok () w'∧a = .bk []∧Rel g (apply m us) w'∧Ext g w g w'∧cr g m w g (apply m us) w':=by
 unfold iD at he
 split at he
 · rename_i b key kt et hkey hm
   obtain rfl:=CY hkey hk
   split at he
   · rename_i ks vs lb hb hlb
     cases hw:tF P kt with
     |false=>rw[hw] at he;cases he
     |true=>
      rw[hw] at he
      simp only[cond_true] at he
      have hl:=yU hw
      split at he
      · rename_i hf
        simp only[dC,kz,and_true] at he
        obtain⟨rfl,rfl⟩:=he
        have hib:=getD_some hb (by simp)
        obtain⟨c,ob,cs,k1,k2,k3,k4,_⟩:=h.obs b _ _ hib
        simp only[fR.is] at k4
        obtain⟨es,clock,bs,rfl,e1,e2,e3⟩:=k4
        cases hx with
        |vm _ c' hc=>
         rw[k1] at hc;cases hc
         have hlk:=oB hlb
         obtain⟨f1,f2,f3⟩:=nq hl hlb hf k3 e2
         have Aq:=hl.check w false hlk
         rcases hl.find w hlk es.toList (fun e he=>f1 e (e3.mem_iff.1 he)) with⟨q1,q2⟩ | ⟨j,e,q1,q2,q3⟩
         · obtain⟨cs',bs',p1,p2,p3,p4⟩:=vP (P:=P) (kt:=kt) (b:=lb) (key:=ck) (n:=clock) hv (ks:=ks) (us:=vs) (cs:=cs) (bs:=bs) k3 e1 e2
           obtain⟨s1,s2,s3⟩:(∀j,j≠c→({w with heap:=w.heap.setIfInBounds c (.map (es.push {key:=ck,val:=cv,born:=clock}) (clock+1))}:World).heap[j]? = w.heap[j]?) ∧
            ({w with heap:=w.heap.setIfInBounds c (.map (es.push {key:=ck,val:=cv,born:=clock}) (clock+1))}:World).heap.size=w.heap.size ∧
            ({w with heap:=w.heap.setIfInBounds c (.map (es.push {key:=ck,val:=cv,born:=clock}) (clock+1))}:World).heap[c]? = some (.map (es.push {key:=ck,val:=cv,born:=clock}) (clock+1)):=
            ⟨fun j hj=>(zt k2).2 j hj,by simp,(zt k2).1⟩
           obtain⟨r1,r2,r3⟩:=h.eX (xQ:= .zN (xO P kt lb ck v ks vs).1) (l':=(xO P kt lb ck v ks vs).2) (vs':=cs') hib k1 s1 s2 rfl rfl rfl s3
            ⟨_,_,bs',rfl,p2,p3,by
              rw[Array.toList_push]
              exact(List.perm_append_comm.trans ((e3.cons _).trans p4.symm))⟩ p1
           refine⟨_,?_,rfl,r1,r2,r3⟩
           simp[sm,run_underlying hm,yo k2,Aq,q1,yv _ k2,rn]
         · obtain⟨v',p1,_⟩:=f2 e (e3.mem_iff.1 (pb q2)) q3
           cases p1
      · cases he
   · cases he
 · cases he
end
section
variable {P:Program} {g:Gh} {m:Mem} {w:World}
theorem tN {d:TypeDesc} {k:Value} (h:plainKey d k=true):zr d k:=by
 cases d<;>cases k<;>simp_all [plainKey,zr]
theorem kM {t:TypeId} {z:AV} (h:mN P t=some z) : ∃cz,(∀w,(zeroValue t).run P w = .ok cz w)∧VA g w z cz:=by
 unfold mN at h
 cases hi:P.info? t with
 |none=>simp[hi] at h
 |some i=>
  cases hz:i.zero with
  |none=>simp[hi,hz] at h
  |some c=>
   simp only[hi,hz,kl,dC] at h
   subst h
   exact⟨c,fun w=>by simp[zeroValue,typeInfo,hi,hz],VA.DU c⟩
theorem vQ {t s xt:TypeId} {ok:Bool} {cv:Value} {d:TypeDesc} (hu:P.underlying t=some d) (hni : ∀ms,d ≠ .interface ms) :
  (sT (.iface s cv) xt t ok).run P w=(if s=t then(.ok (if ok then .tuple #[cv,.bool true] else cv) w) else
    (do if ok then pure (.tuple #[←zeroValue t,.bool false]) else runtimePanic (.typeAssertion (some xt) (some s) t ""):Sem Value).run P w):=by
 unfold sT
 simp only[la,run_underlying hu,lj]
 cases d<;>first
  |exact absurd rfl (hni _)
  |(by_cases e:s=t<;>simp[e])
theorem Fg {t xt:TypeId} {d:TypeDesc} {ok:Bool} {v:AV} (hu:P.underlying t=some d) (Jz : ∀ms,d ≠ .interface ms) (s:TypeId) (u:AV) (cu:Value) (hv:VA g w u cu) (h:(match be s t,ok with
  |true,true=>some (AV.bk [u,sB true])
  |true,false=>some u
  |false,true=>(mN P t).map fun z=> .bk [z,sB false]
  |false,false=>none)=some v) : ∃cv,(sT (.iface s cu) xt t ok).run P w = .ok cv w∧VA g w v cv:=by
 rw[vQ hu Jz]
 cases hb:be s t with
 |true=>
  have e:=bm hb
  rw[hb] at h
  rw[if_pos e]
  cases ok with
  |true=>
   simp only[dC] at h;subst h
   exact⟨_,rfl,VA.je.2 ⟨hv,.p _ _ (.sc _),trivial⟩⟩
  |false=>
   simp only[dC] at h;subst h
   exact⟨_,rfl,hv⟩
 |false=>
  have e:s≠t:=fun e=>by subst e;rw[Nat.beq_refl] at hb;cases hb
  rw[hb] at h
  rw[if_neg e]
  cases ok with
  |true=>
   simp only[kd] at h
   obtain⟨z,hz,rfl⟩:=h
   obtain⟨cz,h1,h2⟩:=kM (g:=g) (w:=w) hz
   exact⟨.tuple #[cz,.bool false],by simp[h1],VA.je.2 ⟨h2,.p _ _ (.sc _),trivial⟩⟩
  |false=>cases h
theorem vR {t xt:TypeId} {x v:AV} {cx:Value} {ok:Bool} (he:vk P t x ok=some v) (hx:VA g w x cx) : ∃cv,(sT cx xt t ok).run P w = .ok cv w∧VA g w v cv:=by
 unfold vk at he
 split at he
 · cases he
 · rename_i d hni hu
   have Jz : ∀ms,d ≠ .interface ms:=fun ms e=>hni ms e
   have fin:= @Fg P g w t xt d ok v hu Jz
   split at he
   · cases hx with
     |p _ _ hx=>cases hx with
      |sc=>
       split at he
       · rename_i z hz
         simp only[dC] at he;subst he
         obtain⟨cz,h1,h2⟩:=kM (g:=g) (w:=w) hz
         refine⟨.tuple #[cz,.bool false],?_,VA.je.2 ⟨h2,.p _ _ (.sc _),trivial⟩⟩
         unfold sT
         simp only[la,run_underlying hu,lj]
         cases d<;>first
          |exact absurd rfl (Jz _)
          |simp[h1]
       · cases he
   · cases hx with
     |p _ _ hx=>cases hx with
      |kA _ _ cv h=>exact fin _ _ cv (.p _ _ h) he
   · cases hx with
     |kA _ _ cv h=>exact fin _ _ cv h he
   · cases hx with
     |p _ _ hx=>cases hx with
      |sc=>exact fin _ _ _ (VA.DU _) he
   · cases he
 · cases he
theorem tO {d:TypeDesc} {k:Value} : ∀{ks:List Value} {vs:List AV} {bs:List Nat} {cs:List Value} {r:Option AV} (n:Nat),oQ d k ks vs bs=some r→bN g w vs cs →
  match r with
  |some v=> ∃i cv,ss d k (entriesOf ks cs bs) n=some (some (i,cv))∧VA g w v cv
  |none=>ss d k (entriesOf ks cs bs) n=some none
 |[],[],[],[],r,n,h,_=>by
  simp only[oQ,dC] at h
  subst h
  rfl
 |k'::ks,v::vs,b::bs,c::cs,r,n,h,hv=>by
  simp only[oQ] at h
  simp only[entriesOf,ss]
  cases hs:tl d k k' with
  |none=>rw[hs] at h;cases h
  |some q=>
   rw[hs] at h
   cases q with
   |true=>
    simp only[dC] at h
    subst h
    exact⟨n,c,rfl,hv.1⟩
   |false=>exact tO (n+1) h hv.2
 |_,_::_,_,[],_,_,_,hv=>hv.elim
 |_,[],_,_::_,_,_,_,hv=>hv.elim
 |_::_,[],_,_,_,_,h,_=>by simp[oQ] at h
 |[],_::_,_,_,_,_,h,_=>by simp[oQ] at h
 |[],[],_::_,_,_,_,h,_=>by simp[oQ] at h
 |_::_,_::_,[],_,_,_,h,_=>by simp[oQ] at h
theorem key_eq {k:Value} {cv:Value} (h:VA g w (.p (.sc k)) cv):cv=k:=by
 rw[VA.pv] at h
 cases h
 rfl
theorem BI (h:Rel g m w) {x:AV} {cx:Value} (hx:VA g w x cx) {ks:List Value} {vs:List AV} {bs:List Nat} (he:mapOf (fun i=>m.getD i .dead) x=some (ks,vs,bs)) :
  ∃cs,bN g w vs cs∧((cx = .map none∧ks=[]∧vs=[]∧bs=[]) ∨ ∃r clock,cx = .map (some r)∧w.heap[r]? = some (.map (entriesOf ks cs bs).toArray clock)):=by
 unfold mapOf at he
 split at he
 · simp only[dC,kz] at he
   obtain⟨rfl,rfl,rfl⟩:=he
   exact⟨[],trivial,.inl ⟨key_eq hx,rfl,rfl,rfl⟩⟩
 · rename_i b
   split at he
   · rename_i ks' bs' clock vs' hb
     simp only[dC,kz] at he
     obtain⟨rfl,rfl,rfl⟩:=he
     obtain⟨c,ob,cs,k1,k2,k3,k4,_⟩:=h.obs b _ _ (getD_some hb (by simp))
     simp only[fR.is] at k4
     subst k4
     cases hx with
     |vm _ c' hc=>
      rw[k1] at hc;cases hc
      exact⟨cs,k3,.inr ⟨c,clock,rfl,k2⟩⟩
   · cases he
 · cases he
theorem vS (h:Rel g m w) {x k a:AV} {cx ck:Value} {t:TypeId} {ok:Bool} (hx:VA g w x cx) (hk:VA g w k ck) (he:lz P (fun i=>m.getD i .dead) t x k ok=some a) :
  ∃v,(sl t cx ck ok).run P w = .ok v w∧VA g w a v:=by
 unfold lz at he
 split at he
 · rename_i key
   obtain rfl:=key_eq hk
   split at he
   · rename_i kt et hm
     split at he
     · rename_i d z ks vs bs hd hz hmap
       cases hp:plainKey d ck with
       |false=>simp[hp] at he
       |true=>
        simp only[hp,cond_true] at he
        have hik:=tN hp
        obtain⟨cz,D5,C1⟩:=kM (g:=g) (w:=w) hz
        obtain⟨cs,hcs,GL⟩:=BI h hx hmap
        have hc : ∀e,(ta e 10000 kt ck).run P w = .ok () w:=fun e=>zd hd hik e 9999
        have Od:entriesOf [] cs []=[]:=by cases cs<;>rfl
        cases hf:oQ d ck ks vs bs with
        |none=>simp[hf] at he
        |some r=>
         have hs:=tO (g:=g) (w:=w) 0 hf hcs
         cases r with
         |none=>
          simp only[hf,dC] at he
          subst he
          simp only at hs
          have hk:=yr (w:=w) hd hs
          refine⟨cond ok (.tuple #[cz,.bool false]) cz,?_,?_⟩
          · rcases GL with⟨rfl,rfl,rfl,rfl⟩ | ⟨r,clock,rfl,hr⟩
            · rw[Od] at hk
              cases ok<;>simp[sl,run_underlying hm,hc,hk,D5,rn]
            · cases ok<;>simp[sl,run_underlying hm,yo hr,hc,hk,D5,rn]
          · cases ok with
            |true=>exact VA.je.2 ⟨C1,.p _ _ (.sc _),trivial⟩
            |false=>exact C1
         |some u=>
          simp only[hf,dC] at he
          subst he
          obtain⟨i,cv,hs1,Je⟩:=hs
          have hk:=yr (w:=w) hd hs1
          refine⟨cond ok (.tuple #[cv,.bool true]) cv,?_,?_⟩
          · rcases GL with⟨rfl,rfl,rfl,rfl⟩ | ⟨r,clock,rfl,hr⟩
            · rw[Od] at hk
              cases ok<;>simp[sl,run_underlying hm,hc,hk,rn]
            · cases ok<;>simp[sl,run_underlying hm,yo hr,hc,hk,rn]
          · cases ok with
            |true=>exact VA.je.2 ⟨Je,.p _ _ (.sc _),trivial⟩
            |false=>exact Je
     · cases he
   · cases he
 · exact x9 h hx hk he
 · cases he
theorem vT {d:TypeDesc} {k:Value} {v:AV} {cv:Value} (hik:zr d k) (hv:VA g w v cv) : ∀{ks:List Value} {vs:List AV} {bs:List Nat} {cs:List Value} {r:Option (List AV)} (n:Nat),vg d k v ks vs bs=some r→bN g w vs cs →
  match r with
  |some l=> ∃i o cs',ss d k (entriesOf ks cs bs) n=some (some (n+i,o))∧((entriesOf ks cs bs)[i]?).map (·.key)=some k∧(entriesOf ks cs bs).modify i (fun e=>{e with key:=k,val:=cv})=entriesOf ks cs' bs∧bN g w l cs'
  |none=>ss d k (entriesOf ks cs bs) n=some none∧ks.length=vs.length∧bs.length=vs.length
 |[],[],[],[],r,n,h,_=>by
  simp only[vg,dC] at h
  subst h
  exact⟨rfl,rfl,rfl⟩
 |k'::ks,u::vs,b::bs,c::cs,r,n,h,hvs=>by
  simp only[vg] at h
  simp only[entriesOf,ss]
  cases hs:tl d k k' with
  |none=>rw[hs] at h;cases h
  |some q=>
   rw[hs] at h
   cases q with
   |true=>
    simp only[dC] at h
    subst h
    have hkk:k'=k:=by
     cases d<;>cases k<;>simp only[zr] at hik<;>cases k'<;>simp only[tl] at hs<;>first
      |cases hs
      |(split at hs
        · rename_i e1;subst e1;simp at hs;subst hs;rfl
        · cases hs)
      |(simp only[dC,Fs,beq_iff_eq] at hs;subst hs;rfl)
    subst hkk
    exact⟨0,c,cv::cs,rfl,rfl,rfl,hv,hvs.2⟩
   |false=>
    cases hr:vg d k v ks vs bs with
    |none=>simp[hr] at h
    |some r'=>
     have ih:=vT hik hv (n+1) hr hvs.2
     cases r' with
     |none=>
      simp only[hr,dC] at h
      subst h
      exact⟨ih.1,by simp[ih.2.1],by simp[ih.2.2]⟩
     |some l=>
      simp only[hr,dC] at h
      subst h
      obtain⟨i,o,cs',q1,q2,q3,q4⟩:=ih
      refine⟨i+1,o,c::cs',by rw[q1];simp;omega,by simpa using q2,?_,hvs.1,q4⟩
      simp only[List.modify_succ_cons,entriesOf,q3]
 |_,_::_,_,[],_,_,_,hv=>hv.elim
 |_,[],_,_::_,_,_,_,hv=>hv.elim
 |_::_,[],_,_,_,_,h,_=>by simp[vg] at h
 |[],_::_,_,_,_,_,h,_=>by simp[vg] at h
 |[],[],_::_,_,_,_,h,_=>by simp[vg] at h
 |_::_,_::_,[],_,_,_,h,_=>by simp[vg] at h
theorem jP {k:Value} {cv:Value} {b:Nat} : ∀{ks cs:List Value} {bs:List Nat},ks.length=cs.length→bs.length=cs.length→entriesOf ks cs bs++[{key:=k,val:=cv,born:=b}]=entriesOf (ks++[k]) (cs++[cv]) (bs++[b])
 |[],[],[],_,_=>rfl
 |_::ks,_::cs,_::bs,h,h'=>by simp[entriesOf,jP (ks:=ks) (cs:=cs) (bs:=bs) (by simpa using h) (by simpa using h')]
 |[],_::_,_,h,_=>by simp at h
 |_::_,[],_,h,_=>by simp at h
 |[],[],_::_,_,h=>by simp at h
 |_::_,_::_,[],_,h=>by simp at h
theorem cI (w:World) {r:Nat} {o':Obj} {o:Obj} (hb:w.heap[r]? = some o) :
  (∀k,k≠r→({w with heap:=w.heap.setIfInBounds r o'}:World).heap[k]? = w.heap[k]?)∧({w with heap:=w.heap.setIfInBounds r o'}:World).heap.size=w.heap.size∧({w with heap:=w.heap.setIfInBounds r o'}:World).heap[r]? = some o':=
 ⟨fun k hk=>(zt hb).2 k hk,by simp,(zt hb).1⟩
theorem qF (h:Rel g m w) {x k v a:AV} {cx ck cv:Value} {t:TypeId} {us:mW} (hx:VA g w x cx) (hk:VA g w k ck) (hv:VA g w v cv)
  (he:gC P (fun i=>m.getD i .dead) t x k v=some (a,us,true)) :
  ∃w',(sm t cx ck cv).run P w = .ok () w'∧a = .bk []∧Rel g (apply m us) w'∧Ext g w g w'∧cr g m w g (apply m us) w':=by
 unfold gC at he
 split at he
 · rename_i b key
   obtain rfl:=key_eq hk
   split at he
   · rename_i kt et ks bs clock vs hm hb
     split at he
     · rename_i d hd
       cases hp:plainKey d ck with
       |false=>simp[hp] at he
       |true=>
        simp only[hp,cond_true] at he
        have hik:=tN hp
        have hib:=getD_some hb (by simp)
        obtain⟨c,ob,cs,k1,k2,k3,k4,_⟩:=h.obs b _ _ hib
        simp only[fR.is] at k4
        subst k4
        cases hx with
        |vm _ c' hc=>
         rw[k1] at hc;cases hc
         have Aq : ∀e,(ta e 10000 kt ck).run P w = .ok () w:=fun e=>zd hd hik e 9999
         cases hu:vg d ck v ks vs bs with
         |none=>simp[hu] at he
         |some r=>
          have hs:=vT (g:=g) (w:=w) hik hv 0 hu k3
          cases r with
          |some l=>
           simp only[hu,dC,kz,and_true] at he
           obtain⟨rfl,rfl⟩:=he
           obtain⟨i,o,cs',q1,q2,q3,q4⟩:=hs
           rw[sa] at q1
           have hfind:=yr (w:=w) hd q1
           obtain⟨e1,e2,e3⟩:=cI w (o':= .map (entriesOf ks cs' bs).toArray clock) k2
           obtain⟨r1,r2,r3⟩:=h.eX (xQ:= .map ks bs clock) (l':=l) (vs':=cs') hib k1 e1 e2 rfl rfl rfl e3 rfl q4
           refine⟨_,?_,rfl,r1,r2,r3⟩
           have hsame:tc 10000 ck ck=true:=by
            cases d<;>cases ck<;>simp only[zr] at hik<;>simp[tc,Fs]
           have hmod:(entriesOf ks cs bs).toArray.modify i (fun e=>{e with key:=ck,val:=cv})=(entriesOf ks cs' bs).toArray:=by
            rw[←q3];simp
           simp[sm,run_underlying hm,yo k2,Aq,hfind,tp,hsame,yv _ k2,rn,q2,q3]
          |none=>
           simp only[hu,dC,kz,and_true] at he
           obtain⟨rfl,rfl⟩:=he
           obtain⟨q1,q2,q3⟩:=hs
           have hlen:=k3.len
           have hfind:=yr (w:=w) hd q1
           obtain⟨e1,e2,e3⟩:=cI w (o':= .map (entriesOf (ks++[ck]) (cs++[cv]) (bs++[clock])).toArray (clock+1)) k2
           obtain⟨r1,r2,r3⟩:=h.eX (xQ:= .map (ks++[ck]) (bs++[clock]) (clock+1)) (l':=vs++[v]) (vs':=cs++[cv]) hib k1 e1 e2 rfl rfl rfl e3 rfl (k3.append (⟨hv,trivial⟩:bN g w [v] [cv]))
           refine⟨_,?_,rfl,r1,r2,r3⟩
           have GM:(entriesOf ks cs bs).toArray.push {key:=ck,val:=cv,born:=clock}=(entriesOf (ks++[ck]) (cs++[cv]) (bs++[clock])).toArray:=by
            rw[←jP (by omega) (by omega)];simp
           simp[sm,run_underlying hm,yo k2,Aq,hfind,GM,yv _ k2,rn]
     · cases he
   · cases he
 · exact rZ h hx hk hv he
 · cases he
abbrev qG (ns:List ByteArray) (bs:List Nat):List MapEntry:=entriesOf (ns.map .string) (ns.map fun _=> .bool true) bs
theorem vU : ∀{ns:List ByteArray} {bs:List Nat} {e:MapEntry},e∈qG ns bs → ∃x∈ns,e.key = .string x∧e.val = .bool true
 |x::ns,b::bs,e,h=>by
  rcases pk.1 h with rfl | h
  · exact⟨x,.head _,rfl,rfl⟩
  · obtain⟨y,h1,h2⟩:=vU (ns:=ns) (bs:=bs) h
    exact⟨y,.tail _ h1,h2⟩
 |[],_,_,h=>by cases h
 |_::_,[],_,h=>by cases h
theorem D9 : ∀{ns:List ByteArray} {bs:List Nat} {x:ByteArray},bs.length=ns.length→x∈ns → ∃e∈qG ns bs,e.key = .string x
 |y::ns,b::bs,x,hl,h=>by
  rcases pk.1 h with rfl | h
  · exact⟨_,.head _,rfl⟩
  · obtain⟨e,h1,h2⟩:=D9 (ns:=ns) (bs:=bs) (by simpa using hl) h
    exact⟨e,.tail _ h1,h2⟩
 |[],_,_,_,h=>by cases h
 |_::_,[],_,hl,_=>by simp at hl
theorem BJ {ns:List ByteArray} {s:ByteArray}:uk ns s=true↔s∈ns:=by
 have e : ∀x:ByteArray,(x.data.toList==s.data.toList)=true↔x=s:=fun x=>by
  rw[beq_iff_eq]
  constructor
  · intro h
    obtain⟨⟨a⟩⟩:=x
    obtain⟨⟨b⟩⟩:=s
    simpa using h
  · rintro rfl;rfl
 unfold uk
 rw[List.any_eq_true]
 constructor
 · rintro ⟨x,h1,h2⟩
   rwa [←(e x).1 h2]
 · intro h
   exact⟨s,h,(e s).2 rfl⟩
theorem yV {ns:List ByteArray} {bs:List Nat} (hl:bs.length=ns.length) (s:ByteArray) :
  (uk ns s=false∧ss .string (.string s) (qG ns bs) 0=some none) ∨
    (uk ns s=true ∧ ∃j e,ss .string (.string s) (qG ns bs) 0=some (some (j,.bool true))∧(qG ns bs)[j]? = some e∧e.key = .string s∧e.val = .bool true):=by
 have hk:zr .string (.string s):=trivial
 rcases MapKept.findNow_spec hk (qG ns bs) 0 (fun x hx=>by
  obtain⟨y,_,h2,_⟩:=vU hx
  rw[h2];trivial) with⟨h1,h2⟩ | ⟨j,e,h1,h2,h3⟩
 · refine .inl ⟨?_,h1⟩
   cases hh:uk ns s with
   |false=>rfl
   |true=>
    obtain⟨e,k1,k2⟩:=D9 hl (BJ.1 hh)
    exact absurd k2 (h2 e k1)
 · obtain⟨y,k1,k2,k3⟩:=vU (pb h2)
   refine .inr ⟨BJ.2 ?_,j,e,?_,h2,h3,k3⟩
   · rw[k2] at h3
     cases h3
     exact k1
   · rw[h1,k3,sa]
theorem vV (g:Gh) (w0:World) {t:TypeId} (h:qo P t=true) : ∃kt et,P.underlying t=some (.map kt et)∧P.underlying kt=some .string ∧ ∀w,(zeroValue et).run P w = .ok (.bool false) w:=by
 unfold qo at h
 split at h
 · rename_i kt et hm
   split at h
   · rename_i h1 h2
     obtain⟨cz,z1,z2⟩:=kM (g:=g) (w:=w0) h2
     rw[VA.pv] at z2
     cases z2
     exact⟨kt,et,hm,h1,z1⟩
   · cases h
 · cases h
theorem qH (h:Rel g m w) {x:AV} {cx:Value} (hx:VA g w x cx) {ns:List ByteArray} (he:pg (fun i=>m.getD i .dead) x=some ns) :
  ∃b r bs clock l,x = .vm b∧m[b]? = some (.ob (.smap ns) l)∧g.aP b=some r∧cx = .map (some r)∧w.heap[r]? = some (.map (qG ns bs).toArray clock)∧bs.length=ns.length∧bN g w l []:=by
 unfold pg at he
 split at he
 · rename_i b
   split at he
   · rename_i ns' l hb
     simp only[dC] at he
     subst he
     have hib:=getD_some hb (by simp)
     obtain⟨c,ob,cs,k1,k2,k3,k4,_⟩:=h.obs b _ _ hib
     simp only[fR.is] at k4
     obtain⟨rfl,bs,clock,rfl,k5⟩:=k4
     cases hx with
     |vm _ c' hc=>
      rw[k1] at hc;cases hc
      exact⟨b,c,bs,clock,l,rfl,hib,k1,rfl,k2,k5,k3⟩
   · cases he
 · cases he
theorem Ar (h:Rel g m w) {x k a:AV} {cx ck:Value} {t:TypeId} {ok:Bool} (hx:VA g w x cx) (hk:VA g w k ck) (he:rP P (fun i=>m.getD i .dead) t x k ok=some a) :
  ∃v,(sl t cx ck ok).run P w = .ok v w∧VA g w a v:=by
 unfold rP at he
 split at he
 · rename_i ns hs
   obtain⟨b,r,bs,clock,l,rfl,h1,h2,rfl,h3,h4,h5⟩:=qH h hx hs
   split at he
   · rename_i s
     obtain rfl:=key_eq hk
     split at he
     · rename_i ht
       obtain⟨kt,et,t1,t2,t3⟩:=vV g w ht
       simp only[dC] at he
       subst he
       have hc : ∀e,(ta e 10000 kt (.string s)).run P w = .ok () w:=fun e=>zd t2 (d:= .string) (k:= .string s) trivial e 9999
       refine⟨cond ok (.tuple #[.bool (uk ns s),.bool (uk ns s)]) (.bool (uk ns s)),?_,?_⟩
       · rcases yV h4 s with⟨q0,q1⟩ | ⟨q0,j,e,q1,q2,q3,q4⟩
         · have hf:=yr (w:=w) t2 q1
           cases ok<;>simp[sl,run_underlying t1,yo h3,hc,hf,t3,rn,q0]
         · have hf:=yr (w:=w) t2 q1
           cases ok<;>simp[sl,run_underlying t1,yo h3,hc,hf,rn,q0]
       · cases ok with
         |true=>exact VA.je.2 ⟨.p _ _ (.sc _),.p _ _ (.sc _),trivial⟩
         |false=>exact .p _ _ (.sc _)
     · cases he
   · cases he
 · exact vS h hx hk he
theorem tP (h:Rel g m w) {x k v a:AV} {cx ck cv:Value} {t:TypeId} {us:mW} (hx:VA g w x cx) (hk:VA g w k ck) (hv:VA g w v cv)
  (he:vi P (fun i=>m.getD i .dead) t x k v=some (a,us,true)) :
  ∃w',(sm t cx ck cv).run P w = .ok () w'∧a = .bk []∧Rel g (apply m us) w'∧Ext g w g w'∧cr g m w g (apply m us) w':=by
 unfold vi at he
 split at he
 · rename_i ns hs
   obtain⟨b,r,bs,clock,l,rfl,h1,h2,rfl,h3,h4,h5⟩:=qH h hx hs
   split at he
   · rename_i b' s Ff
     cases Ff
     obtain rfl:=key_eq hk
     obtain rfl:=key_eq hv
     split at he
     · rename_i ht
       obtain⟨kt,et,t1,t2,t3⟩:=vV g w ht
       simp only[dC,kz,and_true] at he
       obtain⟨rfl,rfl⟩:=he
       have hc : ∀e,(ta e 10000 kt (.string s)).run P w = .ok () w:=fun e=>zd t2 (d:= .string) (k:= .string s) trivial e 9999
       rcases yV h4 s with⟨q0,q1⟩ | ⟨q0,j,e,q1,q2,q3,q4⟩
       · have hf:=yr (w:=w) t2 q1
         have ea:Gm ns s=ns++[s]:=by unfold Gm;rw[q0];rfl
         rw[ea]
         have GM:(qG ns bs).toArray.push {key:= .string s,val:= .bool true,born:=clock}=(qG (ns++[s]) (bs++[clock])).toArray:=by
          have k:=jP (k:= .string s) (cv:= .bool true) (b:=clock) (ks:=ns.map .string) (cs:=ns.map fun _=> .bool true) (bs:=bs) (by simp) (by simpa using h4)
          simp only[qG,ra,pA,List.map_nil]
          rw[←k]
          simp
         obtain⟨e1,e2,e3⟩:=cI w (o':= .map (qG (ns++[s]) (bs++[clock])).toArray (clock+1)) h3
         obtain⟨r1,r2,r3⟩:=h.eX (xQ:= .smap (ns++[s])) (l':=[]) (vs':=[]) h1 h2 e1 e2 rfl rfl rfl e3 ⟨rfl,bs++[clock],clock+1,rfl,by simp[h4]⟩ trivial
         refine⟨_,?_,rfl,r1,r2,r3⟩
         simp[sm,run_underlying t1,yo h3,hc,hf,GM,yv _ h3,rn]
       · have hf:=yr (w:=w) t2 q1
         have ea:Gm ns s=ns:=by unfold Gm;rw[q0];rfl
         rw[ea]
         have hmod:((qG ns bs).modify j fun e=>{key:= .string s,val:= .bool true,born:=e.born})=qG ns bs:=by
          apply List.ext_getElem?
          intro i
          rw[List.getElem?_modify]
          by_cases ij:j=i
          · subst ij
            rw[q2]
            obtain⟨ek,ev,eb⟩:=e
            simp only at q3 q4
            subst q3 q4
            simp
          · simp[ij]
         obtain⟨e1,e2,e3⟩:=cI w (o':= .map (qG ns bs).toArray clock) h3
         obtain⟨r1,r2,r3⟩:=h.eX (xQ:= .smap ns) (l':=[]) (vs':=[]) h1 h2 e1 e2 rfl rfl rfl e3 ⟨rfl,bs,clock,rfl,h4⟩ trivial
         refine⟨_,?_,rfl,r1,r2,r3⟩
         have hsame:tc 10000 (.string s) (.string s)=true:=by simp[tc,Fs]
         simp[sm,run_underlying t1,yo h3,hc,hf,tp,hsame,yv _ h3,rn,q2,q3,hmod]
     · cases he
   · cases he
 · exact qF h hx hk hv he
theorem yW {t e:TypeId} (hd:P.underlying t=some (.pointer e)) (a:Addr):(Hb t (.pointer (some a)) (.pointer none)).run P w = .ok false w∧(Hb t (.pointer none) (.pointer (some a))).run P w = .ok false w:=by
 refine⟨?_,?_⟩
 · show(Ha (9999+1) t _ _).run P w = .ok false w
   rw[Ha];simp only[la,run_underlying hd,lj];rfl
 · show(Ha (9999+1) t _ _).run P w = .ok false w
   rw[Ha];simp only[la,run_underlying hd,lj];rfl
theorem yY {t k e:TypeId} (hd:P.underlying t=some (.map k e)) (a:Nat):(Hb t (.map (some a)) (.map none)).run P w = .ok false w∧(Hb t (.map none) (.map (some a))).run P w = .ok false w:=by
 refine⟨?_,?_⟩
 · show(Ha (9999+1) t _ _).run P w = .ok false w
   rw[Ha];simp only[la,run_underlying hd,lj];rfl
 · show(Ha (9999+1) t _ _).run P w = .ok false w
   rw[Ha];simp only[la,run_underlying hd,lj];rfl
theorem fG (op:BinOp) (t:TypeId) (a b:Operand):(∀p q,(eqGuard op t a b (.pointer p) (.pointer q)).run P w = .ok () w) ∧ ∀p q,(eqGuard op t a b (.map p) (.map q)).run P w = .ok () w:=by
 refine⟨fun p q=> ?_,fun p q=> ?_⟩<;>(unfold eqGuard;cases op<;>rfl)
theorem me (t:TypeId) {cx cy:Value} (h:(∃p q,cx = .pointer p∧cy = .pointer q) ∨ ∃p q,cx = .map p∧cy = .map q) (op:BinOp) (ho:op = .eql∨op = .neq) :
  binOp op t cx cy=(do let r ←Hb t cx cy;pure (.bool (if op = .eql then r else !r)):Sem Value):=by
 rcases h with⟨p,q,rfl,rfl⟩ | ⟨p,q,rfl,rfl⟩<;>rcases ho with rfl | rfl<;>rfl
theorem vW {d:TypeDesc} {x y:AV} {cx cy:Value} (hx:VA g w x cx) (hy:VA g w y cy) (h:yB d x y=true) :
  (∃e a,d = .pointer e∧cx = .pointer (some a)∧cy = .pointer none) ∨ ∃k e a,d = .map k e∧cx = .map (some a)∧cy = .map none:=by
 unfold yB at h
 split at h
 · split at h
   · obtain rfl:=key_eq hy
     split at h
     · rw[VA.pv] at hx
       cases hx
       exact .inl ⟨_,_,rfl,rfl,rfl⟩
     · cases hx
       exact .inl ⟨_,_,rfl,rfl,rfl⟩
     · cases h
   · cases h
 · split at h
   · obtain rfl:=key_eq hy
     split at h
     · cases hx
       exact .inr ⟨_,_,_,rfl,rfl,rfl⟩
     · cases h
   · cases h
 · cases h
theorem BK {ρ:Operand→AV} {bF:Operand→Value} (hr : ∀x,VA g w (ρ x) (bF x)) {o:Oper} {op:BinOp} {t yt:TypeId} {x y:Operand} (ho:o.op = .binOp op t x y yt) {a:AV} {us:mW} {ok:Bool} (he:DY P op t (ρ x) (ρ y)=some (a,us,ok)) :
  us=[] ∧ ∃v,(execOp bF o).run P w = .ok (.value v) w∧VA g w a v:=by
 unfold DY at he
 split at he
 · rename_i d hd
   have key:yB d (ρ x) (ρ y)=true∨yB d (ρ y) (ρ x)=true→(∀op':BinOp,(eqGuard op' t x y (bF x) (bF y)).run P w = .ok () w)∧(Hb t (bF x) (bF y)).run P w = .ok false w∧((∃p q,bF x = .pointer p∧bF y = .pointer q) ∨ ∃p q,bF x = .map p∧bF y = .map q):=by
    rintro (h | h)
    · rcases vW (hr x) (hr y) h with⟨e,a,rfl,e1,e2⟩ | ⟨k,e,a,rfl,e1,e2⟩
      · rw[e1,e2]
        exact⟨fun op'=>(fG op' t x y).1 _ _,(yW hd _).1,.inl ⟨_,_,rfl,rfl⟩⟩
      · rw[e1,e2]
        exact⟨fun op'=>(fG op' t x y).2 _ _,(yY hd _).1,.inr ⟨_,_,rfl,rfl⟩⟩
    · rcases vW (hr y) (hr x) h with⟨e,a,rfl,e1,e2⟩ | ⟨k,e,a,rfl,e1,e2⟩
      · rw[e1,e2]
        exact⟨fun op'=>(fG op' t x y).1 _ _,(yW hd _).2,.inl ⟨_,_,rfl,rfl⟩⟩
      · rw[e1,e2]
        exact⟨fun op'=>(fG op' t x y).2 _ _,(yY hd _).2,.inr ⟨_,_,rfl,rfl⟩⟩
   split at he
   · rename_i hok
     rw[kx] at hok
     obtain⟨k1,k2,k3⟩:=key hok
     simp only[dC,kz] at he
     obtain⟨rfl,rfl,_⟩:=he
     refine⟨rfl,.bool false,?_,.p _ _ (.sc _)⟩
     simp only[execOp,ho,la,k1,lj,me t k3 _ (.inl rfl),k2,lh]
     rfl
   · rename_i hok
     rw[kx] at hok
     obtain⟨k1,k2,k3⟩:=key hok
     simp only[dC,kz] at he
     obtain⟨rfl,rfl,_⟩:=he
     refine⟨rfl,.bool true,?_,.p _ _ (.sc _)⟩
     simp only[execOp,ho,la,k1,lj,me t k3 _ (.inr rfl),k2,lh]
     rfl
   · cases he
 · cases he
end
section
variable {P:Program} {g:Gh} {m:Mem} {w:World}
theorem Rel.move (h:Rel g m w) {b aO c:Nat} {k:fR} {l:List AV} (hb:m[b]? = some (.ob k l)) (hc:g.aP b=some c) (hn:m[aO]? = some .free) :
  Rel (g.put aO c (g.lo b) (g.hi b)) ((m.set b .dead).set aO (.ob k l)) w∧Ext g w (g.put aO c (g.lo b) (g.hi b)) w∧cr g m w (g.put aO c (g.lo b) (g.hi b)) ((m.set b .dead).set aO (.ob k l)) w:=by
 have hne:b≠aO:=fun e=>by subst e;rw[hb] at hn;cases hn
 have hf:=h.free aO hn
 have get : ∀j x,((m.set b .dead).set aO (.ob k l))[j]? = some x→(j=aO∧x = .ob k l)∨x = .dead∨(j≠aO∧j≠b∧m[j]? = some x):=by
  intro j x hj
  rcases aq hj with⟨e,q⟩ | ⟨hjn,q⟩
  · exact .inl ⟨e,q⟩
  · rcases aq q with⟨_,q⟩ | ⟨mU,q⟩
    · exact .inr (.inl q)
    · exact .inr (.inr ⟨hjn,mU,q⟩)
 have bo : ∀j,j≠aO→(g.put aO c (g.lo b) (g.hi b)).aP j=g.aP j:=fun j hj=>by simp[Gh.put,hj]
 have bi:(g.put aO c (g.lo b) (g.hi b)).aP aO=some c:=by simp[Gh.put]
 have ext:Ext g w (g.put aO c (g.lo b) (g.hi b)) w:=⟨fun j c' hj=>by
  have:j≠aO:=fun e=>by subst e;rw[hf] at hj;cases hj
  simp[Gh.put,this,hj],fun _ _ p=>⟨p,rfl⟩⟩
 have ne : ∀j x c',j≠b→m[j]? = some x→x.bX=true→g.aP j=some c'→c'≠c:=fun j x c' mU hj ho dJ e=>mU (h.inj j b x _ c hj hb ho rfl (e▸dJ) hc)
 obtain⟨c0,ob,vs,h1,h2,h3,h4,h5,h6⟩:=h.obs b _ _ hb
 rw[hc] at h1;cases h1
 refine⟨⟨fun j hj=> ?_,fun j hj=> ?_,fun j x kk hj hk=> ?_,fun j c' hj dJ=> ?_,fun j q x x' c' hj hk ho ho' eI ff=> ?_,h.there,fun j kk ll hj=> ?_⟩,ext,⟨df _,fun _ _ _=>rfl,fun _ _ p=>⟨p,rfl⟩,fun _ _ p=> .inl p,fun c' ho=> ?_,rfl,rfl,rfl⟩⟩
 · have hl:=aV hn
   simp only[fh] at hj
   rw[bo j (by omega)];exact h.rJ j hj
 · rcases get j _ hj with⟨_,e⟩ | e | ⟨hjn,_,e⟩
   · cases e
   · cases e
   · rw[bo j hjn];exact h.free j e
 · rcases get j _ hj with⟨_,e⟩ | e | ⟨hjn,mU,e⟩
   · subst e;cases hk
   · subst e;cases hk
   · obtain⟨c1,cs1,e1,n1,q1,q2,q3,q4,q5⟩:=h.cells j x kk e hk
     exact⟨c1,cs1,e1,n1,(bo j hjn).trans q1,q2,q3,q4.mono ext,q5⟩
 · rcases get j _ hj with⟨_,e⟩ | e | ⟨hjn,mU,e⟩
   · cases e
   · cases e
   · rw[bo j hjn] at dJ
     obtain⟨cs1,e1,n1,q2,q3,q4,q5⟩:=h.tok j c' e dJ
     have e1:(g.put aO c (g.lo b) (g.hi b)).hi j=g.hi j:=by simp[Gh.put,hjn]
     have e2:(g.put aO c (g.lo b) (g.hi b)).lo j=g.lo j:=by simp[Gh.put,hjn]
     rw[e1,e2]
     exact⟨cs1,_,n1,q2,q3,q4,q5⟩
 · rcases get j _ hj with⟨rfl,e⟩ | e | ⟨hjn,mU,e⟩
   · rcases get q _ hk with⟨rfl,_⟩ | e' | ⟨GN,Oe,e'⟩
     · rfl
     · subst e';simp[aH.bX] at ho'
     · rw[bi] at eI;cases eI
       rw[bo q GN] at ff
       exact absurd rfl (ne q x' _ Oe e' ho' ff)
   · subst e;simp[aH.bX] at ho
   · rcases get q _ hk with⟨rfl,_⟩ | e' | ⟨GN,Oe,e'⟩
     · rw[bi] at ff;cases ff
       rw[bo j hjn] at eI
       exact absurd rfl (ne j x _ mU e ho eI)
     · subst e';simp[aH.bX] at ho'
     · rw[bo j hjn] at eI;rw[bo q GN] at ff
       exact h.inj j q x x' c' e e' ho ho' eI ff
 · rcases get j _ hj with⟨rfl,e⟩ | e | ⟨hjn,mU,e⟩
   · cases e
     exact⟨c,ob,vs,bi,h2,h3.mono ext,h4,h5,by simpa[Gh.put] using h6⟩
   · cases e
   · obtain⟨c1,o1,vs1,q1,q2,q3,q4,q5,q6⟩:=h.obs j kk ll e
     exact⟨c1,o1,vs1,(bo j hjn).trans q1,q2,q3.mono ext,q4,q5,by simpa[Gh.put,hjn] using q6⟩
 · obtain⟨j,x,hj,hx,rK⟩:=ho
   rcases get j _ hj with⟨rfl,e⟩ | e | ⟨hjn,mU,e⟩
   · rw[bi] at rK;cases rK
     exact .inl ⟨b,_,hb,rfl,hc⟩
   · subst e;simp[aH.bX] at hx
   · rw[bo j hjn] at rK
     exact .inl ⟨j,x,e,hx,rK⟩
theorem vX {α:Type} : ∀(n l:List α) (o:Nat),o+n.length≤l.length→(bM l o n).take (o+n.length)=l.take o++n
 |[],l,o,_=>by simp[bM]
 |v::n,l,o,h=>by
  simp only[pa] at h
  have:=vX n (l.set o v) (o+1) (by simp;omega)
  simp only[bM,pa]
  rw[show o+(n.length+1)=o+1+n.length by omega,this,List.take_succ_eq_append_getElem (by simp;omega),rb,List.set_eq_of_length_le (by simp;omega)]
  simp
theorem BL (h:Rel g m w) {b c:Nat} {l:List AV} (hl:jw (m.getD b .dead)=some l) (hc:g.aP b=some c) :
  ∃cs e n,w.heap[c]? = some (.cells cs e n)∧n.2≤n.1∧bN g w l (cs.toList.take l.length)∧l.length≤cs.size ∧ ∀v∈cs.toList,v.oneCell'=true:=by
 have cells : ∀x,m[b]? = some x→x.cells?=some l → ∃cs e n,w.heap[c]? = some (.cells cs e n)∧n.2≤n.1∧bN g w l (cs.toList.take l.length)∧l.length≤cs.size ∧ ∀v∈cs.toList,v.oneCell'=true:=by
  intro x hx hxl
  obtain⟨c',cs,e,n,k1,k2,k3,k4,k5⟩:=h.cells b x l hx hxl
  rw[hc] at k1;cases k1
  have hlen:=k4.1.len
  simp only[jb] at hlen
  exact⟨cs,e,n,k2,k3,by rw[hlen,fe (by simp)];exact k4.1,by omega,k4.2⟩
 generalize hx:m.getD b .dead=x at hl
 unfold jw at hl
 split at hl
 · simp only[dC] at hl;subst hl
   exact cells _ (getD_some hx (by simp)) rfl
 · simp only[dC] at hl;subst hl
   exact cells _ (getD_some hx (by simp)) rfl
 · simp only[dC] at hl;subst hl
   obtain⟨c',ob,vs,k1,k2,k3,k4,_,_⟩:=h.obs b _ _ (getD_some hx (by simp))
   rw[hc] at k1;cases k1
   obtain⟨cs,e,n,rfl,_,q0,q1,q2,q3⟩:=k4
   have hlen:=k3.len
   exact⟨cs,e,n,k2,q0,by rw[hlen,←q1];exact k3,by omega,q3⟩
 · cases hl
theorem bN.Of {l:List PV} {vs:List Value} (h:rI g w l vs):bN g w (l.map .p) vs:=aW.cS (by simpa using h.len) fun i a b=>by
 have:=h.get i (by simpa using a) b
 rw[eQ];exact .p _ _ this
theorem eK (h:Rel g m w) {sz n:Nat} {x:AV} {cx:Value} {l:List AV} (he:cw (fun i=>m.getD i .dead) sz x=some (n,l,true)) (hx:VA g w x cx) :
  ∃vs:List Value,bN g w l vs∧vs.length=n*sz∧(∀v∈vs,v.oneCell'=true)∧(nd cx).run P w = .ok n w ∧ ∀k,k≤n→(nc sz k cx).run P w = .ok (vs.take (k*sz)).toArray w:=by
 unfold cw at he
 split at he
 · rename_i n' bV ok hc
   simp only[dC,kz] at he
   obtain⟨rfl,rfl,rfl⟩:=he
   obtain⟨vs,h1,h2,h3,h4,h5⟩:=ep (P:=P) h hc hx
   exact⟨vs,bN.Of h1,h2,h3,h4,h5⟩
 · split at he
   · rename_i b off len s cap _
     split at he
     · rename_i l0 hb
       simp only[dC,kz,dv,ic] at he
       obtain⟨rfl,rfl,rfl,h1⟩:=he
       have h1:=gv h1
       cases hx with
       |ms _ _ _ _ cap c hc hcap=>
       obtain⟨c',cs,e,q,k1,k2,k3,k4,k5⟩:=h.cells b _ _ (getD_some hb (by simp)) rfl
       rw[hc] at k1;cases k1
       have hone:=k4.2
       have xZ:=k4.1
       have hlen:=xZ.len
       simp only[jb] at hlen
       have hvl:((cs.toList.drop off).take (len*s)).length=len*s:=by
        rw[fl,List.length_drop,jb];omega
       refine⟨(cs.toList.drop off).take (len*s),nj ((xZ.drop off).take (len*s)),hvl,fun v hv=>hone v (List.mem_of_mem_drop (ed hv)),by simp[nd],fun k hk=> ?_⟩
       have hl:(((cs.toList.drop off).take (len*s)).take (k*s)).length=k*s:=by
        rw[fl,hvl];exact rp (ie _ hk)
       have:=run_loadCells_list (P:=P) w ⟨c,off,none⟩ (((cs.toList.drop off).take (len*s)).take (k*s)) (fun j v hj=>by
        rw[cB,aM k2]
        rw[dT] at hj
        split at hj
        · rw[dT] at hj
          split at hj
          · rw[eh] at hj;simpa using hj
          · cases hj
        · cases hj)
       rw[hl] at this
       simpa[nc] using this
     · cases he
   · cases he
theorem vY (h:Rel g m w) {sz n:Nat} {x:AV} {cx:Value} {l:List AV} (he:cw (fun i=>m.getD i .dead) sz x=some (n,l,true)) (hx:VA g w x cx) :
  ∃vs:List Value,bN g w l vs∧vs.length=n*sz∧(∀v∈vs,v.oneCell'=true)∧(nd cx).run P w.drew = .ok n w.drew ∧ ∀k,k≤n→(nc sz k cx).run P w.drew = .ok (vs.take (k*sz)).toArray w.drew:=by
 obtain⟨h1,h2,_⟩:=h.jK (w':=w.drew) rfl rfl rfl rfl
 obtain⟨vs,k1,k2,k3,k4,k5⟩:=eK (P:=P) h1 he (hx.mono h2)
 exact⟨vs,bN.mono (g:=g) (w:=w.drew) ⟨fun _ _ q=>⟨q,rfl,rfl⟩,fun c o p=>⟨p,(h2.pure c o p).2.symm⟩⟩ k1,k2,k3,k4,k5⟩
theorem BM (K:fR) (h:Rel g m w) {aO:Nat} (hn:m[aO]? = some .free) {argTypes:Array TypeId} {ty sType xType elem:TypeId} {d:TypeDesc} {info:TypeInfo} {z:List AV} {x:AV} {cx:Value} {n:Nat} {bV:List AV} {ad:Option Addr} {len cap:Nat} {l:List AV} {vs:List Value}
  (hs0:argTypes[0]? = some sType) (hx0:argTypes[1]? = some xType) (hu:P.underlying sType=some (.slice elem)) (rY:P.underlying xType=some d) (hd : ∀k,d ≠ .int k) (hi:P.info? elem=some info) (hz:zeroCells P elem=some z)
  (hx:VA g w x cx) (fF:cw (fun i=>m.getD i .dead) info.size x=some (n,bV,true)) (h2:1≤info.size) (h3:z.length=info.size) (h4:(len+n)*info.bytes≤b7) (h5:len+n≤b7)
  (hl:bN g w l vs) (hone : ∀v∈vs,v.oneCell'=true) (hvl:vs.length=len*info.size) (jO:(nc info.size len (.slice ad len cap)).run P w.drew = .ok vs.toArray w.drew) (dM : ¬len+n≤cap)
  (hK : ∀(all:Array Value) (vx zs:List Value),bN g w bV vx→all.toList=vs++vx++zs→(vs++vx).length≤all.size→(∀v∈all.toList,v.oneCell'=true)→(∀v∈zs,∃a∈z,VA g w a v)→all.size≤9223372036854775807*info.size→K.is (.cells all elem) (vs++vx)∧K.room (.cells all elem) all.size) :
  ∃newCap g' w',(((do pure (.value (←xi argTypes ty #[.slice ad len cap,cx])):Sem Next)).run P w) = .ok (.value (.slice (some ⟨w.heap.size,0,none⟩) (len+n) newCap)) w' ∧
   Rel g' (m.set aO (.ob K (l++bV))) w'∧Ext g w g' w'∧cr g m w g' (m.set aO (.ob K (l++bV))) w'∧VA g' w' (.ms aO 0 (len+n) info.size none) (.slice (some ⟨w.heap.size,0,none⟩) (len+n) newCap):=by
 obtain⟨zv,z1,z2⟩:=cj (g:=g) (w:=w) hz
 have hzl:=z2.1.len
 simp only[jb] at hzl
 have hzs:zv.cells.size=info.size:=by omega
 have hsz:fj P elem=some info.size:=by simp[fj,hi]
 unfold b7 at h4 h5
 obtain⟨_,_,_,_,l3,_⟩:=eK (P:=P) h fF hx
 obtain⟨vx,x1,x2,ya,x3,x4⟩:=vY (P:=P) h fF hx
 have x5:=x4 n (df _)
 rw[fe (by omega)] at x5
 obtain⟨d1,d2,d3⟩:=h.jK (w':=w.drew) rfl rfl rfl rfl
 have kK:=kU (len+n) cap elem (w.tape w.drawn (.appendCap (len+n) cap elem))
 have Og:(wy (len+n) cap elem).cut (w.tape w.drawn (.appendCap (len+n) cap elem))≤9223372036854775807:=by
  have hlt:=sg (w.tape w.drawn (.appendCap (len+n) cap elem)) (show 0<2 ^ 63-(len+n) by omega)
  show len+n+w.tape w.drawn (.appendCap (len+n) cap elem)%(2 ^ 63-(len+n))≤9223372036854775807
  omega
 generalize hnc:(wy (len+n) cap elem).cut (w.tape w.drawn (.appendCap (len+n) cap elem))=newCap at kK Og
 have vM:(xf zv.cells (newCap-(len+n))).size=(newCap-(len+n))*info.size:=by simp[xf,hzs]
 have hmul:(len+n)*info.size=len*info.size+n*info.size:=rr _ _ _
 have hall:(vs.toArray++vx.toArray++xf zv.cells (newCap-(len+n))).size=newCap*info.size:=by
  simp only[oi,pD,vM,hvl,x2]
  rw[im,hmul]
  have:=ie info.size kK
  rw[hmul] at this
  omega
 have Oh : ∀v∈(xf zv.cells (newCap-(len+n))).toList,v.oneCell'=true:=by
  intro v hv
  simp only[xf,kb,gg] at hv
  obtain⟨i,_,rfl⟩:=hv
  have hlt:i%zv.cells.size<zv.cells.size:=sg _ (by omega)
  rw[getElem!_pos zv.cells _ hlt]
  exact z2.2 _ (by simp)
 have QE : ∀v∈(xf zv.cells (newCap-(len+n))).toList,∃a∈z,VA g w a v:=by
  intro v hv
  simp only[xf,kb,gg] at hv
  obtain⟨i,_,rfl⟩:=hv
  have hlt:i%zv.cells.size<zv.cells.size:=sg _ (by omega)
  rw[getElem!_pos zv.cells _ hlt]
  have Sv:i%zv.cells.size<z.length:=by omega
  exact⟨z[i%zv.cells.size],List.getElem_mem Sv,by have:=z2.1.get (i%zv.cells.size) Sv (by simpa using hlt);rwa [Array.getElem_toList] at this⟩
 generalize Ak:vs.toArray++vx.toArray++xf zv.cells (newCap-(len+n))=all at hall
 have nk:all.toList=vs++vx++(xf zv.cells (newCap-(len+n))).toList:=by rw[←Ak];simp
 have vO:pH w (w.drew.alloc (.cells all elem)) (.cells all elem):=⟨rfl,rfl,rfl,rfl⟩
 have xZ:bN g w (l++bV) (vs++vx):=hl.append x1
 have JA : ∀v∈all.toList,v.oneCell'=true:=fun v hv=>by
  rw[nk] at hv
  rcases pn.1 hv with q | q
  · rcases pn.1 q with q | q
    · exact hone v q
    · exact ya v q
  · exact Oh v q
 have Sw:=hK all vx _ x1 nk (by rw[hall,ei,hvl,x2,←hmul];exact ie _ kK) JA QE (by rw[hall];exact ie _ Og)
 obtain⟨r1,r2,r3⟩:=h.qx all.size (ob:=K) (l:=l++bV) (vs:=vs++vx) hn xZ vO
  Sw.1 Sw.2
 refine⟨newCap,_,_,?_,r1,r2,r3,.mg aO 0 _ _ newCap w.heap.size (by simp[Gh.put]) kK (by simp[Gh.put,hall])⟩
 have LO : ¬(((len+n:Nat):Int)>vj.max):=by
  rw[show vj.max=9223372036854775807 from by decide];omega
 have hgrow : ¬(xo (len+n) cap*info.bytes>2 ^ 48):=by
  have:=growslice_fits (need:=len+n) (old:=cap) (bytes:=info.bytes) (by omega) (by omega)
  omega
 simp only[xi,hs0,hx0,pf,o0,o6,la,run_underlying hu,lj,aD hsz,run_underlying rY,lh,rh,if_false,l3,dM,rk,LO,false_and,eO hi,hgrow,run_choose,xc,hnc,uv,run_askRoom,jO,x5,z1,Ak,if_true,newRow,run_newObj,ua,ub]
theorem As (pq:Bool) (h:Rel g m w) {aO:Nat} (hn:m[aO]? = some .free) {argTypes:Array TypeId} {ty sType xType elem:TypeId} {d:TypeDesc} {info:TypeInfo} {z:List AV} {x:AV} {cx:Value} {n:Nat} {bV:List AV} {ad:Option Addr} {len cap:Nat} {l:List AV} {vs:List Value}
  (hs0:argTypes[0]? = some sType) (hx0:argTypes[1]? = some xType) (hu:P.underlying sType=some (.slice elem)) (rY:P.underlying xType=some d) (hd : ∀k,d ≠ .int k) (hi:P.info? elem=some info) (hz:zeroCells P elem=some z)
  (hx:VA g w x cx) (fF:cw (fun i=>m.getD i .dead) info.size x=some (n,bV,true)) (h2:1≤info.size) (h3:z.length=info.size) (h4:(len+n)*info.bytes≤b7) (h5:len+n≤b7)
  (hl:bN g w l vs) (hone : ∀v∈vs,v.oneCell'=true) (hvl:vs.length=len*info.size) (jO:(nc info.size len (.slice ad len cap)).run P w.drew = .ok vs.toArray w.drew) (dM : ¬len+n≤cap) :
  ∃newCap g' w',(((do pure (.value (←xi argTypes ty #[.slice ad len cap,cx])):Sem Next)).run P w) = .ok (.value (.slice (some ⟨w.heap.size,0,none⟩) (len+n) newCap)) w' ∧
   Rel g' (m.set aO (.ob (.gr elem pq) (l++bV))) w'∧Ext g w g' w'∧cr g m w g' (m.set aO (.ob (.gr elem pq) (l++bV))) w'∧VA g' w' (.ms aO 0 (len+n) info.size none) (.slice (some ⟨w.heap.size,0,none⟩) (len+n) newCap):=
 BM (.gr elem pq) h hn hs0 hx0 hu rY hd hi hz hx fF h2 h3 h4 h5 hl hone hvl jO dM fun all vx zs _ nk hle Oi _ _=>
  ⟨⟨all,elem,(0,0),rfl,rfl,df _,by rw[nk,pw (df _),qs],hle,Oi⟩,rfl⟩
theorem iT : ∀{l:List AV} {vs:List Value},allBy l=true→bN g w l vs → ∀v∈vs,∃k,v = .int .u8 k
 |[],[],_,_=>fun v hv=>by cases hv
 |a::l,v::vs,h,k=>by
  simp only[allBy,dv] at h
  intro u hu
  cases hu with
  |head=>
   have hk:=k.1
   have h1:=h.1
   match a,h1,hk with
   |.p (.sc (.int .u8 n)),_,hk=>
    rw[VA.pv] at hk
    cases hk
    exact⟨n,rfl⟩
  |tail _ hu=>exact iT h.2 k.2 u hu
 |[],_::_,_,h=>h.elim
 |_::_,[],_,h=>h.elim
theorem yZ : ∀{l:List AV},allBy l=true → ∀a∈l,allBy [a]=true
 |x::l,h,a,ha=>by
  simp only[allBy,dv] at h
  cases ha with
  |head=>simp[allBy,h.1]
  |tail _ ha=>exact yZ h.2 a ha
theorem BN (h:Rel g m w) {aO:Nat} (hn:m[aO]? = some .free) {argTypes:Array TypeId} {ty sType xType elem:TypeId} {d:TypeDesc} {info:TypeInfo} {z:List AV} {x:AV} {cx:Value} {n:Nat} {bV:List AV} {ad:Option Addr} {len cap:Nat} {l:List AV} {vs:List Value}
  (hs0:argTypes[0]? = some sType) (hx0:argTypes[1]? = some xType) (hu:P.underlying sType=some (.slice elem)) (rY:P.underlying xType=some d) (hd : ∀k,d ≠ .int k) (hi:P.info? elem=some info) (hz:zeroCells P elem=some z)
  (hx:VA g w x cx) (fF:cw (fun i=>m.getD i .dead) info.size x=some (n,bV,true)) (h2:1≤info.size) (h3:z.length=info.size) (h4:(len+n)*info.bytes≤b7) (h5:len+n≤b7)
  (hl:bN g w l vs) (ur : ∀v∈vs,∃k,v = .int .u8 k) (LQ:info.size=1) (hbz:allBy z=true) (Qg:allBy bV=true) (hvl:vs.length=len*info.size) (jO:(nc info.size len (.slice ad len cap)).run P w.drew = .ok vs.toArray w.drew) (dM : ¬len+n≤cap) :
  ∃newCap g' w',(((do pure (.value (←xi argTypes ty #[.slice ad len cap,cx])):Sem Next)).run P w) = .ok (.value (.slice (some ⟨w.heap.size,0,none⟩) (len+n) newCap)) w' ∧
   Rel g' (m.set aO (.ob (.gb elem) (l++bV))) w'∧Ext g w g' w'∧cr g m w g' (m.set aO (.ob (.gb elem) (l++bV))) w'∧VA g' w' (.ms aO 0 (len+n) info.size none) (.slice (some ⟨w.heap.size,0,none⟩) (len+n) newCap):=
 BM (.gb elem) h hn hs0 hx0 hu rY hd hi hz hx fF h2 h3 h4 h5 hl (fun v hv=>by obtain⟨k,rfl⟩:=ur v hv;rfl) hvl jO dM fun all vx zs hx1 nk hle _ hzs hsz=>
  ⟨⟨all,elem,(0,0),rfl,rfl,df _,by rw[nk,pw (df _),qs],hle,fun v hv=>by
    rw[nk] at hv
    rcases pn.1 hv with q | q
    · rcases pn.1 q with q | q
      · exact ur v q
      · exact iT Qg hx1 v q
    · obtain⟨a,ha,xZ⟩:=hzs v q
      exact iT (l:=[a]) (vs:=[v]) (yZ hbz a ha) ⟨xZ,trivial⟩ v (.head _),by rw[LQ,Nat.mul_one] at hsz;exact hsz⟩,rfl⟩
theorem run_append_room (h:Rel g m w) {argTypes:Array TypeId} {ty sType xType elem:TypeId} {d:TypeDesc} {info:TypeInfo} {x:AV} {cx:Value} {n:Nat} {bV:List AV} {c len cap:Nat} {cs:Array Value} {e:TypeId} {q:Nat×Nat}
  (hs0:argTypes[0]? = some sType) (hx0:argTypes[1]? = some xType) (hu:P.underlying sType=some (.slice elem)) (rY:P.underlying xType=some d) (hd : ∀k,d ≠ .int k) (hi:P.info? elem=some info)
  (hx:VA g w x cx) (fF:cw (fun i=>m.getD i .dead) info.size x=some (n,bV,true)) (hc:w.heap[c]? = some (.cells cs e q)) (hq:q.2≤q.1) (hroom:(len+n)*info.size≤cs.size) (dM:len+n≤cap) :
  ∃w' cs' vx,(((do pure (.value (←xi argTypes ty #[.slice (some ⟨c,0,none⟩) len cap,cx])):Sem Next)).run P w) = .ok (.value (.slice (some ⟨c,0,none⟩) (len+n) cap)) w' ∧
   bN g w bV vx∧vx.length=n*info.size∧(∀v∈vx,v.oneCell'=true)∧cs'.toList=bM cs.toList (len*info.size) vx∧w'.heap[c]? = some (.cells cs' e q) ∧
   (∀k,k≠c→w'.heap[k]? = w.heap[k]?)∧w'.heap.size=w.heap.size∧w'.os=w.os∧w'.tape=w.tape∧w'.output=w.output:=by
 have hsz:fj P elem=some info.size:=by simp[fj,hi]
 obtain⟨vx,x1,x2,ya,x3,x4⟩:=eK (P:=P) h fF hx
 have x5:=x4 n (df _)
 rw[fe (by omega)] at x5
 have hmul:(len+n)*info.size=len*info.size+n*info.size:=rr _ _ _
 obtain⟨w',cs',p1,p2,p3,p4,p5,p6,p7,p8⟩:=gy (P:=P) c (len*info.size) vx 0 w cs e q hc (fun j hj=> .inl hq) (by omega) ya
 simp only[rv] at p3
 refine⟨w',cs',vx,?_,x1,x2,ya,p3,p2,p4,p5,p6,p7,p8⟩
 have GJ:(⟨c,0,none⟩:Addr).add (len*info.size)=⟨c,len*info.size,none⟩:=by rw[cB,sa]
 simp only[xi,hs0,hx0,pf,o0,o6,la,run_underlying hu,lj,aD hsz,run_underlying rY,lh,rh,if_false,x3,dM,if_true,rk,x5,GJ,p1]
theorem nr {c len cap sz:Nat} {cs:Array Value} {e:TypeId} {q:Nat×Nat} (hc:w.heap[c]? = some (.cells cs e q)) (hl:len*sz≤cs.size) :
  (nc sz len (.slice (some ⟨c,0,none⟩) len cap)).run P w = .ok (cs.toList.take (len*sz)).toArray w:=by
 have:=run_loadCells_list (P:=P) w ⟨c,0,none⟩ (cs.toList.take (len*sz)) (fun j v hj=>by
  rw[cB,sa,aM hc]
  rw[dT] at hj
  split at hj
  · simpa using hj
  · cases hj)
 rw[fl,jb,rp hl] at this
 simpa[nc] using this
theorem nu (h:Rel g m w) {aO:Nat} (hn:m[aO]? = some .free) {argTypes:Array TypeId} {ty sType xType elem t:TypeId} {d:TypeDesc} {info:TypeInfo} {z:List AV} {x:AV} {cs cx:Value} {b len n:Nat} {pq:Bool} {l bV:List AV}
  (hs0:argTypes[0]? = some sType) (hx0:argTypes[1]? = some xType) (hu:P.underlying sType=some (.slice elem)) (rY:P.underlying xType=some d) (hd' : ∀k,d ≠ .int k) (hi:P.info? elem=some info) (hz:zeroCells P elem=some z)
  (hs:VA g w (.ms b 0 len info.size none) cs) (hx:VA g w x cx) (fF:cw (fun i=>m.getD i .dead) info.size x=some (n,bV,true)) (ur:m[b]? = some (.ob (.gr t pq) l))
  (h2:1≤info.size) (h3:z.length=info.size) (h4:(len+n)*info.bytes≤b7) (h5:len+n≤b7) (h7:len*info.size≤l.length) (h8:t=elem) :
  bR g m w (((do pure (.value (←xi argTypes ty #[cs,cx])):Sem Next)).run P w) (.ms aO 0 (len+n) info.size none) (apply m [(b,.dead),(aO,.ob (.gr t (pq&&jE (fun i=>m.getD i .dead) info.size x)) (l.take (len*info.size)++bV))]):=by
 subst h8
 cases hs with
 |mg _ _ _ _ cap c hc hcap hroom=>
 have hne:b≠aO:=fun e=>by subst e;rw[ur] at hn;cases hn
 obtain⟨c',ob,vs,k1,k2,k3,k4,k5,k6⟩:=h.obs b _ _ ur
 rw[hc] at k1;cases k1
 obtain⟨cells,e,q,rfl,qt,q0,q1,q2,q3⟩:=k4
 have BC:=k3.len
 have k6:cells.size=g.hi b:=k6
 have hmul:(len+n)*info.size=len*info.size+n*info.size:=rr _ _ _
 by_cases dM:len+n≤cap
 · have LN:(len+n)*info.size≤cap*info.size:=ie _ dM
   obtain⟨w',cs',vx,r0,x1,x2,ya,p3,p2,p4,p5,p6,p7,p8⟩:=run_append_room (P:=P) (ty:=ty) h hs0 hx0 hu rY hd' hi hx fF k2 q0 (by omega) dM
   have Fa:=x1.len
   have hsize:cs'.size=cells.size:=by
    have:=congrArg pC p3
    rw[gG] at this;simpa using this
   have xZ:bN g w (l.take (len*info.size)++bV) (vs.take (len*info.size)++vx):=(k3.take _).append x1
   have Lh:(vs.take (len*info.size)).length=len*info.size:=by rw[fl];omega
   obtain⟨r1,r2,r3⟩:=h.eX (xQ:= .gr t (pq&&jE (fun i=>m.getD i .dead) info.size x)) (l':=l.take (len*info.size)++bV) (vs':=vs.take (len*info.size)++vx) ur hc p4 p5 p6 p7 p8 p2
    ⟨cs',e,q,rfl,qt,q0,by
      rw[ei,Lh,p3,vX vx cells.toList _ (by simp;omega),q1,pr,rp (by omega)],by rw[ei,Lh,x2,hsize];omega,fun v hv=>by
      rw[p3] at hv
      exact iS _ _ _ q3 ya v hv⟩ xZ (by show cs'.size=g.hi b;rw[hsize];exact k6)
   have hb':(m.set b (.ob (.gr t (pq&&jE (fun i=>m.getD i .dead) info.size x)) (l.take (len*info.size)++bV)))[b]? = some (.ob (.gr t (pq&&jE (fun i=>m.getD i .dead) info.size x)) (l.take (len*info.size)++bV)):=by rw[oT (aV ur)]
   obtain⟨s1,s2,s3⟩:=r1.move hb' hc (by rw[ph hne];exact hn)
   rw[po] at s1 s3
   exact⟨_,w',_,.inl r0,.mg aO 0 _ _ cap c (by simp[Gh.put]) dM (by simp[Gh.put];omega),s1,r2.trans s2,r3.trans s3⟩
 · have jO:=nr (P:=P) (w:=w.drew) (c:=c) (len:=len) (cap:=cap) (sz:=info.size) k2 (by omega)
   have QF:vs.take (len*info.size)=cells.toList.take (len*info.size):=by rw[q1,pr,rp (by omega)]
   obtain⟨newCap,g',w',r0,r1,r2,r3,r4⟩:=As (P:=P) (pq&&jE (fun i=>m.getD i .dead) info.size x) (ty:=ty) (l:=l.take (len*info.size)) (vs:=cells.toList.take (len*info.size)) h hn hs0 hx0 hu rY hd' hi hz hx fF h2 h3 h4 h5 (by rw[←QF];exact k3.take _)
    (fun v hv=>q3 v (ed hv)) (by rw[fl,jb];omega) jO dM
   obtain⟨t1,t2⟩:=r1.kill b
   have e1:((m.set aO (.ob (.gr t (pq&&jE (fun i=>m.getD i .dead) info.size x)) (l.take (len*info.size)++bV))).set b .dead)=apply m [(b,.dead),(aO,.ob (.gr t (pq&&jE (fun i=>m.getD i .dead) info.size x)) (l.take (len*info.size)++bV))]:=by
    simp only[apply]
    exact rf _ _ (fun e=>hne e.symm)
   rw[e1] at t1 t2
   exact⟨_,w',g',.inl r0,r4,t1,r2,r3.trans t2⟩
theorem vZ (h:Rel g m w) {aO:Nat} (hn:m[aO]? = some .free) {argTypes:Array TypeId} {ty sType xType elem t:TypeId} {d:TypeDesc} {info:TypeInfo} {z:List AV} {x:AV} {cs cx:Value} {b len n:Nat} {l bV:List AV}
  (hs0:argTypes[0]? = some sType) (hx0:argTypes[1]? = some xType) (hu:P.underlying sType=some (.slice elem)) (rY:P.underlying xType=some d) (hd' : ∀k,d ≠ .int k) (hi:P.info? elem=some info) (hz:zeroCells P elem=some z)
  (hs:VA g w (.ms b 0 len info.size none) cs) (hx:VA g w x cx) (fF:cw (fun i=>m.getD i .dead) info.size x=some (n,bV,true)) (ur:m[b]? = some (.ob (.gb t) l)) (LQ:info.size=1) (hbz:allBy z=true) (Qg:allBy bV=true)
  (h2:1≤info.size) (h3:z.length=info.size) (h4:(len+n)*info.bytes≤b7) (h5:len+n≤b7) (h7:len*info.size≤l.length) (h8:t=elem) :
  bR g m w (((do pure (.value (←xi argTypes ty #[cs,cx])):Sem Next)).run P w) (.ms aO 0 (len+n) info.size none) (apply m [(b,.dead),(aO,.ob (.gb t) (l.take (len*info.size)++bV))]):=by
 subst h8
 cases hs with
 |mg _ _ _ _ cap c hc hcap hroom=>
 have hne:b≠aO:=fun e=>by subst e;rw[ur] at hn;cases hn
 obtain⟨c',ob,vs,k1,k2,k3,k4,k5,k6⟩:=h.obs b _ _ ur
 rw[hc] at k1;cases k1
 obtain⟨cells,e,q,rfl,qt,q0,q1,q2,q3,q4⟩:=k4
 have BC:=k3.len
 have k6:cells.size=g.hi b:=k6
 have hmul:(len+n)*info.size=len*info.size+n*info.size:=rr _ _ _
 by_cases dM:len+n≤cap
 · have LN:(len+n)*info.size≤cap*info.size:=ie _ dM
   obtain⟨w',cs',vx,r0,x1,x2,ya,p3,p2,p4,p5,p6,p7,p8⟩:=run_append_room (P:=P) (ty:=ty) h hs0 hx0 hu rY hd' hi hx fF k2 q0 (by omega) dM
   have Fa:=x1.len
   have hsize:cs'.size=cells.size:=by
    have:=congrArg pC p3
    rw[gG] at this;simpa using this
   have xZ:bN g w (l.take (len*info.size)++bV) (vs.take (len*info.size)++vx):=(k3.take _).append x1
   have Lh:(vs.take (len*info.size)).length=len*info.size:=by rw[fl];omega
   obtain⟨r1,r2,r3⟩:=h.eX (xQ:= .gb t) (l':=l.take (len*info.size)++bV) (vs':=vs.take (len*info.size)++vx) ur hc p4 p5 p6 p7 p8 p2
    ⟨cs',e,q,rfl,qt,q0,by
      rw[ei,Lh,p3,vX vx cells.toList _ (by simp;omega),q1,pr,rp (by omega)],by rw[ei,Lh,x2,hsize];omega,fun v hv=>by
      rw[p3] at hv
      exact iS (p:=fun v=> ∃k,v = .int .u8 k) _ _ _ q3 (iT Qg x1) v hv,by rw[hsize];exact q4⟩ xZ (by show cs'.size=g.hi b;rw[hsize];exact k6)
   have hb':(m.set b (.ob (.gb t) (l.take (len*info.size)++bV)))[b]? = some (.ob (.gb t) (l.take (len*info.size)++bV)):=by rw[oT (aV ur)]
   obtain⟨s1,s2,s3⟩:=r1.move hb' hc (by rw[ph hne];exact hn)
   rw[po] at s1 s3
   exact⟨_,w',_,.inl r0,.mg aO 0 _ _ cap c (by simp[Gh.put]) dM (by simp[Gh.put];omega),s1,r2.trans s2,r3.trans s3⟩
 · have jO:=nr (P:=P) (w:=w.drew) (c:=c) (len:=len) (cap:=cap) (sz:=info.size) k2 (by omega)
   have QF:vs.take (len*info.size)=cells.toList.take (len*info.size):=by rw[q1,pr,rp (by omega)]
   obtain⟨newCap,g',w',r0,r1,r2,r3,r4⟩:=BN (P:=P) (ty:=ty) (l:=l.take (len*info.size)) (vs:=cells.toList.take (len*info.size)) h hn hs0 hx0 hu rY hd' hi hz hx fF h2 h3 h4 h5 (by rw[←QF];exact k3.take _)
    (fun v hv=>q3 v (ed hv)) LQ hbz Qg (by rw[fl,jb];omega) jO dM
   obtain⟨t1,t2⟩:=r1.kill b
   have e1:((m.set aO (.ob (.gb t) (l.take (len*info.size)++bV))).set b .dead)=apply m [(b,.dead),(aO,.ob (.gb t) (l.take (len*info.size)++bV))]:=by
    simp only[apply]
    exact rf _ _ (fun e=>hne e.symm)
   rw[e1] at t1 t2
   exact⟨_,w',g',.inl r0,r4,t1,r2,r3.trans t2⟩
theorem yc {m:Mem} {b sz:Nat} {t:TypeId} {pre:List Value} {l:List AV} {X:aH} {x:AV} {r:Nat×List AV×Bool} (hb:m[b]? = some (.ob (.stk t pre) l)) (h:cw (fun i=>m.getD i .dead) sz x=some r) :
  cw (fun i=>(m.set b X).getD i .dead) sz x=some r:=by
 have hd:m.getD b .dead = .ob (.stk t pre) l:=by rw[dt,hb];rfl
 have off : ∀i,i≠b→(m.set b X).getD i .dead=m.getD i .dead:=fun i hi=>by
  rw[dt,ph (fun e=>hi e.symm),dt]
 have same : ∀y,(∀o len s cap,y ≠ .ms b o len s cap)→contents (fun i=>(m.set b X).getD i .dead) sz y=contents (fun i=>m.getD i .dead) sz y:=fun y hy=>by
  cases y with
  |p v=>
   cases v with
   |sc u=>cases u<;>rfl
   |_=>rfl
  |ms b' o len s cap=>
   have hb':b'≠b:=fun e=>hy o len s cap (e▸rfl)
   cases cap with
   |none=>
    unfold contents
    dsimp only
    rw[off b' hb']
   |some q=>
    unfold contents
    dsimp only
    rw[off b' hb']
  |_=>rfl
 by_cases hx : ∃o len s cap,x = .ms b o len s cap
 · obtain⟨o,len,s,cap,rfl⟩:=hx
   exfalso
   unfold cw at h
   cases cap with
   |none=>
    have e:contents (fun i=>m.getD i .dead) sz (.ms b o len s none)=none:=by
     unfold contents
     dsimp only
     rw[hd]
    rw[e] at h
    cases h
   |some q=>
    have e:contents (fun i=>m.getD i .dead) sz (.ms b o len s (some q))=none:=by
     unfold contents
     dsimp only
     rw[hd]
    rw[e] at h
    dsimp only at h
    rw[hd] at h
    cases h
 · rw[←h]
   unfold cw
   rw[same x fun o len s cap e=>hx ⟨o,len,s,cap,e⟩]
   cases x with
   |ms b' o len s cap=>
    have hb':b'≠b:=fun e=>hx ⟨o,len,s,cap,e▸rfl⟩
    cases cap with
    |none=>rfl
    |some q=>
     dsimp only
     rw[off b' hb']
   |_=>rfl
theorem v7 (h:Rel g m w) {aO:Nat} (hn:m[aO]? = some .free) {argTypes:Array TypeId} {ty:TypeId} {s x a:AV} {cs cx:Value} {us:mW}
  (hs:VA g w s cs) (hx:VA g w x cx) (he:fk P (fun i=>m.getD i .dead) aO argTypes s x=some (a,us,true)) :
  bR g m w (((do pure (.value (←xi argTypes ty #[cs,cx])):Sem Next)).run P w) a (apply m us):=by
 unfold fk at he
 split at he
 · rename_i sType xType hs0 hx0
   split at he
   · cases he
   · rename_i elem d hd hu rY
     have hd' : ∀k,d ≠ .int k:=fun k e=>hd k e
     split at he
     · rename_i info z hi hz
       split at he
       · rename_i n bV ok fF
         dsimp only at he
         split at he
         ·
          rename_i b len sz
          split at he
          · rename_i t pq l hb
            simp only[dC,kz,dv] at he
            obtain⟨rfl,rfl,⟨rfl,h2,h3,h4,h5⟩,h6,h7,h8⟩:=he
            have h6:=bm h6
            subst h6
            exact nu h hn hs0 hx0 hu rY hd' hi hz hs hx fF (getD_some hb (by simp)) (gv h2) (bm h3) (gv h4) (gv h5) (gv h7) (bm h8)
          ·
           rename_i t l hb
           simp only[dC,kz,dv] at he
           obtain⟨rfl,rfl,⟨rfl,h2,h3,h4,h5⟩,h6,h7,h8,LQ,h9,h10⟩:=he
           have h6:=bm h6
           subst h6
           have h7:=bm h7
           have NK:=vZ (ty:=ty) h hn hs0 hx0 hu rY hd' hi hz hs hx fF (getD_some hb (by simp)) (bm LQ) h9 h10 (gv h2) (bm h3) (gv h4) (gv h5) (si h7) (bm h8)
           rwa [fe (si h7.symm)] at NK
          ·
           rename_i t pre l hb
           simp only[dC,kz,dv] at he
           obtain⟨rfl,rfl,⟨rfl,h2,h3,h4,h5⟩,h6,h7,h8,h9⟩:=he
           have h6:=bm h6
           subst h6
           have ur:=getD_some hb (by simp)
           have Jv:=aV ur
           have hne:b≠aO:=fun e=>by subst e;rw[ur] at hn;cases hn
           have Tc:=gv h7
           have Qh:=gv h9
           obtain⟨hg,hst⟩:=h.CZ ur
           have Td:(m.set b (.ob (.gr t false) (exactly pre++l)))[aO]? = some .free:=by rw[ph hne];exact hn
           obtain⟨v,w',g',o1,o2,o3,o4,o5⟩:=nu (P:=P) (ty:=ty) hg Td hs0 hx0 hu rY hd' hi hz hs hx (yc (X:= .ob (.gr t false) (exactly pre++l)) ur fF) (by rw[oT Jv]) (gv h2) (bm h3) (gv h4) (gv h5)
            (by rw[ei,br];exact Tc) (bm h8)
           have Oj:(exactly pre++l).take (len*info.size)++bV=exactly pre++(l.take (len*info.size-pre.length)++bV):=by
            rw[List.take_append,br,fe (by rw[br];exact Qh),qf]
           simp only[apply,po] at o3 o5
           rw[Oj] at o3 o5
           have NN:aO<(m.set b .dead).length:=by rw[fh];exact aV hn
           obtain⟨z1,z2⟩:=o3.C0 (b:=aO) (by rw[oT NN])
           rw[po] at z1 z2
           exact⟨v,w',g',o1,o2,z1,o4,(hst.trans o5).trans z2⟩
          · cases he
         ·
          rename_i len sz cells
          split at he
          · rename_i hn0
            simp only[dC,kz,dv] at he
            obtain⟨rfl,rfl,rfl,_⟩:=he
            have hn0:=bm hn0
            subst hn0
            have hvs:=hs
            cases hs with
            |os _ _ _ _ ad cap hps xU=>
            have hcap:cap=len:=by
             rcases xU with e | ⟨t,b,o,e,_⟩
             · exact e
             · cases e
            subst hcap
            have hsz:fj P elem=some info.size:=by simp[fj,hi]
            obtain⟨vx,_,_,_,x3,x4⟩:=eK (P:=P) h fF hx
            have x5:=x4 0 (df _)
            simp only[Nat.zero_mul,List.take_zero] at x5
            refine bR.quiet h (v:= .slice ad cap cap) ?_ hvs
            cases ad with
            |none=>simp[xi,hs0,hx0,run_underlying hu,aD hsz,run_underlying rY,x3,x5,rn]
            |some ad=>simp[xi,hs0,hx0,run_underlying hu,aD hsz,run_underlying rY,x3,x5,storeCells,rn]
          rename_i hn0
          split at he
          · rename_i Te
            simp only[dC,kz,dv] at he
            obtain⟨rfl,rfl,⟨rfl,h2,h3,h4,h5⟩,h6,BO,LQ,Sx,Tf⟩:=he
            have h1:1≤n:=by
             rcases sd n with e | e
             · subst e;cases hn0
             · exact e
            have h2:=gv h2
            have h3:=bm h3
            have h4:=gv h4
            have h5:=gv h5
            cases hs with
            |os _ _ _ _ ad cap hps xU=>
            have hcap:cap=len:=by
             rcases xU with e | ⟨t,b,o,e,_⟩
             · exact e
             · cases e
            subst hcap
            have BG:=jq hps h6
            obtain⟨d1,d2,d3⟩:=h.jK (w':=w.drew) rfl rfl rfl rfl
            obtain⟨vs,s1,s2,Jx,s3,s4⟩:=lB (P:=P) (BG.mono d2.pure)
            have s5:=s4 cap (df _)
            rw[fe (by omega)] at s5
            have Jw:=s1.len
            have xZ:bN g w (cells.map .p) vs:=aW.cS (by simpa using Jw) fun i a b=>by
             have:=s1.get i (by simpa using a) b
             rw[eQ]
             exact .p _ _ (this.mono (g:=g) (w:=w.drew) fun c o p=>⟨p,(d2.pure c o p).2.symm⟩)
            obtain⟨newCap,g',w',r0,r1,r2,r3,r4⟩:=BN (P:=P) (ty:=ty) (l:=cells.map .p) (vs:=vs) (cap:=cap) h hn hs0 hx0 hu rY hd' hi hz hx fF h2 h3 h4 h5 xZ (iT BO xZ) (bm LQ) Sx Tf s2 s5 (by omega)
            exact⟨_,w',g',.inl r0,r4,r1,r2,r3⟩
          · rename_i Te
            simp only[dC,kz,dv] at he
            obtain⟨rfl,rfl,⟨rfl,h2,h3,h4,h5⟩,h6⟩:=he
            have h1:1≤n:=by
             rcases sd n with e | e
             · subst e;cases hn0
             · exact e
            have h2:=gv h2
            have h3:=bm h3
            have h4:=gv h4
            have h5:=gv h5
            cases hs with
            |os _ _ _ _ ad cap hps xU=>
            have hcap:cap=len:=by
             rcases xU with e | ⟨t,b,o,e,_⟩
             · exact e
             · cases e
            subst hcap
            have BG:=jq hps h6
            obtain⟨d1,d2,d3⟩:=h.jK (w':=w.drew) rfl rfl rfl rfl
            obtain⟨vs,s1,s2,Jx,s3,s4⟩:=lB (P:=P) (BG.mono d2.pure)
            have s5:=s4 cap (df _)
            rw[fe (by omega)] at s5
            have Jw:=s1.len
            have xZ:bN g w (cells.map .p) vs:=aW.cS (by simpa using Jw) fun i a b=>by
             have:=s1.get i (by simpa using a) b
             rw[eQ]
             exact .p _ _ (this.mono (g:=g) (w:=w.drew) fun c o p=>⟨p,(d2.pure c o p).2.symm⟩)
            obtain⟨newCap,g',w',r0,r1,r2,r3,r4⟩:=As (P:=P) (jE (fun i=>m.getD i .dead) info.size x) (ty:=ty) (l:=cells.map .p) (vs:=vs) (cap:=cap) h hn hs0 hx0 hu rY hd' hi hz hx fF h2 h3 h4 h5 xZ Jx s2 s5 (by omega)
            exact⟨_,w',g',.inl r0,r4,r1,r2,r3⟩
         ·
          rename_i b len sz cap
          split at he
          · rename_i l hl
            cases hs with
            |ms _ _ _ _ cap c hc hcap=>
            obtain⟨cells,e,q,k2,q0,k3,q2,q3⟩:=BL h hl hc
            have hmul:(len+n)*info.size=len*info.size+n*info.size:=rr _ _ _
            cases hr:bj (len+n) cap with
            |true=>
             have dM:=gv hr
             simp only[hr,cond_true] at he
             split at he
             · rename_i b' ok' hp
               simp only[dC,kz,dv] at he
               obtain⟨rfl,rfl,⟨rfl,h2,h3,h4,h5⟩,rfl,h6⟩:=he
               have h6:=bm h6
               subst h6
               obtain⟨UE,x0,UF,_⟩:=eK (P:=P) h fF hx
               have Tg:=x0.len
               have hroom:len*info.size+bV.length≤l.length:=by
                rcases jN hp with⟨l',tB,_,hroom⟩ | ⟨t0,pq,l',tB,_,hroom⟩ | ⟨t0,pre,l',tB,_,_,hroom⟩
                rotate_left 2
                · have tB:m.getD b .dead = .ob (.stk t0 pre) l':=tB
                  rw[tB] at hl;cases hl
                · have:l'=l:=by
                   generalize m.getD b .dead=B at hl tB
                   cases B<;>simp_all [jw,aH.cells?]
                  rw[←this];exact hroom
                · have tB:m.getD b .dead = .ob (.gr t0 pq) l':=tB
                  have:l'=l:=by
                   have hl:jw (m.getD b .dead)=some l:=hl
                   rw[tB] at hl;simpa[jw] using hl
                  rw[←this];rw[vI] at hroom;exact hroom
               have LR:(len+n)*info.size≤cells.size:=by omega
               obtain⟨w',cs',vx,r0,x1,x2,ya,p3,p2,p4,p5,p6,p7,p8⟩:=run_append_room (P:=P) (ty:=ty) h hs0 hx0 hu rY hd' hi hx fF k2 q0 LR dM
               have Fa:=x1.len
               have Sy:bN g w bV vx:=x1
               rcases jN hp with⟨l',tB,JB,C4⟩ | ⟨t0,pq,l',tB,rfl,C4⟩ | ⟨t0,pre,l',tB,rfl,_,C4⟩
               rotate_left 2
               · have tB:m.getD b .dead = .ob (.stk t0 pre) l':=tB
                 rw[tB] at hl;cases hl
               · have hm:m[b]? = some (m.getD b .dead):=getD_some rfl (fun e=>by
                  have tB:(m.getD b .dead).cells?=some l':=tB
                  rw[e] at tB;cases tB)
                 obtain⟨c',cs0,e0,UG,y1,y2,y3,y4,y5⟩:=h.cells b _ l' hm tB
                 rw[hc] at y1;cases y1
                 rw[k2] at y2;cases y2
                 obtain⟨r1,r2,r3⟩:=h.write (b':=b') hm tB hc JB p4 p5 p6 p7 p8 p2 y3 (by rw[p3];exact⟨y4.1.bM _ Sy,iS _ _ _ y4.2 ya⟩)
                 exact⟨_,w',g,.inl r0,.ms b 0 _ _ cap c hc dM,r1,r2,r3⟩
               · have hm:m[b]? = some (.ob (.gr t0 pq) l'):=getD_some tB (by simp)
                 obtain⟨r1,r2,r3⟩:=h.vJ hm hc k2 (vH Sy) ya C4 p3 p4 p5 p6 p7 p8 p2
                 exact⟨_,w',g,.inl r0,.ms b 0 _ _ cap c hc dM,r1,r2,r3⟩
             · cases he
            |false=>
             have dM : ¬len+n≤cap:=fun k=>by rw[sb k] at hr;cases hr
             simp only[hr,cond_false,dC,kz,dv] at he
             obtain⟨rfl,rfl,⟨rfl,h2,h3,h4,h5⟩,h6,h7⟩:=he
             have h2:=gv h2
             have h3:=bm h3
             have h4:=gv h4
             have h5:=gv h5
             have h6:=bm h6
             have h7:=gv h7
             subst h6
             have jO:=nr (P:=P) (w:=w.drew) (c:=c) (len:=len) (cap:=cap) (sz:=info.size) k2 (by omega)
             obtain⟨newCap,g',w',r0,r1,r2,r3,r4⟩:=As (P:=P) (N2 (m.getD b .dead)&&jE (fun i=>m.getD i .dead) info.size x) (ty:=ty) (l:=l.take (len*info.size)) (vs:=cells.toList.take (len*info.size)) h hn hs0 hx0 hu rY hd' hi hz hx fF h2 h3 h4 h5
              (by have:=k3.take (len*info.size);rwa [pr,rp h7] at this)
              (fun v hv=>q3 v (ed hv)) (by rw[fl,jb];omega) jO dM
             exact⟨_,w',g',.inl r0,r4,r1,r2,r3⟩
          · cases he
         · cases he
       · cases he
     · cases he
   · cases he
 · cases he
theorem tQ {s:AV} {cs:Value} (h:VA g w s cs):VA g w (mY s) cs:=by
 unfold mY
 split
 · rw[VA.pv] at h
   cases h with
   |ps _ _ _ b o cap f hl hc hz hp hv=>omega
   |mT sz a cap hz=>
    obtain⟨rfl,rfl⟩:=hz.resolve_left (by omega)
    exact .os none 0 0 [] none 0 (.mT 0 none 0 (.inr ⟨rfl,rfl⟩)) (.inl rfl)
 · exact h
end
section
variable {P:Program} {g:Gh} {m:Mem} {w:World}
theorem tR {x:AV} {cx:Value} {b:Bool} (hx:VA g w x cx) (h:yC x=some b) : ∃a len cap,cx = .slice a len cap∧a.isNone=b:=by
 have key : ∀{len sz:Nat} {cs:List PV} {cx:Value},VP g w (.ps len sz cs) cx→cond (bj 1 len) (some false) (cond (be sz 0) (some true) none)=some b → ∃a len cap,cx = .slice a len cap∧a.isNone=b:=by
  intro len sz cs cx hx h
  cases hl:bj 1 len with
  |true=>
   simp only[hl,cond_true,dC] at h
   subst h
   have hl:=gv hl
   cases hx with
   |ps _ _ _ b o cap f hl hc hz hp hv=>exact⟨_,_,_,rfl,rfl⟩
   |mT sz a cap hz=>omega
  |false=>
   simp only[hl,cond_false] at h
   cases hs:be sz 0 with
   |false=>simp[hs] at h
   |true=>
    simp only[hs,cond_true,dC] at h
    subst h
    have hs:=bm hs
    subst hs
    cases hx with
    |ps _ _ _ b o cap f hl hc hz hp hv=>omega
    |mT sz a cap hz=>
     obtain⟨rfl,_⟩:=hz.resolve_left (by omega)
     exact⟨_,_,_,rfl,rfl⟩
 unfold yC at h
 split at h
 · rw[VA.pv] at hx;exact key hx h
 · cases hx with
   |os _ _ _ _ a cap hx hr=>exact key hx h
 · cases hx with
   |ms _ _ _ _ cap c hc hcap=>
    simp only[dC] at h
    exact⟨_,_,_,rfl,h⟩
   |mg _ _ _ _ cap c hc hcap=>
    simp only[dC] at h
    exact⟨_,_,_,rfl,h⟩
 · cases h
theorem C5 {x:AV} {cx:Value} (hx:VA g w x cx) (h:yC x=some true) : ∃n c,cx = .slice none n c:=by
 obtain⟨a,len,cap,rfl,ha⟩:=tR hx h
 cases a with
 |none=>exact⟨len,cap,rfl⟩
 |some a=>cases ha
theorem Ea : ∀{bV:List PV} {vs:List Value},rI g w bV vs→bV.all Jr=true → ∀{j:Nat} {y:UInt8},(bV.map byteOf)[j]? = some y→vs[j]? = some (.int .u8 y.toNat)
 |[],[],_,_,j,y,hj=>by simp at hj
 |p::bV,v::vs,h,hb,j,y,hj=>by
  simp only[py,dv] at hb
  cases j with
  |zero=>
   simp only[pA,o0,dC] at hj ⊢
   have h1:=h.1
   unfold Jr at hb
   split at hb
   · rename_i n
     simp only[dv] at hb
     have k1:=of_decide_eq_true hb.1.1
     have k2:=of_decide_eq_true hb.1.2
     cases h1
     subst hj
     obtain⟨q,rfl⟩ : ∃q:Nat,n=q:=⟨n.toNat,by omega⟩
     have hq:q<256:=by omega
     simp[byteOf,Nat.mod_eq_of_lt hq]
   · cases hb.1
  |succ j=>
   simp only[pA,o6] at hj ⊢
   exact Ea h.2 hb.2 hj
 |[],_::_,h,_,_,_,_=>h.elim
 |_::_,[],h,_,_,_,_=>h.elim
theorem uu {ρ:Operand→AV} {bF:Operand→Value} (hr : ∀x,VA g w (ρ x) (bF x)) {o:Oper} {op:BinOp} {t yt:TypeId} {x y:Operand} (ho:o.op = .binOp op t x y yt) (hsame:uI (ρ x) (ρ y)=true)
  {a:AV} {us:mW} {ok:Bool} (he:oq P op t=some (a,us,ok)):us=[] ∧ ∃v,(execOp bF o).run P w = .ok (.value v) w∧VA g w a v:=by
 have hp : ∃p,bF x = .pointer (some p)∧bF y = .pointer (some p):=by
  have h1:=hr x
  have h2:=hr y
  unfold uI at hsame
  split at hsame
  · rename_i b o' c q e1 e2
    rw[e1] at h1
    rw[e2] at h2
    simp only[dv] at hsame
    have k1:=bm hsame.1
    have k2:=bm hsame.2
    subst k1;subst k2
    generalize bF x=cx at *
    generalize bF y=cy at *
    cases h1 with
    |mp _ _ c1 eI=>
    cases h2 with
    |mp _ _ c2 ff=>
     rw[eI] at ff;cases ff
     exact⟨_,rfl,rfl⟩
  · cases hsame
 obtain⟨p,hx,hy⟩:=hp
 unfold oq at he
 split at he
 · rename_i e hu
   have heq : ∀j,P.info? e=some j→(Hb t (.pointer (some p)) (.pointer (some p))).run P w = .ok true w:=by
    intro j hj
    have h : ∀d:Nat,(Ha (d+1) t (.pointer (some p)) (.pointer (some p))).run P w = .ok true w:=fun d=>by
     simp[Ha,run_underlying hu,sizeOf,typeInfo,hj,run_sameAddr_same]
    exact h 9999
   split at he
   · rename_i j hj
     simp only[dC,kz] at he
     obtain⟨rfl,rfl,_⟩:=he
     refine⟨rfl,.bool true,?_,.p _ _ (.sc _)⟩
     simp only[execOp,ho,hx,hy,la,(fG (P:=P) (w:=w) .eql t x y).1,lj,me t (.inl ⟨some p,some p,rfl,rfl⟩) _ (.inl rfl),heq j hj,lh]
     rfl
   · rename_i j hj
     simp only[dC,kz] at he
     obtain⟨rfl,rfl,_⟩:=he
     refine⟨rfl,.bool false,?_,.p _ _ (.sc _)⟩
     simp only[execOp,ho,hx,hy,la,(fG (P:=P) (w:=w) .neq t x y).1,lj,me t (.inl ⟨some p,some p,rfl,rfl⟩) _ (.inr rfl),heq j hj,lh]
     rfl
   · cases he
 · cases he
theorem qI {x a:AV} {cx:Value} (hx:VA g w x cx) {us:mW} {ts:Array TypeId} {ty:TypeId} (he:m4 x=some (a,us,true)) :
  us=[] ∧ ∃v,(Builtin.unsafeSliceData_ ts ty #[cx]).run P w = .ok v w∧VA g w a v:=by
 unfold m4 at he
 split at he
 · rename_i hn
   simp only[dC,kz,and_true] at he
   obtain⟨rfl,rfl⟩:=he
   obtain⟨n,c,rfl⟩:=C5 hx hn
   exact⟨rfl,_,Lib.run_unsafeSliceData_nil w ts ty n c,.p _ _ (.sc _)⟩
 · split at he
   · rename_i b off len sz cap _
     simp only[dC,kz] at he
     obtain⟨rfl,rfl,h1⟩:=he
     have h1:=gv h1
     cases hx with
     |ms _ _ _ _ cap c hc hcap=>exact⟨rfl,_,Lib.run_unsafeSliceData_row w ts ty ⟨c,off,none⟩ len cap (by omega),.mp b off c hc⟩
     |mg _ _ _ _ cap c hc hcap _=>exact⟨rfl,_,Lib.run_unsafeSliceData_row w ts ty ⟨c,off,none⟩ len cap (by omega),.mp b off c hc⟩
   · cases he
theorem At (w:World) {c off k:Nat} {cs:Array Value} {e:TypeId} {n:Nat×Nat} (h:w.heap[c]? = some (.cells cs e n)) :
  (∃n',(w.freeze ⟨c,off,none⟩ k).heap[c]? = some (.cells cs e n'))∧(∀j,j≠c→(w.freeze ⟨c,off,none⟩ k).heap[j]? = w.heap[j]?)∧(w.freeze ⟨c,off,none⟩ k).heap.size=w.heap.size ∧
    (w.freeze ⟨c,off,none⟩ k).os=w.os∧(w.freeze ⟨c,off,none⟩ k).tape=w.tape∧(w.freeze ⟨c,off,none⟩ k).output=w.output:=by
 unfold vb
 split
 · exact⟨⟨n,h⟩,fun _ _=>rfl,rfl,rfl,rfl,rfl⟩
 · refine⟨?_,fun j hj=> ?_,by simp,rfl,rfl,rfl⟩
   · obtain⟨lo,hi⟩:=n
     refine⟨if lo==hi then(off,off+k) else(min lo off,max hi (off+k)),?_⟩
     show(w.heap.modify c _)[c]? = _
     rw[oe,if_pos rfl,h]
     rfl
   · show(w.heap.modify c _)[j]? = _
     rw[oe,if_neg (fun e=>hj e.symm)]
theorem tS : ∀{l:List AV},l.all Gn=true → ∃bV,jk l=some bV∧bV.all Jr=true∧bV.map byteOf=l.map Gp
 |[],_=>⟨[],rfl,rfl,rfl⟩
 |a::l,h=>by
  simp only[py,dv] at h
  obtain⟨bV,h1,h2,h3⟩:=tS h.2
  cases a with
  |p v=>exact⟨v::bV,by simp[jk,zO,h1],by simp only[py,dv];exact⟨h.1,h2⟩,by simp[Gp,h3]⟩
  |_=>exact absurd h.1 (by simp[Gn])
theorem nv (h:Rel g m w) {x n a:AV} {cx cn:Value} (hx:VA g w x cx) (hn:VA g w n cn) {us:mW} {ts:Array TypeId} {ty:TypeId} (he:ej P (fun i=>m.getD i .dead) ts.toList x n=some (a,us,true)) :
  bR g m w (((do pure (.value (←Builtin.unsafeString_ ts ty #[cx,cn])):Sem Next)).run P w) a (apply m us):=by
 unfold ej at he
 split at he
 · rename_i k
   obtain rfl:=key_eq hn
   split at he
   · rename_i pt it hts
     have hts:ts = #[pt,it]:=by have:=congrArg List.toArray hts;simpa using this
     subst hts
     split at he
     · rename_i hk
       split at he
       · simp only[dC,kz,and_true] at he
         obtain⟨rfl,rfl⟩:=he
         have hk:=of_decide_eq_true hk
         subst hk
         obtain rfl:=key_eq hx
         refine bR.quiet h (v:= .string .empty) ?_ (.p _ _ (.sc _))
         simp only[la,Lib.run_unsafeString_none,lj,lh]
       · cases he
     · rename_i hk
       split at he
       · rename_i e b t l hp LS
         have hb:x = .mp b 0 ∧ ∃pq,m.getD b .dead = .ob (.gr t pq) l:=by
          unfold Gq at LS
          split at LS
          · split at LS
            · rename_i hq
              simp only[dC,kz] at LS
              obtain⟨rfl,rfl,rfl⟩:=LS
              exact⟨rfl,_,hq⟩
            · cases LS
          · cases LS
         obtain⟨rfl,pq,hb⟩:=hb
         · simp only[dC,kz,dv] at he
           obtain⟨rfl,rfl,h1,h2,h3,h4,h5,h6⟩:=he
           obtain⟨bV,BF,hu,hby⟩:=tS h1
           rw[←hby]
           have h2:=bm h2
           have h3:=bm h3
           have h4:=of_decide_eq_true h4
           have h5:=gv h5
           have h6:=gv h6
           subst h2
           obtain⟨q,rfl⟩ : ∃q:Nat,k=q:=⟨k.toNat,by omega⟩
           simp only[Int.toNat_natCast] at *
           cases hx with
           |mp _ _ c hc=>
           have ur:=getD_some hb (by simp)
           obtain⟨c',ob,vs,k1,k2,k3,k4,_,_⟩:=h.obs b _ _ ur
           rw[hc] at k1;cases k1
           obtain⟨cs,e,fr,rfl,rfl,q0,q1,q2,q3⟩:=k4
           have hl:=k3.len
           have hsub:rI g w bV (vs.take q):=cU BF (k3.take q)
           have NN:=hsub.len
           generalize Sz:bV.map byteOf=bs at *
           have Ol:bs.length=q:=by rw[←Sz,pj,NN,fl];omega
           have hcells : ∀j y,bs[j]? = some y→w.cell? ((⟨c,0,none⟩:Addr).add j)=some (.int .u8 y.toNat):=by
            intro j y hj
            have hjl:=aV hj
            have hcell:w.cell? ⟨c,j,none⟩=(vs.take q)[j]? :=by
             rw[aM k2,dT,if_pos (by omega),q1,dT,if_pos (by omega)]
             simp
            have GJ:(⟨c,0,none⟩:Addr).add j=⟨c,j,none⟩:=by
             unfold Addr.add
             by_cases hj0:j=0
             · subst hj0;simp
             · simp[hj0]
            rw[GJ,hcell]
            have hbyte:=Ea hsub hu (j:=j) (y:=y) (by rw[Sz];exact hj)
            exact hbyte
           have hsh:w.shape? c=some (e,cs.size):=by simp only[ui,k2]
           have hrun:=Lib.run_unsafeString_row (P:=P) w pt it ty e hp h3 c cs.size hsh bs (by intro q;subst q;simp at Ol;omega) (by omega) (by unfold b7 at h6;omega) hcells
           rw[Ol] at hrun
           obtain⟨⟨n',f1⟩,f2,f3,f4,f5,f6⟩:=At w (off:=0) (k:=q) k2
           obtain⟨r1,r2,r3⟩:=h.eX (xQ:= .Lb) (l':=[]) (vs':=[]) ur hc f2 f3 f4 f5 f6 f1 rfl trivial
           refine⟨.string ⟨bs.toArray⟩,_,g,.inl ?_,.p _ _ (.sc _),r1,r2,r3⟩
           simp only[la,hrun,lj,lh]
       · cases he
   · cases he
 · cases he
end
end Go.Am
end
