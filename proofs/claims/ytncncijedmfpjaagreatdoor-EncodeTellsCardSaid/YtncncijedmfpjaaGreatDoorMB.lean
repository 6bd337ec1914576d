import Derived.Test.YtncncijedmfpjaaGreatDoorMA
open Option.some renaming injEq→dk,inj→dp
open List renaming getD_eq_getElem?_getD→de,getElem?_take→dq,getElem?_eq_getElem→da,mem_of_mem_take→dt,mem_of_mem_drop→du,getElem?_drop→dv,length_append→dC,getElem_map→dE,getElem?_eq_some_iff→dT,take_of_length_le→ea,getElem?_eq_none→eb,length_set→ed,length_drop→ee,length_take→eh,getElem_append→ei,getElem?_map→ek,getElem_mem→en,drop_take→eQ,mem_map→fb,range→fe
open Nat renaming le_of_ble_eq_true→fg,le_refl→c9,lt_irrefl→fh,beq_eq→fi,le_trans→bx,mul_le_mul_right→fl,eq_of_beq_eq_true→be,beq→ba,lt_or_ge→ft,sub_mul→fv,add_assoc→fw,mod_eq_of_lt→fx,ble→bc,blt_eq→gg
open Array renaming getElem?_eq_getElem→gl,length_toList→gn,getElem?_push→gv,toList_range→hC,toList_map→hP,range→hZ
open Option renaming map_eq_some_iff→ib,map_none→ic,map_some→ie,isSome_iff_exists→ik,getD_some→il
open Bool renaming and_eq_true→di,eq_false_iff→im,or_eq_true→iu,not_eq_true'→iv
open Prod.mk renaming injEq→ja
open Go.Sem renaming run_bind→jb,run_pure→jn
open Go.Result renaming andThen_ok→j1
open Go.Instr renaming sliceBounds→j2,sliceAt→ka,slice→kb,indexAt→kc,sureAddr→kh,sliceBound→kl,index→km,build→kp,fieldAt→kv,field→kx,fill→ky
open Go.Op renaming eqFields→kz,intArith→la
open Go.Builtin renaming len_→lb,firstCells→lh,lenOf→lj,cap_→lk
open Go.Value renaming oneCell'→ln,cells→lr
section
namespace Go.Am
open Go.RowKit
theorem ko : ∀{l:List AV},pV l=true→(l.map qw).map AV.p=l
 |[],_=>rfl
 |.p v::r,h=>by
  simp only[pV] at h
  have:=ko h
  simp only[List.map_cons,qw]
  rw[this]
 |.bC::_,h | .os .. :: _,h | .mp .. :: _,h | .ms .. :: _,h | .fn .. :: _,h | .agg _::_,h | .aK _::_,h | .nL .. :: _,h | .vm _::_,h | .vy _::_,h=>by simp[pV] at h
theorem rD {l:List AV} {vs:List PV} (h:Ly l=some vs):vs.map AV.p=l:=by
 unfold Ly at h
 cases hp:pV l with
 |false=>simp[hp] at h
 |true=>
  simp only[hp,cond_true,dk] at h
  subst h
  exact ko hp
theorem nV (l:List AV):(EE l).cells?=some l:=by
 unfold EE
 cases h:Ly l with
 |none=>rfl
 |some vs=>simp[bq.cells?,rD h]
theorem dn {b:bq} {l:List AV} (h:b.cells?=some l):b.dc=true:=by cases b<;>simp_all [bq.cells?,bq.dc]
def Gh.put (g:Gh) (i c lo hi:Nat):Gh:=
 {g with bX:=fun j=>if j=i then some c else g.bX j,lo:=fun j=>if j=i then lo else g.lo j,hi:=fun j=>if j=i then hi else g.hi j}
def Gh.more (g:Gh) (c lo hi:Nat):Gh:={g with pure:=fun c' o=>g.pure c' o∨(c'=c∧lo≤o∧o<hi)}
theorem getElem?_set' {α:Type} (l:List α) (i j:Nat) (a:α):(l.set i a)[j]? = if i=j∧i<l.length then some a else l[j]? :=by
 rw[List.getElem?_set]
 by_cases h:i=j
 · subst h;by_cases h2:i<l.length<;>simp[h2]
 · simp[h]
theorem bS {α:Type} {l:List α} {i:Nat} {a:α} (h:l[i]? = some a):i<l.length:=(dT.1 h).1
theorem ej {w w':World} {c o:Nat} (h:w'.heap[c]? = w.heap[c]?):w'.cell? ⟨c,o,none⟩=w.cell? ⟨c,o,none⟩:=by
 simp only[World.cell?,h]
theorem bD {w:World} {c o:Nat} {cs:Array Value} {e:TypeId} {n:Nat×Nat} (h:w.heap[c]? = some (.cells cs e n)):w.cell? ⟨c,o,none⟩=cs[o]? :=by
 simp[World.cell?,h]
theorem cj {w:World} {c:Nat} {o:Obj} (h:w.heap[c]? = some o):c<w.heap.size:=by
 rcases ft c w.heap.size with k | k
 · exact k
 · simp[Array.getElem?_eq_none k] at h
theorem tB {g:Gh} {m:Mem} {i:Nat} {b:bq} {c:Nat} (h:fH g (m.set i b) c):(b.dc=true∧g.bX i=some c)∨(∃j b',j≠i∧m[j]? = some b'∧b'.dc=true∧g.bX j=some c):=by
 obtain⟨j,b',hj,ho,hc⟩:=h
 rw[getElem?_set'] at hj
 by_cases e:i=j∧i<m.length
 · rw[if_pos e] at hj;cases hj;exact .inl ⟨ho,e.1▸hc⟩
 · rw[if_neg e] at hj
   refine .inr ⟨j,b',fun h=> ?_,hj,ho,hc⟩
   subst h
   exact e ⟨rfl,bS hj⟩
theorem Rel.kill {g:Gh} {m:Mem} {w:World} (h:Rel g m w) (i:Nat):Rel g (m.set i .dead) w∧dF g m w g (m.set i .dead) w:=by
 have get : ∀j b,(m.set i .dead)[j]? = some b→b = .dead∨(j≠i∧m[j]? = some b):=by
  intro j b hj
  rw[getElem?_set'] at hj
  by_cases e:i=j∧i<m.length
  · rw[if_pos e] at hj;exact .inl (dp hj).symm
  · rw[if_neg e] at hj
    by_cases e2:i=j
    · subst e2;exact absurd ⟨rfl,bS hj⟩ e
    · exact .inr ⟨fun h=>e2 h.symm,hj⟩
 refine⟨⟨fun j hj=>h.tA j (by simpa using hj),fun j hj=> ?_,fun j b l hj hl=> ?_,fun j c hj hc=> ?_,fun j k b b' c hj hk ho ho' hc fk=> ?_,h.there,fun j kk ll hj=> ?_⟩,dF.less fun c ho=> ?_⟩
 · rcases get j _ hj with e | ⟨_,e⟩
   · cases e
   · exact h.free j e
 · rcases get j _ hj with e | ⟨_,e⟩
   · subst e;cases hl
   · exact h.cells j b l e hl
 · rcases get j _ hj with e | ⟨_,e⟩
   · cases e
   · exact h.tok j c e hc
 · rcases get j _ hj with e | ⟨_,e⟩
   · subst e;simp[bq.dc] at ho
   rcases get k _ hk with e' | ⟨_,e'⟩
   · subst e';simp[bq.dc] at ho'
   exact h.inj j k b b' c e e' ho ho' hc fk
 · rcases get j _ hj with e | ⟨_,e⟩
   · cases e
   · exact h.obs j kk ll e
 · obtain⟨j,b,hj,hb,hc⟩:=ho
   rcases get j _ hj with e | ⟨_,e⟩
   · subst e;simp[bq.dc] at hb
   · exact⟨j,b,e,hb,hc⟩
theorem Rel.write {g:Gh} {m:Mem} {w w':World} (h:Rel g m w) {i c:Nat} {b b':bq} {l l':List AV} {cs':Array Value} {e':TypeId} {n':Nat×Nat}
  (hi:m[i]? = some b) (hl:b.cells?=some l) (hc:g.bX i=some c) (hl':b'.cells?=some l')
  (hw : ∀k,k≠c→w'.heap[k]? = w.heap[k]?) (hs:w'.heap.size=w.heap.size) (ho:w'.os=w.os) (ht:w'.tape=w.tape) (hu:w'.output=w.output)
  (hh:w'.heap[c]? = some (.cells cs' e' n')) (hn:n'.2≤n'.1) (hv:HF g w l' cs'.toList) :
  Rel g (m.set i b') w'∧Ext g w g w'∧dF g m w g (m.set i b') w':=by
 obtain⟨c0,cs,e,n,h1,h2,h3,h4,h5⟩:=h.cells i b l hi hl
 rw[hc] at h1;cases h1
 have hp : ∀c' o,g.pure c' o→w'.cell? ⟨c',o,none⟩=w.cell? ⟨c',o,none⟩:=fun c' o p=>ej (hw c' fun e=>h5 o (e▸p))
 have ext:Ext g w g w':=⟨fun _ _ h=>⟨h,rfl,rfl⟩,fun c' o p=>⟨p,hp c' o p⟩⟩
 have get : ∀j x,(m.set i b')[j]? = some x→(j=i∧x=b')∨(j≠i∧m[j]? = some x):=by
  intro j x hj
  rw[getElem?_set'] at hj
  by_cases e:i=j∧i<m.length
  · rw[if_pos e] at hj;exact .inl ⟨e.1.symm,(dp hj).symm⟩
  · rw[if_neg e] at hj
    by_cases e2:i=j
    · subst e2;exact absurd ⟨rfl,bS hj⟩ e
    · exact .inr ⟨fun h=>e2 h.symm,hj⟩
 have ne : ∀j x c',j≠i→m[j]? = some x→x.dc=true→g.bX j=some c'→c'≠c:=fun j x c' hji hj ho fk e=>hji (h.inj j i x b c hj hi ho (dn hl) (e▸fk) hc)
 refine⟨⟨fun j hj=>h.tA j (by simpa using hj),fun j hj=> ?_,fun j x k hj hk=> ?_,fun j c' hj fk=> ?_,fun j k x x' c' hj hk ho ho' gu gQ=> ?_,fun c' o p=> ?_,fun j kk ll hj=> ?_⟩,ext,⟨by omega,fun k hk hn=> ?_,fun c' o p=>⟨p,hp c' o p⟩,fun _ _ p=> .inl p,fun c' ho'=> ?_,ho,ht,hu⟩⟩
 · rcases get j _ hj with⟨rfl,e⟩ | ⟨_,e⟩
   · subst e;cases hl'
   · exact h.free j e
 · rcases get j _ hj with⟨rfl,e⟩ | ⟨hji,e⟩
   · subst e
     rw[hl'] at hk;cases hk
     exact⟨c,cs',e',n',hc,hh,hn,hv.mono ext,h5⟩
   · obtain⟨c1,cs1,e1,n1,k1,k2,k3,k4,k5⟩:=h.cells j x k e hk
     exact⟨c1,cs1,e1,n1,k1,(hw c1 (ne j x c1 hji e (dn hk) k1)).trans k2,k3,k4.mono ext,k5⟩
 · rcases get j _ hj with⟨rfl,e⟩ | ⟨hji,e⟩
   · subst e;cases hl'
   · obtain⟨cs1,e1,n1,k2,k3,k4,k5⟩:=h.tok j c' e fk
     exact⟨cs1,e1,n1,(hw c' (ne j _ c' hji e rfl fk)).trans k2,k3,k4,k5⟩
 · rcases get j _ hj with⟨rfl,e⟩ | ⟨hji,e⟩<;>rcases get k _ hk with⟨rfl,e'⟩ | ⟨hki,e'⟩
   · rfl
   · rw[hc] at gu;cases gu
     exact absurd rfl (ne k x' _ hki e' ho' gQ)
   · rw[hc] at gQ;cases gQ
     exact absurd rfl (ne j x _ hji e ho gu)
   · exact h.inj j k x x' c' e e' ho ho' gu gQ
 · obtain⟨v,hv⟩:=h.there c' o p
   exact⟨v,(hp c' o p).trans hv⟩
 · rcases get j _ hj with⟨rfl,e⟩ | ⟨hji,e⟩
   · subst e;cases hl'
   · obtain⟨c1,HY,vs1,k1,k2,k3,k6,k7,k8⟩:=h.obs j kk ll e
     exact⟨c1,HY,vs1,k1,(hw c1 (ne j _ c1 hji e rfl k1)).trans k2,k3.mono ext,k6,k7,k8⟩
 · exact hw k fun e=>hn ⟨i,b,hi,dn hl,e▸hc⟩
 · rcases tB ho' with⟨_,k⟩ | ⟨j,x,_,k1,k2,k3⟩
   · exact .inl ⟨i,b,hi,dn hl,k⟩
   · exact .inl ⟨j,x,k1,k2,k3⟩
theorem aY {m:Mem} {i:Nat} {b':bq} {j:Nat} {x:bq} (hj:(m.set i b')[j]? = some x):(j=i∧x=b')∨(j≠i∧m[j]? = some x):=by
 rw[getElem?_set'] at hj
 by_cases e:i=j∧i<m.length
 · rw[if_pos e] at hj;exact .inl ⟨e.1.symm,(dp hj).symm⟩
 · rw[if_neg e] at hj
   by_cases e2:i=j
   · subst e2;exact absurd ⟨rfl,bS hj⟩ e
   · exact .inr ⟨fun h=>e2 h.symm,hj⟩
structure qB (w w':World) (o:Obj):Prop where
 heap:w'.heap=w.heap.push o
 os:w'.os=w.os
 tape:w'.tape=w.tape
 output:w'.output=w.output
theorem qB.old {w w':World} {o:Obj} (h:qB w w' o) {k:Nat} (hk:k<w.heap.size):w'.heap[k]? = w.heap[k]? :=by
 rw[h.heap,gv,if_neg (by omega)]
theorem qB.new {w w':World} {o:Obj} (h:qB w w' o):w'.heap[w.heap.size]? = some o:=by
 rw[h.heap,gv,if_pos rfl]
theorem qB.size {w w':World} {o:Obj} (h:qB w w' o):w'.heap.size=w.heap.size+1:=by rw[h.heap];simp
theorem Rel.alloc {g:Gh} {m:Mem} {w w':World} (h:Rel g m w) {i:Nat} {b:bq} {l:List AV} {cs:Array Value} {e:TypeId}
  (hi:m[i]? = some .free) (hl:b.cells?=some l) (hv:HF g w l cs.toList) (hw:qB w w' (.cells cs e)) :
  Rel (g.put i w.heap.size 0 0) (m.set i b) w'∧Ext g w (g.put i w.heap.size 0 0) w'∧dF g m w (g.put i w.heap.size 0 0) (m.set i b) w':=by
 have hf:=h.free i hi
 have nW:=bS hi
 have hp : ∀c o,g.pure c o→w'.cell? ⟨c,o,none⟩=w.cell? ⟨c,o,none⟩:=fun c o p=>ej (hw.old (h.mQ p))
 have bo : ∀j,j≠i→(g.put i w.heap.size 0 0).bX j=g.bX j:=fun j hj=>by simp[Gh.put,hj]
 have bi:(g.put i w.heap.size 0 0).bX i=some w.heap.size:=by simp[Gh.put]
 have ext:Ext g w (g.put i w.heap.size 0 0) w':=⟨fun j c hc=>by
  have:j≠i:=fun e=>by subst e;rw[hf] at hc;cases hc
  simp[Gh.put,this,hc],fun c o p=>⟨p,hp c o p⟩⟩
 have lt : ∀j x c,m[j]? = some x→x.dc=true→g.bX j=some c→c<w.heap.size:=fun j x c hj ho hc=>h.lW ⟨j,x,hj,ho,hc⟩
 refine⟨⟨fun j hj=> ?_,fun j hj=> ?_,fun j x k hj hk=> ?_,fun j c hj hc=> ?_,fun j k x x' c hj hk ho ho' gu gQ=> ?_,fun c o p=> ?_,fun j kk ll hj=> ?_⟩,ext,⟨by rw[hw.size];omega,fun k hk _=>hw.old hk,fun c o p=>⟨p,hp c o p⟩,fun _ _ p=> .inl p,fun c ho=> ?_,hw.os,hw.tape,hw.output⟩⟩
 · rw[ed] at hj
   rw[bo j (by omega)];exact h.tA j hj
 · rcases aY hj with⟨rfl,e⟩ | ⟨hji,e⟩
   · subst e;cases hl
   · rw[bo j hji];exact h.free j e
 · rcases aY hj with⟨rfl,e⟩ | ⟨hji,e⟩
   · subst e;rw[hl] at hk;cases hk
     refine⟨_,cs,_,(0,0),bi,hw.new,c9 _,hv.mono ext,fun o p=> ?_⟩
     have:=h.mQ p
     omega
   · obtain⟨c1,cs1,e1,n1,k1,k2,k3,k4,k5⟩:=h.cells j x k e hk
     exact⟨c1,cs1,e1,n1,(bo j hji).trans k1,(hw.old (cj k2)).trans k2,k3,k4.mono ext,k5⟩
 · rcases aY hj with⟨rfl,e⟩ | ⟨hji,e⟩
   · subst e;cases hl
   · rw[bo j hji] at hc
     obtain⟨cs1,e1,n1,k2,k3,k4,k5⟩:=h.tok j c e hc
     have h1:(g.put i w.heap.size 0 0).hi j=g.hi j:=by simp[Gh.put,hji]
     have h2:(g.put i w.heap.size 0 0).lo j=g.lo j:=by simp[Gh.put,hji]
     rw[h1,h2]
     exact⟨cs1,e1,n1,(hw.old (cj k2)).trans k2,k3,k4,k5⟩
 · rcases aY hj with⟨rfl,e⟩ | ⟨hji,e⟩<;>rcases aY hk with⟨rfl,e'⟩ | ⟨hki,e'⟩
   · rfl
   · rw[bi] at gu;cases gu
     rw[bo k hki] at gQ
     exact absurd (lt k x' _ e' ho' gQ) (fh _)
   · rw[bi] at gQ;cases gQ
     rw[bo j hji] at gu
     exact absurd (lt j x _ e ho gu) (fh _)
   · rw[bo j hji] at gu;rw[bo k hki] at gQ
     exact h.inj j k x x' c e e' ho ho' gu gQ
 · obtain⟨v,hv⟩:=h.there c o p
   exact⟨v,(hp c o p).trans hv⟩
 · rcases aY hj with⟨rfl,e⟩ | ⟨hji,e⟩
   · subst e;cases hl
   · obtain⟨c1,HY,vs1,k1,k2,k3,k6,k7,k8⟩:=h.obs j kk ll e
     exact⟨c1,HY,vs1,(bo j hji).trans k1,(hw.old (cj k2)).trans k2,k3.mono ext,k6,k7,by simpa[Gh.put,hji] using k8⟩
 · obtain⟨j,x,hj,hx,hc⟩:=ho
   rcases aY hj with⟨rfl,e⟩ | ⟨hji,e⟩
   · rw[bi] at hc;cases hc;exact .inr (c9 _)
   · rw[bo j hji] at hc;exact .inl ⟨j,x,e,hx,hc⟩
theorem Rel.fresh {g:Gh} {m:Mem} {w w':World} (h:Rel g m w) {i k:Nat} {cs:Array Value} {e:TypeId} {n:Nat×Nat}
  (hi:m[i]? = some .free) (hw:qB w w' (.cells cs e n)) (hk:k≤cs.size) (hn:n.2≤n.1∨cs.size≤n.1) :
  let g':=(g.put i w.heap.size k cs.size).more w.heap.size 0 k
  Rel g' (m.set i .tok) w'∧Ext g w g' w'∧dF g m w g' (m.set i .tok) w':=by
 intro g'
 have hf:=h.free i hi
 have nW:=bS hi
 have hp : ∀c o,g.pure c o→w'.cell? ⟨c,o,none⟩=w.cell? ⟨c,o,none⟩:=fun c o p=>ej (hw.old (h.mQ p))
 have bo : ∀j,j≠i→g'.bX j=g.bX j:=fun j hj=>by simp[g',Gh.put,Gh.more,hj]
 have bi:g'.bX i=some w.heap.size:=by simp[g',Gh.put,Gh.more]
 have ext:Ext g w g' w':=⟨fun j c hc=>by
  have:j≠i:=fun e=>by subst e;rw[hf] at hc;cases hc
  simp[g',Gh.put,Gh.more,this,hc],fun c o p=>⟨.inl p,hp c o p⟩⟩
 have lt : ∀j x c,m[j]? = some x→x.dc=true→g.bX j=some c→c<w.heap.size:=fun j x c hj ho hc=>h.lW ⟨j,x,hj,ho,hc⟩
 refine⟨⟨fun j hj=> ?_,fun j hj=> ?_,fun j x l hj hl=> ?_,fun j c hj hc=> ?_,fun j k x x' c hj hk ho ho' gu gQ=> ?_,fun c o p=> ?_,fun j kk ll hj=> ?_⟩,ext,⟨by rw[hw.size];omega,fun k hk _=>hw.old hk,fun c o p=>⟨.inl p,hp c o p⟩,fun c o p=> ?_,fun c ho=> ?_,hw.os,hw.tape,hw.output⟩⟩
 · rw[ed] at hj
   rw[bo j (by omega)];exact h.tA j hj
 · rcases aY hj with⟨rfl,e⟩ | ⟨hji,e⟩
   · cases e
   · rw[bo j hji];exact h.free j e
 · rcases aY hj with⟨rfl,e⟩ | ⟨hji,e⟩
   · subst e;cases hl
   · obtain⟨c1,cs1,e1,n1,k1,k2,k3,k4,k5⟩:=h.cells j x l e hl
     refine⟨c1,cs1,e1,n1,(bo j hji).trans k1,(hw.old (cj k2)).trans k2,k3,k4.mono ext,fun o p=> ?_⟩
     rcases p with p | ⟨rfl,_⟩
     · exact k5 o p
     · exact absurd (cj k2) (fh _)
 · rcases aY hj with⟨rfl,_⟩ | ⟨hji,e⟩
   · rw[bi] at hc;cases hc
     refine⟨cs,_,n,hw.new,by simp[g',Gh.put,Gh.more],by simpa[g',Gh.put,Gh.more] using hn,fun o h1 _ p=> ?_⟩
     have h1':k≤o:=by simpa[g',Gh.put,Gh.more] using h1
     rcases p with p | ⟨_,_,p⟩
     · exact absurd (h.mQ p) (fh _)
     · omega
   · rw[bo j hji] at hc
     obtain⟨cs1,e1,n1,k2,k3,k4,k5⟩:=h.tok j c e hc
     have h1:g'.hi j=g.hi j:=by simp[g',Gh.put,Gh.more,hji]
     have h2:g'.lo j=g.lo j:=by simp[g',Gh.put,Gh.more,hji]
     rw[h1,h2]
     refine⟨cs1,e1,n1,(hw.old (cj k2)).trans k2,k3,k4,fun o a b p=> ?_⟩
     rcases p with p | ⟨rfl,_⟩
     · exact k5 o a b p
     · exact absurd (cj k2) (fh _)
 · rcases aY hj with⟨rfl,e⟩ | ⟨hji,e⟩<;>rcases aY hk with⟨rfl,e'⟩ | ⟨hki,e'⟩
   · rfl
   · rw[bi] at gu;cases gu
     rw[bo k hki] at gQ
     exact absurd (lt k x' _ e' ho' gQ) (fh _)
   · rw[bi] at gQ;cases gQ
     rw[bo j hji] at gu
     exact absurd (lt j x _ e ho gu) (fh _)
   · rw[bo j hji] at gu;rw[bo k hki] at gQ
     exact h.inj j k x x' c e e' ho ho' gu gQ
 · rcases p with p | ⟨rfl,_,p⟩
   · obtain⟨v,hv⟩:=h.there c o p
     exact⟨v,(hp c o p).trans hv⟩
   · exact⟨cs[o],by rw[bD hw.new,gl (by omega)]⟩
 · rcases aY hj with⟨rfl,e⟩ | ⟨hji,e⟩
   · cases e
   · obtain⟨c1,HY,vs1,k1,k2,k3,k6,k7,k8⟩:=h.obs j kk ll e
     exact⟨c1,HY,vs1,(bo j hji).trans k1,(hw.old (cj k2)).trans k2,k3.mono ext,k6,fun o p=>p.elim (k7 o) fun q=>absurd (cj k2) (by rw[q.1];exact fh _),by simpa[g',Gh.put,Gh.more,hji] using k8⟩
 · rcases p with p | ⟨rfl,_⟩
   · exact .inl p
   · exact .inr (.inr (c9 _))
 · obtain⟨j,x,hj,hx,hc⟩:=ho
   rcases aY hj with⟨rfl,e⟩ | ⟨hji,e⟩
   · rw[bi] at hc;cases hc;exact .inr (c9 _)
   · rw[bo j hji] at hc;exact .inl ⟨j,x,e,hx,hc⟩
theorem Rel.spare {g:Gh} {m:Mem} {w w':World} (h:Rel g m w) {t i c k:Nat} {cs cs':Array Value} {e e':TypeId} {n:Nat×Nat}
  (ht:m[t]? = some .tok) (hc:g.bX t=some c) (hi:m[i]? = some .free) (hcs:w.heap[c]? = some (.cells cs e n)) (hk:g.lo t+k≤g.hi t)
  (hw : ∀j,j≠c→w'.heap[j]? = w.heap[j]?) (hs:w'.heap.size=w.heap.size) (ho:w'.os=w.os) (htp:w'.tape=w.tape) (hu:w'.output=w.output)
  (hh:w'.heap[c]? = some (.cells cs' e' n)) (hcz:cs'.size=cs.size) (hout : ∀o,o<g.lo t∨g.hi t≤o→cs'[o]? = cs[o]?) :
  let g':=(g.put i c (g.lo t+k) (g.hi t)).more c (g.lo t) (g.lo t+k)
  Rel g' ((m.set t .dead).set i .tok) w'∧Ext g w g' w'∧dF g m w g' ((m.set t .dead).set i .tok) w':=by
 intro g'
 have hf:=h.free i hi
 have nW:=bS hi
 have hti:t≠i:=fun e=>by subst e;rw[ht] at hi;cases hi
 obtain⟨cs0,e0,n0,q1,q2,q3,q4⟩:=h.tok t c ht hc
 rw[hcs] at q1;cases q1
 have hp : ∀c' o,g.pure c' o→w'.cell? ⟨c',o,none⟩=w.cell? ⟨c',o,none⟩:=by
  intro c' o p
  by_cases e:c'=c
  · subst e
    rw[bD hh,bD hcs]
    refine hout o ?_
    rcases ft o (g.lo t) with a | a
    · exact .inl a
    · rcases ft o (g.hi t) with b | b
      · exact absurd p (q4 o a b)
      · exact .inr b
  · exact ej (hw c' e)
 have bo : ∀j,j≠i→g'.bX j=g.bX j:=fun j hj=>by simp[g',Gh.put,Gh.more,hj]
 have bi:g'.bX i=some c:=by simp[g',Gh.put,Gh.more]
 have ext:Ext g w g' w':=⟨fun j c hc=>by
  have:j≠i:=fun e=>by subst e;rw[hf] at hc;cases hc
  simp[g',Gh.put,Gh.more,this,hc],fun c o p=>⟨.inl p,hp c o p⟩⟩
 have get : ∀j x,((m.set t .dead).set i .tok)[j]? = some x→(j=i∧x = .tok)∨x = .dead∨(j≠i∧j≠t∧m[j]? = some x):=by
  intro j x hj
  rcases aY hj with e | ⟨hji,e⟩
  · exact .inl e
  · rcases aY e with⟨_,e'⟩ | ⟨HG,e'⟩
    · exact .inr (.inl e')
    · exact .inr (.inr ⟨hji,HG,e'⟩)
 have ne : ∀j x c',j≠t→m[j]? = some x→x.dc=true→g.bX j=some c'→c'≠c:=fun j x c' HG hj ho fk e=>HG (h.inj j t x _ c hj ht ho rfl (e▸fk) hc)
 refine⟨⟨fun j hj=> ?_,fun j hj=> ?_,fun j x l hj hl=> ?_,fun j c' hj fk=> ?_,fun j k x x' c' hj hk ho ho' gu gQ=> ?_,fun c' o p=> ?_,fun j kk ll hj=> ?_⟩,ext,⟨by omega,fun j _ hn=> ?_,fun c o p=>⟨.inl p,hp c o p⟩,fun c' o p=> ?_,fun c' ho'=> ?_,ho,htp,hu⟩⟩
 · simp only[ed] at hj
   rw[bo j (by omega)];exact h.tA j hj
 · rcases get j _ hj with⟨_,e⟩ | e | ⟨hji,_,e⟩
   · cases e
   · cases e
   · rw[bo j hji];exact h.free j e
 · rcases get j _ hj with⟨_,e⟩ | e | ⟨hji,HG,e⟩
   · subst e;cases hl
   · subst e;cases hl
   · obtain⟨c1,cs1,e1,n1,k1,k2,k3,k4,k5⟩:=h.cells j x l e hl
     refine⟨c1,cs1,e1,n1,(bo j hji).trans k1,(hw c1 (ne j x c1 HG e (dn hl) k1)).trans k2,k3,k4.mono ext,fun o p=> ?_⟩
     rcases p with p | ⟨rfl,_⟩
     · exact k5 o p
     · exact ne j x _ HG e (dn hl) k1 rfl
 · rcases get j _ hj with⟨rfl,_⟩ | e | ⟨hji,HG,e⟩
   · rw[bi] at fk;cases fk
     refine⟨cs',e',n,hh,by simp only[g',Gh.put,Gh.more,if_true];omega,by simpa[g',Gh.put,Gh.more] using q3,fun o h1 h2 p=> ?_⟩
     have h1':g.lo t+k≤o:=by simpa[g',Gh.put,Gh.more] using h1
     have h2':o<g.hi t:=by simpa[g',Gh.put,Gh.more] using h2
     rcases p with p | ⟨_,_,p⟩
     · exact q4 o (by omega) h2' p
     · omega
   · cases e
   · rw[bo j hji] at fk
     obtain⟨cs1,e1,n1,k2,k3,k4,k5⟩:=h.tok j c' e fk
     have h1:g'.hi j=g.hi j:=by simp[g',Gh.put,Gh.more,hji]
     have h2:g'.lo j=g.lo j:=by simp[g',Gh.put,Gh.more,hji]
     rw[h1,h2]
     refine⟨cs1,e1,n1,(hw c' (ne j _ c' HG e rfl fk)).trans k2,k3,k4,fun o a b p=> ?_⟩
     rcases p with p | ⟨rfl,_⟩
     · exact k5 o a b p
     · exact ne j _ _ HG e rfl fk rfl
 · rcases get j _ hj with⟨rfl,e⟩ | e | ⟨hji,HG,e⟩
   · rcases get k _ hk with⟨rfl,e'⟩ | e' | ⟨hki,hkt,e'⟩
     · rfl
     · subst e';simp[bq.dc] at ho'
     · rw[bi] at gu;cases gu
       rw[bo k hki] at gQ
       exact absurd rfl (ne k x' _ hkt e' ho' gQ)
   · subst e;simp[bq.dc] at ho
   · rcases get k _ hk with⟨rfl,e'⟩ | e' | ⟨hki,hkt,e'⟩
     · rw[bi] at gQ;cases gQ
       rw[bo j hji] at gu
       exact absurd rfl (ne j x _ HG e ho gu)
     · subst e';simp[bq.dc] at ho'
     · rw[bo j hji] at gu;rw[bo k hki] at gQ
       exact h.inj j k x x' c' e e' ho ho' gu gQ
 · rcases p with p | ⟨rfl,p1,p2⟩
   · obtain⟨v,hv⟩:=h.there c' o p
     exact⟨v,(hp c' o p).trans hv⟩
   · exact⟨cs'[o],by rw[bD hh,gl (by omega)]⟩
 · rcases get j _ hj with⟨_,e⟩ | e | ⟨hji,HG,e⟩
   · cases e
   · cases e
   · obtain⟨c1,HY,vs1,k1,k2,k3,k6,k7,k8⟩:=h.obs j kk ll e
     exact⟨c1,HY,vs1,(bo j hji).trans k1,(hw c1 (ne j _ c1 HG e rfl k1)).trans k2,k3.mono ext,k6,fun o p=>p.elim (k7 o) fun q=>ne j _ c1 HG e rfl k1 q.1,by simpa[g',Gh.put,Gh.more,hji] using k8⟩
 · exact hw j fun e=>hn ⟨t,_,ht,rfl,e▸hc⟩
 · rcases p with p | ⟨rfl,_⟩
   · exact .inl p
   · exact .inr (.inl ⟨t,_,ht,rfl,hc⟩)
 · obtain⟨j,x,hj,hx,HH⟩:=ho'
   rcases get j _ hj with⟨rfl,e⟩ | e | ⟨hji,_,e⟩
   · rw[bi] at HH;cases HH;exact .inl ⟨t,_,ht,rfl,hc⟩
   · subst e;simp[bq.dc] at hx
   · rw[bo j hji] at HH;exact .inl ⟨j,x,e,hx,HH⟩
theorem Rel.qZ {g:Gh} {m:Mem} {w w':World} (h:Rel g m w) {cs:Array Value} {e:TypeId} (hw:qB w w' (.cells cs e)) :
  Rel (g.more w.heap.size 0 cs.size) m w'∧Ext g w (g.more w.heap.size 0 cs.size) w'∧dF g m w (g.more w.heap.size 0 cs.size) m w':=by
 have hp : ∀c o,g.pure c o→w'.cell? ⟨c,o,none⟩=w.cell? ⟨c,o,none⟩:=fun c o p=>ej (hw.old (h.mQ p))
 have ext:Ext g w (g.more w.heap.size 0 cs.size) w':=⟨fun j c hc=>⟨hc,rfl,rfl⟩,fun c o p=>⟨.inl p,hp c o p⟩⟩
 refine⟨⟨h.tA,h.free,fun j x l hj hl=> ?_,fun j c hj hc=> ?_,h.inj,fun c o p=> ?_,fun j kk ll hj=> ?_⟩,ext,⟨by rw[hw.size];omega,fun k hk _=>hw.old hk,fun c o p=>⟨.inl p,hp c o p⟩,fun c o p=> ?_,fun c ho=> .inl ho,hw.os,hw.tape,hw.output⟩⟩
 · obtain⟨c1,cs1,e1,n1,k1,k2,k3,k4,k5⟩:=h.cells j x l hj hl
   refine⟨c1,cs1,e1,n1,k1,(hw.old (cj k2)).trans k2,k3,k4.mono ext,fun o p=> ?_⟩
   rcases p with p | ⟨rfl,_⟩
   · exact k5 o p
   · exact absurd (cj k2) (fh _)
 · obtain⟨cs1,e1,n1,k2,k3,k4,k5⟩:=h.tok j c hj hc
   refine⟨cs1,e1,n1,(hw.old (cj k2)).trans k2,k3,k4,fun o a b p=> ?_⟩
   rcases p with p | ⟨rfl,_⟩
   · exact k5 o a b p
   · exact absurd (cj k2) (fh _)
 · rcases p with p | ⟨rfl,_,p⟩
   · obtain⟨v,hv⟩:=h.there c o p
     exact⟨v,(hp c o p).trans hv⟩
   · exact⟨cs[o],by rw[bD hw.new,gl (by omega)]⟩
 · obtain⟨c1,HY,vs1,k1,k2,k3,k6,k7,k8⟩:=h.obs j kk ll hj
   exact⟨c1,HY,vs1,k1,(hw.old (cj k2)).trans k2,k3.mono ext,k6,fun o p=>p.elim (k7 o) fun q=>absurd (cj k2) (by rw[q.1];exact fh _),k8⟩
 · rcases p with p | ⟨rfl,_⟩
   · exact .inl p
   · exact .inr (.inr (c9 _))
theorem Rel.rE {g:Gh} {m:Mem} {w:World} (h:Rel g m w) {i:Nat} (hi:m[i]? = some .free):Rel g (m.set i .tok) w∧dF g m w g (m.set i .tok) w:=by
 have hf:=h.free i hi
 refine⟨⟨fun j hj=>h.tA j (by simpa using hj),fun j hj=> ?_,fun j x l hj hl=> ?_,fun j c hj hc=> ?_,fun j k x x' c hj hk ho ho' gu gQ=> ?_,h.there,fun j kk ll hj=> ?_⟩,dF.less fun c ho=> ?_⟩
 · rcases aY hj with⟨_,e⟩ | ⟨_,e⟩
   · cases e
   · exact h.free j e
 · rcases aY hj with⟨_,e⟩ | ⟨_,e⟩
   · subst e;cases hl
   · exact h.cells j x l e hl
 · rcases aY hj with⟨rfl,_⟩ | ⟨_,e⟩
   · rw[hf] at hc;cases hc
   · exact h.tok j c e hc
 · rcases aY hj with⟨rfl,_⟩ | ⟨_,e⟩
   · rw[hf] at gu;cases gu
   · rcases aY hk with⟨rfl,_⟩ | ⟨_,e'⟩
     · rw[hf] at gQ;cases gQ
     · exact h.inj j k x x' c e e' ho ho' gu gQ
 · rcases aY hj with⟨_,e⟩ | ⟨_,e⟩
   · cases e
   · exact h.obs j kk ll e
 · obtain⟨j,x,hj,hx,hc⟩:=ho
   rcases aY hj with⟨rfl,_⟩ | ⟨_,e⟩
   · rw[hf] at hc;cases hc
   · exact⟨j,x,e,hx,hc⟩
theorem Rel.kq {g:Gh} {m:Mem} {w w':World} (h:Rel g m w) (hh:w'.heap=w.heap) (ho:w'.os=w.os) (ht:w'.tape=w.tape) (hu:w'.output=w.output) :
  Rel g m w'∧Ext g w g w'∧dF g m w g m w':=by
 have hc : ∀a:Addr,w'.cell? a=w.cell? a:=fun a=>by simp[World.cell?,hh]
 have ext:Ext g w g w':=⟨fun _ _ h=>⟨h,rfl,rfl⟩,fun _ _ p=>⟨p,hc _⟩⟩
 refine⟨⟨h.tA,h.free,fun j x l hj hl=> ?_,fun j c hj hcc=> ?_,h.inj,fun c o p=> ?_,fun j kk ll hj=> ?_⟩,ext,⟨by rw[hh];exact c9 _,fun k _ _=>by rw[hh],fun c o p=>⟨p,hc _⟩,fun _ _ p=> .inl p,fun _ ho=> .inl ho,ho,ht,hu⟩⟩
 · obtain⟨c1,cs1,e1,n1,k1,k2,k3,k4,k5⟩:=h.cells j x l hj hl
   exact⟨c1,cs1,e1,n1,k1,by rw[hh];exact k2,k3,k4.mono ext,k5⟩
 · obtain⟨cs1,e1,n1,k2,k3⟩:=h.tok j c hj hcc
   exact⟨cs1,e1,n1,by rw[hh];exact k2,k3⟩
 · obtain⟨v,hv⟩:=h.there c o p
   exact⟨v,(hc _).trans hv⟩
 · obtain⟨c1,HY,vs1,k1,k2,k3,k6,k7,k8⟩:=h.obs j kk ll hj
   exact⟨c1,HY,vs1,k1,by rw[hh];exact k2,k3.mono ext,k6,k7,k8⟩
theorem Rel.reserve {g:Gh} {m:Mem} {w:World} (h:Rel g m w):Rel g (m++[.free]) w∧dF g m w g (m++[.free]) w:=by
 have get : ∀j x,(m++[bq.free])[j]? = some x→m[j]? = some x∨(j=m.length∧x = .free):=by
  intro j x hj
  rw[List.getElem?_append] at hj
  by_cases e:j<m.length
  · rw[if_pos e] at hj;exact .inl hj
  · rw[if_neg e] at hj
    have:=bS hj
    simp at this
    have e2:j=m.length:=by omega
    subst e2
    simp at hj
    exact .inr ⟨rfl,hj.symm⟩
 refine⟨⟨fun j hj=>h.tA j (by simp at hj;omega),fun j hj=> ?_,fun j x l hj hl=> ?_,fun j c hj hc=> ?_,fun j k x x' c hj hk ho ho' gu gQ=> ?_,h.there,fun j kk ll hj=> ?_⟩,dF.less fun c ho=> ?_⟩
 · rcases get j _ hj with e | ⟨rfl,_⟩
   · exact h.free j e
   · exact h.tA _ (c9 _)
 · rcases get j _ hj with e | ⟨_,e⟩
   · exact h.cells j x l e hl
   · subst e;cases hl
 · rcases get j _ hj with e | ⟨_,e⟩
   · exact h.tok j c e hc
   · cases e
 · rcases get j _ hj with e | ⟨_,e⟩
   · rcases get k _ hk with e' | ⟨_,e'⟩
     · exact h.inj j k x x' c e e' ho ho' gu gQ
     · subst e';simp[bq.dc] at ho'
   · subst e;simp[bq.dc] at ho
 · rcases get j _ hj with e | ⟨_,e⟩
   · exact h.obs j kk ll e
   · cases e
 · obtain⟨j,x,hj,hx,hc⟩:=ho
   rcases get j _ hj with e | ⟨_,e⟩
   · exact⟨j,x,e,hx,hc⟩
   · subst e;simp[bq.dc] at hx
theorem Rel.rF (fy:Nat) {g:Gh} {m:Mem} {w w':World} (h:Rel g m w) {i:Nat} {ob:dS} {l:List AV} {vs:List Value} {o:Obj}
  (hi:m[i]? = some .free) (hv:dj g w l vs) (hw:qB w w' o) (his:ob.is o vs) (hroom:ob.room o fy) :
  Rel (g.put i w.heap.size 0 fy) (m.set i (.ob ob l)) w'∧Ext g w (g.put i w.heap.size 0 fy) w'∧dF g m w (g.put i w.heap.size 0 fy) (m.set i (.ob ob l)) w':=by
 have hf:=h.free i hi
 have hp : ∀c o,g.pure c o→w'.cell? ⟨c,o,none⟩=w.cell? ⟨c,o,none⟩:=fun c o p=>ej (hw.old (h.mQ p))
 have bo : ∀j,j≠i→(g.put i w.heap.size 0 fy).bX j=g.bX j:=fun j hj=>by simp[Gh.put,hj]
 have bi:(g.put i w.heap.size 0 fy).bX i=some w.heap.size:=by simp[Gh.put]
 have ext:Ext g w (g.put i w.heap.size 0 fy) w':=⟨fun j c hc=>by
  have:j≠i:=fun e=>by subst e;rw[hf] at hc;cases hc
  simp[Gh.put,this,hc],fun c o p=>⟨p,hp c o p⟩⟩
 have lt : ∀j x c,m[j]? = some x→x.dc=true→g.bX j=some c→c<w.heap.size:=fun j x c hj ho hc=>h.lW ⟨j,x,hj,ho,hc⟩
 have nW:=bS hi
 refine⟨⟨fun j hj=> ?_,fun j hj=> ?_,fun j x k hj hk=> ?_,fun j c hj hc=> ?_,fun j k x x' c hj hk ho ho' gu gQ=> ?_,fun c o p=> ?_,fun j kk ll hj=> ?_⟩,ext,⟨by rw[hw.size];omega,fun k hk _=>hw.old hk,fun c o p=>⟨p,hp c o p⟩,fun _ _ p=> .inl p,fun c ho=> ?_,hw.os,hw.tape,hw.output⟩⟩
 · rw[ed] at hj
   rw[bo j (by omega)];exact h.tA j hj
 · rcases aY hj with⟨rfl,e⟩ | ⟨hji,e⟩
   · cases e
   · rw[bo j hji];exact h.free j e
 · rcases aY hj with⟨rfl,e⟩ | ⟨hji,e⟩
   · subst e;cases hk
   · obtain⟨c1,cs1,e1,n1,k1,k2,k3,k4,k5⟩:=h.cells j x k e hk
     exact⟨c1,cs1,e1,n1,(bo j hji).trans k1,(hw.old (cj k2)).trans k2,k3,k4.mono ext,k5⟩
 · rcases aY hj with⟨rfl,e⟩ | ⟨hji,e⟩
   · cases e
   · rw[bo j hji] at hc
     obtain⟨cs1,e1,n1,k2,k3,k4,k5⟩:=h.tok j c e hc
     have h1:(g.put i w.heap.size 0 fy).hi j=g.hi j:=by simp[Gh.put,hji]
     have h2:(g.put i w.heap.size 0 fy).lo j=g.lo j:=by simp[Gh.put,hji]
     rw[h1,h2]
     exact⟨cs1,e1,n1,(hw.old (cj k2)).trans k2,k3,k4,k5⟩
 · rcases aY hj with⟨rfl,e⟩ | ⟨hji,e⟩<;>rcases aY hk with⟨rfl,e'⟩ | ⟨hki,e'⟩
   · rfl
   · rw[bi] at gu;cases gu
     rw[bo k hki] at gQ
     exact absurd (lt k x' _ e' ho' gQ) (fh _)
   · rw[bi] at gQ;cases gQ
     rw[bo j hji] at gu
     exact absurd (lt j x _ e ho gu) (fh _)
   · rw[bo j hji] at gu;rw[bo k hki] at gQ
     exact h.inj j k x x' c e e' ho ho' gu gQ
 · obtain⟨v,hv⟩:=h.there c o p
   exact⟨v,(hp c o p).trans hv⟩
 · rcases aY hj with⟨rfl,e⟩ | ⟨hji,e⟩
   · cases e
     exact⟨_,_,vs,bi,hw.new,hv.mono ext,his,fun o p=>absurd (h.mQ p) (fh _),by simpa[Gh.put] using hroom⟩
   · obtain⟨c1,HY,vs1,k1,k2,k3,k6,k7,k8⟩:=h.obs j kk ll e
     exact⟨c1,HY,vs1,(bo j hji).trans k1,(hw.old (cj k2)).trans k2,k3.mono ext,k6,k7,by simpa[Gh.put,hji] using k8⟩
 · obtain⟨j,x,hj,hx,hc⟩:=ho
   rcases aY hj with⟨rfl,e⟩ | ⟨hji,e⟩
   · rw[bi] at hc;cases hc;exact .inr (c9 _)
   · rw[bo j hji] at hc;exact .inl ⟨j,x,e,hx,hc⟩
theorem Rel.vL {g:Gh} {m:Mem} {w w':World} (h:Rel g m w) {i:Nat} {ob:dS} {l:List AV} {vs:List Value} {o:Obj}
  (hi:m[i]? = some .free) (hv:dj g w l vs) (hw:qB w w' o) (his:ob.is o vs) (hroom:ob.room o 0:=by trivial) :
  Rel (g.put i w.heap.size 0 0) (m.set i (.ob ob l)) w'∧Ext g w (g.put i w.heap.size 0 0) w'∧dF g m w (g.put i w.heap.size 0 0) (m.set i (.ob ob l)) w':=
 Rel.rF 0 h hi hv hw his hroom
theorem Rel.lA {g:Gh} {m:Mem} {w w':World} (h:Rel g m w) {i c:Nat} {ob N1:dS} {l l':List AV} {vs':List Value} {o':Obj}
  (hi:m[i]? = some (.ob ob l)) (hc:g.bX i=some c)
  (hw : ∀k,k≠c→w'.heap[k]? = w.heap[k]?) (hs:w'.heap.size=w.heap.size) (ho:w'.os=w.os) (ht:w'.tape=w.tape) (hu:w'.output=w.output)
  (hh:w'.heap[c]? = some o') (his:N1.is o' vs') (hv:dj g w l' vs') (hroom:N1.room o' (g.hi i):=by trivial) :
  Rel g (m.set i (.ob N1 l')) w'∧Ext g w g w'∧dF g m w g (m.set i (.ob N1 l')) w':=by
 obtain⟨c0,ob0,vs0,h1,_,_,_,hnp,_⟩:=h.obs i ob l hi
 rw[hc] at h1;cases h1
 have hp : ∀c' o,g.pure c' o→w'.cell? ⟨c',o,none⟩=w.cell? ⟨c',o,none⟩:=fun c' o p=>ej (hw c' fun e=>hnp o (e▸p))
 have ext:Ext g w g w':=⟨fun _ _ h=>⟨h,rfl,rfl⟩,fun c' o p=>⟨p,hp c' o p⟩⟩
 have ne : ∀j x c',j≠i→m[j]? = some x→x.dc=true→g.bX j=some c'→c'≠c:=fun j x c' hji hj ho fk e=>hji (h.inj j i x _ c hj hi ho rfl (e▸fk) hc)
 refine⟨⟨fun j hj=>h.tA j (by simpa using hj),fun j hj=> ?_,fun j x k hj hk=> ?_,fun j c' hj fk=> ?_,fun j k x x' c' hj hk ho ho' gu gQ=> ?_,fun c' o p=> ?_,fun j kk ll hj=> ?_⟩,ext,⟨by omega,fun k hk hn=> ?_,fun c' o p=>⟨p,hp c' o p⟩,fun _ _ p=> .inl p,fun c' ho'=> ?_,ho,ht,hu⟩⟩
 · rcases aY hj with⟨rfl,e⟩ | ⟨_,e⟩
   · cases e
   · exact h.free j e
 · rcases aY hj with⟨rfl,e⟩ | ⟨hji,e⟩
   · subst e;cases hk
   · obtain⟨c1,cs1,e1,n1,k1,k2,k3,k4,k5⟩:=h.cells j x k e hk
     exact⟨c1,cs1,e1,n1,k1,(hw c1 (ne j x c1 hji e (dn hk) k1)).trans k2,k3,k4.mono ext,k5⟩
 · rcases aY hj with⟨rfl,e⟩ | ⟨hji,e⟩
   · cases e
   · obtain⟨cs1,e1,n1,k2,k3,k4,k5⟩:=h.tok j c' e fk
     exact⟨cs1,e1,n1,(hw c' (ne j _ c' hji e rfl fk)).trans k2,k3,k4,k5⟩
 · rcases aY hj with⟨rfl,e⟩ | ⟨hji,e⟩<;>rcases aY hk with⟨rfl,e'⟩ | ⟨hki,e'⟩
   · rfl
   · rw[hc] at gu;cases gu
     exact absurd rfl (ne k x' _ hki e' ho' gQ)
   · rw[hc] at gQ;cases gQ
     exact absurd rfl (ne j x _ hji e ho gu)
   · exact h.inj j k x x' c' e e' ho ho' gu gQ
 · obtain⟨v,hv⟩:=h.there c' o p
   exact⟨v,(hp c' o p).trans hv⟩
 · rcases aY hj with⟨rfl,e⟩ | ⟨hji,e⟩
   · cases e
     exact⟨c,_,vs',hc,hh,hv.mono ext,his,hnp,hroom⟩
   · obtain⟨c1,HY,vs1,k1,k2,k3,k6,k7,k8⟩:=h.obs j kk ll e
     exact⟨c1,HY,vs1,k1,(hw c1 (ne j _ c1 hji e rfl k1)).trans k2,k3.mono ext,k6,k7,k8⟩
 · exact hw k fun e=>hn ⟨i,_,hi,rfl,e▸hc⟩
 · rcases tB ho' with⟨_,k⟩ | ⟨j,x,_,k1,k2,k3⟩
   · exact .inl ⟨i,_,hi,rfl,k⟩
   · exact .inl ⟨j,x,k1,k2,k3⟩
end Go.Am
end
section
namespace Go.Am
open Go.RowKit
def cO (g:Gh) (m:Mem) (w:World) (r:Result Next) (a:AV) (m':Mem):Prop:=
 ∃v w' g',(r = .ok (.value v) w'∨(r = .ok .skip w'∧v=undef))∧VA g' w' a v∧Rel g' m' w'∧Ext g w g' w'∧dF g m w g' m' w'
theorem cO.quiet {g:Gh} {m:Mem} {w:World} {r:Result Next} {a:AV} {v:Value} (h:Rel g m w) (hr:r = .ok (.value v) w) (ha:VA g w a v):cO g m w r a m:=
 ⟨v,w,g,.inl hr,ha,h,Ext.refl g w,dF.refl g m w⟩
theorem br {P:Program} {t:TypeId} {n:Nat} (h:gd P t=some n) (w:World):(sizeOf t).run P w = .ok n w:=by
 unfold gd at h
 cases hi:P.info? t with
 |none=>simp[hi] at h
 |some i=>simp only[hi,ie,dk] at h;simp[sizeOf,typeInfo,hi,h]
theorem fC {P:Program} {t:TypeId} {i:TypeInfo} (h:P.info? t=some i) (w:World):(typeInfo t).run P w = .ok i w:=by
 simp[typeInfo,h]
theorem mR {P:Program} {t:TypeId} {b:Bool} (h:TE P t=some b) (w:World):(isAgg t).run P w = .ok b w:=by
 unfold TE at h
 cases hu:P.underlying t with
 |none=>simp[hu] at h
 |some d=>cases d<;>simp[hu] at h<;>subst h<;>simp[isAgg,run_underlying hu]
theorem TI {g:Gh} {w:World} {a:AV} {v cv:Value} (h:N6 a=some v) (ha:VA g w a cv):cv=v:=by
 cases ha with
 |p v' _ hp=>cases hp<;>simp[N6] at h;exact h
 |_=>simp[N6] at h
theorem wG {g:Gh} {w:World} : ∀{l:List AV} {vs cs:List Value},vZ l=some vs→dj g w l cs→cs=vs
 |[],vs,cs,h,ha=>by
  cases cs with
  |nil=>simp[vZ] at h;exact h.symm
  |cons _ _=>exact ha.elim
 |a::l,vs,cs,h,ha=>by
  cases cs with
  |nil=>exact ha.elim
  |cons c cs=>
   simp only[vZ] at h
   cases h1:N6 a with
   |none=>simp[h1] at h
   |some v=>
    cases h2:vZ l with
    |none=>simp[h1,h2] at h
    |some us=>
     simp only[h1,h2,dk] at h
     subst h
     rw[TI h1 ha.1,wG h2 ha.2]
theorem Yz {g:Gh} {w:World} {a:AV} {v cv:Value} (h:N0 a=some v) (ha:VA g w a cv):cv=v:=by
 cases ha with
 |p v' _ hp=>cases hp<;>simp[N0] at h;exact h
 |agg l cs hl hh=>
  simp only[N0,ib] at h
  obtain⟨vs,h1,rfl⟩:=h
  rw[←wG h1 (bP.cY hl hh)]
 |aK l cs hl hh=>
  simp only[N0,ib] at h
  obtain⟨vs,h1,rfl⟩:=h
  rw[←wG h1 (bP.cY hl hh)]
 |_=>simp[N0] at h
theorem CU {α:Type} (P:Program) (w:World) : ∀(s:Sem α) (a:α),ig P s=some a→s.run P w = .ok a w:=by
 intro s
 induction s with
 |pure b=>intro a h;simp[ig] at h;subst h;rfl
 |program k ih=>intro a h;simp only[ig] at h;simp only[Sem.run];exact ih P a h
 |mark m k ih=>intro a h;simp only[ig] at h;simp only[Sem.run];exact ih a h
 |_=>intro a h;simp[ig] at h
theorem VA.iK {g:Gh} {w:World} (v:Value):VA g w (iK v) v:=by
 unfold Am.iK
 split
 · exact .os none 0 0 [] none 0 (.qA 0 none 0 (.inr ⟨rfl,rfl⟩)) (.inl rfl)
 · exact .p _ _ (.sc v)
theorem dj.fI {g:Gh} {w:World} : ∀(l:List Value),dj g w (l.map Am.iK) l
 |[]=>trivial
 |v::l=>⟨VA.iK v,dj.fI l⟩
theorem VA.X0 {g:Gh} {w:World} (v:Value):VA g w (X0 v) v:=by
 unfold Am.X0
 split
 · exact VA.wD.2 (dj.fI _)
 · exact VA.mP.2 (dj.fI _)
 · exact VA.iK _
theorem AY {ρ:Operand→AV} : ∀{l:List Operand},ux ρ l=true → ∀x∈l,∃v,N0 (ρ x)=some v
 |[],_,_,hx=>by cases hx
 |y::l,h,x,hx=>by
  simp only[ux,di] at h
  cases hx with
  |head=>exact ik.1 h.1
  |tail _ hx=>exact AY h.2 x hx
theorem getD_some {m:Mem} {b:Nat} {x:bq} (h:m.getD b .dead=x) (hx:x ≠ .dead):m[b]? = some x:=by
 rw[de] at h
 cases hq:m[b]? with
 |none=>rw[hq] at h;exact absurd h.symm hx
 |some y=>rw[hq] at h;exact congrArg some h
section ops
variable {P:Program} {g:Gh} {m:Mem} {w:World} {ρ:Operand→AV} {cQ:Operand→Value} {o:Oper}
theorem fm (hr : ∀x,VA g w (ρ x) (cQ x)) (hs : ∀cs b,o.op ≠ .select cs b) {a:AV} (h:scalar P ρ o=some a) :
  ∃v,(execOp cQ o).run P w = .ok (.value v) w∧VA g w a v:=by
 unfold scalar at h
 cases hb:ux ρ o.op.operands.toList with
 |false=>simp[hb] at h
 |true=>
  simp only[hb,cond_true] at h
  have hc:execOp cQ o=execOp (fun x=>(N0 (ρ x)).getD undef) o:=execOp_congr o hs fun x hx=>by
   obtain⟨v,hv⟩:=AY hb x (Array.mem_toList_iff.2 hx)
   simp[hv,Yz hv (hr x)]
  cases he:ig P (execOp (fun x=>(N0 (ρ x)).getD undef) o) with
  |none=>simp[he] at h
  |some nx=>
   cases nx with
   |value v=>
    simp only[he,dk] at h
    subst h
    exact⟨v,by rw[hc];exact CU P w _ _ he,VA.X0 v⟩
   |_=>simp[he] at h
theorem EM {d:Option TypeDesc} {c:PV} (h:(AP d c).2=true):(AP d c).1=c∧c ≠ .bz:=by
 unfold AP at h ⊢
 split at h
 · cases c with
   |sc v=>cases v<;>simp_all [isInt,au]
   |_=>simp[isInt] at h
 · cases c with
   |sc v=>cases v<;>simp_all [isBool,bf]
   |_=>simp[isBool] at h
 · cases c with
   |sc v=>cases v<;>simp_all [isStr,bg]
   |_=>simp[isStr] at h
 · cases c<;>simp_all [aO,an,aD,ak]
 · cases c<;>simp_all [isOk]
theorem wH {d:Option TypeDesc} {a:AV} (h:(iF d a).2=true):(iF d a).1=a∧a ≠ .p .bz:=by
 cases a with
 |p c=>simp only[iF] at h ⊢;exact⟨by rw[(EM h).1],fun e=>(EM h).2 (AV.p.inj e)⟩
 |_=>exact⟨rfl,fun e=>by cases e⟩
theorem EO : ∀{ds:List (Option TypeDesc)} {l:List AV},(rj ds l).2=true→(rj ds l).1=l ∧ ∀x∈l,x ≠ .p .bz
 |[],[],_=>⟨rfl,fun _ h=>by cases h⟩
 |d::ds,a::l,h=>by
  simp only[rj,di] at h ⊢
  obtain⟨h1,h2⟩:=EO h.2
  refine⟨by rw[(wH h.1).1,h1],fun x hx=> ?_⟩
  cases hx with
  |head=>exact(wH h.1).2
  |tail _ hx=>exact h2 x hx
 |[],_::_,h=>by simp[rj] at h
 |_::_,[],h=>by simp[rj] at h
theorem eH {α:Type} (d:α) (l:List α) : ∀(n off:Nat),(nE d l off n).length=n
 |0,_=>rfl
 |n+1,off=>by simp[nE,eH d l n]
theorem lY {α:Type} (d:α) (l:List α) : ∀(n off j:Nat) (h:j<(nE d l off n).length),(nE d l off n)[j]=l.getD (off+j) d
 |0,_,_,h=>by simp[nE] at h
 |n+1,off,0,_=>by simp[nE]
 |n+1,off,j+1,h=>by
  simp only[nE,List.getElem_cons_succ]
  rw[lY d l n (off+1) j]
  congr 1;omega
theorem Rel.Ou (h:Rel g m w) {b c:Nat} {k:List AV} {t:TypeId} {pq:Bool} (hb:m[b]? = some (.ob (.gr t pq) k)) (hc:g.bX b=some c) {j:Nat} (hj:j<k.length) : ∃v,w.cell? ⟨c,j,none⟩=some v∧VA g w k[j] v:=by
 obtain⟨c',ob,vs,h1,h2,h3,h4,_,_⟩:=h.obs b _ _ hb
 rw[hc] at h1;cases h1
 obtain⟨cs,e,n,rfl,_,_,q1,q2,_⟩:=h4
 have hl:=h3.len
 have Ov:j<vs.length:=by omega
 have hjc:j<cs.size:=by omega
 refine⟨cs[j],by rw[bD h2,gl hjc],?_⟩
 have:=h3.get j hj Ov
 have e1:vs[j]? = some cs[j]:=by
  rw[q1,dq,if_pos Ov]
  simp[hjc]
 rw[da Ov] at e1
 rwa [dp e1] at this
theorem Rel.Ow {g:Gh} {m:Mem} {w:World} (h:Rel g m w) {i:Nat} {k k':dS} {l l':List AV} (hb:m[i]? = some (.ob k l))
  (hl : ∀ob vs hi,dj g w l vs→k.is ob vs→k.room ob hi → ∃vs',dj g w l' vs'∧k'.is ob vs'∧k'.room ob hi):Rel g (m.set i (.ob k' l')) w∧dF g m w g (m.set i (.ob k' l')) w:=by
 have own : ∀(j:Nat) (x:bq),(m.set i (.ob k' l'))[j]? = some x→x.dc=true → ∃y:bq,m[j]? = some y∧y.dc=true:=fun j x hj ho=>by
  rcases aY hj with⟨rfl,_⟩ | ⟨_,q⟩
  · exact⟨_,hb,rfl⟩
  · exact⟨x,q,ho⟩
 refine⟨⟨fun j hj=>h.tA j (by simpa using hj),fun j hj=> ?_,fun j x cs hj hx=> ?_,fun j c hj hc=> ?_,fun j q x x' c hj hq ho ho' hc fk=> ?_,h.there,fun j k1 l1 hj=> ?_⟩,
  ⟨c9 _,fun _ _ _=>rfl,fun _ _ p=>⟨p,rfl⟩,fun _ _ p=> .inl p,fun c ho=> ?_,rfl,rfl,rfl⟩⟩
 · rcases aY hj with⟨_,q⟩ | ⟨_,q⟩
   · cases q
   · exact h.free j q
 · rcases aY hj with⟨_,rfl⟩ | ⟨_,q⟩
   · cases hx
   · exact h.cells j x cs q hx
 · rcases aY hj with⟨_,q⟩ | ⟨_,q⟩
   · cases q
   · exact h.tok j c q hc
 · obtain⟨y,y1,y2⟩:=own j x hj ho
   obtain⟨z,z1,z2⟩:=own q x' hq ho'
   exact h.inj j q y z c y1 z1 y2 z2 hc fk
 · rcases aY hj with⟨rfl,q⟩ | ⟨_,q⟩
   · cases q
     obtain⟨c,o,vs,k1,k2,k3,k4,k5,k6⟩:=h.obs _ _ _ hb
     obtain⟨vs',q1,q2,q3⟩:=hl o vs _ k3 k4 k6
     exact⟨c,o,vs',k1,k2,q1,q2,k5,q3⟩
   · exact h.obs j k1 l1 q
 · obtain⟨j,x,hj,hx,hc⟩:=ho
   obtain⟨y,y1,y2⟩:=own j x hj hx
   exact .inl ⟨j,y,y1,y2,hc⟩
def exactly (pre:List Value):List AV:=pre.map fun v=> .p (.sc v)
theorem bV (pre:List Value):(exactly pre).length=pre.length:=List.length_map ..
theorem rG {g:Gh} {w:World} : ∀(pre:List Value),dj g w (exactly pre) pre
 |[]=>trivial
 |v::r=>⟨.p _ _ (.sc v),rG r⟩
theorem wI {g:Gh} {w:World} : ∀{pre vs:List Value},dj g w (exactly pre) vs→vs=pre
 |[],[],_=>rfl
 |v::r,x::xs,h=>by
  have h1:VA g w (.p (.sc v)) x:=h.1
  rw[VA.pv] at h1
  cases h1
  rw[wI (pre:=r) h.2]
 |[],_::_,h=>h.elim
 |_::_,[],h=>h.elim
theorem Rel.HZ {g:Gh} {m:Mem} {w:World} (h:Rel g m w) {b:Nat} {t:TypeId} {pre:List Value} {l:List AV} (hb:m[b]? = some (.ob (.stk t pre) l)) :
  Rel g (m.set b (.ob (.gr t false) (exactly pre++l))) w∧dF g m w g (m.set b (.ob (.gr t false) (exactly pre++l))) w:=
 h.Ow hb fun ob vs hi hv hk hr=>by
   obtain⟨cs,e,n,rfl,q1,q2,q3,q4,q5⟩:=hk
   exact⟨pre++vs,(rG pre).append hv,⟨cs,e,n,rfl,q1,q2,by rw[dC];exact q3,by rw[dC];exact q4,q5⟩,hr⟩
theorem Rel.Ox {g:Gh} {m:Mem} {w:World} (h:Rel g m w) {b:Nat} {t:TypeId} {q:Bool} {pre:List Value} {l:List AV} (hb:m[b]? = some (.ob (.gr t q) (exactly pre++l))) :
  Rel g (m.set b (.ob (.stk t pre) l)) w∧dF g m w g (m.set b (.ob (.stk t pre) l)) w:=
 h.Ow hb fun ob vs hi hv hk hr=>by
   obtain⟨cs,e,n,rfl,q1,q2,q3,q4,q5⟩:=hk
   have e1:vs=vs.take pre.length++vs.drop pre.length:=(List.take_append_drop _ _).symm
   have hlen:=hv.len
   rw[dC,bV] at hlen
   have h1:dj g w (exactly pre) (vs.take pre.length):=by
    have:=hv.take pre.length
    rwa [List.take_append_of_le_length (by rw[bV];exact c9 _),ea (by rw[bV];exact c9 _)] at this
   have h2:dj g w l (vs.drop pre.length):=by
    have:=hv.drop pre.length
    rwa [List.drop_append_of_le_length (by rw[bV];exact c9 _),List.drop_of_length_le (by rw[bV];exact c9 _),List.nil_append] at this
   have h3:=wI h1
   rw[h3] at e1
   have e2:pre.length+(vs.drop pre.length).length=vs.length:=by rw[ee];omega
   exact⟨vs.drop pre.length,h2,⟨cs,e,n,rfl,q1,q2,by rw[e2,←e1];exact q3,by rw[e2];exact q4,q5⟩,hr⟩
theorem qa (h:Rel g m w) {a:AV} {ca:Value} (ha:VA g w a ca) {n:Nat} {l:List AV} (he:mJ (fun i=>m.getD i .dead) a n=some (l,true)) (hb : ∀x∈l,x ≠ .p .bz) :
  ∃c o vs,ca = .pointer (some ⟨c,o,none⟩)∧dj g w l vs∧vs.length=n ∧ ∀j v,vs[j]? = some v→w.cell? ⟨c,o+j,none⟩=some v:=by
 have key : ∀(c o:Nat),l.length=n→(∀j (hj:j<l.length),∃v,w.cell? ⟨c,o+j,none⟩=some v∧VA g w l[j] v) →
   ∃vs,dj g w l vs∧vs.length=n ∧ ∀j v,vs[j]? = some v→w.cell? ⟨c,o+j,none⟩=some v:=by
  intro c o hl hh
  refine⟨(fe n).map fun j=>(w.cell? ⟨c,o+j,none⟩).getD undef,bP.cY (by simp[hl]) fun i hi _=> ?_,by simp,fun j v hj=> ?_⟩
  · obtain⟨v,h1,h2⟩:=hh i hi
    simpa[h1] using h2
  · simp only[ek,ib] at hj
    obtain⟨k,hk,rfl⟩:=hj
    have hk':=dT.1 hk
    obtain⟨hlt,hk'⟩:=hk'
    simp at hlt hk'
    subst hk'
    obtain⟨v,h1,_⟩:=hh j (by omega)
    simp[h1]
 unfold mJ at he
 split at he
 · rename_i off cs
   simp only[dk,ja,and_true] at he
   subst he
   rw[VA.pv] at ha
   cases ha with
   |pp _ _ b o f hp hv=>
    obtain⟨vs,h1,h2,h3⟩:=key b (o+off) (by simp[eH]) (fun j hj=>by
     have hj':j<(nE PV.bz cs off n).length:=by simpa using hj
     have hx:=hb _ (en hj)
     simp only[dE,lY] at hx ⊢
     rcases ft (off+j) cs.length with hlt | hge
     · refine⟨f (off+j),by rw[fw];exact(hp (off+j) hlt).2.1,?_⟩
       rw[de,da hlt]
       exact .p _ _ (hv (off+j) hlt)
     · exact absurd (by rw[de,eb hge];rfl) hx)
    exact⟨b,o+off,vs,rfl,h1,h2,h3⟩
 · rename_i b off
   cases ha with
   |mp _ _ c hc=>
    split at he
    · rename_i k hk
      simp only[dk,ja,and_true] at he
      subst he
      have hm:m[b]? = some (.pc k):=getD_some hk (by simp)
      obtain⟨c',cs,e,q,h1,h2,h3,h4,h5⟩:=h.cells b _ _ hm rfl
      rw[hc] at h1;cases h1
      have h4:=h4.1
      have hlen:=h4.len
      obtain⟨vs,k1,k2,k3⟩:=key c off (by simp[eH]) (fun j hj=>by
       have hx:=hb _ (en hj)
       simp only[dE,lY] at hx ⊢
       rcases ft (off+j) k.length with hlt | hge
       · have hlt':off+j<cs.size:=by simp at hlen;omega
         refine⟨cs[off+j],by rw[bD h2,gl hlt'],?_⟩
         rw[de,da hlt]
         have:=h4.get (off+j) (by simpa using hlt) (by simpa using hlt')
         simpa using this
       · exact absurd (by rw[de,eb hge];rfl) hx)
      exact⟨c,off,vs,rfl,k1,k2,k3⟩
    · rename_i k hk
      simp only[dk,ja] at he
      obtain⟨rfl,hle⟩:=he
      have hle':=fg hle
      have hm:m[b]? = some (.ac k):=getD_some hk (by simp)
      obtain⟨c',cs,e,q,h1,h2,h3,h4,h5⟩:=h.cells b _ _ hm rfl
      rw[hc] at h1;cases h1
      have h4:=h4.1
      have hlen:=h4.len
      obtain⟨vs,k1,k2,k3⟩:=key c off (by simp[eH]) (fun j hj=>by
       simp only[eH] at hj
       simp only[lY]
       have hlt:off+j<k.length:=by omega
       have hlt':off+j<cs.size:=by simp at hlen;omega
       refine⟨cs[off+j],by rw[bD h2,gl hlt'],?_⟩
       rw[de,da hlt]
       have:=h4.get (off+j) hlt (by simpa using hlt')
       simpa using this)
      exact⟨c,off,vs,rfl,k1,k2,k3⟩
    · rename_i k hk
      simp only[dk,ja] at he
      obtain⟨rfl,hle⟩:=he
      have hle':=fg hle
      obtain⟨vs,k1,k2,k3⟩:=key c off (by simp[eH]) (fun j hj=>by
       simp only[eH] at hj
       simp only[lY]
       have hlt:off+j<k.length:=by omega
       obtain⟨v,q1,q2⟩:=h.Ou (getD_some hk (by simp)) hc hlt
       refine⟨v,q1,?_⟩
       rw[de,da hlt]
       exact q2)
      exact⟨c,off,vs,rfl,k1,k2,k3⟩
    · rename_i t0 pre k hk
      simp only[dk,ja,di] at he
      obtain⟨rfl,ajM,hle⟩:=he
      have amS:=fg ajM
      have hle':=fg hle
      have hm:m[b]? = some (.ob (.stk t0 pre) k):=getD_some hk (by simp)
      obtain⟨hg,_⟩:=h.HZ hm
      have hgb:(m.set b (.ob (.gr t0 false) (exactly pre++k)))[b]? = some (.ob (.gr t0 false) (exactly pre++k)):=by rw[List.getElem?_set_self (bS hm)]
      obtain⟨vs,k1,k2,k3⟩:=key c off (by simp[eH]) (fun j hj=>by
       simp only[eH] at hj
       simp only[lY]
       have hlt:off-pre.length+j<k.length:=by omega
       have YA:off+j<(exactly pre++k).length:=by rw[dC,bV];omega
       obtain⟨v,q1,q2⟩:=hg.Ou hgb hc YA
       refine⟨v,q1,?_⟩
       rw[de,da hlt]
       have e:(exactly pre++k)[off+j]=k[off-pre.length+j]:=by
        rw[List.getElem_append_right (by rw[bV];omega)]
        congr 1
        rw[bV];omega
       rw[e] at q2
       exact q2)
      exact⟨c,off,vs,rfl,k1,k2,k3⟩
    · cases he
 · cases he
theorem dg (c o j:Nat):(⟨c,o,none⟩:Addr).add j=⟨c,o+j,none⟩:=by unfold Addr.add;split<;>simp_all
theorem rH (h:Rel g m w) {a:AV} {ca:Value} (ha:VA g w a ca) {t:TypeId} {v:AV} (he:lK P (fun i=>m.getD i .dead) t a=some (v,true)) :
  ∃c o cv,ca = .pointer (some ⟨c,o,none⟩)∧(loadVar t ⟨c,o,none⟩).run P w = .ok cv w∧VA g w v cv:=by
 unfold lK at he
 split at he
 · rename_i n hag hsz
   simp only[ib,ja,di] at he
   obtain⟨⟨l,ok⟩,h1,rfl,hok,h2⟩:=he
   simp only at hok h2
   subst hok
   obtain⟨e1,e2⟩:=EO h2
   obtain⟨c,o,vs,rfl,k1,k2,k3⟩:=qa h ha h1 e2
   refine⟨c,o,.agg vs.toArray,rfl,?_,?_⟩
   · have:=run_loadCells_list (P:=P) w ⟨c,o,none⟩ vs (fun j v hj=>by rw[dg];exact k3 j v hj)
     simp only[loadVar,jb,mR hag,j1,if_true,br hsz,←k2,this,jn]
   · simp only[e1];exact VA.wD.2 (by simpa using k1)
 · rename_i n hag hsz
   split at he
   · rename_i x ok hx
     simp only[dk,ja,di] at he
     obtain⟨rfl,hok,h2⟩:=he
     subst hok
     obtain⟨e1,e2⟩:=wH h2
     obtain⟨c,o,vs,rfl,k1,k2,k3⟩:=qa h ha hx (fun y hy=>by simp at hy;subst hy;exact e2)
     cases vs with
     |nil=>exact k1.elim
     |cons u us=>
      have:=k3 0 u rfl
      simp only[Nat.add_zero] at this
      exact⟨c,o,u,rfl,by simp[loadVar,mR hag,this],by rw[e1];exact k1.1⟩
   · cases he
 · cases he
end ops
end Go.Am
end
section
namespace Go.Am
open Go.RowKit
section ops
variable {P:Program} {g:Gh} {m:Mem} {w:World} {ρ:Operand→AV} {cQ:Operand→Value} {o:Oper}
theorem qb {x a:AV} {cx:Value} {n:Nat} (h:mL x n=some a) (hx:VA g w x cx) :
  ∃c o,cx = .pointer (some ⟨c,o,none⟩)∧VA g w a (.pointer (some ⟨c,o+n,none⟩)):=by
 cases hx with
 |p v cv hv=>
  cases hv with
  |pp off cells b o f hp hv=>
   simp only[mL,dk] at h;subst h
   exact⟨b,o+off,rfl,.p _ _ (by rw[fw];exact .pp (off+n) cells b o f hp hv)⟩
  |_=>simp[mL] at h
 |mp b off c hc=>
  simp only[mL,dk] at h;subst h
  exact⟨c,off,rfl,.mp b (off+n) c hc⟩
 |_=>simp[mL] at h
theorem wJ {c o:Nat} {f:Field} {n:Nat} (h:gd P f.type=some n) (hn:n≠0) :
  (fieldPlace ⟨c,o,none⟩ f).run P w = .ok ⟨c,o+f.offset,none⟩ w:=by
 simp[fieldPlace,br h,hn,dg]
theorem rI {t:TypeId} {x a:AV} {cx:Value} {f:Nat} (h:kW P t x f=some a) (hx:VA g w x cx) :
  ∃v,(kv t cx f).run P w = .ok v w∧VA g w a v:=by
 unfold kW at h
 split at h
 · rename_i fields hu
   split at h
   · rename_i fd hf
     split at h
     · rename_i n hn
       cases hb:bc 1 n with
       |false=>simp[hb] at h
       |true=>
        simp only[hb,cond_true] at h
        have h1:=fg hb
        obtain⟨c,o,rfl,ha⟩:=qb h hx
        refine⟨_,?_,ha⟩
        simp[kv,run_underlying hu,hf,kh,wJ hn (by omega:n≠0)]
     · cases h
   · cases h
 · cases h
theorem pe {i:Int} {n:Nat}:aP i n=true↔0≤i∧i<n:=by simp[aP]
theorem rJ {t:TypeId} {x i a:AV} {cx ci:Value} (h:kX P t x i=some (a,true)) (hx:VA g w x cx) (hi:VA g w i ci) :
  ∃v,(kc t cx ci).run P w = .ok v w∧VA g w a v:=by
 unfold kX at h
 split at h
 · rename_i k n len elem hu
   rw[VA.pv] at hi;cases hi
   split at h
   · rename_i size hsz
     simp only[ib,ja] at h
     obtain⟨a',h1,rfl,h2⟩:=h
     obtain⟨c,o,rfl,ha⟩:=qb h1 hx
     rw[pe] at h2
     refine⟨_,?_,ha⟩
     simp[kc,asIntOf,run_underlying hu,kh,h2,br hsz,dg]
   · cases h
 · rename_i k n elem hu
   rw[VA.pv] at hi;cases hi
   split at h
   · rename_i size len sz cs hsz
     simp only[dk,ja,di] at h
     obtain⟨rfl,h2,_⟩:=h
     rw[pe] at h2
     rw[VA.pv] at hx
     cases hx with
     |ps _ _ _ b o cap f hl hc hz hp hv=>
      refine⟨_,?_,.p _ _ (.pp (n.toNat*size) cs b o f hp hv)⟩
      simp[kc,asIntOf,run_underlying hu,h2,br hsz,dg]
     |qA sz a cap=>simp at h2;omega
   · rename_i size tok len sz cs hsz
     simp only[dk,ja,di] at h
     obtain⟨rfl,h2,_⟩:=h
     rw[pe] at h2
     cases hx with
     |os _ _ _ _ ad cap hx hr=>
      cases hx with
      |ps _ _ _ b o cap f hl hc hz hp hv=>
       refine⟨_,?_,.p _ _ (.pp (n.toNat*size) cs b o f hp hv)⟩
       simp[kc,asIntOf,run_underlying hu,h2,br hsz,dg]
      |qA sz a cap=>simp at h2;omega
   · rename_i size b off len sz cap hsz
     simp only[dk,ja,di] at h
     obtain⟨rfl,h2,_⟩:=h
     rw[pe] at h2
     cases hx with
     |ms _ _ _ _ cap c hb hc=>
      refine⟨_,?_,.mp b _ c hb⟩
      simp[kc,asIntOf,run_underlying hu,h2,br hsz,dg]
     |mg _ _ _ _ cap c hb hc=>
      refine⟨_,?_,.mp b _ c hb⟩
      simp[kc,asIntOf,run_underlying hu,h2,br hsz,dg]
   · cases h
 · cases h
theorem AZ {α:Type} (d:α) : ∀(n:Nat) (l:List α) (off:Nat),off+n≤l.length→nE d l off n=(l.drop off).take n
 |0,_,_,_=>by simp[nE]
 |n+1,l,off,h=>by
  have hlt:off<l.length:=by omega
  rw[nE,AZ d n l (off+1) (by omega),List.drop_eq_getElem_cons hlt,List.take_succ_cons,de,da hlt]
  rfl
theorem rK {t:TypeId} {cs:List AV} {ca:Array Value} {off:Nat} {a:AV} (h:partOf P t cs off=some (a,true)) (hc:dj g w cs ca.toList) :
  ∃v,(part t ca off).run P w = .ok v w∧VA g w a v:=by
 have hlen:=hc.len
 unfold partOf at h
 split at h
 · rename_i n hag hsz
   simp only[dk,ja] at h
   obtain⟨rfl,h2⟩:=h
   have h2:=fg h2
   refine⟨_,by simp[part,mR hag,br hsz];rfl,VA.wD.2 ?_⟩
   rw[AZ _ _ _ _ h2]
   have:=(hc.drop off).take n
   simpa[eQ] using this
 · rename_i n hag hsz
   simp only[dk,ja] at h
   obtain⟨rfl,h2⟩:=h
   have h2:off<cs.length:=by simpa[gg] using h2
   have h3:off<ca.size:=by simp at hlen;omega
   refine⟨ca[off],by simp[part,mR hag,gl h3],?_⟩
   rw[de,da h2]
   exact hc.get off h2 (by simpa using h3)
 · cases h
theorem Ab {t:TypeId} {x a:AV} {cx:Value} {f:Nat} (h:vC P t x f=some (a,true)) (hx:VA g w x cx) :
  ∃v,(kx t cx f).run P w = .ok v w∧VA g w a v:=by
 unfold vC at h
 split at h
 · rename_i fields cs hu
   split at h
   · rename_i fd hf
     cases hx with
     |agg _ ca hl hh=>
      obtain⟨v,h1,h2⟩:=rK h (VA.wD.1 (.agg cs ca hl hh))
      exact⟨v,by simp[kx,run_underlying hu,hf,asAgg,h1],h2⟩
   · cases h
 · cases h
theorem wK (s:ByteArray) (i:Nat):s[i]? = s.data.toList[i]? :=by
 rcases ft i s.size with h | h
 · have h2:i<s.data.toList.length:=by rw[gn];exact h
   rw[getElem?_pos s i h,da h2]
   rfl
 · have h2:s.data.toList.length≤i:=by rw[gn];exact h
   rw[getElem?_neg s i (Nat.not_lt.2 h),eb h2]
theorem Ac {t:TypeId} {x i a:AV} {cx ci:Value} (h:vD P t x i=some (a,true)) (hx:VA g w x cx) (hi:VA g w i ci) :
  ∃v,(km t cx ci).run P w = .ok v w∧VA g w a v:=by
 unfold vD at h
 split at h
 · rename_i cs k n
   rw[VA.pv] at hi;cases hi
   split at h
   · rename_i len elem hu
     split at h
     · rename_i size v ok hsz hp
       simp only[dk,ja,di] at h
       obtain⟨rfl,h1,rfl⟩:=h
       rw[pe] at h1
       cases hx with
       |agg _ ca hl hh=>
        simp only[hsz,il] at hp
        obtain⟨v,h2,h3⟩:=rK hp (VA.wD.1 (.agg cs ca hl hh))
        refine⟨v,?_,h3⟩
        simp[km,asIntOf,run_underlying hu,h1,br hsz,h2]
     · cases h
   · cases h
 · rename_i s k n
   rw[VA.pv] at hi hx;cases hi;cases hx
   split at h
   · rename_i hu
     simp only[dk,ja] at h
     obtain⟨rfl,h1⟩:=h
     rw[pe] at h1
     have hlt:n.toNat<s.data.toList.length:=by omega
     refine⟨_,?_,.p _ _ (.sc _)⟩
     simp only[km,asIntOf,run_underlying hu,jb,jn,j1,h1.1,if_true,wK,da hlt,de,il]
   · cases h
 · cases h
theorem jj (hr : ∀x,VA g w (ρ x) (cQ x)) {x:Option Operand} {d n:Nat} (h:bound ρ x d=some (n,true)) :
  (x=none∧n=d)∨(∃y k i,x=some y∧cQ y = .int k i∧0≤i∧n=i.toNat):=by
 unfold bound at h
 split at h
 · simp only[dk,ja,and_true] at h;exact .inl ⟨rfl,h.symm⟩
 · rename_i y
   split at h
   · rename_i k i he
     simp only[dk,ja,decide_eq_true_eq] at h
     have:=hr y
     rw[he,VA.pv] at this
     refine .inr ⟨y,k,i,rfl,?_,h.2,h.1.symm⟩
     generalize cQ y=cv at this
     cases this;rfl
   · cases h
theorem run_sliceBound {k:IntKind} {i:Int} {y:Nat} {code:BoundsCode} (h0:0≤i) (h1:i.toNat≤y):(kl (.int k i) y code).run P w = .ok i.toNat w:=by
 have:i≤y:=by omega
 simp[kl,asIntOf,h0,this]
theorem cu (hr : ∀x,VA g w (ρ x) (cQ x)) {isS:Bool} {len cap l h:Nat} {low high:Option Operand}
  (hl:bound ρ low 0=some (l,true)) (hh:bound ρ high len=some (h,true)) (h1:l≤h) (h2:h≤cap) :
  (j2 isS len cap (low.map cQ) (high.map cQ) none).run P w = .ok (l,h,cap) w:=by
 rcases jj hr hl with⟨rfl,rfl⟩ | ⟨y,k,i,rfl,hy,hi,rfl⟩<;>rcases jj hr hh with⟨rfl,rfl⟩ | ⟨y',k',i',rfl,hy',hi',rfl⟩
 · simp[j2]
 · simp[j2,hy',run_sliceBound hi' h2]
 · simp[j2,hy,run_sliceBound hi h1]
 · simp[j2,hy,hy',run_sliceBound hi h1,run_sliceBound hi' h2]
theorem jk (hr : ∀x,VA g w (ρ x) (cQ x)) {isS:Bool} {len cap l h:Nat} {low:Option Operand} {hx mx:Operand}
  (hl:bound ρ low 0=some (l,true)) (hh:bound ρ (some hx) len=some (h,true)) (hm:bound ρ (some mx) 0=some (h,true)) (h1:l≤h) (h2:h≤cap) :
  (j2 isS len cap (low.map cQ) (some (cQ hx)) (some (cQ mx))).run P w = .ok (l,h,h) w:=by
 rcases jj hr hh with⟨e,_⟩ | ⟨y',k',i',e,hy',hi',rfl⟩
 · cases e
 cases e
 rcases jj hr hm with⟨e,_⟩ | ⟨y2,k2,i2,e,hy2,hi2,e2⟩
 · cases e
 cases e
 rw[e2] at h2
 rcases jj hr hl with⟨rfl,rfl⟩ | ⟨y,k,i,rfl,hy,hi,rfl⟩
 · simp only[j2,jb,hy',hy2,run_sliceBound hi2 h2,j1,ic,jn]
   rw[run_sliceBound hi' (by omega)];simp[e2]
 · simp only[j2,jb,hy,hy',hy2,run_sliceBound hi2 h2,j1,ie]
   rw[run_sliceBound hi' (by omega)]
   simp only[j1]
   rw[run_sliceBound hi (by omega)];simp[e2]
theorem pX (hr : ∀x,VA g w (ρ x) (cQ x)) {isS:Bool} {len cap l h m':Nat} {low:Option Operand} {hx mx:Operand}
  (hl:bound ρ low 0=some (l,true)) (hh:bound ρ (some hx) len=some (h,true)) (hm:bound ρ (some mx) 0=some (m',true)) (h1:l≤h) (h2:h≤m') (h3:m'≤cap) :
  (j2 isS len cap (low.map cQ) (some (cQ hx)) (some (cQ mx))).run P w = .ok (l,h,m') w:=by
 rcases jj hr hh with⟨e,_⟩ | ⟨y',k',i',e,hy',hi',rfl⟩
 · cases e
 cases e
 rcases jj hr hm with⟨e,_⟩ | ⟨y2,k2,i2,e,hy2,hi2,rfl⟩
 · cases e
 cases e
 rcases jj hr hl with⟨rfl,rfl⟩ | ⟨y,k,i,rfl,hy,hi,rfl⟩
 · simp only[j2,jb,hy',hy2,run_sliceBound hi2 h3,j1,ic,jn]
   rw[run_sliceBound hi' h2];simp
 · simp only[j2,jb,hy,hy',hy2,run_sliceBound hi2 h3,j1,ie]
   rw[run_sliceBound hi' h2]
   simp only[j1]
   rw[run_sliceBound hi h1];simp
theorem nX {α:Type} (cs:List α) {len l h size:Nat} {low high:Option Operand} (hl:cs.length=len*size) (h1:l≤h) (h2:h≤len) (e1:low=none→l=0) (e2:high=none→h=len) :
  cut cs (times low l size) (times high h size)=(cs.drop (l*size)).take ((h-l)*size):=by
 have hlh:(h-l)*size=h*size-l*size:=fv _ _ _
 have hhl:h*size≤len*size:=fl _ h2
 have TJ:l*size≤h*size:=fl _ h1
 unfold cut times
 cases low with
 |none=>
  have:=e1 rfl;subst this
  cases high with
  |none=>have:=e2 rfl;subst this;simp[hl,ea]
  |some _=>simp
 |some _=>
  cases high with
  |none=>
   have:=e2 rfl;subst this
   simp only[ie,ic]
   rw[ea]
   simp[hl,hlh]
  |some _=>simp only[ie];rw[eQ,hlh]
theorem pg {len sz:Nat} {cs:List PV} {a:Option Addr} {cap l h m':Nat} (hx:VP g w (.ps len sz cs) (.slice a len cap)) (h1:l≤h) (h2:h≤len) (h3:h≤m') (h4:m'≤cap) :
  VP g w (.ps (h-l) sz ((cs.drop (l*sz)).take ((h-l)*sz))) (.slice (if m'=l then a else a.map (·.add (l*sz))) (h-l) (m'-l)):=by
 cases hx with
 |ps _ _ _ b o cap f hl hc hz hp hv=>
  have hlh:(h-l)*sz=h*sz-l*sz:=fv _ _ _
  have hhl:h*sz≤len*sz:=fl _ h2
  have TJ:l*sz≤h*sz:=fl _ h1
  by_cases e:m'=l
  · have:h-l=0:=by omega
    simp only[this,Nat.zero_mul,List.take_zero]
    exact .qA _ _ _ (.inl hz)
  · simp only[if_neg e,ie,dg]
    refine .ps _ _ _ b (o+l*sz) _ (fun k=>f (l*sz+k)) (by simp[hl,hlh];omega) (by omega) hz (fun k hk=> ?_) (fun k hk=> ?_)
    · simp only[eh,ee,hl] at hk
      have:=hp (l*sz+k) (by omega)
      rw[fw];exact this
    · simp only[eh,ee,hl] at hk
      have:=hv (l*sz+k) (by omega)
      simpa using this
 |qA sz a cap hz=>
  have:h-l=0:=by omega
  simp only[this,List.drop_nil,List.take_nil]
  exact .qA _ _ _ (hz.imp id fun⟨e,e2⟩=>by subst e;subst e2;exact⟨by split<;>rfl,by omega⟩)
theorem jN {len sz size:Nat} {cs:List PV} {a:Option Addr} {cap:Nat} (hx:VP g w (.ps len sz cs) (.slice a len cap)) (h:(ba sz size||(ba len 0&&bc 1 size))=true):VP g w (.ps len size cs) (.slice a len cap):=by
 simp only[iu,di,fi] at h
 rcases h with rfl | ⟨rfl,h1⟩
 · exact hx
 · have h1:=fg h1
   cases hx with
   |ps _ _ _ b o cap f hl hc hz hp hv=>
    simp at hl;subst hl
    exact .qA _ _ _ (.inl h1)
   |qA=>exact .qA _ _ _ (.inl h1)
theorem mS {len sz:Nat} {cs:List PV} {cv:Value} (hx:VP g w (.ps len sz cs) cv):cs.length=len*sz ∧ ∃a cap,cv = .slice a len cap∧(len≤cap):=by
 cases hx with
 |ps _ _ _ b o cap f hl hc hz hp hv=>exact⟨hl,_,_,rfl,hc⟩
 |qA=>exact⟨by simp,_,_,rfl,Nat.zero_le _⟩
end ops
end Go.Am
end
section
namespace Go.Am
open Go.RowKit
theorem gR {ρ:Operand→AV} {d n:Nat} {b:Bool} (h:bound ρ none d=some (n,b)):n=d:=by
 simp only[bound,dk,ja] at h;exact h.1.symm
section ops
variable {P:Program} {g:Gh} {m:Mem} {w:World} {ρ:Operand→AV} {cQ:Operand→Value} {o:Oper}
theorem Ad (hr : ∀x,VA g w (ρ x) (cQ x)) {t:TypeId} {x a:AV} {cx:Value} {low high mx:Option Operand} (h:oY P ρ t x low high mx=some (a,true)) (hx:VA g w x cx) :
  ∃v,(ka t cx (low.map cQ) (high.map cQ) (mx.map cQ)).run P w = .ok v w∧VA g w a v:=by
 unfold oY at h
 split at h
 · rename_i n elem hu
   split at h
   · rename_i size l a' h' b' i off hsz hl hh
     simp only[dk,ja,di] at h
     obtain⟨rfl,⟨⟨rfl,rfl⟩,h1⟩,h2⟩:=h
     have h1:=fg h1
     have h2:=fg h2
     cases hx with
     |mp _ _ c hc=>
      have e:(if n=l then(⟨c,off,none⟩:Addr) else(⟨c,off,none⟩:Addr).add (l*size))=⟨c,cond (ba n l) off (off+l*size),none⟩:=by
       by_cases e:n=l
       · simp[e]
       · have:ba n l=false:=by rw[im];intro k;exact e (be k)
         simp[e,this,dg]
      refine⟨_,?_,.ms i (cond (ba n l) off (off+l*size)) (h'-l) size (n-l) c hc (by omega)⟩
      simp only[ka,jb,run_underlying hu,j1,kh,ic,cu hr hl hh h1 h2,br hsz,jn,e]
   · cases h
 · rename_i elem hu
   split at h
   · rename_i size l a' len sz cs hsz hl
     rw[VA.pv] at hx
     obtain⟨hlen,ad,cap,rfl,hcap⟩:=mS hx
     split at h
     · rename_i h' b' hh
       simp only[dk,ja,di,fi] at h
       obtain⟨rfl,⟨⟨⟨rfl,rfl⟩,h1⟩,h2⟩,rfl⟩:=h
       have h1:=fg h1
       have h2:=fg h2
       refine⟨_,?_,.p _ _ (by rw[nX cs hlen h1 h2 (fun e:low=none=>gR (e▸hl)) (fun e=>gR (e▸hh))];exact pg hx h1 h2 (bx h2 hcap) (c9 _))⟩
       simp only[ka,kb,jb,run_underlying hu,j1,ic,cu hr hl hh h1 (bx h2 hcap),br hsz,jn]
     · rename_i h' b' mo hh
       split at h
       · rename_i m' c' hm
         simp only[dk,ja,di,fi] at h
         obtain⟨rfl,⟨⟨⟨⟨⟨rfl,rfl⟩,rfl⟩,h1⟩,h2⟩,rfl⟩,h3,rfl⟩:=h
         have h1:=fg h1
         have h2:=fg h2
         obtain⟨hx',rfl⟩:=ik.1 h3
         have hv:=pg (m':=m') hx h1 h2 (c9 _) (bx h2 hcap)
         refine⟨_,?_,.os none (m'-l) sz _ _ _ (by rw[nX cs hlen h1 h2 (fun e:low=none=>gR (e▸hl)) (fun e=>by cases e)];exact hv) (.inl rfl)⟩
         simp only[ka,kb,jb,run_underlying hu,j1,ie,jk hr hl hh hm h1 (bx h2 hcap),br hsz,jn]
       · cases h
     · cases h
   · rename_i size l a' tok len sz cs hsz hl
     cases hx with
     |os _ _ _ _ ad cap hx Ae=>
     obtain⟨hlen,ad',cap',he,hcap⟩:=mS hx
     cases he
     split at h
     · rename_i h' b' hh
       split at h
       · simp only[dk,ja,di] at h
         obtain⟨rfl,⟨⟨rfl,rfl⟩,h1⟩,h3⟩:=h
         have h1:=fg h1
         have:=gR hh;subst this
         have hsz':(ba sz size||(ba h' 0&&bc 1 size))=true:=by
          rw[iu] at h3 ⊢
          refine h3.imp id fun k=> ?_
          simp only[di] at k ⊢
          exact⟨k.1,k.2.1⟩
         have hx':=jN hx hsz'
         have hlen':=(mS hx').1
         have hv:=pg (m':=cap) hx' h1 (c9 _) hcap (c9 _)
         have hc:=nX (low:=low) (high:=none) cs hlen' h1 (c9 _) (fun e:low=none=>gR (e▸hl)) (fun _=>rfl)
         simp only[times,ic] at hc
         refine⟨_,?_,.os tok (h'-l) size _ _ _ (by simp only[times];rw[hc];exact hv) ?_⟩
         · have hb:=cu (P:=P) (isS:=true) hr hl hh h1 hcap
           simp only[ic] at hb
           simp only[ka,kb,jb,run_underlying hu,j1,ic,hb,br hsz,jn]
         · rcases Ae with rfl | ⟨t,b,o',rfl,rfl,q1,q2,q3,q4⟩
           · exact .inl rfl
           · have:sz=size:=by simpa[fi] using h3
             subst this
             by_cases e:cap=l
             · exact .inl (by omega)
             · refine .inr ⟨t,b,o'+l*sz,rfl,by simp[e,dg],q1,?_,?_,by omega⟩
               · rw[q2,fv];have:=fl sz h1;omega
               · rw[q3,fv];have:=fl sz (bx h1 hcap);omega
       · rename_i hy
         have aeR : ∀{sz:Nat},VP g w (.ps len sz cs) (.slice ad len cap)→cs.length=len*size→l≤h'→h'≤len→cut cs (times low l size) (some (h'*size))=(cs.drop (l*size)).take ((h'-l)*size):=fun _ hlen' h1 h2=>by
          have hc:=nX (low:=low) (high:=some hy) cs hlen' h1 h2 (fun e:low=none=>gR (e▸hl)) (fun e=>by cases e)
          simpa only[times,ie] using hc
         split at h
         · rename_i heq
           simp only[dk,ja,di] at h
           obtain⟨rfl,⟨⟨⟨rfl,rfl⟩,h1⟩,h2⟩,h3⟩:=h
           have heq:=be heq
           have h1:=fg h1
           have h2:=fg h2
           have amT:cap=len:=by
            rcases Ae with e | ⟨t,b,o',e,_⟩
            · exact e
            · cases e
           have hx':=jN hx h3
           have hlen':=(mS hx').1
           have hv:=pg (m':=cap) hx' h1 h2 (bx h2 hcap) (c9 _)
           refine⟨_,?_,.os none (h'-l) size _ _ _ (by rw[aeR hx hlen' h1 h2];exact hv) (.inl (by omega))⟩
           simp only[ka,kb,jb,run_underlying hu,j1,ic,cu hr hl hh h1 (bx h2 hcap),br hsz,jn]
         · simp only[dk,ja,di] at h
           obtain⟨rfl,⟨⟨⟨rfl,rfl⟩,h1⟩,h2⟩,h3⟩:=h
           have h1:=fg h1
           have h2:=fg h2
           have hx':=jN hx h3
           have hlen':=(mS hx').1
           refine⟨_,?_,.p _ _ (by rw[aeR hx hlen' h1 h2];exact pg hx' h1 h2 (bx h2 hcap) (c9 _))⟩
           simp only[ka,kb,jb,run_underlying hu,j1,ic,cu hr hl hh h1 (bx h2 hcap),br hsz,jn]
     · rename_i h' b' mo hh
       split at h
       · rename_i m' c' hm
         simp only[dk,ja,di,fi] at h
         obtain⟨rfl,⟨⟨⟨⟨⟨rfl,rfl⟩,rfl⟩,h1⟩,h2⟩,rfl⟩,h3,h4⟩:=h
         have h1:=fg h1
         have h2:=fg h2
         obtain⟨hx',rfl⟩:=ik.1 h3
         have hx2:=jN hx h4
         have hlen':=(mS hx2).1
         have hv:=pg (m':=m') hx2 h1 h2 (c9 _) (bx h2 hcap)
         refine⟨_,?_,.os none (m'-l) size _ _ _ (by rw[nX cs hlen' h1 h2 (fun e:low=none=>gR (e▸hl)) (fun e=>by cases e)];exact hv) (.inl rfl)⟩
         simp only[ka,kb,jb,run_underlying hu,j1,ie,jk hr hl hh hm h1 (bx h2 hcap),br hsz,jn]
       · cases h
     · cases h
   · rename_i size l a' i off len sz hsz hl
     cases hx with
     |mg _ _ _ _ cap c hc hcap hroom=>
     split at h
     · rename_i h' b' hh
       simp only[dk,ja,di,iu,fi,gg] at h
       obtain⟨rfl,⟨⟨⟨⟨rfl,rfl⟩,h1⟩,h2⟩,rfl⟩,h3⟩:=h
       have h1:=fg h1
       have h2:=fg h2
       have e:(if cap=l then some (⟨c,off,none⟩:Addr) else(some (⟨c,off,none⟩:Addr)).map (·.add (l*sz)))=some ⟨c,off+l*sz,none⟩:=by
        by_cases e:cap=l
        · have:l=0:=by omega
          simp[e,this]
        · simp[e,dg]
       refine⟨_,?_,.mg i (off+l*sz) (h'-l) sz (cap-l) c hc (by omega) ?_⟩
       · simp only[ka,kb,jb,run_underlying hu,j1,ic,cu hr hl hh h1 (bx h2 hcap),br hsz,jn,e]
       · rw[fv]
         have:=fl sz (bx (bx h1 h2) hcap)
         omega
     · rename_i h' b' mo hh
       split at h
       · rename_i m' c' hm
         simp only[dk,ja,di,fi] at h
         obtain⟨rfl,⟨⟨⟨⟨⟨rfl,rfl⟩,rfl⟩,h1⟩,h2⟩,h4⟩,h3,rfl⟩:=h
         have h1:=fg h1
         have h2:=fg h2
         have h4:=fg h4
         obtain⟨hx',rfl⟩:=ik.1 h3
         have e:(if m'=l then some (⟨c,off,none⟩:Addr) else some ((⟨c,off,none⟩:Addr).add (l*sz)))=some ⟨c,cond (ba m' l) off (off+l*sz),none⟩:=by
          by_cases e:m'=l
          · simp[e]
          · have:ba m' l=false:=by rw[im];intro k;exact e (be k)
            simp[e,this,dg]
         refine⟨_,?_,.ms i (cond (ba m' l) off (off+l*sz)) (h'-l) sz (m'-l) c hc (by omega)⟩
         simp only[ka,kb,jb,run_underlying hu,j1,ie,pX hr hl hh hm h1 h2 (bx h4 hcap),br hsz,jn,e]
       · cases h
     · cases h
   · rename_i size l a' i off len sz cap hsz hl
     cases hx with
     |ms _ _ _ _ cap c hc hcap=>
     split at h
     · rename_i h' b' hh
       simp only[dk,ja,di,fi] at h
       obtain⟨rfl,⟨⟨⟨rfl,rfl⟩,h1⟩,h2⟩,rfl⟩:=h
       have h1:=fg h1
       have h2:=fg h2
       have e:(if cap=l then some (⟨c,off,none⟩:Addr) else(some (⟨c,off,none⟩:Addr)).map (·.add (l*sz)))=some ⟨c,cond (ba cap l) off (off+l*sz),none⟩:=by
        by_cases e:cap=l
        · simp[e]
        · have:ba cap l=false:=by rw[im];intro k;exact e (be k)
          simp[e,this,dg]
       refine⟨_,?_,.ms i (cond (ba cap l) off (off+l*sz)) (h'-l) sz (cap-l) c hc (by omega)⟩
       simp only[ka,kb,jb,run_underlying hu,j1,ic,cu hr hl hh h1 h2,br hsz,jn,e]
     · cases h
   · cases h
 · rename_i hu
   split at h
   · rename_i l a' s hl
     rw[VA.pv] at hx;cases hx
     split at h
     · rename_i h' b' hh
       simp only[dk,ja,di] at h
       obtain⟨rfl,⟨⟨rfl,rfl⟩,h1⟩,h2⟩:=h
       have h1:=fg h1
       have h2:=fg h2
       have e:s.data.toList.length=s.size:=gn
       rw[e] at hh h2
       refine⟨_,?_,.p _ _ (.sc _)⟩
       simp only[ka,kb,jb,run_underlying hu,j1,ic,Option.isSome_none,Bool.false_eq_true,if_false,jn,cu hr hl hh h1 h2]
     · cases h
   · cases h
 · cases h
theorem vk (op:BinOp) (t:TypeId) (x y:Operand) (k k':IntKind) (a b:Int):(eqGuard op t x y (.int k a) (.int k' b)).run P w = .ok () w:=by
 unfold eqGuard;cases op<;>rfl
theorem qC (op:BinOp) (t:TypeId) (x y:Operand) (a b:ByteArray):(eqGuard op t x y (.string a) (.string b)).run P w = .ok () w:=by
 unfold eqGuard;cases op<;>rfl
theorem CV {op:BinOp} {t:TypeId} {k k':IntKind} {a b:Int} {v:Value} (h:HU op k a k' b=some (v,true)):(binOp op t (.int k a) (.int k' b)).run P w = .ok v w:=by
 cases op<;>simp only[HU,dk,ja,di,beq_iff_eq,iv,beq_eq_false_iff_ne,decide_eq_true_eq] at h
 case quo=>obtain⟨rfl,rfl,hb⟩:=h;simp[binOp,Op.intDiv,hb]
 case rem=>obtain⟨rfl,rfl,hb⟩:=h;simp[binOp,Op.intDiv,hb]
 case shl=>obtain⟨rfl,hb⟩:=h;simp[binOp,Op.shift,Int.not_lt.2 hb]
 case shr=>obtain⟨rfl,hb⟩:=h;simp[binOp,Op.shift,Int.not_lt.2 hb]
 all_goals obtain⟨rfl,rfl⟩:=h
 all_goals simp[binOp,la,Op.intBits,Op.intCmp]
theorem CW {op:BinOp} {t:TypeId} {a b:ByteArray} {v:Value} (h:HV op a b=some (v,true)):(binOp op t (.string a) (.string b)).run P w = .ok v w:=by
 have e : ∀s:ByteArray,s.data.toList.length=s.size:=fun s=>gn
 cases op<;>simp only[HV,dk,ja,and_true,reduceCtorEq] at h
 case add=>
  obtain⟨rfl,h⟩:=h
  have h:=fg h
  rw[e,e] at h
  rw[binOp_string_add,run_string_add_sum w a b (by unfold aR at h;omega)]
 all_goals (subst h;simp[binOp,Op.stringOp,ByteArray.toList_eq])
theorem iw (d:Nat) (cx cy:Array Value) : ∀(fs:List Field) (i:Nat) (xs ys:List AV) (b:Bool),ij P i fs xs ys=some b→dj g w xs (cx.toList.drop i)→dj g w ys (cy.toList.drop i) →
  (kz (d+1) cx cy fs).run P w = .ok b w
 |[],i,xs,ys,b,h,hx,hy=>by
  cases xs<;>cases ys<;>simp only[ij,dk,reduceCtorEq] at h
  subst h
  simp[kz]
 |f::fs,i,xs,ys,b,h,hx,hy=>by
  cases xs with
  |nil=>simp[ij] at h
  |cons x xs=>
   cases ys with
   |nil=>simp[ij] at h
   |cons y ys=>
    have X5 : ∀(c:Array Value) (z:AV) (zs:List AV),dj g w (z::zs) (c.toList.drop i) → ∃v,c[i]? = some v∧VA g w z v∧dj g w zs (c.toList.drop (i+1)):=by
     intro c z zs hz
     cases hd:c.toList.drop i with
     |nil=>rw[hd] at hz;exact hz.elim
     |cons v vs=>
      rw[hd] at hz
      have h1:c.toList[i]? = some v:=by rw[←List.head?_drop,hd];rfl
      have h2:c.toList.drop (i+1)=vs:=by rw[←List.tail_drop,hd];rfl
      refine⟨v,by simpa using h1,hz.1,?_⟩
      rw[h2];exact hz.2
    obtain⟨vx,ex,rx,tx⟩:=X5 cx x xs hx
    obtain⟨vy,ey,ry,ty⟩:=X5 cy y ys hy
    simp only[ij] at h
    split at h
    · rename_i _ k a k' a' hu
      cases hc:(k==k'&&ba f.offset i&&f.name != "_" && P.plainKey f.type) with
      |false=>rw[hc] at h;cases h
      |true=>
       rw[hc] at h
       simp only[cond_true,ib] at h
       obtain⟨r,h1,rfl⟩:=h
       simp only[di,beq_iff_eq,bne_iff_ne] at hc
       obtain⟨⟨⟨rfl,ho⟩,hn⟩,hp⟩:=hc
       have ho:=be ho
       rw[VA.pv] at rx ry
       cases rx
       cases ry
       have ih:=iw d cx cy fs (i+1) xs ys r h1 tx ty
       simp only[kz,if_pos hn,jb,ho,run_part_plain w hp ex,run_part_plain w hp ey,j1,run_equalIn_int w d f.type k _ a a' hu]
       cases hab:(a==a') with
       |true=>simp[ih]
       |false=>simp
    · rename_i _ a a' hu
      cases hc:(ba f.offset i&&f.name != "_" && P.plainKey f.type) with
      |false=>rw[hc] at h;cases h
      |true=>
       rw[hc] at h
       simp only[cond_true,ib] at h
       obtain⟨r,h1,rfl⟩:=h
       simp only[di,bne_iff_ne] at hc
       obtain⟨⟨ho,hn⟩,hp⟩:=hc
       have ho:=be ho
       rw[VA.pv] at rx ry
       cases rx
       cases ry
       have ih:=iw d cx cy fs (i+1) xs ys r h1 tx ty
       simp only[kz,if_pos hn,jb,ho,run_part_plain w hp ex,run_part_plain w hp ey,j1,run_equalIn_bool' w d f.type a a' hu]
       cases hab:(a==a') with
       |true=>simp[ih]
       |false=>simp
    · rename_i _ a a' hu
      cases hc:(ba f.offset i&&f.name != "_" && P.plainKey f.type) with
      |false=>rw[hc] at h;cases h
      |true=>
       rw[hc] at h
       simp only[cond_true,ib] at h
       obtain⟨r,h1,rfl⟩:=h
       simp only[di,bne_iff_ne] at hc
       obtain⟨⟨ho,hn⟩,hp⟩:=hc
       have ho:=be ho
       rw[VA.pv] at rx ry
       cases rx
       cases ry
       have ih:=iw d cx cy fs (i+1) xs ys r h1 tx ty
       simp only[kz,if_pos hn,jb,ho,run_part_plain w hp ex,run_part_plain w hp ey,j1,run_equalIn_string w d f.type a a' hu,ByteArray.toList_eq]
       cases hab:(a.data.toList==a'.data.toList) with
       |true=>simp[ih]
       |false=>simp
    · cases h
theorem uA {t:TypeId} {x y:AV} {b:Bool} {vx vy:Value} (h:EG P t x y=some b) (hx:VA g w x vx) (hy:VA g w y vy) :
  (∀op p q,(eqGuard op t p q vx vy).run P w = .ok () w)∧(binOp .eql t vx vy).run P w = .ok (.bool b) w∧(binOp .neq t vx vy).run P w = .ok (.bool (!b)) w:=by
 unfold EG at h
 split at h
 · rename_i xs ys
   split at h
   · rename_i fs hu
     cases hc:(!P.stoodInHeld t && !P.eqGuardType P.depth t) with
     |false=>rw[hc] at h;cases h
     |true=>
      rw[hc] at h
      simp only[cond_true] at h
      simp only[di,iv] at hc
      cases hx with
      |agg _ cx lx hx=>
       cases hy with
       |agg _ cy ly hy=>
        have hfo:P.fieldsOf t=fs:=by unfold Program.fieldsOf;rw[hu]
        have hu2:P.underlying t=some (.struct (P.fieldsOf t)):=by rw[hfo,hu]
        have key:=iw (g:=g) (w:=w) 9998 cx cy fs.toList 0 xs ys b h (by simpa using bP.cY lx hx) (by simpa using bP.cY ly hy)
        have e:(Op.equalIn 10000 t (.agg cx) (.agg cy)).run P w = .ok b w:=by
         rw[run_equalIn_agg w 9999 t cx cy hu2 hc.1,hfo];exact key
        refine⟨fun op p q=>run_eqGuard_agg w op t p q cx cy hc.2,?_,?_⟩
        · rw[run_eql_struct,e];rfl
        · rw[run_neq_struct,e];rfl
   · cases h
 · cases h
theorem Af (hr : ∀x,VA g w (ρ x) (cQ x)) {op:BinOp} {t yt:TypeId} {x y:Operand} (ho:o.op = .binOp op t x y yt) {a:AV} (h:ru P ρ o op (ρ x) (ρ y)=some (a,true)) :
  ∃v,(execOp cQ o).run P w = .ok (.value v) w∧VA g w a v:=by
 unfold ru at h
 split at h
 · rename_i k a' k' b' hx hy
   simp only[ib,ja] at h
   obtain⟨⟨v,ok⟩,h1,rfl,h2⟩:=h
   simp only at h2;subst h2
   have cx:cQ x = .int k a':=by have:=hr x;rw[hx,VA.pv] at this;generalize cQ x=z at this;cases this;rfl
   have cy:cQ y = .int k' b':=by have:=hr y;rw[hy,VA.pv] at this;generalize cQ y=z at this;cases this;rfl
   exact⟨v,by simp only[execOp,ho,cx,cy,jb,vk,j1,CV h1,jn],.p _ _ (.sc v)⟩
 · rename_i a' b' hx hy
   simp only[ib,ja] at h
   obtain⟨⟨v,ok⟩,h1,rfl,h2⟩:=h
   simp only at h2;subst h2
   have cx:cQ x = .string a':=by have:=hr x;rw[hx,VA.pv] at this;generalize cQ x=z at this;cases this;rfl
   have cy:cQ y = .string b':=by have:=hr y;rw[hy,VA.pv] at this;generalize cQ y=z at this;cases this;rfl
   exact⟨v,by simp only[execOp,ho,cx,cy,jb,qC,j1,CW h1,jn],.p _ _ (.sc v)⟩
 · have hs : ∀cs b,o.op ≠ .select cs b:=fun _ _=>by rw[ho];exact fun e=>by cases e
   split at h
   · split at h
     · rename_i b hb
       simp only[dk,ja,and_true] at h
       subst h
       have hb:EG P t (ρ x) (ρ y)=some b:=by unfold JE at hb;rw[ho] at hb;exact hb
       obtain⟨k1,k2,k3⟩:=uA hb (hr x) (hr y)
       exact⟨_,by simp only[execOp,ho,jb,k1,j1,k2,jn],.p _ _ (.sc _)⟩
     cases hc:(kY (ρ x)&&kZ (ρ y)||kZ (ρ x)&&kY (ρ y)) with
     |true=>simp[hc] at h
     |false=>
      simp only[hc,cond_false,ib,ja,and_true] at h
      obtain⟨v,h1,rfl⟩:=h
      exact fm hr hs h1
   · split at h
     · rename_i b hb
       simp only[dk,ja,and_true] at h
       subst h
       have hb:EG P t (ρ x) (ρ y)=some b:=by unfold JE at hb;rw[ho] at hb;exact hb
       obtain⟨k1,k2,k3⟩:=uA hb (hr x) (hr y)
       exact⟨_,by simp only[execOp,ho,jb,k1,j1,k3,jn],.p _ _ (.sc _)⟩
     cases hc:(kY (ρ x)&&kZ (ρ y)||kZ (ρ x)&&kY (ρ y)) with
     |true=>simp[hc] at h
     |false=>
      simp only[hc,cond_false,ib,ja,and_true] at h
      obtain⟨v,h1,rfl⟩:=h
      exact fm hr hs h1
   · cases h
theorem CX (hr : ∀x,VA g w (ρ x) (cQ x)) {op:UnOp} {t:TypeId} {x:Operand} (ho:o.op = .unOp op t x) {a:AV} (h:wg P ρ o op (ρ x)=some (a,true)) :
  ∃v,(execOp cQ o).run P w = .ok (.value v) w∧VA g w a v:=by
 unfold wg at h
 split at h
 · rename_i b hx
   simp only[dk,ja,and_true] at h;subst h
   have cx:cQ x = .bool b:=by have:=hr x;rw[hx,VA.pv] at this;generalize cQ x=z at this;cases this;rfl
   exact⟨_,by simp only[execOp,ho,cx,Op.unary,jb,jn,j1],.p _ _ (.sc _)⟩
 · rename_i k n hx
   simp only[dk,ja,and_true] at h;subst h
   have cx:cQ x = .int k n:=by have:=hr x;rw[hx,VA.pv] at this;generalize cQ x=z at this;cases this;rfl
   exact⟨_,by simp only[execOp,ho,cx,Op.unary,la,jb,jn,j1],.p _ _ (.sc _)⟩
 · simp only[ib,ja,and_true] at h
   obtain⟨v,h1,rfl⟩:=h
   exact fm hr (fun _ _=>by rw[ho];exact fun e=>by cases e) h1
set_option linter.unusedVariables false in
theorem rL {t:TypeId} {x a:AV} {cx:Value} (h:nQ P t x=some a) (hx:VA g w x cx) :
  ∃v,(Instr.makeInterface t cx).run P w = .ok v w∧VA g w a v:=by
 unfold nQ at h
 cases h
theorem tC (hr : ∀x,VA g w (ρ x) (cQ x)) {x:Operand} (ho:o.op = .nilCheck x) {a:AV} (h:j8 P ρ o (ρ x)=some a) :
  ∃v,(execOp cQ o).run P w = .ok (.value v) w∧VA g w a v:=by
 unfold j8 at h
 split at h
 · rename_i off cs hx
   simp only[dk] at h;subst h
   have:=hr x;rw[hx] at this
   refine⟨cQ x,?_,this⟩
   generalize hz:cQ x=z at this
   rw[VA.pv] at this;cases this
   simp[execOp,ho,hz]
 · rename_i b off hx
   simp only[dk] at h;subst h
   have:=hr x;rw[hx] at this
   refine⟨cQ x,?_,this⟩
   generalize hz:cQ x=z at this
   cases this
   simp[execOp,ho,hz]
 · rename_i f a' b' hx
   simp only[dk] at h;subst h
   have:=hr x;rw[hx] at this
   refine⟨cQ x,?_,this⟩
   generalize hz:cQ x=z at this
   cases this
   simp[execOp,ho,hz]
 · exact fm hr (fun _ _=>by rw[ho];exact fun e=>by cases e) h
theorem EP {argTypes:Array TypeId} {ty:TypeId} {x a:AV} {cx:Value} (h:Oa P argTypes x=some a) (hx:VA g w x cx) :
  ∃v,(lb argTypes ty #[cx]).run P w = .ok v w∧VA g w a v:=by
 unfold Oa at h
 split at h
 · rename_i t ht
   split at h
   · rename_i len sz cs hu
     simp only[dk] at h;subst h
     rw[VA.pv] at hx
     obtain⟨_,ad,cap,rfl,_⟩:=mS hx
     exact⟨_,by simp[lb,ht,run_underlying hu,goInt],.p _ _ (.sc _)⟩
   · rename_i tok len sz cs hu
     simp only[dk] at h;subst h
     cases hx with
     |os _ _ _ _ ad cap hx _=>exact⟨_,by simp[lb,ht,run_underlying hu,goInt],.p _ _ (.sc _)⟩
   · rename_i b off len sz cap hu
     simp only[dk] at h;subst h
     cases hx with
     |ms _ _ _ _ cap c _ _=>exact⟨_,by simp[lb,ht,run_underlying hu,goInt],.p _ _ (.sc _)⟩
     |mg _ _ _ _ cap c _ _ _=>exact⟨_,by simp[lb,ht,run_underlying hu,goInt],.p _ _ (.sc _)⟩
   · rename_i s hu
     simp only[dk] at h;subst h
     rw[VA.pv] at hx;cases hx
     rw[show s.data.toList.length=s.size from gn]
     exact⟨_,by simp[lb,ht,run_underlying hu,goInt],.p _ _ (.sc _)⟩
   · rename_i n e hu
     simp only[dk] at h;subst h
     exact⟨_,by simp[lb,ht,run_underlying hu,goInt],.p _ _ (.sc _)⟩
   · cases h
 · cases h
theorem ER {argTypes:Array TypeId} {ty:TypeId} {x a:AV} {cx:Value} (h:Ob P argTypes x=some a) (hx:VA g w x cx) :
  ∃v,(lk argTypes ty #[cx]).run P w = .ok v w∧VA g w a v:=by
 unfold Ob at h
 split at h
 · rename_i t ht
   split at h
   · rename_i b off len sz cap hu
     simp only[dk] at h;subst h
     cases hx with
     |ms _ _ _ _ cap c _ _=>exact⟨_,by simp[lk,ht,run_underlying hu,goInt],.p _ _ (.sc _)⟩
   · rename_i len sz cs hu
     simp only[dk] at h;subst h
     cases hx with
     |os _ _ _ _ ad cap hx hr=>
      have hcap:cap=len:=by
       rcases hr with e | ⟨t,b,o,e,_⟩
       · exact e
       · cases e
      subst hcap
      exact⟨_,by simp[lk,ht,run_underlying hu,goInt],.p _ _ (.sc _)⟩
   · rename_i cs hu
     simp only[dk] at h;subst h
     rw[VA.pv] at hx
     cases hx with
     |ps _ _ _ b o cap f hl hc hz hp hv=>omega
     |qA sz a cap hz=>
      obtain⟨rfl,rfl⟩:=hz.resolve_left (by omega)
      exact⟨_,by simp[lk,ht,run_underlying hu,goInt],.p _ _ (.sc _)⟩
   · cases h
 · cases h
end ops
end Go.Am
end
section
namespace Go.Am
open Go.RowKit
section ops
variable {P:Program} {g:Gh} {m:Mem} {w:World}
theorem eo : ∀{l:List AV} {aJ:List PV} {vs:List Value},kV l=some aJ→dj g w l vs→JQ g w aJ vs
 |[],aJ,vs,h,hv=>by
  simp[kV] at h;subst h
  cases vs with
  |nil=>trivial
  |cons _ _=>exact hv.elim
 |a::l,aJ,vs,h,hv=>by
  cases vs with
  |nil=>exact hv.elim
  |cons v vs=>
   simp only[kV] at h
   cases h1:ED a with
   |none=>simp[h1] at h
   |some pv=>
    cases h2:kV l with
    |none=>simp[h1,h2] at h
    |some us=>
     simp only[h1,h2,dk] at h
     subst h
     refine⟨?_,eo h2 hv.2⟩
     have h0:=hv.1
     cases h0 with
     |p pv' _ hp=>simp[ED] at h1;subst h1;exact hp
     |os tok len sz cells ad cap hp _=>simp[ED] at h1;subst h1;exact hp
     |_=>simp[ED] at h1
def tD (P:Program) (g:Gh) (w:World) (sz n:Nat) (aJ:List PV) (cx:Value):Prop:=
 ∃vs:List Value,JQ g w aJ vs∧vs.length=n*sz∧(∀v∈vs,v.oneCell'=true)∧(lj cx).run P w = .ok n w ∧ ∀k,k≤n→(lh sz k cx).run P w = .ok (vs.take (k*sz)).toArray w
theorem eI {sz n cap:Nat} {aJ:List PV} {b o:Nat} {vs:List Value} (h1:JQ g w aJ vs) (h2:vs.length=n*sz) (ho : ∀v∈vs,v.oneCell'=true) (h3 : ∀j v,vs[j]? = some v→w.cell? ⟨b,o+j,none⟩=some v) :
  tD P g w sz n aJ (.slice (some ⟨b,o,none⟩) n cap):=by
 refine⟨vs,h1,h2,ho,by simp[lj],fun k hk=> ?_⟩
 have hl:(vs.take (k*sz)).length=k*sz:=by
  rw[eh,h2];exact Nat.min_eq_left (fl _ hk)
 have:=run_loadCells_list (P:=P) w ⟨b,o,none⟩ (vs.take (k*sz)) (fun j v hj=>by
  rw[dg];exact h3 j v (by rw[dq] at hj;split at hj<;>simp_all))
 rw[hl] at this
 simpa[lh] using this
theorem lZ {sz n:Nat} {aJ:List PV} {cx:Value} (h:VP g w (.ps n sz aJ) cx):tD P g w sz n aJ cx:=by
 cases h with
 |ps _ _ _ b o cap f hl hc hz hp hv=>
  refine eI (vs:=(fe aJ.length).map f) (bP.cY (by simp) fun i hi _=> ?_) (by simp[hl]) (fun v hv=> ?_) fun j v hj=> ?_
  · simpa using hv i hi
  · obtain⟨k,hk,rfl⟩:=fb.1 hv
    exact(hp k (by simpa using hk)).2.2
  · simp only[ek,ib] at hj
    obtain⟨k,hk,rfl⟩:=hj
    obtain⟨hlt,hk⟩:=dT.1 hk
    simp at hlt hk;subst hk
    exact(hp j hlt).2.1
 |qA _ a cap=>
  refine⟨[],trivial,by simp,by simp,by simp[lj],fun k hk=> ?_⟩
  have:k=0:=by omega
  subst this
  cases a<;>simp[lh,loadCells,loadCellsFrom]
theorem mT : ∀{l:List AV},pV l=true→kV l=some (l.map qw)
 |[],_=>rfl
 |.p v::l,h=>by
  have:=mT (l:=l) (by simpa[pV] using h)
  simp[kV,ED,this,qw]
 |.bC::_,h | .os .. :: _,h | .mp .. :: _,h | .ms .. :: _,h | .fn .. :: _,h | .agg _::_,h | .aK _::_,h | .nL .. :: _,h | .vm _::_,h | .vy _::_,h=>by simp[pV] at h
theorem fP (h:Rel g m w) {sz n:Nat} {x:AV} {cx:Value} {aJ:List PV} (he:contents (fun i=>m.getD i .dead) sz x=some (n,aJ,true)) (hx:VA g w x cx) :
  tD P g w sz n aJ cx:=by
 unfold contents at he
 split at he
 · simp only[dk,ja] at he
   obtain⟨rfl,rfl,h1⟩:=he
   rw[VA.pv] at hx
   obtain⟨_,ad,cap,rfl,_⟩:=mS hx
   exact lZ (jN hx h1)
 · simp only[dk,ja] at he
   obtain⟨rfl,rfl,h1⟩:=he
   cases hx with
   |os _ _ _ _ ad cap hx _=>exact lZ (jN hx h1)
 · rename_i b off len s cap
   cases hx with
   |ms _ _ _ _ cap c hc hcap=>
   split at he
   · rename_i l hl
     simp only[dk,ja,di,fi] at he
     obtain⟨rfl,rfl,rfl,h1⟩:=he
     have h1:=fg h1
     have hm:=getD_some hl (by simp)
     obtain⟨c',cs,e,q,k1,k2,k3,k4,k5⟩:=h.cells b _ _ hm rfl
     rw[hc] at k1;cases k1
     have hone:=k4.2
     have k4:=k4.1
     have hlen:=k4.len
     simp at hlen
     refine eI (vs:=(cs.toList.drop off).take (len*s)) ?_ (by simp;omega) (fun v hv=>hone v (du (dt hv))) fun j v hj=> ?_
     · have:=((k4.drop off).take (len*s))
       rw[←List.map_drop,←List.map_take] at this
       exact bP.cY (by simpa using this.len) fun i a b=>by
        have:=this.get i (by simpa using a) b
        rw[dE,VA.pv] at this
        exact this
     · rw[dq] at hj
       split at hj
       · rw[dv] at hj
         rw[bD k2];simpa using hj
       · cases hj
   · rename_i l hl
     simp only[ib,ja,di,fi] at he
     obtain⟨us,he,rfl,rfl,rfl,h1⟩:=he
     have h1:=fg h1
     have hm:=getD_some hl (by simp)
     obtain⟨c',cs,e,q,k1,k2,k3,k4,k5⟩:=h.cells b _ _ hm rfl
     rw[hc] at k1;cases k1
     have hone:=k4.2
     have k4:=k4.1
     have hlen:=k4.len
     simp at hlen
     refine eI (vs:=(cs.toList.drop off).take (len*s)) (eo he ((k4.drop off).take (len*s))) (by simp;omega) (fun v hv=>hone v (du (dt hv))) fun j v hj=> ?_
     rw[dq] at hj
     split at hj
     · rw[dv] at hj
       rw[bD k2];simpa using hj
     · cases hj
   · rename_i l hl
     simp only[dk,ja,di,fi] at he
     obtain⟨rfl,rfl,hp,rfl,h1⟩:=he
     have he:=mT hp
     have h1:=fg h1
     obtain⟨c',ob,vs,k1,k2,k3,k4,_,_⟩:=h.obs b _ _ (getD_some hl (by simp))
     rw[hc] at k1;cases k1
     obtain⟨cs,e,q,rfl,_,q0,q1,q2,q3⟩:=k4
     have hlen:=k3.len
     refine eI (vs:=(vs.drop off).take (len*s)) (eo he ((k3.drop off).take (len*s))) (by simp;omega) (fun v hv=> ?_) fun j v hj=> ?_
     · have hv:=du (dt hv)
       rw[q1] at hv
       exact q3 v (dt hv)
     · rw[dq] at hj
       split at hj
       · rw[dv,q1,dq] at hj
         split at hj
         · rw[bD k2];simpa using hj
         · cases hj
       · cases hj
   · rename_i l hl
     simp only[ib,ja,di,fi] at he
     obtain⟨us,he,rfl,rfl,rfl,h1⟩:=he
     have h1:=fg h1
     obtain⟨c',ob,vs,k1,k2,k3,k4,_,_⟩:=h.obs b _ _ (getD_some hl (by simp))
     rw[hc] at k1;cases k1
     obtain⟨cs,e,q,rfl,_,q0,q1,q2,q3⟩:=k4
     have hlen:=k3.len
     refine eI (vs:=(vs.drop off).take (len*s)) (eo he ((k3.drop off).take (len*s))) (by simp;omega) (fun v hv=> ?_) fun j v hj=> ?_
     · have hv:=du (dt hv)
       rw[q1] at hv
       exact q3 v (dt hv)
     · rw[dq] at hj
       split at hj
       · rw[dv,q1,dq] at hj
         split at hj
         · rw[bD k2];simpa using hj
         · cases hj
       · cases hj
   · cases he
 · rename_i b off len s
   cases hx with
   |mg _ _ _ _ cap c hc hcap hroom=>
   split at he
   · rename_i l hl
     simp only[dk,ja,di,fi] at he
     obtain⟨rfl,rfl,hp,rfl,h1⟩:=he
     have he:=mT hp
     have h1:=fg h1
     obtain⟨c',ob,vs,k1,k2,k3,k4,_,_⟩:=h.obs b _ _ (getD_some hl (by simp))
     rw[hc] at k1;cases k1
     obtain⟨cs,e,q,rfl,_,q0,q1,q2,q3⟩:=k4
     have hlen:=k3.len
     refine eI (vs:=(vs.drop off).take (len*s)) (eo he ((k3.drop off).take (len*s))) (by simp;omega) (fun v hv=> ?_) fun j v hj=> ?_
     · have hv:=du (dt hv)
       rw[q1] at hv
       exact q3 v (dt hv)
     · rw[dq] at hj
       split at hj
       · rw[dv,q1,dq] at hj
         split at hj
         · rw[bD k2];simpa using hj
         · cases hj
       · cases hj
   · rename_i l hl
     simp only[ib,ja,di,fi] at he
     obtain⟨us,he,rfl,rfl,rfl,h1⟩:=he
     have h1:=fg h1
     obtain⟨c',ob,vs,k1,k2,k3,k4,_,_⟩:=h.obs b _ _ (getD_some hl (by simp))
     rw[hc] at k1;cases k1
     obtain⟨cs,e,q,rfl,_,q0,q1,q2,q3⟩:=k4
     have hlen:=k3.len
     refine eI (vs:=(vs.drop off).take (len*s)) (eo he ((k3.drop off).take (len*s))) (by simp;omega) (fun v hv=> ?_) fun j v hj=> ?_
     · have hv:=du (dt hv)
       rw[q1] at hv
       exact q3 v (dt hv)
     · rw[dq] at hj
       split at hj
       · rw[dv,q1,dq] at hj
         split at hj
         · rw[bD k2];simpa using hj
         · cases hj
       · cases hj
   · rename_i l hl
     simp only[dk,ja,di,fi] at he
     obtain⟨rfl,rfl,hp,rfl,h1⟩:=he
     have he:=mT hp
     have h1:=fg h1
     obtain⟨c',ob,vs,k1,k2,k3,k4,_,_⟩:=h.obs b _ _ (getD_some hl (by simp))
     rw[hc] at k1;cases k1
     obtain⟨cs,e,q,rfl,_,q0,q1,q2,q3,_⟩:=k4
     have hlen:=k3.len
     refine eI (vs:=(vs.drop off).take (len*s)) (eo he ((k3.drop off).take (len*s))) (by simp;omega) (fun v hv=> ?_) fun j v hj=> ?_
     · have hv:=du (dt hv)
       rw[q1] at hv
       obtain⟨k,rfl⟩:=q3 v (dt hv)
       rfl
     · rw[dq] at hj
       split at hj
       · rw[dv,q1,dq] at hj
         split at hj
         · rw[bD k2];simpa using hj
         · cases hj
       · cases hj
   · cases he
 · rename_i s
   simp only[dk,ja,fi] at he
   obtain⟨rfl,rfl,rfl⟩:=he
   rw[VA.pv] at hx;cases hx
   refine⟨s.data.toList.map fun b=> .int .u8 b.toNat,bP.cY (by simp) fun i a b=> ?_,by simp,by simp[ln],?_,fun k hk=> ?_⟩
   · simp only[dE];exact .sc _
   · rw[show s.data.toList.length=s.size from gn];simp[lj]
   · simp only[lh,jn,Result.ok.injEq,and_true]
     apply Array.ext'
     simp[ByteArray.data_extract]
 · cases he
theorem wL {a:AV} {v:Value} (h:mI a=true) (ha:VA g w a v):v.oneCell'=true:=by
 cases ha with
 |p pv cv hp=>cases hp<;>first | rfl | (simpa[mI] using h)
 |agg=>simp[mI] at h
 |aK=>simp[mI] at h
 |bC=>simp[mI] at h
 |_=>rfl
theorem jO : ∀{l:List AV} {vs:List Value},j6 l=true→dj g w l vs → ∀u∈vs,u.oneCell'=true
 |[],[],_,_,_,hu=>by cases hu
 |a::l,v::vs,h,hv,u,hu=>by
  simp only[j6,di] at h
  cases hu with
  |head=>exact wL h.1 hv.1
  |tail _ hu=>exact jO h.2 hv.2 u hu
 |[],_::_,_,hv,_,_=>hv.elim
 |_::_,[],_,hv,_,_=>hv.elim
theorem lM {a:AV} {v:Value} (h:(cellsOf a).2=true) (ha:VA g w a v):dj g w (cellsOf a).1 v.cells.toList ∧ ∀u∈v.cells.toList,u.oneCell'=true:=by
 have YB : ∀{v:Value},v.oneCell'=true→v.cells = #[v]:=by intro v h;cases v<;>first | rfl | (simp[ln] at h)
 cases ha with
 |agg l cs hl hh=>
  have:=VA.wD.1 (.agg l cs hl hh)
  exact⟨this,jO h this⟩
 |p pv cv hp=>
  have h1:=wL (a:= .p pv) (by simpa[cellsOf] using h) (.p pv v hp)
  rw[YB h1]
  exact⟨⟨.p pv v hp,trivial⟩,by simpa using h1⟩
 |os tok len sz cells ad cap hp hr=>
  exact⟨⟨.os tok len sz cells ad cap hp hr,trivial⟩,by simp[lr,ln]⟩
 |mp b off c hc=>exact⟨⟨.mp b off c hc,trivial⟩,by simp[lr,ln]⟩
 |ms b off len sz cap c hc hcap=>exact⟨⟨.ms b off len sz cap c hc hcap,trivial⟩,by simp[lr,ln]⟩
 |mg b off len sz cap c hc hcap hh=>exact⟨⟨.mg b off len sz cap c hc hcap hh,trivial⟩,by simp[lr,ln]⟩
 |vm b c hc=>exact⟨⟨.vm b c hc,trivial⟩,by simp[lr,ln]⟩
 |vy b c hc=>exact⟨⟨.vy b c hc,trivial⟩,by simp[lr,ln]⟩
 |fn f l k fa ca hl hk h1 h2=>exact⟨⟨.fn f l k fa ca hl hk h1 h2,trivial⟩,by simp[lr,ln]⟩
 |nL t v cv hv=>exact⟨⟨.nL t v cv hv,trivial⟩,by simp[lr,ln]⟩
 |bC=>simp[cellsOf,mI] at h
 |aK=>simp[cellsOf,mI] at h
theorem A0 (off:Nat) : ∀(l:List Value) (k:Nat) (cs:Array Value),
  ((l.zipIdx k).foldl (fun cs (c,j)=>cs.setIfInBounds (off+j) c) cs).toList=dz cs.toList (off+k) l
 |[],k,cs=>rfl
 |v::l,k,cs=>by
  simp only[List.zipIdx_cons,List.foldl_cons,dz]
  rw[A0 off l (k+1)]
  simp[fw]
theorem bP.dz {α β:Type} {r:α→β→Prop} : ∀{new:List α} {new':List β} {l:List α} {l':List β} (off:Nat),bP r l l'→bP r new new'→bP r (dz l off new) (dz l' off new')
 |[],[],_,_,_,h,_=>h
 |_::_,_::_,_,_,off,h,k=>bP.dz (off+1) (h.set off k.1) k.2
 |[],_::_,_,_,_,_,k=>k.elim
 |_::_,[],_,_,_,_,k=>k.elim
theorem kr {α:Type} {p:α→Prop} : ∀(n l:List α) (o:Nat),(∀v∈l,p v)→(∀v∈n,p v) → ∀v∈dz l o n,p v
 |[],_,_,h,_=>h
 |x::n,l,o,h,h'=>kr n _ (o+1) (fun v hv=>by
   rcases List.mem_or_eq_of_mem_set hv with k | k
   · exact h v k
   · exact k▸h' x (.head _)) fun v hv=>h' v (.tail _ hv)
theorem lB {place:Nat→Option (Nat×Nat)} : ∀{parts:List (Nat×AV)} {kA:List (Nat×Value)} {cells cs:List AV} {ca:Array Value},
  bP (fun a b=>a.1=b.1∧VA g w a.2 b.2) parts kA→HF g w cells ca.toList→uy place cells parts=some (cs,true) →
   ∃CY,ky place ca kA=some CY∧HF g w cs CY.toList∧CY.size=ca.size
 |[],[],cells,cs,ca,_,hc,h=>by
  simp[uy] at h;subst h
  exact⟨ca,rfl,hc,rfl⟩
 |(i,a)::parts,(j,v)::kA,cells,cs,ca,hp,hc,h=>by
  obtain⟨⟨rfl,hv⟩,hp⟩:=hp
  simp only[uy] at h
  cases Ey:place i with
  |none=>simp[Ey] at h
  |some q=>
   obtain⟨off,size⟩:=q
   simp only[Ey] at h
   cases hf:uy place (dz cells off (cellsOf a).1) parts with
   |none=>simp[hf] at h
   |some r=>
    obtain⟨cs',ok⟩:=r
    simp only[hf,dk,ja,di,fi] at h
    obtain⟨rfl,⟨⟨h0,h1⟩,h2⟩,rfl⟩:=h
    have h2:=fg h2
    have hlc:=hc.1.len
    obtain⟨k1,k2⟩:=lM h0 hv
    have vl:=k1.len
    have Ag:HF g w (dz cells off (cellsOf a).1) (dz ca.toList off v.cells.toList):=⟨hc.1.dz off k1,kr _ _ _ hc.2 k2⟩
    have JR:(v.cells.zipIdx.foldl (fun cs (c,j)=>cs.setIfInBounds (off+j) c) ca).toList=dz ca.toList off v.cells.toList:=by
     rw[←Array.foldl_toList,Array.toList_zipIdx,A0];simp
    obtain⟨CY,q1,q2,q3⟩:=lB (ca:=v.cells.zipIdx.foldl (fun cs (c,j)=>cs.setIfInBounds (off+j) c) ca) hp (by rw[JR];exact Ag) hf
    have hsz:v.cells.size=size:=by simp at vl;omega
    have hroom : ¬(off+v.cells.size>ca.size):=by simp at hlc;omega
    refine⟨CY,?_,q2,?_⟩
    · simp only[ky,Ey]
      rw[if_neg (by simp[hsz,hsz▸hroom]<;>omega)]
      exact q1
    · rw[q3]
      have:=congrArg List.length JR
      have Oy : ∀(n:List Value) (l:List Value) (o:Nat),(dz l o n).length=l.length:=by
       intro n
       induction n with
       |nil=>intro l o;rfl
       |cons x n ih=>intro l o;simp[dz,ih]
      simpa[Oy] using this
 |[],_::_,_,_,_,h,_,_=>h.elim
 |_::_,[],_,_,_,h,_,_=>h.elim
end ops
end Go.Am
end
section
namespace Go.Am
open Go.RowKit
section ops
variable {P:Program} {g:Gh} {m:Mem} {w:World}
theorem checked_eq {l k:List AV} (h:checked l=some k):k=l∧j6 l=true:=by
 unfold checked at h
 cases hb:j6 l with
 |false=>simp[hb] at h
 |true=>simp[hb] at h;exact⟨h.symm,rfl⟩
theorem cW {t:TypeId} {l:List AV} (h:zeroCells P t=some l) : ∃z,(∀w,(zeroValue t).run P w = .ok z w)∧HF g w l z.cells.toList:=by
 unfold zeroCells at h
 cases hi:P.info? t with
 |none=>simp[hi] at h
 |some i=>
  cases hz:i.zero with
  |none=>simp[hi,hz] at h
  |some z=>
   have hrun : ∀w,(zeroValue t).run P w = .ok z w:=fun w=>by simp[zeroValue,typeInfo,hi,hz]
   refine⟨z,hrun,?_⟩
   simp only[hi,Option.bind_some,hz] at h
   cases z<;>(obtain⟨rfl,hc⟩:=checked_eq h)<;>first
    |exact⟨dj.fI _,jO hc (dj.fI (g:=g) (w:=w) _)⟩
    |exact⟨⟨VA.iK _,trivial⟩,jO (vs:=[_]) hc ⟨VA.iK (g:=g) (w:=w) _,trivial⟩⟩
theorem nY : ∀{fs:List Field} {pl:List (Nat×Nat)},placesOf P fs=some pl → ∀w,(fs.mapM fun f=>do pure (f.offset,←sizeOf f.type):Sem (List (Nat×Nat))).run P w = .ok pl w
 |[],pl,h,w=>by simp[placesOf] at h;subst h;simp
 |f::fs,pl,h,w=>by
  simp only[placesOf] at h
  cases h1:gd P f.type with
  |none=>simp[h1] at h
  |some n=>
   cases h2:placesOf P fs with
   |none=>simp[h1,h2] at h
   |some l=>
    simp only[h1,h2,dk] at h
    subst h
    have ih:=nY h2 w
    simp only[List.mapM_cons,jb,br h1,j1,jn,ih]
theorem Ah {t:TypeId} {parts:List (Nat×AV)} {kA:Array (Nat×Value)} {a:AV} (h:vB P t parts=some (a,true)) (hp:bP (fun a b=>a.1=b.1∧VA g w a.2 b.2) parts kA.toList) :
  ∃v,(kp t kA).run P w = .ok v w∧VA g w a v:=by
 unfold vB at h
 split at h
 · rename_i z fields hz hu
   split at h
   · rename_i pl Ey
     simp only[ib,ja] at h
     obtain⟨⟨cs,ok⟩,h1,rfl,h2⟩:=h
     simp only at h2;subst h2
     obtain⟨zv,TK,TL⟩:=cW (g:=g) (w:=w) hz
     obtain⟨ca,h3,h4,_⟩:=lB hp TL h1
     refine⟨.agg ca,?_,VA.wD.2 h4.1⟩
     have ajN:(fields.mapM fun f=>do pure (f.offset,←sizeOf f.type):Sem (Array (Nat×Nat))).run P w = .ok pl.toArray w:=by
      rw[Array.mapM_eq_mapM_toList]
      simp only[Sem.run_map,nY Ey w,j1]
     have hfun:(fun i:Nat=>pl.toArray[i]?)=fun i:Nat=>pl[i]? :=by funext i;simp
     simp only[kp,jb,TK,j1,run_underlying hu,ajN,hfun,h3,jn]
   · cases h
 · rename_i z n elem hz hu
   split at h
   · rename_i size hsz
     simp only[ib,ja] at h
     obtain⟨⟨cs,ok⟩,h1,rfl,h2⟩:=h
     simp only at h2;subst h2
     obtain⟨zv,TK,TL⟩:=cW (g:=g) (w:=w) hz
     obtain⟨ca,h3,h4,_⟩:=lB hp TL h1
     exact⟨.agg ca,by simp only[kp,jb,TK,j1,run_underlying hu,br hsz,h3,jn],VA.wD.2 h4.1⟩
   · cases h
 · cases h
theorem nZ {α:Type} (z:List α) : ∀n,(cV z n).length=n*z.length
 |0=>by simp[cV]
 |n+1=>by simp[cV,nZ z n,Nat.succ_mul,Nat.add_comm]
theorem uB {α:Type} (z:List α) : ∀(n i:Nat) (h:i<(cV z n).length),∃h':i%z.length<z.length,(cV z n)[i]=z[i%z.length]
 |0,i,h=>by simp[cV] at h
 |n+1,i,h=>by
  simp only[cV,dC] at h
  by_cases hlt:i<z.length
  · refine⟨by rw[fx hlt];exact hlt,?_⟩
    simp only[cV,ei,hlt,dite_true,fx hlt]
  · obtain⟨h1,h2⟩:=uB z n (i-z.length) (by omega)
    have e:(i-z.length)%z.length=i%z.length:=by rw[←Nat.mod_eq_sub_mod (by omega)]
    refine⟨by rw[←e];exact h1,?_⟩
    simp only[cV,ei,hlt,dite_false,h2,e]
theorem tE {α:Type} {r:α→Value→Prop} {z:List α} {zv:Array Value} (hz:bP r z zv.toList) (n:Nat) :
  bP r (cV z n) ((hZ (n*zv.size)).map (zv[· % zv.size]!)).toList:=by
 have hl:=hz.len
 simp at hl
 refine bP.cY (by simp[nZ,hl]) fun i hi hj=> ?_
 obtain⟨h1,h2⟩:=uB z n i hi
 rw[h2]
 have h3:i%zv.size<zv.size:=hl▸h1
 simp only[hP,hC,dE,List.getElem_range]
 rw[getElem!_pos zv _ h3]
 have:=hz.get (i%z.length) h1 (by simpa[←hl] using h1)
 simpa[hl] using this
theorem CZ {zv:Array Value} (h : ∀v∈zv.toList,v.oneCell'=true) (n:Nat) : ∀v∈((hZ (n*zv.size)).map (zv[· % zv.size]!)).toList,v.oneCell'=true:=by
 intro v hv
 simp only[hP,hC,fb,List.mem_range] at hv
 obtain⟨i,hi,rfl⟩:=hv
 have h3:i%zv.size<zv.size:=Nat.mod_lt _ (Nat.pos_of_ne_zero fun e=>by simp[e] at hi)
 rw[getElem!_pos zv _ h3]
 exact h _ (by simp)
theorem iy {α:Type} (v:α) : ∀n,List.replicate n v=cV [v] n
 |0=>rfl
 |n+1=>by rw[List.replicate_succ,iy v n];rfl
theorem Oz {elem:TypeId} {n:Nat} {l:List AV} (h:zeros P elem n=some l) : ∃size z,gd P elem=some size∧zeroCells P elem=some z∧z.length=size∧1≤size∧l=cV z n:=by
 unfold zeros at h
 split at h
 · rename_i size z h1 h2
   cases hb:(ba z.length size&&bc 1 size) with
   |false=>simp[hb] at h
   |true=>
    simp only[hb,cond_true] at h
    simp only[di,fi] at hb
    refine⟨size,z,h1,h2,hb.1,fg hb.2,?_⟩
    split at h
    · simp only[dk] at h;rw[←h,iy]
    · simp only[dk] at h;exact h.symm
 · cases h
theorem OA {elem:TypeId} {n:Nat} {b:bq} (h:N9 P elem n=some b) : ∃size z,gd P elem=some size∧zeroCells P elem=some z∧z.length=size∧1≤size∧b.cells?=some (cV z n):=by
 have aeS : ∀(vs:List PV) n,(cV vs n).map AV.p=cV (vs.map AV.p) n:=by
  intro vs n
  induction n with
  |zero=>rfl
  |succ n ih=>simp[cV,ih]
 unfold N9 at h
 split at h
 · rename_i size z h1 h2
   cases hb:(ba z.length size&&bc 1 size) with
   |false=>simp[hb] at h
   |true=>
    simp only[hb,cond_true] at h
    simp only[di,fi] at hb
    refine⟨size,z,h1,h2,hb.1,fg hb.2,?_⟩
    split at h
    · rename_i v hv
      simp only[dk] at h;subst h
      have:=rD hv
      simp only[bq.cells?,iy,aeS,this]
    · rename_i vs _ hv
      simp only[dk] at h;subst h
      have:=rD hv
      simp only[bq.cells?,aeS,this]
    · simp only[dk] at h;subst h;rfl
 · cases h
theorem eS (w:World) (o:Obj):qB w (w.alloc o) o:=⟨rfl,rfl,rfl,rfl⟩
theorem cO.alloc (h:Rel g m w) {bF:Nat} (hn:m[bF]? = some .free) {l:List AV} {cs:Array Value} {e:TypeId} {b:bq} (hb:b.cells?=some l) (hv:HF g w l cs.toList) {r:Result Next} {v:Value} {a:AV}
  (hr:r = .ok (.value v) (w.alloc (.cells cs e))) (ha : ∀g':Gh,g'.bX bF=some w.heap.size→VA g' (w.alloc (.cells cs e)) a v):cO g m w r a (m.set bF b):=by
 obtain⟨h1,h2,h3⟩:=h.alloc hn hb hv (eS w (.cells cs e))
 exact⟨v,_,_,.inl hr,ha _ (by simp[Gh.put]),h1,h2,h3⟩
end ops
end Go.Am
end
