import Derived.Test.YtncncijedmfpjaaGreatDoorMA
open Option.some renaming injEq→dq,inj→dt
open List renaming getD_eq_getElem?_getD→di,getElem?_take→du,getElem?_eq_getElem→de,mem_of_mem_take→dv,mem_of_mem_drop→dC,getElem?_drop→dE,length_append→dT,getElem_map→ed,getElem?_eq_some_iff→ee,take_of_length_le→eh,getElem?_eq_none→ei,length_set→ek,length_drop→en,length_take→eQ,getElem_append→fb,getElem?_map→fe,getElem_mem→fg,drop_take→fh,mem_map→fi,range→fl
open Nat renaming le_of_ble_eq_true→ft,le_refl→dd,lt_irrefl→fv,beq_eq→fw,le_trans→cp,mul_le_mul_right→fx,eq_of_beq_eq_true→bx,beq→bj,lt_or_ge→gg,sub_mul→gl,add_assoc→gn,mod_eq_of_lt→gv,ble→bm,blt_eq→hC
open Array renaming getElem?_eq_getElem→hZ,length_toList→ib,getElem?_push→ic,toList_range→ie,toList_map→ik,range→il
open Option renaming map_eq_some_iff→im,map_none→iu,map_some→iv,isSome_iff_exists→ja,getD_some→jb
open Bool renaming and_eq_true→dp,eq_false_iff→jn,or_eq_true→j1,not_eq_true'→j2
open Prod.mk renaming injEq→kc
open Go.Sem renaming run_bind→kh,run_pure→kl
open Go.Result renaming andThen_ok→km
open Go.Instr renaming sliceBounds→kp,sliceAt→kv,slice→kz,indexAt→la,sureAddr→lb,sliceBound→lh,index→lj,build→lk,fieldAt→ln,field→lr,fill→ls
open Go.Op renaming eqFields→lv,intArith→lL
open Go.Builtin renaming len_→ma,firstCells→mb,lenOf→mc,cap_→mf
open Go.Value renaming oneCell'→mi,cells→ml
section
namespace Go.Am
open Go.RowKit
theorem kM : ∀{l:List AV},oG l=true→(l.map qW).map AV.p=l
 |[],_=>rfl
 |.p v::r,h=>by
  simp only[oG] at h
  have:=kM h
  simp only[List.map_cons,qW]
  rw[this]
 |.aT::_,h | .os .. :: _,h | .mp .. :: _,h | .ms .. :: _,h | .fn .. :: _,h | .agg _::_,h | .aK _::_,h | .mD .. :: _,h | .vm _::_,h | .vy _::_,h=>by simp[oG] at h
theorem pN {l:List AV} {vs:List PV} (h:Hy l=some vs):vs.map AV.p=l:=by
 unfold Hy at h
 cases hp:oG l with
 |false=>simp[hp] at h
 |true=>
  simp only[hp,cond_true,dq] at h
  subst h
  exact kM hp
theorem mN (l:List AV):(BU l).cells?=some l:=by
 unfold BU
 cases h:Hy l with
 |none=>rfl
 |some vs=>simp[aN.cells?,pN h]
theorem cT {b:aN} {l:List AV} (h:b.cells?=some l):b.cP=true:=by cases b<;>simp_all [aN.cells?,aN.cP]
def Gh.put (g:Gh) (i c lo hi:Nat):Gh:=
 {g with bL:=fun j=>if j=i then some c else g.bL j,lo:=fun j=>if j=i then lo else g.lo j,hi:=fun j=>if j=i then hi else g.hi j}
def Gh.more (g:Gh) (c lo hi:Nat):Gh:={g with pure:=fun c' o=>g.pure c' o∨(c'=c∧lo≤o∧o<hi)}
theorem getElem?_set' {α:Type} (l:List α) (i j:Nat) (a:α):(l.set i a)[j]? = if i=j∧i<l.length then some a else l[j]? :=by
 rw[List.getElem?_set]
 by_cases h:i=j
 · subst h;by_cases h2:i<l.length<;>simp[h2]
 · simp[h]
theorem bG {α:Type} {l:List α} {i:Nat} {a:α} (h:l[i]? = some a):i<l.length:=(ee.1 h).1
theorem dO {w w':World} {c o:Nat} (h:w'.heap[c]? = w.heap[c]?):w'.cell? ⟨c,o,none⟩=w.cell? ⟨c,o,none⟩:=by
 simp only[World.cell?,h]
theorem aS {w:World} {c o:Nat} {cs:Array Value} {e:TypeId} {n:Nat×Nat} (h:w.heap[c]? = some (.cells cs e n)):w.cell? ⟨c,o,none⟩=cs[o]? :=by
 simp[World.cell?,h]
theorem bQ {w:World} {c:Nat} {o:Obj} (h:w.heap[c]? = some o):c<w.heap.size:=by
 rcases gg c w.heap.size with k | k
 · exact k
 · simp[Array.getElem?_eq_none k] at h
theorem qZ {g:Gh} {m:Mem} {i:Nat} {b:aN} {c:Nat} (h:fP g (m.set i b) c):(b.cP=true∧g.bL i=some c)∨(∃j b',j≠i∧m[j]? = some b'∧b'.cP=true∧g.bL j=some c):=by
 obtain⟨j,b',hj,ho,hc⟩:=h
 rw[getElem?_set'] at hj
 by_cases e:i=j∧i<m.length
 · rw[if_pos e] at hj;cases hj;exact .inl ⟨ho,e.1▸hc⟩
 · rw[if_neg e] at hj
   refine .inr ⟨j,b',fun h=> ?_,hj,ho,hc⟩
   subst h
   exact e ⟨rfl,bG hj⟩
theorem Rel.kill {g:Gh} {m:Mem} {w:World} (h:Rel g m w) (i:Nat):Rel g (m.set i .dead) w∧dm g m w g (m.set i .dead) w:=by
 have get : ∀j b,(m.set i .dead)[j]? = some b→b = .dead∨(j≠i∧m[j]? = some b):=by
  intro j b hj
  rw[getElem?_set'] at hj
  by_cases e:i=j∧i<m.length
  · rw[if_pos e] at hj;exact .inl (dt hj).symm
  · rw[if_neg e] at hj
    by_cases e2:i=j
    · subst e2;exact absurd ⟨rfl,bG hj⟩ e
    · exact .inr ⟨fun h=>e2 h.symm,hj⟩
 refine⟨⟨fun j hj=>h.sw j (by simpa using hj),fun j hj=> ?_,fun j b l hj hl=> ?_,fun j c hj hc=> ?_,fun j k b b' c hj hk ho ho' hc eB=> ?_,h.there,fun j kk ll hj=> ?_⟩,dm.less fun c ho=> ?_⟩
 · rcases get j _ hj with e | ⟨_,e⟩
   · cases e
   · exact h.free j e
 · rcases get j _ hj with e | ⟨_,e⟩
   · subst e;cases hl
   · exact h.cells j b l e hl
 · rcases get j _ hj with e | ⟨_,e⟩
   · cases e
   · exact h.tok j c e hc
 · rcases get j _ hj with e | ⟨_,e⟩
   · subst e;simp[aN.cP] at ho
   rcases get k _ hk with e' | ⟨_,e'⟩
   · subst e';simp[aN.cP] at ho'
   exact h.inj j k b b' c e e' ho ho' hc eB
 · rcases get j _ hj with e | ⟨_,e⟩
   · cases e
   · exact h.obs j kk ll e
 · obtain⟨j,b,hj,hb,hc⟩:=ho
   rcases get j _ hj with e | ⟨_,e⟩
   · subst e;simp[aN.cP] at hb
   · exact⟨j,b,e,hb,hc⟩
theorem Rel.write {g:Gh} {m:Mem} {w w':World} (h:Rel g m w) {i c:Nat} {b b':aN} {l l':List AV} {cs':Array Value} {e':TypeId} {n':Nat×Nat}
  (hi:m[i]? = some b) (hl:b.cells?=some l) (hc:g.bL i=some c) (hl':b'.cells?=some l')
  (hw : ∀k,k≠c→w'.heap[k]? = w.heap[k]?) (hs:w'.heap.size=w.heap.size) (ho:w'.os=w.os) (ht:w'.tape=w.tape) (hu:w'.output=w.output)
  (hh:w'.heap[c]? = some (.cells cs' e' n')) (hn:n'.2≤n'.1) (hv:Ej g w l' cs'.toList) :
  Rel g (m.set i b') w'∧Ext g w g w'∧dm g m w g (m.set i b') w':=by
 obtain⟨c0,cs,e,n,h1,h2,h3,h4,h5⟩:=h.cells i b l hi hl
 rw[hc] at h1;cases h1
 have hp : ∀c' o,g.pure c' o→w'.cell? ⟨c',o,none⟩=w.cell? ⟨c',o,none⟩:=fun c' o p=>dO (hw c' fun e=>h5 o (e▸p))
 have ext:Ext g w g w':=⟨fun _ _ h=>⟨h,rfl,rfl⟩,fun c' o p=>⟨p,hp c' o p⟩⟩
 have get : ∀j x,(m.set i b')[j]? = some x→(j=i∧x=b')∨(j≠i∧m[j]? = some x):=by
  intro j x hj
  rw[getElem?_set'] at hj
  by_cases e:i=j∧i<m.length
  · rw[if_pos e] at hj;exact .inl ⟨e.1.symm,(dt hj).symm⟩
  · rw[if_neg e] at hj
    by_cases e2:i=j
    · subst e2;exact absurd ⟨rfl,bG hj⟩ e
    · exact .inr ⟨fun h=>e2 h.symm,hj⟩
 have ne : ∀j x c',j≠i→m[j]? = some x→x.cP=true→g.bL j=some c'→c'≠c:=fun j x c' hji hj ho eB e=>hji (h.inj j i x b c hj hi ho (cT hl) (e▸eB) hc)
 refine⟨⟨fun j hj=>h.sw j (by simpa using hj),fun j hj=> ?_,fun j x k hj hk=> ?_,fun j c' hj eB=> ?_,fun j k x x' c' hj hk ho ho' fQ gH=> ?_,fun c' o p=> ?_,fun j kk ll hj=> ?_⟩,ext,⟨by omega,fun k hk hn=> ?_,fun c' o p=>⟨p,hp c' o p⟩,fun _ _ p=> .inl p,fun c' ho'=> ?_,ho,ht,hu⟩⟩
 · rcases get j _ hj with⟨rfl,e⟩ | ⟨_,e⟩
   · subst e;cases hl'
   · exact h.free j e
 · rcases get j _ hj with⟨rfl,e⟩ | ⟨hji,e⟩
   · subst e
     rw[hl'] at hk;cases hk
     exact⟨c,cs',e',n',hc,hh,hn,hv.mono ext,h5⟩
   · obtain⟨c1,cs1,e1,n1,k1,k2,k3,k4,k5⟩:=h.cells j x k e hk
     exact⟨c1,cs1,e1,n1,k1,(hw c1 (ne j x c1 hji e (cT hk) k1)).trans k2,k3,k4.mono ext,k5⟩
 · rcases get j _ hj with⟨rfl,e⟩ | ⟨hji,e⟩
   · subst e;cases hl'
   · obtain⟨cs1,e1,n1,k2,k3,k4,k5⟩:=h.tok j c' e eB
     exact⟨cs1,e1,n1,(hw c' (ne j _ c' hji e rfl eB)).trans k2,k3,k4,k5⟩
 · rcases get j _ hj with⟨rfl,e⟩ | ⟨hji,e⟩<;>rcases get k _ hk with⟨rfl,e'⟩ | ⟨hki,e'⟩
   · rfl
   · rw[hc] at fQ;cases fQ
     exact absurd rfl (ne k x' _ hki e' ho' gH)
   · rw[hc] at gH;cases gH
     exact absurd rfl (ne j x _ hji e ho fQ)
   · exact h.inj j k x x' c' e e' ho ho' fQ gH
 · obtain⟨v,hv⟩:=h.there c' o p
   exact⟨v,(hp c' o p).trans hv⟩
 · rcases get j _ hj with⟨rfl,e⟩ | ⟨hji,e⟩
   · subst e;cases hl'
   · obtain⟨c1,EA,vs1,k1,k2,k3,k6,k7,k8⟩:=h.obs j kk ll e
     exact⟨c1,EA,vs1,k1,(hw c1 (ne j _ c1 hji e rfl k1)).trans k2,k3.mono ext,k6,k7,k8⟩
 · exact hw k fun e=>hn ⟨i,b,hi,cT hl,e▸hc⟩
 · rcases qZ ho' with⟨_,k⟩ | ⟨j,x,_,k1,k2,k3⟩
   · exact .inl ⟨i,b,hi,cT hl,k⟩
   · exact .inl ⟨j,x,k1,k2,k3⟩
theorem aD {m:Mem} {i:Nat} {b':aN} {j:Nat} {x:aN} (hj:(m.set i b')[j]? = some x):(j=i∧x=b')∨(j≠i∧m[j]? = some x):=by
 rw[getElem?_set'] at hj
 by_cases e:i=j∧i<m.length
 · rw[if_pos e] at hj;exact .inl ⟨e.1.symm,(dt hj).symm⟩
 · rw[if_neg e] at hj
   by_cases e2:i=j
   · subst e2;exact absurd ⟨rfl,bG hj⟩ e
   · exact .inr ⟨fun h=>e2 h.symm,hj⟩
structure oL (w w':World) (o:Obj):Prop where
 heap:w'.heap=w.heap.push o
 os:w'.os=w.os
 tape:w'.tape=w.tape
 output:w'.output=w.output
theorem oL.old {w w':World} {o:Obj} (h:oL w w' o) {k:Nat} (hk:k<w.heap.size):w'.heap[k]? = w.heap[k]? :=by
 rw[h.heap,ic,if_neg (by omega)]
theorem oL.new {w w':World} {o:Obj} (h:oL w w' o):w'.heap[w.heap.size]? = some o:=by
 rw[h.heap,ic,if_pos rfl]
theorem oL.size {w w':World} {o:Obj} (h:oL w w' o):w'.heap.size=w.heap.size+1:=by rw[h.heap];simp
theorem Rel.alloc {g:Gh} {m:Mem} {w w':World} (h:Rel g m w) {i:Nat} {b:aN} {l:List AV} {cs:Array Value} {e:TypeId}
  (hi:m[i]? = some .free) (hl:b.cells?=some l) (hv:Ej g w l cs.toList) (hw:oL w w' (.cells cs e)) :
  Rel (g.put i w.heap.size 0 0) (m.set i b) w'∧Ext g w (g.put i w.heap.size 0 0) w'∧dm g m w (g.put i w.heap.size 0 0) (m.set i b) w':=by
 have hf:=h.free i hi
 have uF:=bG hi
 have hp : ∀c o,g.pure c o→w'.cell? ⟨c,o,none⟩=w.cell? ⟨c,o,none⟩:=fun c o p=>dO (hw.old (h.lH p))
 have bo : ∀j,j≠i→(g.put i w.heap.size 0 0).bL j=g.bL j:=fun j hj=>by simp[Gh.put,hj]
 have bi:(g.put i w.heap.size 0 0).bL i=some w.heap.size:=by simp[Gh.put]
 have ext:Ext g w (g.put i w.heap.size 0 0) w':=⟨fun j c hc=>by
  have:j≠i:=fun e=>by subst e;rw[hf] at hc;cases hc
  simp[Gh.put,this,hc],fun c o p=>⟨p,hp c o p⟩⟩
 have lt : ∀j x c,m[j]? = some x→x.cP=true→g.bL j=some c→c<w.heap.size:=fun j x c hj ho hc=>h.kL ⟨j,x,hj,ho,hc⟩
 refine⟨⟨fun j hj=> ?_,fun j hj=> ?_,fun j x k hj hk=> ?_,fun j c hj hc=> ?_,fun j k x x' c hj hk ho ho' fQ gH=> ?_,fun c o p=> ?_,fun j kk ll hj=> ?_⟩,ext,⟨by rw[hw.size];omega,fun k hk _=>hw.old hk,fun c o p=>⟨p,hp c o p⟩,fun _ _ p=> .inl p,fun c ho=> ?_,hw.os,hw.tape,hw.output⟩⟩
 · rw[ek] at hj
   rw[bo j (by omega)];exact h.sw j hj
 · rcases aD hj with⟨rfl,e⟩ | ⟨hji,e⟩
   · subst e;cases hl
   · rw[bo j hji];exact h.free j e
 · rcases aD hj with⟨rfl,e⟩ | ⟨hji,e⟩
   · subst e;rw[hl] at hk;cases hk
     refine⟨_,cs,_,(0,0),bi,hw.new,dd _,hv.mono ext,fun o p=> ?_⟩
     have:=h.lH p
     omega
   · obtain⟨c1,cs1,e1,n1,k1,k2,k3,k4,k5⟩:=h.cells j x k e hk
     exact⟨c1,cs1,e1,n1,(bo j hji).trans k1,(hw.old (bQ k2)).trans k2,k3,k4.mono ext,k5⟩
 · rcases aD hj with⟨rfl,e⟩ | ⟨hji,e⟩
   · subst e;cases hl
   · rw[bo j hji] at hc
     obtain⟨cs1,e1,n1,k2,k3,k4,k5⟩:=h.tok j c e hc
     have h1:(g.put i w.heap.size 0 0).hi j=g.hi j:=by simp[Gh.put,hji]
     have h2:(g.put i w.heap.size 0 0).lo j=g.lo j:=by simp[Gh.put,hji]
     rw[h1,h2]
     exact⟨cs1,e1,n1,(hw.old (bQ k2)).trans k2,k3,k4,k5⟩
 · rcases aD hj with⟨rfl,e⟩ | ⟨hji,e⟩<;>rcases aD hk with⟨rfl,e'⟩ | ⟨hki,e'⟩
   · rfl
   · rw[bi] at fQ;cases fQ
     rw[bo k hki] at gH
     exact absurd (lt k x' _ e' ho' gH) (fv _)
   · rw[bi] at gH;cases gH
     rw[bo j hji] at fQ
     exact absurd (lt j x _ e ho fQ) (fv _)
   · rw[bo j hji] at fQ;rw[bo k hki] at gH
     exact h.inj j k x x' c e e' ho ho' fQ gH
 · obtain⟨v,hv⟩:=h.there c o p
   exact⟨v,(hp c o p).trans hv⟩
 · rcases aD hj with⟨rfl,e⟩ | ⟨hji,e⟩
   · subst e;cases hl
   · obtain⟨c1,EA,vs1,k1,k2,k3,k6,k7,k8⟩:=h.obs j kk ll e
     exact⟨c1,EA,vs1,(bo j hji).trans k1,(hw.old (bQ k2)).trans k2,k3.mono ext,k6,k7,by simpa[Gh.put,hji] using k8⟩
 · obtain⟨j,x,hj,hx,hc⟩:=ho
   rcases aD hj with⟨rfl,e⟩ | ⟨hji,e⟩
   · rw[bi] at hc;cases hc;exact .inr (dd _)
   · rw[bo j hji] at hc;exact .inl ⟨j,x,e,hx,hc⟩
theorem Rel.fresh {g:Gh} {m:Mem} {w w':World} (h:Rel g m w) {i k:Nat} {cs:Array Value} {e:TypeId} {n:Nat×Nat}
  (hi:m[i]? = some .free) (hw:oL w w' (.cells cs e n)) (hk:k≤cs.size) (hn:n.2≤n.1∨cs.size≤n.1) :
  let g':=(g.put i w.heap.size k cs.size).more w.heap.size 0 k
  Rel g' (m.set i .tok) w'∧Ext g w g' w'∧dm g m w g' (m.set i .tok) w':=by
 intro g'
 have hf:=h.free i hi
 have uF:=bG hi
 have hp : ∀c o,g.pure c o→w'.cell? ⟨c,o,none⟩=w.cell? ⟨c,o,none⟩:=fun c o p=>dO (hw.old (h.lH p))
 have bo : ∀j,j≠i→g'.bL j=g.bL j:=fun j hj=>by simp[g',Gh.put,Gh.more,hj]
 have bi:g'.bL i=some w.heap.size:=by simp[g',Gh.put,Gh.more]
 have ext:Ext g w g' w':=⟨fun j c hc=>by
  have:j≠i:=fun e=>by subst e;rw[hf] at hc;cases hc
  simp[g',Gh.put,Gh.more,this,hc],fun c o p=>⟨.inl p,hp c o p⟩⟩
 have lt : ∀j x c,m[j]? = some x→x.cP=true→g.bL j=some c→c<w.heap.size:=fun j x c hj ho hc=>h.kL ⟨j,x,hj,ho,hc⟩
 refine⟨⟨fun j hj=> ?_,fun j hj=> ?_,fun j x l hj hl=> ?_,fun j c hj hc=> ?_,fun j k x x' c hj hk ho ho' fQ gH=> ?_,fun c o p=> ?_,fun j kk ll hj=> ?_⟩,ext,⟨by rw[hw.size];omega,fun k hk _=>hw.old hk,fun c o p=>⟨.inl p,hp c o p⟩,fun c o p=> ?_,fun c ho=> ?_,hw.os,hw.tape,hw.output⟩⟩
 · rw[ek] at hj
   rw[bo j (by omega)];exact h.sw j hj
 · rcases aD hj with⟨rfl,e⟩ | ⟨hji,e⟩
   · cases e
   · rw[bo j hji];exact h.free j e
 · rcases aD hj with⟨rfl,e⟩ | ⟨hji,e⟩
   · subst e;cases hl
   · obtain⟨c1,cs1,e1,n1,k1,k2,k3,k4,k5⟩:=h.cells j x l e hl
     refine⟨c1,cs1,e1,n1,(bo j hji).trans k1,(hw.old (bQ k2)).trans k2,k3,k4.mono ext,fun o p=> ?_⟩
     rcases p with p | ⟨rfl,_⟩
     · exact k5 o p
     · exact absurd (bQ k2) (fv _)
 · rcases aD hj with⟨rfl,_⟩ | ⟨hji,e⟩
   · rw[bi] at hc;cases hc
     refine⟨cs,_,n,hw.new,by simp[g',Gh.put,Gh.more],by simpa[g',Gh.put,Gh.more] using hn,fun o h1 _ p=> ?_⟩
     have h1':k≤o:=by simpa[g',Gh.put,Gh.more] using h1
     rcases p with p | ⟨_,_,p⟩
     · exact absurd (h.lH p) (fv _)
     · omega
   · rw[bo j hji] at hc
     obtain⟨cs1,e1,n1,k2,k3,k4,k5⟩:=h.tok j c e hc
     have h1:g'.hi j=g.hi j:=by simp[g',Gh.put,Gh.more,hji]
     have h2:g'.lo j=g.lo j:=by simp[g',Gh.put,Gh.more,hji]
     rw[h1,h2]
     refine⟨cs1,e1,n1,(hw.old (bQ k2)).trans k2,k3,k4,fun o a b p=> ?_⟩
     rcases p with p | ⟨rfl,_⟩
     · exact k5 o a b p
     · exact absurd (bQ k2) (fv _)
 · rcases aD hj with⟨rfl,e⟩ | ⟨hji,e⟩<;>rcases aD hk with⟨rfl,e'⟩ | ⟨hki,e'⟩
   · rfl
   · rw[bi] at fQ;cases fQ
     rw[bo k hki] at gH
     exact absurd (lt k x' _ e' ho' gH) (fv _)
   · rw[bi] at gH;cases gH
     rw[bo j hji] at fQ
     exact absurd (lt j x _ e ho fQ) (fv _)
   · rw[bo j hji] at fQ;rw[bo k hki] at gH
     exact h.inj j k x x' c e e' ho ho' fQ gH
 · rcases p with p | ⟨rfl,_,p⟩
   · obtain⟨v,hv⟩:=h.there c o p
     exact⟨v,(hp c o p).trans hv⟩
   · exact⟨cs[o],by rw[aS hw.new,hZ (by omega)]⟩
 · rcases aD hj with⟨rfl,e⟩ | ⟨hji,e⟩
   · cases e
   · obtain⟨c1,EA,vs1,k1,k2,k3,k6,k7,k8⟩:=h.obs j kk ll e
     exact⟨c1,EA,vs1,(bo j hji).trans k1,(hw.old (bQ k2)).trans k2,k3.mono ext,k6,fun o p=>p.elim (k7 o) fun q=>absurd (bQ k2) (by rw[q.1];exact fv _),by simpa[g',Gh.put,Gh.more,hji] using k8⟩
 · rcases p with p | ⟨rfl,_⟩
   · exact .inl p
   · exact .inr (.inr (dd _))
 · obtain⟨j,x,hj,hx,hc⟩:=ho
   rcases aD hj with⟨rfl,e⟩ | ⟨hji,e⟩
   · rw[bi] at hc;cases hc;exact .inr (dd _)
   · rw[bo j hji] at hc;exact .inl ⟨j,x,e,hx,hc⟩
theorem Rel.spare {g:Gh} {m:Mem} {w w':World} (h:Rel g m w) {t i c k:Nat} {cs cs':Array Value} {e e':TypeId} {n:Nat×Nat}
  (ht:m[t]? = some .tok) (hc:g.bL t=some c) (hi:m[i]? = some .free) (hcs:w.heap[c]? = some (.cells cs e n)) (hk:g.lo t+k≤g.hi t)
  (hw : ∀j,j≠c→w'.heap[j]? = w.heap[j]?) (hs:w'.heap.size=w.heap.size) (ho:w'.os=w.os) (htp:w'.tape=w.tape) (hu:w'.output=w.output)
  (hh:w'.heap[c]? = some (.cells cs' e' n)) (hcz:cs'.size=cs.size) (hout : ∀o,o<g.lo t∨g.hi t≤o→cs'[o]? = cs[o]?) :
  let g':=(g.put i c (g.lo t+k) (g.hi t)).more c (g.lo t) (g.lo t+k)
  Rel g' ((m.set t .dead).set i .tok) w'∧Ext g w g' w'∧dm g m w g' ((m.set t .dead).set i .tok) w':=by
 intro g'
 have hf:=h.free i hi
 have uF:=bG hi
 have ZJ:t≠i:=fun e=>by subst e;rw[ht] at hi;cases hi
 obtain⟨cs0,e0,n0,q1,q2,q3,q4⟩:=h.tok t c ht hc
 rw[hcs] at q1;cases q1
 have hp : ∀c' o,g.pure c' o→w'.cell? ⟨c',o,none⟩=w.cell? ⟨c',o,none⟩:=by
  intro c' o p
  by_cases e:c'=c
  · subst e
    rw[aS hh,aS hcs]
    refine hout o ?_
    rcases gg o (g.lo t) with a | a
    · exact .inl a
    · rcases gg o (g.hi t) with b | b
      · exact absurd p (q4 o a b)
      · exact .inr b
  · exact dO (hw c' e)
 have bo : ∀j,j≠i→g'.bL j=g.bL j:=fun j hj=>by simp[g',Gh.put,Gh.more,hj]
 have bi:g'.bL i=some c:=by simp[g',Gh.put,Gh.more]
 have ext:Ext g w g' w':=⟨fun j c hc=>by
  have:j≠i:=fun e=>by subst e;rw[hf] at hc;cases hc
  simp[g',Gh.put,Gh.more,this,hc],fun c o p=>⟨.inl p,hp c o p⟩⟩
 have get : ∀j x,((m.set t .dead).set i .tok)[j]? = some x→(j=i∧x = .tok)∨x = .dead∨(j≠i∧j≠t∧m[j]? = some x):=by
  intro j x hj
  rcases aD hj with e | ⟨hji,e⟩
  · exact .inl e
  · rcases aD e with⟨_,e'⟩ | ⟨EB,e'⟩
    · exact .inr (.inl e')
    · exact .inr (.inr ⟨hji,EB,e'⟩)
 have ne : ∀j x c',j≠t→m[j]? = some x→x.cP=true→g.bL j=some c'→c'≠c:=fun j x c' EB hj ho eB e=>EB (h.inj j t x _ c hj ht ho rfl (e▸eB) hc)
 refine⟨⟨fun j hj=> ?_,fun j hj=> ?_,fun j x l hj hl=> ?_,fun j c' hj eB=> ?_,fun j k x x' c' hj hk ho ho' fQ gH=> ?_,fun c' o p=> ?_,fun j kk ll hj=> ?_⟩,ext,⟨by omega,fun j _ hn=> ?_,fun c o p=>⟨.inl p,hp c o p⟩,fun c' o p=> ?_,fun c' ho'=> ?_,ho,htp,hu⟩⟩
 · simp only[ek] at hj
   rw[bo j (by omega)];exact h.sw j hj
 · rcases get j _ hj with⟨_,e⟩ | e | ⟨hji,_,e⟩
   · cases e
   · cases e
   · rw[bo j hji];exact h.free j e
 · rcases get j _ hj with⟨_,e⟩ | e | ⟨hji,EB,e⟩
   · subst e;cases hl
   · subst e;cases hl
   · obtain⟨c1,cs1,e1,n1,k1,k2,k3,k4,k5⟩:=h.cells j x l e hl
     refine⟨c1,cs1,e1,n1,(bo j hji).trans k1,(hw c1 (ne j x c1 EB e (cT hl) k1)).trans k2,k3,k4.mono ext,fun o p=> ?_⟩
     rcases p with p | ⟨rfl,_⟩
     · exact k5 o p
     · exact ne j x _ EB e (cT hl) k1 rfl
 · rcases get j _ hj with⟨rfl,_⟩ | e | ⟨hji,EB,e⟩
   · rw[bi] at eB;cases eB
     refine⟨cs',e',n,hh,by simp only[g',Gh.put,Gh.more,if_true];omega,by simpa[g',Gh.put,Gh.more] using q3,fun o h1 h2 p=> ?_⟩
     have h1':g.lo t+k≤o:=by simpa[g',Gh.put,Gh.more] using h1
     have h2':o<g.hi t:=by simpa[g',Gh.put,Gh.more] using h2
     rcases p with p | ⟨_,_,p⟩
     · exact q4 o (by omega) h2' p
     · omega
   · cases e
   · rw[bo j hji] at eB
     obtain⟨cs1,e1,n1,k2,k3,k4,k5⟩:=h.tok j c' e eB
     have h1:g'.hi j=g.hi j:=by simp[g',Gh.put,Gh.more,hji]
     have h2:g'.lo j=g.lo j:=by simp[g',Gh.put,Gh.more,hji]
     rw[h1,h2]
     refine⟨cs1,e1,n1,(hw c' (ne j _ c' EB e rfl eB)).trans k2,k3,k4,fun o a b p=> ?_⟩
     rcases p with p | ⟨rfl,_⟩
     · exact k5 o a b p
     · exact ne j _ _ EB e rfl eB rfl
 · rcases get j _ hj with⟨rfl,e⟩ | e | ⟨hji,EB,e⟩
   · rcases get k _ hk with⟨rfl,e'⟩ | e' | ⟨hki,hkt,e'⟩
     · rfl
     · subst e';simp[aN.cP] at ho'
     · rw[bi] at fQ;cases fQ
       rw[bo k hki] at gH
       exact absurd rfl (ne k x' _ hkt e' ho' gH)
   · subst e;simp[aN.cP] at ho
   · rcases get k _ hk with⟨rfl,e'⟩ | e' | ⟨hki,hkt,e'⟩
     · rw[bi] at gH;cases gH
       rw[bo j hji] at fQ
       exact absurd rfl (ne j x _ EB e ho fQ)
     · subst e';simp[aN.cP] at ho'
     · rw[bo j hji] at fQ;rw[bo k hki] at gH
       exact h.inj j k x x' c' e e' ho ho' fQ gH
 · rcases p with p | ⟨rfl,p1,p2⟩
   · obtain⟨v,hv⟩:=h.there c' o p
     exact⟨v,(hp c' o p).trans hv⟩
   · exact⟨cs'[o],by rw[aS hh,hZ (by omega)]⟩
 · rcases get j _ hj with⟨_,e⟩ | e | ⟨hji,EB,e⟩
   · cases e
   · cases e
   · obtain⟨c1,EA,vs1,k1,k2,k3,k6,k7,k8⟩:=h.obs j kk ll e
     exact⟨c1,EA,vs1,(bo j hji).trans k1,(hw c1 (ne j _ c1 EB e rfl k1)).trans k2,k3.mono ext,k6,fun o p=>p.elim (k7 o) fun q=>ne j _ c1 EB e rfl k1 q.1,by simpa[g',Gh.put,Gh.more,hji] using k8⟩
 · exact hw j fun e=>hn ⟨t,_,ht,rfl,e▸hc⟩
 · rcases p with p | ⟨rfl,_⟩
   · exact .inl p
   · exact .inr (.inl ⟨t,_,ht,rfl,hc⟩)
 · obtain⟨j,x,hj,hx,Ek⟩:=ho'
   rcases get j _ hj with⟨rfl,e⟩ | e | ⟨hji,_,e⟩
   · rw[bi] at Ek;cases Ek;exact .inl ⟨t,_,ht,rfl,hc⟩
   · subst e;simp[aN.cP] at hx
   · rw[bo j hji] at Ek;exact .inl ⟨j,x,e,hx,Ek⟩
theorem Rel.nD {g:Gh} {m:Mem} {w w':World} (h:Rel g m w) {cs:Array Value} {e:TypeId} (hw:oL w w' (.cells cs e)) :
  Rel (g.more w.heap.size 0 cs.size) m w'∧Ext g w (g.more w.heap.size 0 cs.size) w'∧dm g m w (g.more w.heap.size 0 cs.size) m w':=by
 have hp : ∀c o,g.pure c o→w'.cell? ⟨c,o,none⟩=w.cell? ⟨c,o,none⟩:=fun c o p=>dO (hw.old (h.lH p))
 have ext:Ext g w (g.more w.heap.size 0 cs.size) w':=⟨fun j c hc=>⟨hc,rfl,rfl⟩,fun c o p=>⟨.inl p,hp c o p⟩⟩
 refine⟨⟨h.sw,h.free,fun j x l hj hl=> ?_,fun j c hj hc=> ?_,h.inj,fun c o p=> ?_,fun j kk ll hj=> ?_⟩,ext,⟨by rw[hw.size];omega,fun k hk _=>hw.old hk,fun c o p=>⟨.inl p,hp c o p⟩,fun c o p=> ?_,fun c ho=> .inl ho,hw.os,hw.tape,hw.output⟩⟩
 · obtain⟨c1,cs1,e1,n1,k1,k2,k3,k4,k5⟩:=h.cells j x l hj hl
   refine⟨c1,cs1,e1,n1,k1,(hw.old (bQ k2)).trans k2,k3,k4.mono ext,fun o p=> ?_⟩
   rcases p with p | ⟨rfl,_⟩
   · exact k5 o p
   · exact absurd (bQ k2) (fv _)
 · obtain⟨cs1,e1,n1,k2,k3,k4,k5⟩:=h.tok j c hj hc
   refine⟨cs1,e1,n1,(hw.old (bQ k2)).trans k2,k3,k4,fun o a b p=> ?_⟩
   rcases p with p | ⟨rfl,_⟩
   · exact k5 o a b p
   · exact absurd (bQ k2) (fv _)
 · rcases p with p | ⟨rfl,_,p⟩
   · obtain⟨v,hv⟩:=h.there c o p
     exact⟨v,(hp c o p).trans hv⟩
   · exact⟨cs[o],by rw[aS hw.new,hZ (by omega)]⟩
 · obtain⟨c1,EA,vs1,k1,k2,k3,k6,k7,k8⟩:=h.obs j kk ll hj
   exact⟨c1,EA,vs1,k1,(hw.old (bQ k2)).trans k2,k3.mono ext,k6,fun o p=>p.elim (k7 o) fun q=>absurd (bQ k2) (by rw[q.1];exact fv _),k8⟩
 · rcases p with p | ⟨rfl,_⟩
   · exact .inl p
   · exact .inr (.inr (dd _))
theorem Rel.tZ {g:Gh} {m:Mem} {w:World} (h:Rel g m w) {i:Nat} (hi:m[i]? = some .free):Rel g (m.set i .tok) w∧dm g m w g (m.set i .tok) w:=by
 have hf:=h.free i hi
 refine⟨⟨fun j hj=>h.sw j (by simpa using hj),fun j hj=> ?_,fun j x l hj hl=> ?_,fun j c hj hc=> ?_,fun j k x x' c hj hk ho ho' fQ gH=> ?_,h.there,fun j kk ll hj=> ?_⟩,dm.less fun c ho=> ?_⟩
 · rcases aD hj with⟨_,e⟩ | ⟨_,e⟩
   · cases e
   · exact h.free j e
 · rcases aD hj with⟨_,e⟩ | ⟨_,e⟩
   · subst e;cases hl
   · exact h.cells j x l e hl
 · rcases aD hj with⟨rfl,_⟩ | ⟨_,e⟩
   · rw[hf] at hc;cases hc
   · exact h.tok j c e hc
 · rcases aD hj with⟨rfl,_⟩ | ⟨_,e⟩
   · rw[hf] at fQ;cases fQ
   · rcases aD hk with⟨rfl,_⟩ | ⟨_,e'⟩
     · rw[hf] at gH;cases gH
     · exact h.inj j k x x' c e e' ho ho' fQ gH
 · rcases aD hj with⟨_,e⟩ | ⟨_,e⟩
   · cases e
   · exact h.obs j kk ll e
 · obtain⟨j,x,hj,hx,hc⟩:=ho
   rcases aD hj with⟨rfl,_⟩ | ⟨_,e⟩
   · rw[hf] at hc;cases hc
   · exact⟨j,x,e,hx,hc⟩
theorem Rel.jD {g:Gh} {m:Mem} {w w':World} (h:Rel g m w) (hh:w'.heap=w.heap) (ho:w'.os=w.os) (ht:w'.tape=w.tape) (hu:w'.output=w.output) :
  Rel g m w'∧Ext g w g w'∧dm g m w g m w':=by
 have hc : ∀a:Addr,w'.cell? a=w.cell? a:=fun a=>by simp[World.cell?,hh]
 have ext:Ext g w g w':=⟨fun _ _ h=>⟨h,rfl,rfl⟩,fun _ _ p=>⟨p,hc _⟩⟩
 refine⟨⟨h.sw,h.free,fun j x l hj hl=> ?_,fun j c hj hcc=> ?_,h.inj,fun c o p=> ?_,fun j kk ll hj=> ?_⟩,ext,⟨by rw[hh];exact dd _,fun k _ _=>by rw[hh],fun c o p=>⟨p,hc _⟩,fun _ _ p=> .inl p,fun _ ho=> .inl ho,ho,ht,hu⟩⟩
 · obtain⟨c1,cs1,e1,n1,k1,k2,k3,k4,k5⟩:=h.cells j x l hj hl
   exact⟨c1,cs1,e1,n1,k1,by rw[hh];exact k2,k3,k4.mono ext,k5⟩
 · obtain⟨cs1,e1,n1,k2,k3⟩:=h.tok j c hj hcc
   exact⟨cs1,e1,n1,by rw[hh];exact k2,k3⟩
 · obtain⟨v,hv⟩:=h.there c o p
   exact⟨v,(hc _).trans hv⟩
 · obtain⟨c1,EA,vs1,k1,k2,k3,k6,k7,k8⟩:=h.obs j kk ll hj
   exact⟨c1,EA,vs1,k1,by rw[hh];exact k2,k3.mono ext,k6,k7,k8⟩
theorem Rel.reserve {g:Gh} {m:Mem} {w:World} (h:Rel g m w):Rel g (m++[.free]) w∧dm g m w g (m++[.free]) w:=by
 have get : ∀j x,(m++[aN.free])[j]? = some x→m[j]? = some x∨(j=m.length∧x = .free):=by
  intro j x hj
  rw[List.getElem?_append] at hj
  by_cases e:j<m.length
  · rw[if_pos e] at hj;exact .inl hj
  · rw[if_neg e] at hj
    have:=bG hj
    simp at this
    have e2:j=m.length:=by omega
    subst e2
    simp at hj
    exact .inr ⟨rfl,hj.symm⟩
 refine⟨⟨fun j hj=>h.sw j (by simp at hj;omega),fun j hj=> ?_,fun j x l hj hl=> ?_,fun j c hj hc=> ?_,fun j k x x' c hj hk ho ho' fQ gH=> ?_,h.there,fun j kk ll hj=> ?_⟩,dm.less fun c ho=> ?_⟩
 · rcases get j _ hj with e | ⟨rfl,_⟩
   · exact h.free j e
   · exact h.sw _ (dd _)
 · rcases get j _ hj with e | ⟨_,e⟩
   · exact h.cells j x l e hl
   · subst e;cases hl
 · rcases get j _ hj with e | ⟨_,e⟩
   · exact h.tok j c e hc
   · cases e
 · rcases get j _ hj with e | ⟨_,e⟩
   · rcases get k _ hk with e' | ⟨_,e'⟩
     · exact h.inj j k x x' c e e' ho ho' fQ gH
     · subst e';simp[aN.cP] at ho'
   · subst e;simp[aN.cP] at ho
 · rcases get j _ hj with e | ⟨_,e⟩
   · exact h.obs j kk ll e
   · cases e
 · obtain⟨j,x,hj,hx,hc⟩:=ho
   rcases get j _ hj with e | ⟨_,e⟩
   · exact⟨j,x,e,hx,hc⟩
   · subst e;simp[aN.cP] at hx
theorem Rel.pO (eT:Nat) {g:Gh} {m:Mem} {w w':World} (h:Rel g m w) {i:Nat} {ob:dV} {l:List AV} {vs:List Value} {o:Obj}
  (hi:m[i]? = some .free) (hv:cY g w l vs) (hw:oL w w' o) (his:ob.is o vs) (hroom:ob.room o eT) :
  Rel (g.put i w.heap.size 0 eT) (m.set i (.ob ob l)) w'∧Ext g w (g.put i w.heap.size 0 eT) w'∧dm g m w (g.put i w.heap.size 0 eT) (m.set i (.ob ob l)) w':=by
 have hf:=h.free i hi
 have hp : ∀c o,g.pure c o→w'.cell? ⟨c,o,none⟩=w.cell? ⟨c,o,none⟩:=fun c o p=>dO (hw.old (h.lH p))
 have bo : ∀j,j≠i→(g.put i w.heap.size 0 eT).bL j=g.bL j:=fun j hj=>by simp[Gh.put,hj]
 have bi:(g.put i w.heap.size 0 eT).bL i=some w.heap.size:=by simp[Gh.put]
 have ext:Ext g w (g.put i w.heap.size 0 eT) w':=⟨fun j c hc=>by
  have:j≠i:=fun e=>by subst e;rw[hf] at hc;cases hc
  simp[Gh.put,this,hc],fun c o p=>⟨p,hp c o p⟩⟩
 have lt : ∀j x c,m[j]? = some x→x.cP=true→g.bL j=some c→c<w.heap.size:=fun j x c hj ho hc=>h.kL ⟨j,x,hj,ho,hc⟩
 have uF:=bG hi
 refine⟨⟨fun j hj=> ?_,fun j hj=> ?_,fun j x k hj hk=> ?_,fun j c hj hc=> ?_,fun j k x x' c hj hk ho ho' fQ gH=> ?_,fun c o p=> ?_,fun j kk ll hj=> ?_⟩,ext,⟨by rw[hw.size];omega,fun k hk _=>hw.old hk,fun c o p=>⟨p,hp c o p⟩,fun _ _ p=> .inl p,fun c ho=> ?_,hw.os,hw.tape,hw.output⟩⟩
 · rw[ek] at hj
   rw[bo j (by omega)];exact h.sw j hj
 · rcases aD hj with⟨rfl,e⟩ | ⟨hji,e⟩
   · cases e
   · rw[bo j hji];exact h.free j e
 · rcases aD hj with⟨rfl,e⟩ | ⟨hji,e⟩
   · subst e;cases hk
   · obtain⟨c1,cs1,e1,n1,k1,k2,k3,k4,k5⟩:=h.cells j x k e hk
     exact⟨c1,cs1,e1,n1,(bo j hji).trans k1,(hw.old (bQ k2)).trans k2,k3,k4.mono ext,k5⟩
 · rcases aD hj with⟨rfl,e⟩ | ⟨hji,e⟩
   · cases e
   · rw[bo j hji] at hc
     obtain⟨cs1,e1,n1,k2,k3,k4,k5⟩:=h.tok j c e hc
     have h1:(g.put i w.heap.size 0 eT).hi j=g.hi j:=by simp[Gh.put,hji]
     have h2:(g.put i w.heap.size 0 eT).lo j=g.lo j:=by simp[Gh.put,hji]
     rw[h1,h2]
     exact⟨cs1,e1,n1,(hw.old (bQ k2)).trans k2,k3,k4,k5⟩
 · rcases aD hj with⟨rfl,e⟩ | ⟨hji,e⟩<;>rcases aD hk with⟨rfl,e'⟩ | ⟨hki,e'⟩
   · rfl
   · rw[bi] at fQ;cases fQ
     rw[bo k hki] at gH
     exact absurd (lt k x' _ e' ho' gH) (fv _)
   · rw[bi] at gH;cases gH
     rw[bo j hji] at fQ
     exact absurd (lt j x _ e ho fQ) (fv _)
   · rw[bo j hji] at fQ;rw[bo k hki] at gH
     exact h.inj j k x x' c e e' ho ho' fQ gH
 · obtain⟨v,hv⟩:=h.there c o p
   exact⟨v,(hp c o p).trans hv⟩
 · rcases aD hj with⟨rfl,e⟩ | ⟨hji,e⟩
   · cases e
     exact⟨_,_,vs,bi,hw.new,hv.mono ext,his,fun o p=>absurd (h.lH p) (fv _),by simpa[Gh.put] using hroom⟩
   · obtain⟨c1,EA,vs1,k1,k2,k3,k6,k7,k8⟩:=h.obs j kk ll e
     exact⟨c1,EA,vs1,(bo j hji).trans k1,(hw.old (bQ k2)).trans k2,k3.mono ext,k6,k7,by simpa[Gh.put,hji] using k8⟩
 · obtain⟨j,x,hj,hx,hc⟩:=ho
   rcases aD hj with⟨rfl,e⟩ | ⟨hji,e⟩
   · rw[bi] at hc;cases hc;exact .inr (dd _)
   · rw[bo j hji] at hc;exact .inl ⟨j,x,e,hx,hc⟩
theorem Rel.uc {g:Gh} {m:Mem} {w w':World} (h:Rel g m w) {i:Nat} {ob:dV} {l:List AV} {vs:List Value} {o:Obj}
  (hi:m[i]? = some .free) (hv:cY g w l vs) (hw:oL w w' o) (his:ob.is o vs) (hroom:ob.room o 0:=by trivial) :
  Rel (g.put i w.heap.size 0 0) (m.set i (.ob ob l)) w'∧Ext g w (g.put i w.heap.size 0 0) w'∧dm g m w (g.put i w.heap.size 0 0) (m.set i (.ob ob l)) w':=
 Rel.pO 0 h hi hv hw his hroom
theorem Rel.j8 {g:Gh} {m:Mem} {w w':World} (h:Rel g m w) {i c:Nat} {ob JB:dV} {l l':List AV} {vs':List Value} {o':Obj}
  (hi:m[i]? = some (.ob ob l)) (hc:g.bL i=some c)
  (hw : ∀k,k≠c→w'.heap[k]? = w.heap[k]?) (hs:w'.heap.size=w.heap.size) (ho:w'.os=w.os) (ht:w'.tape=w.tape) (hu:w'.output=w.output)
  (hh:w'.heap[c]? = some o') (his:JB.is o' vs') (hv:cY g w l' vs') (hroom:JB.room o' (g.hi i):=by trivial) :
  Rel g (m.set i (.ob JB l')) w'∧Ext g w g w'∧dm g m w g (m.set i (.ob JB l')) w':=by
 obtain⟨c0,ob0,vs0,h1,_,_,_,hnp,_⟩:=h.obs i ob l hi
 rw[hc] at h1;cases h1
 have hp : ∀c' o,g.pure c' o→w'.cell? ⟨c',o,none⟩=w.cell? ⟨c',o,none⟩:=fun c' o p=>dO (hw c' fun e=>hnp o (e▸p))
 have ext:Ext g w g w':=⟨fun _ _ h=>⟨h,rfl,rfl⟩,fun c' o p=>⟨p,hp c' o p⟩⟩
 have ne : ∀j x c',j≠i→m[j]? = some x→x.cP=true→g.bL j=some c'→c'≠c:=fun j x c' hji hj ho eB e=>hji (h.inj j i x _ c hj hi ho rfl (e▸eB) hc)
 refine⟨⟨fun j hj=>h.sw j (by simpa using hj),fun j hj=> ?_,fun j x k hj hk=> ?_,fun j c' hj eB=> ?_,fun j k x x' c' hj hk ho ho' fQ gH=> ?_,fun c' o p=> ?_,fun j kk ll hj=> ?_⟩,ext,⟨by omega,fun k hk hn=> ?_,fun c' o p=>⟨p,hp c' o p⟩,fun _ _ p=> .inl p,fun c' ho'=> ?_,ho,ht,hu⟩⟩
 · rcases aD hj with⟨rfl,e⟩ | ⟨_,e⟩
   · cases e
   · exact h.free j e
 · rcases aD hj with⟨rfl,e⟩ | ⟨hji,e⟩
   · subst e;cases hk
   · obtain⟨c1,cs1,e1,n1,k1,k2,k3,k4,k5⟩:=h.cells j x k e hk
     exact⟨c1,cs1,e1,n1,k1,(hw c1 (ne j x c1 hji e (cT hk) k1)).trans k2,k3,k4.mono ext,k5⟩
 · rcases aD hj with⟨rfl,e⟩ | ⟨hji,e⟩
   · cases e
   · obtain⟨cs1,e1,n1,k2,k3,k4,k5⟩:=h.tok j c' e eB
     exact⟨cs1,e1,n1,(hw c' (ne j _ c' hji e rfl eB)).trans k2,k3,k4,k5⟩
 · rcases aD hj with⟨rfl,e⟩ | ⟨hji,e⟩<;>rcases aD hk with⟨rfl,e'⟩ | ⟨hki,e'⟩
   · rfl
   · rw[hc] at fQ;cases fQ
     exact absurd rfl (ne k x' _ hki e' ho' gH)
   · rw[hc] at gH;cases gH
     exact absurd rfl (ne j x _ hji e ho fQ)
   · exact h.inj j k x x' c' e e' ho ho' fQ gH
 · obtain⟨v,hv⟩:=h.there c' o p
   exact⟨v,(hp c' o p).trans hv⟩
 · rcases aD hj with⟨rfl,e⟩ | ⟨hji,e⟩
   · cases e
     exact⟨c,_,vs',hc,hh,hv.mono ext,his,hnp,hroom⟩
   · obtain⟨c1,EA,vs1,k1,k2,k3,k6,k7,k8⟩:=h.obs j kk ll e
     exact⟨c1,EA,vs1,k1,(hw c1 (ne j _ c1 hji e rfl k1)).trans k2,k3.mono ext,k6,k7,k8⟩
 · exact hw k fun e=>hn ⟨i,_,hi,rfl,e▸hc⟩
 · rcases qZ ho' with⟨_,k⟩ | ⟨j,x,_,k1,k2,k3⟩
   · exact .inl ⟨i,_,hi,rfl,k⟩
   · exact .inl ⟨j,x,k1,k2,k3⟩
end Go.Am
end
section
namespace Go.Am
open Go.RowKit
def cr (g:Gh) (m:Mem) (w:World) (r:Result Next) (a:AV) (m':Mem):Prop:=
 ∃v w' g',(r = .ok (.value v) w'∨(r = .ok .skip w'∧v=undef))∧VA g' w' a v∧Rel g' m' w'∧Ext g w g' w'∧dm g m w g' m' w'
theorem cr.quiet {g:Gh} {m:Mem} {w:World} {r:Result Next} {a:AV} {v:Value} (h:Rel g m w) (hr:r = .ok (.value v) w) (ha:VA g w a v):cr g m w r a m:=
 ⟨v,w,g,.inl hr,ha,h,Ext.refl g w,dm.refl g m w⟩
theorem aE {P:Program} {t:TypeId} {n:Nat} (h:fK P t=some n) (w:World):(sizeOf t).run P w = .ok n w:=by
 unfold fK at h
 cases hi:P.info? t with
 |none=>simp[hi] at h
 |some i=>simp only[hi,iv,dq] at h;simp[sizeOf,typeInfo,hi,h]
theorem eY {P:Program} {t:TypeId} {i:TypeInfo} (h:P.info? t=some i) (w:World):(typeInfo t).run P w = .ok i w:=by
 simp[typeInfo,h]
theorem lJ {P:Program} {t:TypeId} {b:Bool} (h:N3 P t=some b) (w:World):(isAgg t).run P w = .ok b w:=by
 unfold N3 at h
 cases hu:P.underlying t with
 |none=>simp[hu] at h
 |some d=>cases d<;>simp[hu] at h<;>subst h<;>simp[isAgg,run_underlying hu]
theorem N6 {g:Gh} {w:World} {a:AV} {v cv:Value} (h:JT a=some v) (ha:VA g w a cv):cv=v:=by
 cases ha with
 |p v' _ hp=>cases hp<;>simp[JT] at h;exact h
 |_=>simp[JT] at h
theorem uG {g:Gh} {w:World} : ∀{l:List AV} {vs cs:List Value},um l=some vs→cY g w l cs→cs=vs
 |[],vs,cs,h,ha=>by
  cases cs with
  |nil=>simp[um] at h;exact h.symm
  |cons _ _=>exact ha.elim
 |a::l,vs,cs,h,ha=>by
  cases cs with
  |nil=>exact ha.elim
  |cons c cs=>
   simp only[um] at h
   cases h1:JT a with
   |none=>simp[h1] at h
   |some v=>
    cases h2:um l with
    |none=>simp[h1,h2] at h
    |some us=>
     simp only[h1,h2,dq] at h
     subst h
     rw[N6 h1 ha.1,uG h2 ha.2]
theorem RQ {g:Gh} {w:World} {a:AV} {v cv:Value} (h:JA a=some v) (ha:VA g w a cv):cv=v:=by
 cases ha with
 |p v' _ hp=>cases hp<;>simp[JA] at h;exact h
 |agg l cs hl hh=>
  simp only[JA,im] at h
  obtain⟨vs,h1,rfl⟩:=h
  rw[←uG h1 (bI.dz hl hh)]
 |aK l cs hl hh=>
  simp only[JA,im] at h
  obtain⟨vs,h1,rfl⟩:=h
  rw[←uG h1 (bI.dz hl hh)]
 |_=>simp[JA] at h
theorem At {α:Type} (P:Program) (w:World) : ∀(s:Sem α) (a:α),gJ P s=some a→s.run P w = .ok a w:=by
 intro s
 induction s with
 |pure b=>intro a h;simp[gJ] at h;subst h;rfl
 |program k ih=>intro a h;simp only[gJ] at h;simp only[Sem.run];exact ih P a h
 |mark m k ih=>intro a h;simp only[gJ] at h;simp only[Sem.run];exact ih a h
 |_=>intro a h;simp[gJ] at h
theorem VA.hG {g:Gh} {w:World} (v:Value):VA g w (hG v) v:=by
 unfold Am.hG
 split
 · exact .os none 0 0 [] none 0 (.oK 0 none 0 (.inr ⟨rfl,rfl⟩)) (.inl rfl)
 · exact .p _ _ (.sc v)
theorem cY.iB {g:Gh} {w:World} : ∀(l:List Value),cY g w (l.map Am.hG) l
 |[]=>trivial
 |v::l=>⟨VA.hG v,cY.iB l⟩
theorem VA.Rh {g:Gh} {w:World} (v:Value):VA g w (Rh v) v:=by
 unfold Am.Rh
 split
 · exact VA.Aq.2 (cY.iB _)
 · exact VA.mA.2 (cY.iB _)
 · exact VA.hG _
theorem yJ {ρ:Operand→AV} : ∀{l:List Operand},sq ρ l=true → ∀x∈l,∃v,JA (ρ x)=some v
 |[],_,_,hx=>by cases hx
 |y::l,h,x,hx=>by
  simp only[sq,dp] at h
  cases hx with
  |head=>exact ja.1 h.1
  |tail _ hx=>exact yJ h.2 x hx
theorem getD_some {m:Mem} {b:Nat} {x:aN} (h:m.getD b .dead=x) (hx:x ≠ .dead):m[b]? = some x:=by
 rw[di] at h
 cases hq:m[b]? with
 |none=>rw[hq] at h;exact absurd h.symm hx
 |some y=>rw[hq] at h;exact congrArg some h
section ops
variable {P:Program} {g:Gh} {m:Mem} {w:World} {ρ:Operand→AV} {cz:Operand→Value} {o:Oper}
theorem eP (hr : ∀x,VA g w (ρ x) (cz x)) (hs : ∀cs b,o.op ≠ .select cs b) {a:AV} (h:scalar P ρ o=some a) :
  ∃v,(execOp cz o).run P w = .ok (.value v) w∧VA g w a v:=by
 unfold scalar at h
 cases hb:sq ρ o.op.operands.toList with
 |false=>simp[hb] at h
 |true=>
  simp only[hb,cond_true] at h
  have hc:execOp cz o=execOp (fun x=>(JA (ρ x)).getD undef) o:=execOp_congr o hs fun x hx=>by
   obtain⟨v,hv⟩:=yJ hb x (Array.mem_toList_iff.2 hx)
   simp[hv,RQ hv (hr x)]
  cases he:gJ P (execOp (fun x=>(JA (ρ x)).getD undef) o) with
  |none=>simp[he] at h
  |some nx=>
   cases nx with
   |value v=>
    simp only[he,dq] at h
    subst h
    exact⟨v,by rw[hc];exact At P w _ _ he,VA.Rh v⟩
   |_=>simp[he] at h
theorem B4 {d:Option TypeDesc} {c:PV} (h:(yu d c).2=true):(yu d c).1=c∧c ≠ .bk:=by
 unfold yu at h ⊢
 split at h
 · cases c with
   |sc v=>cases v<;>simp_all [isInt,aq]
   |_=>simp[isInt] at h
 · cases c with
   |sc v=>cases v<;>simp_all [isBool,bg]
   |_=>simp[isBool] at h
 · cases c with
   |sc v=>cases v<;>simp_all [isStr,bh]
   |_=>simp[isStr] at h
 · cases c<;>simp_all [aQ,az,aR,an]
 · cases c<;>simp_all [isOk]
theorem uH {d:Option TypeDesc} {a:AV} (h:(gX d a).2=true):(gX d a).1=a∧a ≠ .p .bk:=by
 cases a with
 |p c=>simp only[gX] at h ⊢;exact⟨by rw[(B4 h).1],fun e=>(B4 h).2 (AV.p.inj e)⟩
 |_=>exact⟨rfl,fun e=>by cases e⟩
theorem B5 : ∀{ds:List (Option TypeDesc)} {l:List AV},(pF ds l).2=true→(pF ds l).1=l ∧ ∀x∈l,x ≠ .p .bk
 |[],[],_=>⟨rfl,fun _ h=>by cases h⟩
 |d::ds,a::l,h=>by
  simp only[pF,dp] at h ⊢
  obtain⟨h1,h2⟩:=B5 h.2
  refine⟨by rw[(uH h.1).1,h1],fun x hx=> ?_⟩
  cases hx with
  |head=>exact(uH h.1).2
  |tail _ hx=>exact h2 x hx
 |[],_::_,h=>by simp[pF] at h
 |_::_,[],h=>by simp[pF] at h
theorem ef {α:Type} (d:α) (l:List α) : ∀(n off:Nat),(mw d l off n).length=n
 |0,_=>rfl
 |n+1,off=>by simp[mw,ef d l n]
theorem kN {α:Type} (d:α) (l:List α) : ∀(n off j:Nat) (h:j<(mw d l off n).length),(mw d l off n)[j]=l.getD (off+j) d
 |0,_,_,h=>by simp[mw] at h
 |n+1,off,0,_=>by simp[mw]
 |n+1,off,j+1,h=>by
  simp only[mw,List.getElem_cons_succ]
  rw[kN d l n (off+1) j]
  congr 1;omega
theorem Rel.Kd (h:Rel g m w) {b c:Nat} {k:List AV} {t:TypeId} {pq:Bool} (hb:m[b]? = some (.ob (.gr t pq) k)) (hc:g.bL b=some c) {j:Nat} (hj:j<k.length) : ∃v,w.cell? ⟨c,j,none⟩=some v∧VA g w k[j] v:=by
 obtain⟨c',ob,vs,h1,h2,h3,h4,_,_⟩:=h.obs b _ _ hb
 rw[hc] at h1;cases h1
 obtain⟨cs,e,n,rfl,_,_,q1,q2,_⟩:=h4
 have hl:=h3.len
 have Ke:j<vs.length:=by omega
 have hjc:j<cs.size:=by omega
 refine⟨cs[j],by rw[aS h2,hZ hjc],?_⟩
 have:=h3.get j hj Ke
 have e1:vs[j]? = some cs[j]:=by
  rw[q1,du,if_pos Ke]
  simp[hjc]
 rw[de Ke] at e1
 rwa [dt e1] at this
theorem Rel.Kf {g:Gh} {m:Mem} {w:World} (h:Rel g m w) {i:Nat} {k k':dV} {l l':List AV} (hb:m[i]? = some (.ob k l))
  (hl : ∀ob vs hi,cY g w l vs→k.is ob vs→k.room ob hi → ∃vs',cY g w l' vs'∧k'.is ob vs'∧k'.room ob hi):Rel g (m.set i (.ob k' l')) w∧dm g m w g (m.set i (.ob k' l')) w:=by
 have own : ∀(j:Nat) (x:aN),(m.set i (.ob k' l'))[j]? = some x→x.cP=true → ∃y:aN,m[j]? = some y∧y.cP=true:=fun j x hj ho=>by
  rcases aD hj with⟨rfl,_⟩ | ⟨_,q⟩
  · exact⟨_,hb,rfl⟩
  · exact⟨x,q,ho⟩
 refine⟨⟨fun j hj=>h.sw j (by simpa using hj),fun j hj=> ?_,fun j x cs hj hx=> ?_,fun j c hj hc=> ?_,fun j q x x' c hj hq ho ho' hc eB=> ?_,h.there,fun j k1 l1 hj=> ?_⟩,
  ⟨dd _,fun _ _ _=>rfl,fun _ _ p=>⟨p,rfl⟩,fun _ _ p=> .inl p,fun c ho=> ?_,rfl,rfl,rfl⟩⟩
 · rcases aD hj with⟨_,q⟩ | ⟨_,q⟩
   · cases q
   · exact h.free j q
 · rcases aD hj with⟨_,rfl⟩ | ⟨_,q⟩
   · cases hx
   · exact h.cells j x cs q hx
 · rcases aD hj with⟨_,q⟩ | ⟨_,q⟩
   · cases q
   · exact h.tok j c q hc
 · obtain⟨y,y1,y2⟩:=own j x hj ho
   obtain⟨z,z1,z2⟩:=own q x' hq ho'
   exact h.inj j q y z c y1 z1 y2 z2 hc eB
 · rcases aD hj with⟨rfl,q⟩ | ⟨_,q⟩
   · cases q
     obtain⟨c,o,vs,k1,k2,k3,k4,k5,k6⟩:=h.obs _ _ _ hb
     obtain⟨vs',q1,q2,q3⟩:=hl o vs _ k3 k4 k6
     exact⟨c,o,vs',k1,k2,q1,q2,k5,q3⟩
   · exact h.obs j k1 l1 q
 · obtain⟨j,x,hj,hx,hc⟩:=ho
   obtain⟨y,y1,y2⟩:=own j x hj hx
   exact .inl ⟨j,y,y1,y2,hc⟩
def exactly (pre:List Value):List AV:=pre.map fun v=> .p (.sc v)
theorem bJ (pre:List Value):(exactly pre).length=pre.length:=List.length_map ..
theorem pP {g:Gh} {w:World} : ∀(pre:List Value),cY g w (exactly pre) pre
 |[]=>trivial
 |v::r=>⟨.p _ _ (.sc v),pP r⟩
theorem uI {g:Gh} {w:World} : ∀{pre vs:List Value},cY g w (exactly pre) vs→vs=pre
 |[],[],_=>rfl
 |v::r,x::xs,h=>by
  have h1:VA g w (.p (.sc v)) x:=h.1
  rw[VA.pv] at h1
  cases h1
  rw[uI (pre:=r) h.2]
 |[],_::_,h=>h.elim
 |_::_,[],h=>h.elim
theorem Rel.EC {g:Gh} {m:Mem} {w:World} (h:Rel g m w) {b:Nat} {t:TypeId} {pre:List Value} {l:List AV} (hb:m[b]? = some (.ob (.stk t pre) l)) :
  Rel g (m.set b (.ob (.gr t false) (exactly pre++l))) w∧dm g m w g (m.set b (.ob (.gr t false) (exactly pre++l))) w:=
 h.Kf hb fun ob vs hi hv hk hr=>by
   obtain⟨cs,e,n,rfl,q1,q2,q3,q4,q5⟩:=hk
   exact⟨pre++vs,(pP pre).append hv,⟨cs,e,n,rfl,q1,q2,by rw[dT];exact q3,by rw[dT];exact q4,q5⟩,hr⟩
theorem Rel.Kg {g:Gh} {m:Mem} {w:World} (h:Rel g m w) {b:Nat} {t:TypeId} {q:Bool} {pre:List Value} {l:List AV} (hb:m[b]? = some (.ob (.gr t q) (exactly pre++l))) :
  Rel g (m.set b (.ob (.stk t pre) l)) w∧dm g m w g (m.set b (.ob (.stk t pre) l)) w:=
 h.Kf hb fun ob vs hi hv hk hr=>by
   obtain⟨cs,e,n,rfl,q1,q2,q3,q4,q5⟩:=hk
   have e1:vs=vs.take pre.length++vs.drop pre.length:=(List.take_append_drop _ _).symm
   have hlen:=hv.len
   rw[dT,bJ] at hlen
   have h1:cY g w (exactly pre) (vs.take pre.length):=by
    have:=hv.take pre.length
    rwa [List.take_append_of_le_length (by rw[bJ];exact dd _),eh (by rw[bJ];exact dd _)] at this
   have h2:cY g w l (vs.drop pre.length):=by
    have:=hv.drop pre.length
    rwa [List.drop_append_of_le_length (by rw[bJ];exact dd _),List.drop_of_length_le (by rw[bJ];exact dd _),List.nil_append] at this
   have h3:=uI h1
   rw[h3] at e1
   have e2:pre.length+(vs.drop pre.length).length=vs.length:=by rw[en];omega
   exact⟨vs.drop pre.length,h2,⟨cs,e,n,rfl,q1,q2,by rw[e2,←e1];exact q3,by rw[e2];exact q4,q5⟩,hr⟩
theorem om (h:Rel g m w) {a:AV} {ca:Value} (ha:VA g w a ca) {n:Nat} {l:List AV} (he:lB (fun i=>m.getD i .dead) a n=some (l,true)) (hb : ∀x∈l,x ≠ .p .bk) :
  ∃c o vs,ca = .pointer (some ⟨c,o,none⟩)∧cY g w l vs∧vs.length=n ∧ ∀j v,vs[j]? = some v→w.cell? ⟨c,o+j,none⟩=some v:=by
 have key : ∀(c o:Nat),l.length=n→(∀j (hj:j<l.length),∃v,w.cell? ⟨c,o+j,none⟩=some v∧VA g w l[j] v) →
   ∃vs,cY g w l vs∧vs.length=n ∧ ∀j v,vs[j]? = some v→w.cell? ⟨c,o+j,none⟩=some v:=by
  intro c o hl hh
  refine⟨(fl n).map fun j=>(w.cell? ⟨c,o+j,none⟩).getD undef,bI.dz (by simp[hl]) fun i hi _=> ?_,by simp,fun j v hj=> ?_⟩
  · obtain⟨v,h1,h2⟩:=hh i hi
    simpa[h1] using h2
  · simp only[fe,im] at hj
    obtain⟨k,hk,rfl⟩:=hj
    have hk':=ee.1 hk
    obtain⟨hlt,hk'⟩:=hk'
    simp at hlt hk'
    subst hk'
    obtain⟨v,h1,_⟩:=hh j (by omega)
    simp[h1]
 unfold lB at he
 split at he
 · rename_i off cs
   simp only[dq,kc,and_true] at he
   subst he
   rw[VA.pv] at ha
   cases ha with
   |pp _ _ b o f hp hv=>
    obtain⟨vs,h1,h2,h3⟩:=key b (o+off) (by simp[ef]) (fun j hj=>by
     have hj':j<(mw PV.bk cs off n).length:=by simpa using hj
     have hx:=hb _ (fg hj)
     simp only[ed,kN] at hx ⊢
     rcases gg (off+j) cs.length with hlt | hge
     · refine⟨f (off+j),by rw[gn];exact(hp (off+j) hlt).2.1,?_⟩
       rw[di,de hlt]
       exact .p _ _ (hv (off+j) hlt)
     · exact absurd (by rw[di,ei hge];rfl) hx)
    exact⟨b,o+off,vs,rfl,h1,h2,h3⟩
 · rename_i b off
   cases ha with
   |mp _ _ c hc=>
    split at he
    · rename_i k hk
      simp only[dq,kc,and_true] at he
      subst he
      have hm:m[b]? = some (.pc k):=getD_some hk (by simp)
      obtain⟨c',cs,e,q,h1,h2,h3,h4,h5⟩:=h.cells b _ _ hm rfl
      rw[hc] at h1;cases h1
      have h4:=h4.1
      have hlen:=h4.len
      obtain⟨vs,k1,k2,k3⟩:=key c off (by simp[ef]) (fun j hj=>by
       have hx:=hb _ (fg hj)
       simp only[ed,kN] at hx ⊢
       rcases gg (off+j) k.length with hlt | hge
       · have hlt':off+j<cs.size:=by simp at hlen;omega
         refine⟨cs[off+j],by rw[aS h2,hZ hlt'],?_⟩
         rw[di,de hlt]
         have:=h4.get (off+j) (by simpa using hlt) (by simpa using hlt')
         simpa using this
       · exact absurd (by rw[di,ei hge];rfl) hx)
      exact⟨c,off,vs,rfl,k1,k2,k3⟩
    · rename_i k hk
      simp only[dq,kc] at he
      obtain⟨rfl,hle⟩:=he
      have hle':=ft hle
      have hm:m[b]? = some (.ac k):=getD_some hk (by simp)
      obtain⟨c',cs,e,q,h1,h2,h3,h4,h5⟩:=h.cells b _ _ hm rfl
      rw[hc] at h1;cases h1
      have h4:=h4.1
      have hlen:=h4.len
      obtain⟨vs,k1,k2,k3⟩:=key c off (by simp[ef]) (fun j hj=>by
       simp only[ef] at hj
       simp only[kN]
       have hlt:off+j<k.length:=by omega
       have hlt':off+j<cs.size:=by simp at hlen;omega
       refine⟨cs[off+j],by rw[aS h2,hZ hlt'],?_⟩
       rw[di,de hlt]
       have:=h4.get (off+j) hlt (by simpa using hlt')
       simpa using this)
      exact⟨c,off,vs,rfl,k1,k2,k3⟩
    · rename_i k hk
      simp only[dq,kc] at he
      obtain⟨rfl,hle⟩:=he
      have hle':=ft hle
      obtain⟨vs,k1,k2,k3⟩:=key c off (by simp[ef]) (fun j hj=>by
       simp only[ef] at hj
       simp only[kN]
       have hlt:off+j<k.length:=by omega
       obtain⟨v,q1,q2⟩:=h.Kd (getD_some hk (by simp)) hc hlt
       refine⟨v,q1,?_⟩
       rw[di,de hlt]
       exact q2)
      exact⟨c,off,vs,rfl,k1,k2,k3⟩
    · rename_i t0 pre k hk
      simp only[dq,kc,dp] at he
      obtain⟨rfl,Z5,hle⟩:=he
      have acy:=ft Z5
      have hle':=ft hle
      have hm:m[b]? = some (.ob (.stk t0 pre) k):=getD_some hk (by simp)
      obtain⟨hg,_⟩:=h.EC hm
      have Wr:(m.set b (.ob (.gr t0 false) (exactly pre++k)))[b]? = some (.ob (.gr t0 false) (exactly pre++k)):=by rw[List.getElem?_set_self (bG hm)]
      obtain⟨vs,k1,k2,k3⟩:=key c off (by simp[ef]) (fun j hj=>by
       simp only[ef] at hj
       simp only[kN]
       have hlt:off-pre.length+j<k.length:=by omega
       have RR:off+j<(exactly pre++k).length:=by rw[dT,bJ];omega
       obtain⟨v,q1,q2⟩:=hg.Kd Wr hc RR
       refine⟨v,q1,?_⟩
       rw[di,de hlt]
       have e:(exactly pre++k)[off+j]=k[off-pre.length+j]:=by
        rw[List.getElem_append_right (by rw[bJ];omega)]
        congr 1
        rw[bJ];omega
       rw[e] at q2
       exact q2)
      exact⟨c,off,vs,rfl,k1,k2,k3⟩
    · cases he
 · cases he
theorem cQ (c o j:Nat):(⟨c,o,none⟩:Addr).add j=⟨c,o+j,none⟩:=by unfold Addr.add;split<;>simp_all
theorem pQ (h:Rel g m w) {a:AV} {ca:Value} (ha:VA g w a ca) {t:TypeId} {v:AV} (he:kq P (fun i=>m.getD i .dead) t a=some (v,true)) :
  ∃c o cv,ca = .pointer (some ⟨c,o,none⟩)∧(loadVar t ⟨c,o,none⟩).run P w = .ok cv w∧VA g w v cv:=by
 unfold kq at he
 split at he
 · rename_i n hag hsz
   simp only[im,kc,dp] at he
   obtain⟨⟨l,ok⟩,h1,rfl,hok,h2⟩:=he
   simp only at hok h2
   subst hok
   obtain⟨e1,e2⟩:=B5 h2
   obtain⟨c,o,vs,rfl,k1,k2,k3⟩:=om h ha h1 e2
   refine⟨c,o,.agg vs.toArray,rfl,?_,?_⟩
   · have:=run_loadCells_list (P:=P) w ⟨c,o,none⟩ vs (fun j v hj=>by rw[cQ];exact k3 j v hj)
     simp only[loadVar,kh,lJ hag,km,if_true,aE hsz,←k2,this,kl]
   · simp only[e1];exact VA.Aq.2 (by simpa using k1)
 · rename_i n hag hsz
   split at he
   · rename_i x ok hx
     simp only[dq,kc,dp] at he
     obtain⟨rfl,hok,h2⟩:=he
     subst hok
     obtain⟨e1,e2⟩:=uH h2
     obtain⟨c,o,vs,rfl,k1,k2,k3⟩:=om h ha hx (fun y hy=>by simp at hy;subst hy;exact e2)
     cases vs with
     |nil=>exact k1.elim
     |cons u us=>
      have:=k3 0 u rfl
      simp only[Nat.add_zero] at this
      exact⟨c,o,u,rfl,by simp[loadVar,lJ hag,this],by rw[e1];exact k1.1⟩
   · cases he
 · cases he
end ops
end Go.Am
end
section
namespace Go.Am
open Go.RowKit
section ops
variable {P:Program} {g:Gh} {m:Mem} {w:World} {ρ:Operand→AV} {cz:Operand→Value} {o:Oper}
theorem oo {x a:AV} {cx:Value} {n:Nat} (h:lD x n=some a) (hx:VA g w x cx) :
  ∃c o,cx = .pointer (some ⟨c,o,none⟩)∧VA g w a (.pointer (some ⟨c,o+n,none⟩)):=by
 cases hx with
 |p v cv hv=>
  cases hv with
  |pp off cells b o f hp hv=>
   simp only[lD,dq] at h;subst h
   exact⟨b,o+off,rfl,.p _ _ (by rw[gn];exact .pp (off+n) cells b o f hp hv)⟩
  |_=>simp[lD] at h
 |mp b off c hc=>
  simp only[lD,dq] at h;subst h
  exact⟨c,off,rfl,.mp b (off+n) c hc⟩
 |_=>simp[lD] at h
theorem uJ {c o:Nat} {f:Field} {n:Nat} (h:fK P f.type=some n) (hn:n≠0) :
  (fieldPlace ⟨c,o,none⟩ f).run P w = .ok ⟨c,o+f.offset,none⟩ w:=by
 simp[fieldPlace,aE h,hn,cQ]
theorem pR {t:TypeId} {x a:AV} {cx:Value} {f:Nat} (h:jY P t x f=some a) (hx:VA g w x cx) :
  ∃v,(ln t cx f).run P w = .ok v w∧VA g w a v:=by
 unfold jY at h
 split at h
 · rename_i fields hu
   split at h
   · rename_i fd hf
     split at h
     · rename_i n hn
       cases hb:bm 1 n with
       |false=>simp[hb] at h
       |true=>
        simp only[hb,cond_true] at h
        have h1:=ft hb
        obtain⟨c,o,rfl,ha⟩:=oo h hx
        refine⟨_,?_,ha⟩
        simp[ln,run_underlying hu,hf,lb,uJ hn (by omega:n≠0)]
     · cases h
   · cases h
 · cases h
theorem nM {i:Int} {n:Nat}:aM i n=true↔0≤i∧i<n:=by simp[aM]
theorem pV {t:TypeId} {x i a:AV} {cx ci:Value} (h:jZ P t x i=some (a,true)) (hx:VA g w x cx) (hi:VA g w i ci) :
  ∃v,(la t cx ci).run P w = .ok v w∧VA g w a v:=by
 unfold jZ at h
 split at h
 · rename_i k n len elem hu
   rw[VA.pv] at hi;cases hi
   split at h
   · rename_i size hsz
     simp only[im,kc] at h
     obtain⟨a',h1,rfl,h2⟩:=h
     obtain⟨c,o,rfl,ha⟩:=oo h1 hx
     rw[nM] at h2
     refine⟨_,?_,ha⟩
     simp[la,asIntOf,run_underlying hu,lb,h2,aE hsz,cQ]
   · cases h
 · rename_i k n elem hu
   rw[VA.pv] at hi;cases hi
   split at h
   · rename_i size len sz cs hsz
     simp only[dq,kc,dp] at h
     obtain⟨rfl,h2,_⟩:=h
     rw[nM] at h2
     rw[VA.pv] at hx
     cases hx with
     |ps _ _ _ b o cap f hl hc hz hp hv=>
      refine⟨_,?_,.p _ _ (.pp (n.toNat*size) cs b o f hp hv)⟩
      simp[la,asIntOf,run_underlying hu,h2,aE hsz,cQ]
     |oK sz a cap=>simp at h2;omega
   · rename_i size tok len sz cs hsz
     simp only[dq,kc,dp] at h
     obtain⟨rfl,h2,_⟩:=h
     rw[nM] at h2
     cases hx with
     |os _ _ _ _ ad cap hx hr=>
      cases hx with
      |ps _ _ _ b o cap f hl hc hz hp hv=>
       refine⟨_,?_,.p _ _ (.pp (n.toNat*size) cs b o f hp hv)⟩
       simp[la,asIntOf,run_underlying hu,h2,aE hsz,cQ]
      |oK sz a cap=>simp at h2;omega
   · rename_i size b off len sz cap hsz
     simp only[dq,kc,dp] at h
     obtain⟨rfl,h2,_⟩:=h
     rw[nM] at h2
     cases hx with
     |ms _ _ _ _ cap c hb hc=>
      refine⟨_,?_,.mp b _ c hb⟩
      simp[la,asIntOf,run_underlying hu,h2,aE hsz,cQ]
     |mg _ _ _ _ cap c hb hc=>
      refine⟨_,?_,.mp b _ c hb⟩
      simp[la,asIntOf,run_underlying hu,h2,aE hsz,cQ]
   · cases h
 · cases h
theorem yK {α:Type} (d:α) : ∀(n:Nat) (l:List α) (off:Nat),off+n≤l.length→mw d l off n=(l.drop off).take n
 |0,_,_,_=>by simp[mw]
 |n+1,l,off,h=>by
  have hlt:off<l.length:=by omega
  rw[mw,yK d n l (off+1) (by omega),List.drop_eq_getElem_cons hlt,List.take_succ_cons,di,de hlt]
  rfl
theorem pW {t:TypeId} {cs:List AV} {ca:Array Value} {off:Nat} {a:AV} (h:partOf P t cs off=some (a,true)) (hc:cY g w cs ca.toList) :
  ∃v,(part t ca off).run P w = .ok v w∧VA g w a v:=by
 have hlen:=hc.len
 unfold partOf at h
 split at h
 · rename_i n hag hsz
   simp only[dq,kc] at h
   obtain⟨rfl,h2⟩:=h
   have h2:=ft h2
   refine⟨_,by simp[part,lJ hag,aE hsz];rfl,VA.Aq.2 ?_⟩
   rw[yK _ _ _ _ h2]
   have:=(hc.drop off).take n
   simpa[fh] using this
 · rename_i n hag hsz
   simp only[dq,kc] at h
   obtain⟨rfl,h2⟩:=h
   have h2:off<cs.length:=by simpa[hC] using h2
   have h3:off<ca.size:=by simp at hlen;omega
   refine⟨ca[off],by simp[part,lJ hag,hZ h3],?_⟩
   rw[di,de h2]
   exact hc.get off h2 (by simpa using h3)
 · cases h
theorem xC {t:TypeId} {x a:AV} {cx:Value} {f:Nat} (h:tQ P t x f=some (a,true)) (hx:VA g w x cx) :
  ∃v,(lr t cx f).run P w = .ok v w∧VA g w a v:=by
 unfold tQ at h
 split at h
 · rename_i fields cs hu
   split at h
   · rename_i fd hf
     cases hx with
     |agg _ ca hl hh=>
      obtain⟨v,h1,h2⟩:=pW h (VA.Aq.1 (.agg cs ca hl hh))
      exact⟨v,by simp[lr,run_underlying hu,hf,asAgg,h1],h2⟩
   · cases h
 · cases h
theorem uK (s:ByteArray) (i:Nat):s[i]? = s.data.toList[i]? :=by
 rcases gg i s.size with h | h
 · have h2:i<s.data.toList.length:=by rw[ib];exact h
   rw[getElem?_pos s i h,de h2]
   rfl
 · have h2:s.data.toList.length≤i:=by rw[ib];exact h
   rw[getElem?_neg s i (Nat.not_lt.2 h),ei h2]
theorem xD {t:TypeId} {x i a:AV} {cx ci:Value} (h:tR P t x i=some (a,true)) (hx:VA g w x cx) (hi:VA g w i ci) :
  ∃v,(lj t cx ci).run P w = .ok v w∧VA g w a v:=by
 unfold tR at h
 split at h
 · rename_i cs k n
   rw[VA.pv] at hi;cases hi
   split at h
   · rename_i len elem hu
     split at h
     · rename_i size v ok hsz hp
       simp only[dq,kc,dp] at h
       obtain⟨rfl,h1,rfl⟩:=h
       rw[nM] at h1
       cases hx with
       |agg _ ca hl hh=>
        simp only[hsz,jb] at hp
        obtain⟨v,h2,h3⟩:=pW hp (VA.Aq.1 (.agg cs ca hl hh))
        refine⟨v,?_,h3⟩
        simp[lj,asIntOf,run_underlying hu,h1,aE hsz,h2]
     · cases h
   · cases h
 · rename_i s k n
   rw[VA.pv] at hi hx;cases hi;cases hx
   split at h
   · rename_i hu
     simp only[dq,kc] at h
     obtain⟨rfl,h1⟩:=h
     rw[nM] at h1
     have hlt:n.toNat<s.data.toList.length:=by omega
     refine⟨_,?_,.p _ _ (.sc _)⟩
     simp only[lj,asIntOf,run_underlying hu,kh,kl,km,h1.1,if_true,uK,de hlt,di,jb]
   · cases h
 · cases h
theorem iK (hr : ∀x,VA g w (ρ x) (cz x)) {x:Option Operand} {d n:Nat} (h:bound ρ x d=some (n,true)) :
  (x=none∧n=d)∨(∃y k i,x=some y∧cz y = .int k i∧0≤i∧n=i.toNat):=by
 unfold bound at h
 split at h
 · simp only[dq,kc,and_true] at h;exact .inl ⟨rfl,h.symm⟩
 · rename_i y
   split at h
   · rename_i k i he
     simp only[dq,kc,decide_eq_true_eq] at h
     have:=hr y
     rw[he,VA.pv] at this
     refine .inr ⟨y,k,i,rfl,?_,h.2,h.1.symm⟩
     generalize cz y=cv at this
     cases this;rfl
   · cases h
theorem run_sliceBound {k:IntKind} {i:Int} {y:Nat} {code:BoundsCode} (h0:0≤i) (h1:i.toNat≤y):(lh (.int k i) y code).run P w = .ok i.toNat w:=by
 have:i≤y:=by omega
 simp[lh,asIntOf,h0,this]
theorem bV (hr : ∀x,VA g w (ρ x) (cz x)) {Ws:Bool} {len cap l h:Nat} {low high:Option Operand}
  (hl:bound ρ low 0=some (l,true)) (hh:bound ρ high len=some (h,true)) (h1:l≤h) (h2:h≤cap) :
  (kp Ws len cap (low.map cz) (high.map cz) none).run P w = .ok (l,h,cap) w:=by
 rcases iK hr hl with⟨rfl,rfl⟩ | ⟨y,k,i,rfl,hy,hi,rfl⟩<;>rcases iK hr hh with⟨rfl,rfl⟩ | ⟨y',k',i',rfl,hy',hi',rfl⟩
 · simp[kp]
 · simp[kp,hy',run_sliceBound hi' h2]
 · simp[kp,hy,run_sliceBound hi h1]
 · simp[kp,hy,hy',run_sliceBound hi h1,run_sliceBound hi' h2]
theorem iL (hr : ∀x,VA g w (ρ x) (cz x)) {Ws:Bool} {len cap l h:Nat} {low:Option Operand} {hx mx:Operand}
  (hl:bound ρ low 0=some (l,true)) (hh:bound ρ (some hx) len=some (h,true)) (hm:bound ρ (some mx) 0=some (h,true)) (h1:l≤h) (h2:h≤cap) :
  (kp Ws len cap (low.map cz) (some (cz hx)) (some (cz mx))).run P w = .ok (l,h,h) w:=by
 rcases iK hr hh with⟨e,_⟩ | ⟨y',k',i',e,hy',hi',rfl⟩
 · cases e
 cases e
 rcases iK hr hm with⟨e,_⟩ | ⟨y2,k2,i2,e,WK,hi2,e2⟩
 · cases e
 cases e
 rw[e2] at h2
 rcases iK hr hl with⟨rfl,rfl⟩ | ⟨y,k,i,rfl,hy,hi,rfl⟩
 · simp only[kp,kh,hy',WK,run_sliceBound hi2 h2,km,iu,kl]
   rw[run_sliceBound hi' (by omega)];simp[e2]
 · simp only[kp,kh,hy,hy',WK,run_sliceBound hi2 h2,km,iv]
   rw[run_sliceBound hi' (by omega)]
   simp only[km]
   rw[run_sliceBound hi (by omega)];simp[e2]
theorem og (hr : ∀x,VA g w (ρ x) (cz x)) {Ws:Bool} {len cap l h m':Nat} {low:Option Operand} {hx mx:Operand}
  (hl:bound ρ low 0=some (l,true)) (hh:bound ρ (some hx) len=some (h,true)) (hm:bound ρ (some mx) 0=some (m',true)) (h1:l≤h) (h2:h≤m') (h3:m'≤cap) :
  (kp Ws len cap (low.map cz) (some (cz hx)) (some (cz mx))).run P w = .ok (l,h,m') w:=by
 rcases iK hr hh with⟨e,_⟩ | ⟨y',k',i',e,hy',hi',rfl⟩
 · cases e
 cases e
 rcases iK hr hm with⟨e,_⟩ | ⟨y2,k2,i2,e,WK,hi2,rfl⟩
 · cases e
 cases e
 rcases iK hr hl with⟨rfl,rfl⟩ | ⟨y,k,i,rfl,hy,hi,rfl⟩
 · simp only[kp,kh,hy',WK,run_sliceBound hi2 h3,km,iu,kl]
   rw[run_sliceBound hi' h2];simp
 · simp only[kp,kh,hy,hy',WK,run_sliceBound hi2 h3,km,iv]
   rw[run_sliceBound hi' h2]
   simp only[km]
   rw[run_sliceBound hi h1];simp
theorem mO {α:Type} (cs:List α) {len l h size:Nat} {low high:Option Operand} (hl:cs.length=len*size) (h1:l≤h) (h2:h≤len) (e1:low=none→l=0) (e2:high=none→h=len) :
  cut cs (times low l size) (times high h size)=(cs.drop (l*size)).take ((h-l)*size):=by
 have ZK:(h-l)*size=h*size-l*size:=gl _ _ _
 have hhl:h*size≤len*size:=fx _ h2
 have RS:l*size≤h*size:=fx _ h1
 unfold cut times
 cases low with
 |none=>
  have:=e1 rfl;subst this
  cases high with
  |none=>have:=e2 rfl;subst this;simp[hl,eh]
  |some _=>simp
 |some _=>
  cases high with
  |none=>
   have:=e2 rfl;subst this
   simp only[iv,iu]
   rw[eh]
   simp[hl,ZK]
  |some _=>simp only[iv];rw[fh,ZK]
theorem nN {len sz:Nat} {cs:List PV} {a:Option Addr} {cap l h m':Nat} (hx:VP g w (.ps len sz cs) (.slice a len cap)) (h1:l≤h) (h2:h≤len) (h3:h≤m') (h4:m'≤cap) :
  VP g w (.ps (h-l) sz ((cs.drop (l*sz)).take ((h-l)*sz))) (.slice (if m'=l then a else a.map (·.add (l*sz))) (h-l) (m'-l)):=by
 cases hx with
 |ps _ _ _ b o cap f hl hc hz hp hv=>
  have ZK:(h-l)*sz=h*sz-l*sz:=gl _ _ _
  have hhl:h*sz≤len*sz:=fx _ h2
  have RS:l*sz≤h*sz:=fx _ h1
  by_cases e:m'=l
  · have:h-l=0:=by omega
    simp only[this,Nat.zero_mul,List.take_zero]
    exact .oK _ _ _ (.inl hz)
  · simp only[if_neg e,iv,cQ]
    refine .ps _ _ _ b (o+l*sz) _ (fun k=>f (l*sz+k)) (by simp[hl,ZK];omega) (by omega) hz (fun k hk=> ?_) (fun k hk=> ?_)
    · simp only[eQ,en,hl] at hk
      have:=hp (l*sz+k) (by omega)
      rw[gn];exact this
    · simp only[eQ,en,hl] at hk
      have:=hv (l*sz+k) (by omega)
      simpa using this
 |oK sz a cap hz=>
  have:h-l=0:=by omega
  simp only[this,List.drop_nil,List.take_nil]
  exact .oK _ _ _ (hz.imp id fun⟨e,e2⟩=>by subst e;subst e2;exact⟨by split<;>rfl,by omega⟩)
theorem jh {len sz size:Nat} {cs:List PV} {a:Option Addr} {cap:Nat} (hx:VP g w (.ps len sz cs) (.slice a len cap)) (h:(bj sz size||(bj len 0&&bm 1 size))=true):VP g w (.ps len size cs) (.slice a len cap):=by
 simp only[j1,dp,fw] at h
 rcases h with rfl | ⟨rfl,h1⟩
 · exact hx
 · have h1:=ft h1
   cases hx with
   |ps _ _ _ b o cap f hl hc hz hp hv=>
    simp at hl;subst hl
    exact .oK _ _ _ (.inl h1)
   |oK=>exact .oK _ _ _ (.inl h1)
theorem lK {len sz:Nat} {cs:List PV} {cv:Value} (hx:VP g w (.ps len sz cs) cv):cs.length=len*sz ∧ ∃a cap,cv = .slice a len cap∧(len≤cap):=by
 cases hx with
 |ps _ _ _ b o cap f hl hc hz hp hv=>exact⟨hl,_,_,rfl,hc⟩
 |oK=>exact⟨by simp,_,_,rfl,Nat.zero_le _⟩
end ops
end Go.Am
end
section
namespace Go.Am
open Go.RowKit
theorem gp {ρ:Operand→AV} {d n:Nat} {b:Bool} (h:bound ρ none d=some (n,b)):n=d:=by
 simp only[bound,dq,kc] at h;exact h.1.symm
section ops
variable {P:Program} {g:Gh} {m:Mem} {w:World} {ρ:Operand→AV} {cz:Operand→Value} {o:Oper}
theorem xE (hr : ∀x,VA g w (ρ x) (cz x)) {t:TypeId} {x a:AV} {cx:Value} {low high mx:Option Operand} (h:nG P ρ t x low high mx=some (a,true)) (hx:VA g w x cx) :
  ∃v,(kv t cx (low.map cz) (high.map cz) (mx.map cz)).run P w = .ok v w∧VA g w a v:=by
 unfold nG at h
 split at h
 · rename_i n elem hu
   split at h
   · rename_i size l a' h' b' i off hsz hl hh
     simp only[dq,kc,dp] at h
     obtain⟨rfl,⟨⟨rfl,rfl⟩,h1⟩,h2⟩:=h
     have h1:=ft h1
     have h2:=ft h2
     cases hx with
     |mp _ _ c hc=>
      have e:(if n=l then(⟨c,off,none⟩:Addr) else(⟨c,off,none⟩:Addr).add (l*size))=⟨c,cond (bj n l) off (off+l*size),none⟩:=by
       by_cases e:n=l
       · simp[e]
       · have:bj n l=false:=by rw[jn];intro k;exact e (bx k)
         simp[e,this,cQ]
      refine⟨_,?_,.ms i (cond (bj n l) off (off+l*size)) (h'-l) size (n-l) c hc (by omega)⟩
      simp only[kv,kh,run_underlying hu,km,lb,iu,bV hr hl hh h1 h2,aE hsz,kl,e]
   · cases h
 · rename_i elem hu
   split at h
   · rename_i size l a' len sz cs hsz hl
     rw[VA.pv] at hx
     obtain⟨hlen,ad,cap,rfl,hcap⟩:=lK hx
     split at h
     · rename_i h' b' hh
       simp only[dq,kc,dp,fw] at h
       obtain⟨rfl,⟨⟨⟨rfl,rfl⟩,h1⟩,h2⟩,rfl⟩:=h
       have h1:=ft h1
       have h2:=ft h2
       refine⟨_,?_,.p _ _ (by rw[mO cs hlen h1 h2 (fun e:low=none=>gp (e▸hl)) (fun e=>gp (e▸hh))];exact nN hx h1 h2 (cp h2 hcap) (dd _))⟩
       simp only[kv,kz,kh,run_underlying hu,km,iu,bV hr hl hh h1 (cp h2 hcap),aE hsz,kl]
     · rename_i h' b' mo hh
       split at h
       · rename_i m' c' hm
         simp only[dq,kc,dp,fw] at h
         obtain⟨rfl,⟨⟨⟨⟨⟨rfl,rfl⟩,rfl⟩,h1⟩,h2⟩,rfl⟩,h3,rfl⟩:=h
         have h1:=ft h1
         have h2:=ft h2
         obtain⟨hx',rfl⟩:=ja.1 h3
         have hv:=nN (m':=m') hx h1 h2 (dd _) (cp h2 hcap)
         refine⟨_,?_,.os none (m'-l) sz _ _ _ (by rw[mO cs hlen h1 h2 (fun e:low=none=>gp (e▸hl)) (fun e=>by cases e)];exact hv) (.inl rfl)⟩
         simp only[kv,kz,kh,run_underlying hu,km,iv,iL hr hl hh hm h1 (cp h2 hcap),aE hsz,kl]
       · cases h
     · cases h
   · rename_i size l a' tok len sz cs hsz hl
     cases hx with
     |os _ _ _ _ ad cap hx xF=>
     obtain⟨hlen,ad',cap',he,hcap⟩:=lK hx
     cases he
     split at h
     · rename_i h' b' hh
       split at h
       · simp only[dq,kc,dp] at h
         obtain⟨rfl,⟨⟨rfl,rfl⟩,h1⟩,h3⟩:=h
         have h1:=ft h1
         have:=gp hh;subst this
         have hsz':(bj sz size||(bj h' 0&&bm 1 size))=true:=by
          rw[j1] at h3 ⊢
          refine h3.imp id fun k=> ?_
          simp only[dp] at k ⊢
          exact⟨k.1,k.2.1⟩
         have hx':=jh hx hsz'
         have hlen':=(lK hx').1
         have hv:=nN (m':=cap) hx' h1 (dd _) hcap (dd _)
         have hc:=mO (low:=low) (high:=none) cs hlen' h1 (dd _) (fun e:low=none=>gp (e▸hl)) (fun _=>rfl)
         simp only[times,iu] at hc
         refine⟨_,?_,.os tok (h'-l) size _ _ _ (by simp only[times];rw[hc];exact hv) ?_⟩
         · have hb:=bV (P:=P) (Ws:=true) hr hl hh h1 hcap
           simp only[iu] at hb
           simp only[kv,kz,kh,run_underlying hu,km,iu,hb,aE hsz,kl]
         · rcases xF with rfl | ⟨t,b,o',rfl,rfl,q1,q2,q3,q4⟩
           · exact .inl rfl
           · have:sz=size:=by simpa[fw] using h3
             subst this
             by_cases e:cap=l
             · exact .inl (by omega)
             · refine .inr ⟨t,b,o'+l*sz,rfl,by simp[e,cQ],q1,?_,?_,by omega⟩
               · rw[q2,gl];have:=fx sz h1;omega
               · rw[q3,gl];have:=fx sz (cp h1 hcap);omega
       · rename_i hy
         have WL : ∀{sz:Nat},VP g w (.ps len sz cs) (.slice ad len cap)→cs.length=len*size→l≤h'→h'≤len→cut cs (times low l size) (some (h'*size))=(cs.drop (l*size)).take ((h'-l)*size):=fun _ hlen' h1 h2=>by
          have hc:=mO (low:=low) (high:=some hy) cs hlen' h1 h2 (fun e:low=none=>gp (e▸hl)) (fun e=>by cases e)
          simpa only[times,iv] using hc
         split at h
         · rename_i heq
           simp only[dq,kc,dp] at h
           obtain⟨rfl,⟨⟨⟨rfl,rfl⟩,h1⟩,h2⟩,h3⟩:=h
           have heq:=bx heq
           have h1:=ft h1
           have h2:=ft h2
           have acz:cap=len:=by
            rcases xF with e | ⟨t,b,o',e,_⟩
            · exact e
            · cases e
           have hx':=jh hx h3
           have hlen':=(lK hx').1
           have hv:=nN (m':=cap) hx' h1 h2 (cp h2 hcap) (dd _)
           refine⟨_,?_,.os none (h'-l) size _ _ _ (by rw[WL hx hlen' h1 h2];exact hv) (.inl (by omega))⟩
           simp only[kv,kz,kh,run_underlying hu,km,iu,bV hr hl hh h1 (cp h2 hcap),aE hsz,kl]
         · simp only[dq,kc,dp] at h
           obtain⟨rfl,⟨⟨⟨rfl,rfl⟩,h1⟩,h2⟩,h3⟩:=h
           have h1:=ft h1
           have h2:=ft h2
           have hx':=jh hx h3
           have hlen':=(lK hx').1
           refine⟨_,?_,.p _ _ (by rw[WL hx hlen' h1 h2];exact nN hx' h1 h2 (cp h2 hcap) (dd _))⟩
           simp only[kv,kz,kh,run_underlying hu,km,iu,bV hr hl hh h1 (cp h2 hcap),aE hsz,kl]
     · rename_i h' b' mo hh
       split at h
       · rename_i m' c' hm
         simp only[dq,kc,dp,fw] at h
         obtain⟨rfl,⟨⟨⟨⟨⟨rfl,rfl⟩,rfl⟩,h1⟩,h2⟩,rfl⟩,h3,h4⟩:=h
         have h1:=ft h1
         have h2:=ft h2
         obtain⟨hx',rfl⟩:=ja.1 h3
         have hx2:=jh hx h4
         have hlen':=(lK hx2).1
         have hv:=nN (m':=m') hx2 h1 h2 (dd _) (cp h2 hcap)
         refine⟨_,?_,.os none (m'-l) size _ _ _ (by rw[mO cs hlen' h1 h2 (fun e:low=none=>gp (e▸hl)) (fun e=>by cases e)];exact hv) (.inl rfl)⟩
         simp only[kv,kz,kh,run_underlying hu,km,iv,iL hr hl hh hm h1 (cp h2 hcap),aE hsz,kl]
       · cases h
     · cases h
   · rename_i size l a' i off len sz hsz hl
     cases hx with
     |mg _ _ _ _ cap c hc hcap hroom=>
     split at h
     · rename_i h' b' hh
       simp only[dq,kc,dp,j1,fw,hC] at h
       obtain⟨rfl,⟨⟨⟨⟨rfl,rfl⟩,h1⟩,h2⟩,rfl⟩,h3⟩:=h
       have h1:=ft h1
       have h2:=ft h2
       have e:(if cap=l then some (⟨c,off,none⟩:Addr) else(some (⟨c,off,none⟩:Addr)).map (·.add (l*sz)))=some ⟨c,off+l*sz,none⟩:=by
        by_cases e:cap=l
        · have:l=0:=by omega
          simp[e,this]
        · simp[e,cQ]
       refine⟨_,?_,.mg i (off+l*sz) (h'-l) sz (cap-l) c hc (by omega) ?_⟩
       · simp only[kv,kz,kh,run_underlying hu,km,iu,bV hr hl hh h1 (cp h2 hcap),aE hsz,kl,e]
       · rw[gl]
         have:=fx sz (cp (cp h1 h2) hcap)
         omega
     · rename_i h' b' mo hh
       split at h
       · rename_i m' c' hm
         simp only[dq,kc,dp,fw] at h
         obtain⟨rfl,⟨⟨⟨⟨⟨rfl,rfl⟩,rfl⟩,h1⟩,h2⟩,h4⟩,h3,rfl⟩:=h
         have h1:=ft h1
         have h2:=ft h2
         have h4:=ft h4
         obtain⟨hx',rfl⟩:=ja.1 h3
         have e:(if m'=l then some (⟨c,off,none⟩:Addr) else some ((⟨c,off,none⟩:Addr).add (l*sz)))=some ⟨c,cond (bj m' l) off (off+l*sz),none⟩:=by
          by_cases e:m'=l
          · simp[e]
          · have:bj m' l=false:=by rw[jn];intro k;exact e (bx k)
            simp[e,this,cQ]
         refine⟨_,?_,.ms i (cond (bj m' l) off (off+l*sz)) (h'-l) sz (m'-l) c hc (by omega)⟩
         simp only[kv,kz,kh,run_underlying hu,km,iv,og hr hl hh hm h1 h2 (cp h4 hcap),aE hsz,kl,e]
       · cases h
     · cases h
   · rename_i size l a' i off len sz cap hsz hl
     cases hx with
     |ms _ _ _ _ cap c hc hcap=>
     split at h
     · rename_i h' b' hh
       simp only[dq,kc,dp,fw] at h
       obtain⟨rfl,⟨⟨⟨rfl,rfl⟩,h1⟩,h2⟩,rfl⟩:=h
       have h1:=ft h1
       have h2:=ft h2
       have e:(if cap=l then some (⟨c,off,none⟩:Addr) else(some (⟨c,off,none⟩:Addr)).map (·.add (l*sz)))=some ⟨c,cond (bj cap l) off (off+l*sz),none⟩:=by
        by_cases e:cap=l
        · simp[e]
        · have:bj cap l=false:=by rw[jn];intro k;exact e (bx k)
          simp[e,this,cQ]
       refine⟨_,?_,.ms i (cond (bj cap l) off (off+l*sz)) (h'-l) sz (cap-l) c hc (by omega)⟩
       simp only[kv,kz,kh,run_underlying hu,km,iu,bV hr hl hh h1 h2,aE hsz,kl,e]
     · cases h
   · cases h
 · rename_i hu
   split at h
   · rename_i l a' s hl
     rw[VA.pv] at hx;cases hx
     split at h
     · rename_i h' b' hh
       simp only[dq,kc,dp] at h
       obtain⟨rfl,⟨⟨rfl,rfl⟩,h1⟩,h2⟩:=h
       have h1:=ft h1
       have h2:=ft h2
       have e:s.data.toList.length=s.size:=ib
       rw[e] at hh h2
       refine⟨_,?_,.p _ _ (.sc _)⟩
       simp only[kv,kz,kh,run_underlying hu,km,iu,Option.isSome_none,Bool.false_eq_true,if_false,kl,bV hr hl hh h1 h2]
     · cases h
   · cases h
 · cases h
theorem tD (op:BinOp) (t:TypeId) (x y:Operand) (k k':IntKind) (a b:Int):(eqGuard op t x y (.int k a) (.int k' b)).run P w = .ok () w:=by
 unfold eqGuard;cases op<;>rfl
theorem oM (op:BinOp) (t:TypeId) (x y:Operand) (a b:ByteArray):(eqGuard op t x y (.string a) (.string b)).run P w = .ok () w:=by
 unfold eqGuard;cases op<;>rfl
theorem Au {op:BinOp} {t:TypeId} {k k':IntKind} {a b:Int} {v:Value} (h:Eu op k a k' b=some (v,true)):(binOp op t (.int k a) (.int k' b)).run P w = .ok v w:=by
 cases op<;>simp only[Eu,dq,kc,dp,beq_iff_eq,j2,beq_eq_false_iff_ne,decide_eq_true_eq] at h
 case quo=>obtain⟨rfl,rfl,hb⟩:=h;simp[binOp,Op.intDiv,hb]
 case rem=>obtain⟨rfl,rfl,hb⟩:=h;simp[binOp,Op.intDiv,hb]
 case shl=>obtain⟨rfl,hb⟩:=h;simp[binOp,Op.shift,Int.not_lt.2 hb]
 case shr=>obtain⟨rfl,hb⟩:=h;simp[binOp,Op.shift,Int.not_lt.2 hb]
 all_goals obtain⟨rfl,rfl⟩:=h
 all_goals simp[binOp,lL,Op.intBits,Op.intCmp]
theorem Av {op:BinOp} {t:TypeId} {a b:ByteArray} {v:Value} (h:Ew op a b=some (v,true)):(binOp op t (.string a) (.string b)).run P w = .ok v w:=by
 have e : ∀s:ByteArray,s.data.toList.length=s.size:=fun s=>ib
 cases op<;>simp only[Ew,dq,kc,and_true,reduceCtorEq] at h
 case add=>
  obtain⟨rfl,h⟩:=h
  have h:=ft h
  rw[e,e] at h
  rw[binOp_string_add,run_string_add_sum w a b (by unfold bH at h;omega)]
 all_goals (subst h;simp[binOp,Op.stringOp,ByteArray.toList_eq])
theorem gN (d:Nat) (cx cy:Array Value) : ∀(fs:List Field) (i:Nat) (xs ys:List AV) (b:Bool),gK P i fs xs ys=some b→cY g w xs (cx.toList.drop i)→cY g w ys (cy.toList.drop i) →
  (lv (d+1) cx cy fs).run P w = .ok b w
 |[],i,xs,ys,b,h,hx,hy=>by
  cases xs<;>cases ys<;>simp only[gK,dq,reduceCtorEq] at h
  subst h
  simp[lv]
 |f::fs,i,xs,ys,b,h,hx,hy=>by
  cases xs with
  |nil=>simp[gK] at h
  |cons x xs=>
   cases ys with
   |nil=>simp[gK] at h
   |cons y ys=>
    have Rm : ∀(c:Array Value) (z:AV) (zs:List AV),cY g w (z::zs) (c.toList.drop i) → ∃v,c[i]? = some v∧VA g w z v∧cY g w zs (c.toList.drop (i+1)):=by
     intro c z zs hz
     cases hd:c.toList.drop i with
     |nil=>rw[hd] at hz;exact hz.elim
     |cons v vs=>
      rw[hd] at hz
      have h1:c.toList[i]? = some v:=by rw[←List.head?_drop,hd];rfl
      have h2:c.toList.drop (i+1)=vs:=by rw[←List.tail_drop,hd];rfl
      refine⟨v,by simpa using h1,hz.1,?_⟩
      rw[h2];exact hz.2
    obtain⟨vx,ex,rx,tx⟩:=Rm cx x xs hx
    obtain⟨vy,ey,ry,ty⟩:=Rm cy y ys hy
    simp only[gK] at h
    split at h
    · rename_i _ k a k' a' hu
      cases hc:(k==k'&&bj f.offset i&&f.name != "_" && P.plainKey f.type) with
      |false=>rw[hc] at h;cases h
      |true=>
       rw[hc] at h
       simp only[cond_true,im] at h
       obtain⟨r,h1,rfl⟩:=h
       simp only[dp,beq_iff_eq,bne_iff_ne] at hc
       obtain⟨⟨⟨rfl,ho⟩,hn⟩,hp⟩:=hc
       have ho:=bx ho
       rw[VA.pv] at rx ry
       cases rx
       cases ry
       have ih:=gN d cx cy fs (i+1) xs ys r h1 tx ty
       simp only[lv,if_pos hn,kh,ho,run_part_plain w hp ex,run_part_plain w hp ey,km,run_equalIn_int w d f.type k _ a a' hu]
       cases hab:(a==a') with
       |true=>simp[ih]
       |false=>simp
    · rename_i _ a a' hu
      cases hc:(bj f.offset i&&f.name != "_" && P.plainKey f.type) with
      |false=>rw[hc] at h;cases h
      |true=>
       rw[hc] at h
       simp only[cond_true,im] at h
       obtain⟨r,h1,rfl⟩:=h
       simp only[dp,bne_iff_ne] at hc
       obtain⟨⟨ho,hn⟩,hp⟩:=hc
       have ho:=bx ho
       rw[VA.pv] at rx ry
       cases rx
       cases ry
       have ih:=gN d cx cy fs (i+1) xs ys r h1 tx ty
       simp only[lv,if_pos hn,kh,ho,run_part_plain w hp ex,run_part_plain w hp ey,km,run_equalIn_bool' w d f.type a a' hu]
       cases hab:(a==a') with
       |true=>simp[ih]
       |false=>simp
    · rename_i _ a a' hu
      cases hc:(bj f.offset i&&f.name != "_" && P.plainKey f.type) with
      |false=>rw[hc] at h;cases h
      |true=>
       rw[hc] at h
       simp only[cond_true,im] at h
       obtain⟨r,h1,rfl⟩:=h
       simp only[dp,bne_iff_ne] at hc
       obtain⟨⟨ho,hn⟩,hp⟩:=hc
       have ho:=bx ho
       rw[VA.pv] at rx ry
       cases rx
       cases ry
       have ih:=gN d cx cy fs (i+1) xs ys r h1 tx ty
       simp only[lv,if_pos hn,kh,ho,run_part_plain w hp ex,run_part_plain w hp ey,km,run_equalIn_string w d f.type a a' hu,ByteArray.toList_eq]
       cases hab:(a.data.toList==a'.data.toList) with
       |true=>simp[ih]
       |false=>simp
    · cases h
theorem sx {t:TypeId} {x y:AV} {b:Bool} {vx vy:Value} (h:BW P t x y=some b) (hx:VA g w x vx) (hy:VA g w y vy) :
  (∀op p q,(eqGuard op t p q vx vy).run P w = .ok () w)∧(binOp .eql t vx vy).run P w = .ok (.bool b) w∧(binOp .neq t vx vy).run P w = .ok (.bool (!b)) w:=by
 unfold BW at h
 split at h
 · rename_i xs ys
   split at h
   · rename_i fs hu
     cases hc:(!P.stoodInHeld t && !P.eqGuardType P.depth t) with
     |false=>rw[hc] at h;cases h
     |true=>
      rw[hc] at h
      simp only[cond_true] at h
      simp only[dp,j2] at hc
      cases hx with
      |agg _ cx lx hx=>
       cases hy with
       |agg _ cy ly hy=>
        have hfo:P.fieldsOf t=fs:=by unfold Program.fieldsOf;rw[hu]
        have hu2:P.underlying t=some (.struct (P.fieldsOf t)):=by rw[hfo,hu]
        have key:=gN (g:=g) (w:=w) 9998 cx cy fs.toList 0 xs ys b h (by simpa using bI.dz lx hx) (by simpa using bI.dz ly hy)
        have e:(Op.equalIn 10000 t (.agg cx) (.agg cy)).run P w = .ok b w:=by
         rw[run_equalIn_agg w 9999 t cx cy hu2 hc.1,hfo];exact key
        refine⟨fun op p q=>run_eqGuard_agg w op t p q cx cy hc.2,?_,?_⟩
        · rw[run_eql_struct,e];rfl
        · rw[run_neq_struct,e];rfl
   · cases h
 · cases h
theorem xG (hr : ∀x,VA g w (ρ x) (cz x)) {op:BinOp} {t yt:TypeId} {x y:Operand} (ho:o.op = .binOp op t x y yt) {a:AV} (h:pI P ρ o op (ρ x) (ρ y)=some (a,true)) :
  ∃v,(execOp cz o).run P w = .ok (.value v) w∧VA g w a v:=by
 unfold pI at h
 split at h
 · rename_i k a' k' b' hx hy
   simp only[im,kc] at h
   obtain⟨⟨v,ok⟩,h1,rfl,h2⟩:=h
   simp only at h2;subst h2
   have cx:cz x = .int k a':=by have:=hr x;rw[hx,VA.pv] at this;generalize cz x=z at this;cases this;rfl
   have cy:cz y = .int k' b':=by have:=hr y;rw[hy,VA.pv] at this;generalize cz y=z at this;cases this;rfl
   exact⟨v,by simp only[execOp,ho,cx,cy,kh,tD,km,Au h1,kl],.p _ _ (.sc v)⟩
 · rename_i a' b' hx hy
   simp only[im,kc] at h
   obtain⟨⟨v,ok⟩,h1,rfl,h2⟩:=h
   simp only at h2;subst h2
   have cx:cz x = .string a':=by have:=hr x;rw[hx,VA.pv] at this;generalize cz x=z at this;cases this;rfl
   have cy:cz y = .string b':=by have:=hr y;rw[hy,VA.pv] at this;generalize cz y=z at this;cases this;rfl
   exact⟨v,by simp only[execOp,ho,cx,cy,kh,oM,km,Av h1,kl],.p _ _ (.sc v)⟩
 · have hs : ∀cs b,o.op ≠ .select cs b:=fun _ _=>by rw[ho];exact fun e=>by cases e
   split at h
   · split at h
     · rename_i b hb
       simp only[dq,kc,and_true] at h
       subst h
       have hb:BW P t (ρ x) (ρ y)=some b:=by unfold FO at hb;rw[ho] at hb;exact hb
       obtain⟨k1,k2,k3⟩:=sx hb (hr x) (hr y)
       exact⟨_,by simp only[execOp,ho,kh,k1,km,k2,kl],.p _ _ (.sc _)⟩
     cases hc:(j3 (ρ x)&&j4 (ρ y)||j4 (ρ x)&&j3 (ρ y)) with
     |true=>simp[hc] at h
     |false=>
      simp only[hc,cond_false,im,kc,and_true] at h
      obtain⟨v,h1,rfl⟩:=h
      exact eP hr hs h1
   · split at h
     · rename_i b hb
       simp only[dq,kc,and_true] at h
       subst h
       have hb:BW P t (ρ x) (ρ y)=some b:=by unfold FO at hb;rw[ho] at hb;exact hb
       obtain⟨k1,k2,k3⟩:=sx hb (hr x) (hr y)
       exact⟨_,by simp only[execOp,ho,kh,k1,km,k3,kl],.p _ _ (.sc _)⟩
     cases hc:(j3 (ρ x)&&j4 (ρ y)||j4 (ρ x)&&j3 (ρ y)) with
     |true=>simp[hc] at h
     |false=>
      simp only[hc,cond_false,im,kc,and_true] at h
      obtain⟨v,h1,rfl⟩:=h
      exact eP hr hs h1
   · cases h
theorem Aw (hr : ∀x,VA g w (ρ x) (cz x)) {op:UnOp} {t:TypeId} {x:Operand} (ho:o.op = .unOp op t x) {a:AV} (h:uq P ρ o op (ρ x)=some (a,true)) :
  ∃v,(execOp cz o).run P w = .ok (.value v) w∧VA g w a v:=by
 unfold uq at h
 split at h
 · rename_i b hx
   simp only[dq,kc,and_true] at h;subst h
   have cx:cz x = .bool b:=by have:=hr x;rw[hx,VA.pv] at this;generalize cz x=z at this;cases this;rfl
   exact⟨_,by simp only[execOp,ho,cx,Op.unary,kh,kl,km],.p _ _ (.sc _)⟩
 · rename_i k n hx
   simp only[dq,kc,and_true] at h;subst h
   have cx:cz x = .int k n:=by have:=hr x;rw[hx,VA.pv] at this;generalize cz x=z at this;cases this;rfl
   exact⟨_,by simp only[execOp,ho,cx,Op.unary,lL,kh,kl,km],.p _ _ (.sc _)⟩
 · simp only[im,kc,and_true] at h
   obtain⟨v,h1,rfl⟩:=h
   exact eP hr (fun _ _=>by rw[ho];exact fun e=>by cases e) h1
set_option linter.unusedVariables false in
theorem pX {t:TypeId} {x a:AV} {cx:Value} (h:mH P t x=some a) (hx:VA g w x cx) :
  ∃v,(Instr.makeInterface t cx).run P w = .ok v w∧VA g w a v:=by
 unfold mH at h
 cases h
theorem rj (hr : ∀x,VA g w (ρ x) (cz x)) {x:Operand} (ho:o.op = .nilCheck x) {a:AV} (h:jx P ρ o (ρ x)=some a) :
  ∃v,(execOp cz o).run P w = .ok (.value v) w∧VA g w a v:=by
 unfold jx at h
 split at h
 · rename_i off cs hx
   simp only[dq] at h;subst h
   have:=hr x;rw[hx] at this
   refine⟨cz x,?_,this⟩
   generalize hz:cz x=z at this
   rw[VA.pv] at this;cases this
   simp[execOp,ho,hz]
 · rename_i b off hx
   simp only[dq] at h;subst h
   have:=hr x;rw[hx] at this
   refine⟨cz x,?_,this⟩
   generalize hz:cz x=z at this
   cases this
   simp[execOp,ho,hz]
 · rename_i f a' b' hx
   simp only[dq] at h;subst h
   have:=hr x;rw[hx] at this
   refine⟨cz x,?_,this⟩
   generalize hz:cz x=z at this
   cases this
   simp[execOp,ho,hz]
 · exact eP hr (fun _ _=>by rw[ho];exact fun e=>by cases e) h
theorem B6 {argTypes:Array TypeId} {ty:TypeId} {x a:AV} {cx:Value} (h:JX P argTypes x=some a) (hx:VA g w x cx) :
  ∃v,(ma argTypes ty #[cx]).run P w = .ok v w∧VA g w a v:=by
 unfold JX at h
 split at h
 · rename_i t ht
   split at h
   · rename_i len sz cs hu
     simp only[dq] at h;subst h
     rw[VA.pv] at hx
     obtain⟨_,ad,cap,rfl,_⟩:=lK hx
     exact⟨_,by simp[ma,ht,run_underlying hu,goInt],.p _ _ (.sc _)⟩
   · rename_i tok len sz cs hu
     simp only[dq] at h;subst h
     cases hx with
     |os _ _ _ _ ad cap hx _=>exact⟨_,by simp[ma,ht,run_underlying hu,goInt],.p _ _ (.sc _)⟩
   · rename_i b off len sz cap hu
     simp only[dq] at h;subst h
     cases hx with
     |ms _ _ _ _ cap c _ _=>exact⟨_,by simp[ma,ht,run_underlying hu,goInt],.p _ _ (.sc _)⟩
     |mg _ _ _ _ cap c _ _ _=>exact⟨_,by simp[ma,ht,run_underlying hu,goInt],.p _ _ (.sc _)⟩
   · rename_i s hu
     simp only[dq] at h;subst h
     rw[VA.pv] at hx;cases hx
     rw[show s.data.toList.length=s.size from ib]
     exact⟨_,by simp[ma,ht,run_underlying hu,goInt],.p _ _ (.sc _)⟩
   · rename_i n e hu
     simp only[dq] at h;subst h
     exact⟨_,by simp[ma,ht,run_underlying hu,goInt],.p _ _ (.sc _)⟩
   · cases h
 · cases h
theorem B7 {argTypes:Array TypeId} {ty:TypeId} {x a:AV} {cx:Value} (h:JY P argTypes x=some a) (hx:VA g w x cx) :
  ∃v,(mf argTypes ty #[cx]).run P w = .ok v w∧VA g w a v:=by
 unfold JY at h
 split at h
 · rename_i t ht
   split at h
   · rename_i b off len sz cap hu
     simp only[dq] at h;subst h
     cases hx with
     |ms _ _ _ _ cap c _ _=>exact⟨_,by simp[mf,ht,run_underlying hu,goInt],.p _ _ (.sc _)⟩
   · rename_i len sz cs hu
     simp only[dq] at h;subst h
     cases hx with
     |os _ _ _ _ ad cap hx hr=>
      have hcap:cap=len:=by
       rcases hr with e | ⟨t,b,o,e,_⟩
       · exact e
       · cases e
      subst hcap
      exact⟨_,by simp[mf,ht,run_underlying hu,goInt],.p _ _ (.sc _)⟩
   · rename_i cs hu
     simp only[dq] at h;subst h
     rw[VA.pv] at hx
     cases hx with
     |ps _ _ _ b o cap f hl hc hz hp hv=>omega
     |oK sz a cap hz=>
      obtain⟨rfl,rfl⟩:=hz.resolve_left (by omega)
      exact⟨_,by simp[mf,ht,run_underlying hu,goInt],.p _ _ (.sc _)⟩
   · cases h
 · cases h
end ops
end Go.Am
end
section
namespace Go.Am
open Go.RowKit
section ops
variable {P:Program} {g:Gh} {m:Mem} {w:World}
theorem dP : ∀{l:List AV} {aJ:List PV} {vs:List Value},jX l=some aJ→cY g w l vs→F0 g w aJ vs
 |[],aJ,vs,h,hv=>by
  simp[jX] at h;subst h
  cases vs with
  |nil=>trivial
  |cons _ _=>exact hv.elim
 |a::l,aJ,vs,h,hv=>by
  cases vs with
  |nil=>exact hv.elim
  |cons v vs=>
   simp only[jX] at h
   cases h1:BT a with
   |none=>simp[h1] at h
   |some pv=>
    cases h2:jX l with
    |none=>simp[h1,h2] at h
    |some us=>
     simp only[h1,h2,dq] at h
     subst h
     refine⟨?_,dP h2 hv.2⟩
     have h0:=hv.1
     cases h0 with
     |p pv' _ hp=>simp[BT] at h1;subst h1;exact hp
     |os tok len sz cells ad cap hp _=>simp[BT] at h1;subst h1;exact hp
     |_=>simp[BT] at h1
def rm (P:Program) (g:Gh) (w:World) (sz n:Nat) (aJ:List PV) (cx:Value):Prop:=
 ∃vs:List Value,F0 g w aJ vs∧vs.length=n*sz∧(∀v∈vs,v.oneCell'=true)∧(mc cx).run P w = .ok n w ∧ ∀k,k≤n→(mb sz k cx).run P w = .ok (vs.take (k*sz)).toArray w
theorem eg {sz n cap:Nat} {aJ:List PV} {b o:Nat} {vs:List Value} (h1:F0 g w aJ vs) (h2:vs.length=n*sz) (ho : ∀v∈vs,v.oneCell'=true) (h3 : ∀j v,vs[j]? = some v→w.cell? ⟨b,o+j,none⟩=some v) :
  rm P g w sz n aJ (.slice (some ⟨b,o,none⟩) n cap):=by
 refine⟨vs,h1,h2,ho,by simp[mc],fun k hk=> ?_⟩
 have hl:(vs.take (k*sz)).length=k*sz:=by
  rw[eQ,h2];exact Nat.min_eq_left (fx _ hk)
 have:=run_loadCells_list (P:=P) w ⟨b,o,none⟩ (vs.take (k*sz)) (fun j v hj=>by
  rw[cQ];exact h3 j v (by rw[du] at hj;split at hj<;>simp_all))
 rw[hl] at this
 simpa[mb] using this
theorem kO {sz n:Nat} {aJ:List PV} {cx:Value} (h:VP g w (.ps n sz aJ) cx):rm P g w sz n aJ cx:=by
 cases h with
 |ps _ _ _ b o cap f hl hc hz hp hv=>
  refine eg (vs:=(fl aJ.length).map f) (bI.dz (by simp) fun i hi _=> ?_) (by simp[hl]) (fun v hv=> ?_) fun j v hj=> ?_
  · simpa using hv i hi
  · obtain⟨k,hk,rfl⟩:=fi.1 hv
    exact(hp k (by simpa using hk)).2.2
  · simp only[fe,im] at hj
    obtain⟨k,hk,rfl⟩:=hj
    obtain⟨hlt,hk⟩:=ee.1 hk
    simp at hlt hk;subst hk
    exact(hp j hlt).2.1
 |oK _ a cap=>
  refine⟨[],trivial,by simp,by simp,by simp[mc],fun k hk=> ?_⟩
  have:k=0:=by omega
  subst this
  cases a<;>simp[mb,loadCells,loadCellsFrom]
theorem lO : ∀{l:List AV},oG l=true→jX l=some (l.map qW)
 |[],_=>rfl
 |.p v::l,h=>by
  have:=lO (l:=l) (by simpa[oG] using h)
  simp[jX,BT,this,qW]
 |.aT::_,h | .os .. :: _,h | .mp .. :: _,h | .ms .. :: _,h | .fn .. :: _,h | .agg _::_,h | .aK _::_,h | .mD .. :: _,h | .vm _::_,h | .vy _::_,h=>by simp[oG] at h
theorem fB (h:Rel g m w) {sz n:Nat} {x:AV} {cx:Value} {aJ:List PV} (he:contents (fun i=>m.getD i .dead) sz x=some (n,aJ,true)) (hx:VA g w x cx) :
  rm P g w sz n aJ cx:=by
 unfold contents at he
 split at he
 · simp only[dq,kc] at he
   obtain⟨rfl,rfl,h1⟩:=he
   rw[VA.pv] at hx
   obtain⟨_,ad,cap,rfl,_⟩:=lK hx
   exact kO (jh hx h1)
 · simp only[dq,kc] at he
   obtain⟨rfl,rfl,h1⟩:=he
   cases hx with
   |os _ _ _ _ ad cap hx _=>exact kO (jh hx h1)
 · rename_i b off len s cap
   cases hx with
   |ms _ _ _ _ cap c hc hcap=>
   split at he
   · rename_i l hl
     simp only[dq,kc,dp,fw] at he
     obtain⟨rfl,rfl,rfl,h1⟩:=he
     have h1:=ft h1
     have hm:=getD_some hl (by simp)
     obtain⟨c',cs,e,q,k1,k2,k3,k4,k5⟩:=h.cells b _ _ hm rfl
     rw[hc] at k1;cases k1
     have hone:=k4.2
     have k4:=k4.1
     have hlen:=k4.len
     simp at hlen
     refine eg (vs:=(cs.toList.drop off).take (len*s)) ?_ (by simp;omega) (fun v hv=>hone v (dC (dv hv))) fun j v hj=> ?_
     · have:=((k4.drop off).take (len*s))
       rw[←List.map_drop,←List.map_take] at this
       exact bI.dz (by simpa using this.len) fun i a b=>by
        have:=this.get i (by simpa using a) b
        rw[ed,VA.pv] at this
        exact this
     · rw[du] at hj
       split at hj
       · rw[dE] at hj
         rw[aS k2];simpa using hj
       · cases hj
   · rename_i l hl
     simp only[im,kc,dp,fw] at he
     obtain⟨us,he,rfl,rfl,rfl,h1⟩:=he
     have h1:=ft h1
     have hm:=getD_some hl (by simp)
     obtain⟨c',cs,e,q,k1,k2,k3,k4,k5⟩:=h.cells b _ _ hm rfl
     rw[hc] at k1;cases k1
     have hone:=k4.2
     have k4:=k4.1
     have hlen:=k4.len
     simp at hlen
     refine eg (vs:=(cs.toList.drop off).take (len*s)) (dP he ((k4.drop off).take (len*s))) (by simp;omega) (fun v hv=>hone v (dC (dv hv))) fun j v hj=> ?_
     rw[du] at hj
     split at hj
     · rw[dE] at hj
       rw[aS k2];simpa using hj
     · cases hj
   · rename_i l hl
     simp only[dq,kc,dp,fw] at he
     obtain⟨rfl,rfl,hp,rfl,h1⟩:=he
     have he:=lO hp
     have h1:=ft h1
     obtain⟨c',ob,vs,k1,k2,k3,k4,_,_⟩:=h.obs b _ _ (getD_some hl (by simp))
     rw[hc] at k1;cases k1
     obtain⟨cs,e,q,rfl,_,q0,q1,q2,q3⟩:=k4
     have hlen:=k3.len
     refine eg (vs:=(vs.drop off).take (len*s)) (dP he ((k3.drop off).take (len*s))) (by simp;omega) (fun v hv=> ?_) fun j v hj=> ?_
     · have hv:=dC (dv hv)
       rw[q1] at hv
       exact q3 v (dv hv)
     · rw[du] at hj
       split at hj
       · rw[dE,q1,du] at hj
         split at hj
         · rw[aS k2];simpa using hj
         · cases hj
       · cases hj
   · rename_i l hl
     simp only[im,kc,dp,fw] at he
     obtain⟨us,he,rfl,rfl,rfl,h1⟩:=he
     have h1:=ft h1
     obtain⟨c',ob,vs,k1,k2,k3,k4,_,_⟩:=h.obs b _ _ (getD_some hl (by simp))
     rw[hc] at k1;cases k1
     obtain⟨cs,e,q,rfl,_,q0,q1,q2,q3⟩:=k4
     have hlen:=k3.len
     refine eg (vs:=(vs.drop off).take (len*s)) (dP he ((k3.drop off).take (len*s))) (by simp;omega) (fun v hv=> ?_) fun j v hj=> ?_
     · have hv:=dC (dv hv)
       rw[q1] at hv
       exact q3 v (dv hv)
     · rw[du] at hj
       split at hj
       · rw[dE,q1,du] at hj
         split at hj
         · rw[aS k2];simpa using hj
         · cases hj
       · cases hj
   · cases he
 · rename_i b off len s
   cases hx with
   |mg _ _ _ _ cap c hc hcap hroom=>
   split at he
   · rename_i l hl
     simp only[dq,kc,dp,fw] at he
     obtain⟨rfl,rfl,hp,rfl,h1⟩:=he
     have he:=lO hp
     have h1:=ft h1
     obtain⟨c',ob,vs,k1,k2,k3,k4,_,_⟩:=h.obs b _ _ (getD_some hl (by simp))
     rw[hc] at k1;cases k1
     obtain⟨cs,e,q,rfl,_,q0,q1,q2,q3⟩:=k4
     have hlen:=k3.len
     refine eg (vs:=(vs.drop off).take (len*s)) (dP he ((k3.drop off).take (len*s))) (by simp;omega) (fun v hv=> ?_) fun j v hj=> ?_
     · have hv:=dC (dv hv)
       rw[q1] at hv
       exact q3 v (dv hv)
     · rw[du] at hj
       split at hj
       · rw[dE,q1,du] at hj
         split at hj
         · rw[aS k2];simpa using hj
         · cases hj
       · cases hj
   · rename_i l hl
     simp only[im,kc,dp,fw] at he
     obtain⟨us,he,rfl,rfl,rfl,h1⟩:=he
     have h1:=ft h1
     obtain⟨c',ob,vs,k1,k2,k3,k4,_,_⟩:=h.obs b _ _ (getD_some hl (by simp))
     rw[hc] at k1;cases k1
     obtain⟨cs,e,q,rfl,_,q0,q1,q2,q3⟩:=k4
     have hlen:=k3.len
     refine eg (vs:=(vs.drop off).take (len*s)) (dP he ((k3.drop off).take (len*s))) (by simp;omega) (fun v hv=> ?_) fun j v hj=> ?_
     · have hv:=dC (dv hv)
       rw[q1] at hv
       exact q3 v (dv hv)
     · rw[du] at hj
       split at hj
       · rw[dE,q1,du] at hj
         split at hj
         · rw[aS k2];simpa using hj
         · cases hj
       · cases hj
   · rename_i l hl
     simp only[dq,kc,dp,fw] at he
     obtain⟨rfl,rfl,hp,rfl,h1⟩:=he
     have he:=lO hp
     have h1:=ft h1
     obtain⟨c',ob,vs,k1,k2,k3,k4,_,_⟩:=h.obs b _ _ (getD_some hl (by simp))
     rw[hc] at k1;cases k1
     obtain⟨cs,e,q,rfl,_,q0,q1,q2,q3,_⟩:=k4
     have hlen:=k3.len
     refine eg (vs:=(vs.drop off).take (len*s)) (dP he ((k3.drop off).take (len*s))) (by simp;omega) (fun v hv=> ?_) fun j v hj=> ?_
     · have hv:=dC (dv hv)
       rw[q1] at hv
       obtain⟨k,rfl⟩:=q3 v (dv hv)
       rfl
     · rw[du] at hj
       split at hj
       · rw[dE,q1,du] at hj
         split at hj
         · rw[aS k2];simpa using hj
         · cases hj
       · cases hj
   · cases he
 · rename_i s
   simp only[dq,kc,fw] at he
   obtain⟨rfl,rfl,rfl⟩:=he
   rw[VA.pv] at hx;cases hx
   refine⟨s.data.toList.map fun b=> .int .u8 b.toNat,bI.dz (by simp) fun i a b=> ?_,by simp,by simp[mi],?_,fun k hk=> ?_⟩
   · simp only[ed];exact .sc _
   · rw[show s.data.toList.length=s.size from ib];simp[mc]
   · simp only[mb,kl,Result.ok.injEq,and_true]
     apply Array.ext'
     simp[ByteArray.data_extract]
 · cases he
theorem uL {a:AV} {v:Value} (h:lA a=true) (ha:VA g w a v):v.oneCell'=true:=by
 cases ha with
 |p pv cv hp=>cases hp<;>first | rfl | (simpa[lA] using h)
 |agg=>simp[lA] at h
 |aK=>simp[lA] at h
 |aT=>simp[lA] at h
 |_=>rfl
theorem ji : ∀{l:List AV} {vs:List Value},jv l=true→cY g w l vs → ∀u∈vs,u.oneCell'=true
 |[],[],_,_,_,hu=>by cases hu
 |a::l,v::vs,h,hv,u,hu=>by
  simp only[jv,dp] at h
  cases hu with
  |head=>exact uL h.1 hv.1
  |tail _ hu=>exact ji h.2 hv.2 u hu
 |[],_::_,_,hv,_,_=>hv.elim
 |_::_,[],_,hv,_,_=>hv.elim
theorem kr {a:AV} {v:Value} (h:(cellsOf a).2=true) (ha:VA g w a v):cY g w (cellsOf a).1 v.cells.toList ∧ ∀u∈v.cells.toList,u.oneCell'=true:=by
 have RT : ∀{v:Value},v.oneCell'=true→v.cells = #[v]:=by intro v h;cases v<;>first | rfl | (simp[mi] at h)
 cases ha with
 |agg l cs hl hh=>
  have:=VA.Aq.1 (.agg l cs hl hh)
  exact⟨this,ji h this⟩
 |p pv cv hp=>
  have h1:=uL (a:= .p pv) (by simpa[cellsOf] using h) (.p pv v hp)
  rw[RT h1]
  exact⟨⟨.p pv v hp,trivial⟩,by simpa using h1⟩
 |os tok len sz cells ad cap hp hr=>
  exact⟨⟨.os tok len sz cells ad cap hp hr,trivial⟩,by simp[ml,mi]⟩
 |mp b off c hc=>exact⟨⟨.mp b off c hc,trivial⟩,by simp[ml,mi]⟩
 |ms b off len sz cap c hc hcap=>exact⟨⟨.ms b off len sz cap c hc hcap,trivial⟩,by simp[ml,mi]⟩
 |mg b off len sz cap c hc hcap hh=>exact⟨⟨.mg b off len sz cap c hc hcap hh,trivial⟩,by simp[ml,mi]⟩
 |vm b c hc=>exact⟨⟨.vm b c hc,trivial⟩,by simp[ml,mi]⟩
 |vy b c hc=>exact⟨⟨.vy b c hc,trivial⟩,by simp[ml,mi]⟩
 |fn f l k fa ca hl hk h1 h2=>exact⟨⟨.fn f l k fa ca hl hk h1 h2,trivial⟩,by simp[ml,mi]⟩
 |mD t v cv hv=>exact⟨⟨.mD t v cv hv,trivial⟩,by simp[ml,mi]⟩
 |aT=>simp[cellsOf,lA] at h
 |aK=>simp[cellsOf,lA] at h
theorem yL (off:Nat) : ∀(l:List Value) (k:Nat) (cs:Array Value),
  ((l.zipIdx k).foldl (fun cs (c,j)=>cs.setIfInBounds (off+j) c) cs).toList=dy cs.toList (off+k) l
 |[],k,cs=>rfl
 |v::l,k,cs=>by
  simp only[List.zipIdx_cons,List.foldl_cons,dy]
  rw[yL off l (k+1)]
  simp[gn]
theorem bI.dy {α β:Type} {r:α→β→Prop} : ∀{new:List α} {new':List β} {l:List α} {l':List β} (off:Nat),bI r l l'→bI r new new'→bI r (dy l off new) (dy l' off new')
 |[],[],_,_,_,h,_=>h
 |_::_,_::_,_,_,off,h,k=>bI.dy (off+1) (h.set off k.1) k.2
 |[],_::_,_,_,_,_,k=>k.elim
 |_::_,[],_,_,_,_,k=>k.elim
theorem jE {α:Type} {p:α→Prop} : ∀(n l:List α) (o:Nat),(∀v∈l,p v)→(∀v∈n,p v) → ∀v∈dy l o n,p v
 |[],_,_,h,_=>h
 |x::n,l,o,h,h'=>jE n _ (o+1) (fun v hv=>by
   rcases List.mem_or_eq_of_mem_set hv with k | k
   · exact h v k
   · exact k▸h' x (.head _)) fun v hv=>h' v (.tail _ hv)
theorem j9 {place:Nat→Option (Nat×Nat)} : ∀{parts:List (Nat×AV)} {jF:List (Nat×Value)} {cells cs:List AV} {ca:Array Value},
  bI (fun a b=>a.1=b.1∧VA g w a.2 b.2) parts jF→Ej g w cells ca.toList→sr place cells parts=some (cs,true) →
   ∃Ax,ls place ca jF=some Ax∧Ej g w cs Ax.toList∧Ax.size=ca.size
 |[],[],cells,cs,ca,_,hc,h=>by
  simp[sr] at h;subst h
  exact⟨ca,rfl,hc,rfl⟩
 |(i,a)::parts,(j,v)::jF,cells,cs,ca,hp,hc,h=>by
  obtain⟨⟨rfl,hv⟩,hp⟩:=hp
  simp only[sr] at h
  cases JC:place i with
  |none=>simp[JC] at h
  |some q=>
   obtain⟨off,size⟩:=q
   simp only[JC] at h
   cases hf:sr place (dy cells off (cellsOf a).1) parts with
   |none=>simp[hf] at h
   |some r=>
    obtain⟨cs',ok⟩:=r
    simp only[hf,dq,kc,dp,fw] at h
    obtain⟨rfl,⟨⟨h0,h1⟩,h2⟩,rfl⟩:=h
    have h2:=ft h2
    have hlc:=hc.1.len
    obtain⟨k1,k2⟩:=kr h0 hv
    have rq:=k1.len
    have xH:Ej g w (dy cells off (cellsOf a).1) (dy ca.toList off v.cells.toList):=⟨hc.1.dy off k1,jE _ _ _ hc.2 k2⟩
    have F1:(v.cells.zipIdx.foldl (fun cs (c,j)=>cs.setIfInBounds (off+j) c) ca).toList=dy ca.toList off v.cells.toList:=by
     rw[←Array.foldl_toList,Array.toList_zipIdx,yL];simp
    obtain⟨Ax,q1,q2,q3⟩:=j9 (ca:=v.cells.zipIdx.foldl (fun cs (c,j)=>cs.setIfInBounds (off+j) c) ca) hp (by rw[F1];exact xH) hf
    have hsz:v.cells.size=size:=by simp at rq;omega
    have hroom : ¬(off+v.cells.size>ca.size):=by simp at hlc;omega
    refine⟨Ax,?_,q2,?_⟩
    · simp only[ls,JC]
      rw[if_neg (by simp[hsz,hsz▸hroom]<;>omega)]
      exact q1
    · rw[q3]
      have:=congrArg List.length F1
      have RU : ∀(n:List Value) (l:List Value) (o:Nat),(dy l o n).length=l.length:=by
       intro n
       induction n with
       |nil=>intro l o;rfl
       |cons x n ih=>intro l o;simp[dy,ih]
      simpa[RU] using this
 |[],_::_,_,_,_,h,_,_=>h.elim
 |_::_,[],_,_,_,h,_,_=>h.elim
end ops
end Go.Am
end
section
namespace Go.Am
open Go.RowKit
section ops
variable {P:Program} {g:Gh} {m:Mem} {w:World}
theorem checked_eq {l k:List AV} (h:checked l=some k):k=l∧jv l=true:=by
 unfold checked at h
 cases hb:jv l with
 |false=>simp[hb] at h
 |true=>simp[hb] at h;exact⟨h.symm,rfl⟩
theorem cM {t:TypeId} {l:List AV} (h:zeroCells P t=some l) : ∃z,(∀w,(zeroValue t).run P w = .ok z w)∧Ej g w l z.cells.toList:=by
 unfold zeroCells at h
 cases hi:P.info? t with
 |none=>simp[hi] at h
 |some i=>
  cases hz:i.zero with
  |none=>simp[hi,hz] at h
  |some z=>
   have hrun : ∀w,(zeroValue t).run P w = .ok z w:=fun w=>by simp[zeroValue,typeInfo,hi,hz]
   refine⟨z,hrun,?_⟩
   simp only[hi,Option.bind_some,hz] at h
   cases z<;>(obtain⟨rfl,hc⟩:=checked_eq h)<;>first
    |exact⟨cY.iB _,ji hc (cY.iB (g:=g) (w:=w) _)⟩
    |exact⟨⟨VA.hG _,trivial⟩,ji (vs:=[_]) hc ⟨VA.hG (g:=g) (w:=w) _,trivial⟩⟩
theorem mP : ∀{fs:List Field} {pl:List (Nat×Nat)},placesOf P fs=some pl → ∀w,(fs.mapM fun f=>do pure (f.offset,←sizeOf f.type):Sem (List (Nat×Nat))).run P w = .ok pl w
 |[],pl,h,w=>by simp[placesOf] at h;subst h;simp
 |f::fs,pl,h,w=>by
  simp only[placesOf] at h
  cases h1:fK P f.type with
  |none=>simp[h1] at h
  |some n=>
   cases h2:placesOf P fs with
   |none=>simp[h1,h2] at h
   |some l=>
    simp only[h1,h2,dq] at h
    subst h
    have ih:=mP h2 w
    simp only[List.mapM_cons,kh,aE h1,km,kl,ih]
theorem xI {t:TypeId} {parts:List (Nat×AV)} {jF:Array (Nat×Value)} {a:AV} (h:tP P t parts=some (a,true)) (hp:bI (fun a b=>a.1=b.1∧VA g w a.2 b.2) parts jF.toList) :
  ∃v,(lk t jF).run P w = .ok v w∧VA g w a v:=by
 unfold tP at h
 split at h
 · rename_i z fields hz hu
   split at h
   · rename_i pl JC
     simp only[im,kc] at h
     obtain⟨⟨cs,ok⟩,h1,rfl,h2⟩:=h
     simp only at h2;subst h2
     obtain⟨zv,N7,N8⟩:=cM (g:=g) (w:=w) hz
     obtain⟨ca,h3,h4,_⟩:=j9 hp N8 h1
     refine⟨.agg ca,?_,VA.Aq.2 h4.1⟩
     have Z6:(fields.mapM fun f=>do pure (f.offset,←sizeOf f.type):Sem (Array (Nat×Nat))).run P w = .ok pl.toArray w:=by
      rw[Array.mapM_eq_mapM_toList]
      simp only[Sem.run_map,mP JC w,km]
     have hfun:(fun i:Nat=>pl.toArray[i]?)=fun i:Nat=>pl[i]? :=by funext i;simp
     simp only[lk,kh,N7,km,run_underlying hu,Z6,hfun,h3,kl]
   · cases h
 · rename_i z n elem hz hu
   split at h
   · rename_i size hsz
     simp only[im,kc] at h
     obtain⟨⟨cs,ok⟩,h1,rfl,h2⟩:=h
     simp only at h2;subst h2
     obtain⟨zv,N7,N8⟩:=cM (g:=g) (w:=w) hz
     obtain⟨ca,h3,h4,_⟩:=j9 hp N8 h1
     exact⟨.agg ca,by simp only[lk,kh,N7,km,run_underlying hu,aE hsz,h3,kl],VA.Aq.2 h4.1⟩
   · cases h
 · cases h
theorem mQ {α:Type} (z:List α) : ∀n,(cL z n).length=n*z.length
 |0=>by simp[cL]
 |n+1=>by simp[cL,mQ z n,Nat.succ_mul,Nat.add_comm]
theorem sy {α:Type} (z:List α) : ∀(n i:Nat) (h:i<(cL z n).length),∃h':i%z.length<z.length,(cL z n)[i]=z[i%z.length]
 |0,i,h=>by simp[cL] at h
 |n+1,i,h=>by
  simp only[cL,dT] at h
  by_cases hlt:i<z.length
  · refine⟨by rw[gv hlt];exact hlt,?_⟩
    simp only[cL,fb,hlt,dite_true,gv hlt]
  · obtain⟨h1,h2⟩:=sy z n (i-z.length) (by omega)
    have e:(i-z.length)%z.length=i%z.length:=by rw[←Nat.mod_eq_sub_mod (by omega)]
    refine⟨by rw[←e];exact h1,?_⟩
    simp only[cL,fb,hlt,dite_false,h2,e]
theorem ru {α:Type} {r:α→Value→Prop} {z:List α} {zv:Array Value} (hz:bI r z zv.toList) (n:Nat) :
  bI r (cL z n) ((il (n*zv.size)).map (zv[· % zv.size]!)).toList:=by
 have hl:=hz.len
 simp at hl
 refine bI.dz (by simp[mQ,hl]) fun i hi hj=> ?_
 obtain⟨h1,h2⟩:=sy z n i hi
 rw[h2]
 have h3:i%zv.size<zv.size:=hl▸h1
 simp only[ik,ie,ed,List.getElem_range]
 rw[getElem!_pos zv _ h3]
 have:=hz.get (i%z.length) h1 (by simpa[←hl] using h1)
 simpa[hl] using this
theorem Ay {zv:Array Value} (h : ∀v∈zv.toList,v.oneCell'=true) (n:Nat) : ∀v∈((il (n*zv.size)).map (zv[· % zv.size]!)).toList,v.oneCell'=true:=by
 intro v hv
 simp only[ik,ie,fi,List.mem_range] at hv
 obtain⟨i,hi,rfl⟩:=hv
 have h3:i%zv.size<zv.size:=Nat.mod_lt _ (Nat.pos_of_ne_zero fun e=>by simp[e] at hi)
 rw[getElem!_pos zv _ h3]
 exact h _ (by simp)
theorem gO {α:Type} (v:α) : ∀n,List.replicate n v=cL [v] n
 |0=>rfl
 |n+1=>by rw[List.replicate_succ,gO v n];rfl
theorem Kh {elem:TypeId} {n:Nat} {l:List AV} (h:zeros P elem n=some l) : ∃size z,fK P elem=some size∧zeroCells P elem=some z∧z.length=size∧1≤size∧l=cL z n:=by
 unfold zeros at h
 split at h
 · rename_i size z h1 h2
   cases hb:(bj z.length size&&bm 1 size) with
   |false=>simp[hb] at h
   |true=>
    simp only[hb,cond_true] at h
    simp only[dp,fw] at hb
    refine⟨size,z,h1,h2,hb.1,ft hb.2,?_⟩
    split at h
    · simp only[dq] at h;rw[←h,gO]
    · simp only[dq] at h;exact h.symm
 · cases h
theorem Ki {elem:TypeId} {n:Nat} {b:aN} (h:JW P elem n=some b) : ∃size z,fK P elem=some size∧zeroCells P elem=some z∧z.length=size∧1≤size∧b.cells?=some (cL z n):=by
 have WM : ∀(vs:List PV) n,(cL vs n).map AV.p=cL (vs.map AV.p) n:=by
  intro vs n
  induction n with
  |zero=>rfl
  |succ n ih=>simp[cL,ih]
 unfold JW at h
 split at h
 · rename_i size z h1 h2
   cases hb:(bj z.length size&&bm 1 size) with
   |false=>simp[hb] at h
   |true=>
    simp only[hb,cond_true] at h
    simp only[dp,fw] at hb
    refine⟨size,z,h1,h2,hb.1,ft hb.2,?_⟩
    split at h
    · rename_i v hv
      simp only[dq] at h;subst h
      have:=pN hv
      simp only[aN.cells?,gO,WM,this]
    · rename_i vs _ hv
      simp only[dq] at h;subst h
      have:=pN hv
      simp only[aN.cells?,WM,this]
    · simp only[dq] at h;subst h;rfl
 · cases h
theorem ew (w:World) (o:Obj):oL w (w.alloc o) o:=⟨rfl,rfl,rfl,rfl⟩
theorem cr.alloc (h:Rel g m w) {aV:Nat} (hn:m[aV]? = some .free) {l:List AV} {cs:Array Value} {e:TypeId} {b:aN} (hb:b.cells?=some l) (hv:Ej g w l cs.toList) {r:Result Next} {v:Value} {a:AV}
  (hr:r = .ok (.value v) (w.alloc (.cells cs e))) (ha : ∀g':Gh,g'.bL aV=some w.heap.size→VA g' (w.alloc (.cells cs e)) a v):cr g m w r a (m.set aV b):=by
 obtain⟨h1,h2,h3⟩:=h.alloc hn hb hv (ew w (.cells cs e))
 exact⟨v,_,_,.inl hr,ha _ (by simp[Gh.put]),h1,h2,h3⟩
end ops
end Go.Am
end
