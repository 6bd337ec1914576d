/-
What becomes of the relations when a block is made, written, lent: facts on worlds.
Operations, one by one: what the executor tells of an operation is what the model does. First those that change no memory.
Operations that change no memory: addresses, parts, slices, arithmetic, comparisons.
Operations that change no memory, more: slices, arithmetic, comparisons, conversions of numbers, lengths.
What stands in slices; values that are built; blocks that are made and written.
Values that are built, blocks that are made and written: the operations.
-/
import Derived.Test.YtddfgnmjecogdaaDoorMA
section
namespace Go.Am
open Go.RowKit
theorem vL : ∀{l:List AV},oU l=true→(l.map xG).map AV.p=l
 |[],_=>rfl
 |.p v::r,h=>by
  simp only[oU] at h
  have:=vL h
  simp only[List.map_cons,xG]
  rw[this]
 |.ah::_,h | .os .. :: _,h | .mp .. :: _,h | .ms .. :: _,h | .fn .. :: _,h | .agg _::_,h | .aO _::_,h | .gx .. :: _,h | .vm _::_,h | .vy _::_,h=>by simp[oU] at h
theorem lU {l:List AV} {vs:List PV} (h:z8 l=some vs):vs.map AV.p=l:=by
 unfold z8 at h
 cases hp:oU l with
 |false=>simp[hp] at h
 |true=>
  simp only[hp,cond_true,Option.some.injEq] at h
  subst h
  exact vL hp
theorem jj (l:List AV):(vB l).cells?=some l:=by
 unfold vB
 cases h:z8 l with
 |none=>rfl
 |some vs=>simp[av.cells?,lU h]
theorem bz {b:av} {l:List AV} (h:b.cells?=some l):b.bG=true:=by cases b<;>simp_all [av.cells?,av.bG]
def Gh.put (g:Gh) (i c lo hi:Nat):Gh:=
 {g with aN:=fun j=>if j=i then some c else g.aN j,lo:=fun j=>if j=i then lo else g.lo j,hi:=fun j=>if j=i then hi else g.hi j}
def Gh.more (g:Gh) (c lo hi:Nat):Gh:={g with pure:=fun c' o=>g.pure c' o∨(c'=c∧lo≤o∧o<hi)}
theorem getElem?_set' {α:Type} (l:List α) (i j:Nat) (a:α):(l.set i a)[j]? = if i=j∧i<l.length then some a else l[j]? :=by
 rw[List.getElem?_set]
 by_cases h:i=j
 · subst h;by_cases h2:i<l.length<;>simp[h2]
 · simp[h]
theorem aM {α:Type} {l:List α} {i:Nat} {a:α} (h:l[i]? = some a):i<l.length:=(List.getElem?_eq_some_iff.1 h).1
theorem b7 {w w':World} {c o:Nat} (h:w'.heap[c]? = w.heap[c]?):w'.cell? ⟨c,o,none⟩=w.cell? ⟨c,o,none⟩:=by
 simp only[World.cell?,h]
theorem aD {w:World} {c o:Nat} {cs:Array Value} {e:TypeId} {n:Nat×Nat} (h:w.heap[c]? = some (.cells cs e n)):w.cell? ⟨c,o,none⟩=cs[o]? :=by
 simp[World.cell?,h]
theorem aQ {w:World} {c:Nat} {o:Obj} (h:w.heap[c]? = some o):c<w.heap.size:=by
 rcases Nat.lt_or_ge c w.heap.size with k | k
 · exact k
 · simp[Array.getElem?_eq_none k] at h
theorem mS {g:Gh} {m:Mem} {i:Nat} {b:av} {c:Nat} (h:dH g (m.set i b) c):(b.bG=true∧g.aN i=some c)∨(∃j b',j≠i∧m[j]? = some b'∧b'.bG=true∧g.aN j=some c):=by
 obtain⟨j,b',hj,ho,hc⟩:=h
 rw[getElem?_set'] at hj
 by_cases e:i=j∧i<m.length
 · rw[if_pos e] at hj;cases hj;exact .inl ⟨ho,e.1▸hc⟩
 · rw[if_neg e] at hj
   refine .inr ⟨j,b',fun h=> ?_,hj,ho,hc⟩
   subst h
   exact e ⟨rfl,aM hj⟩
theorem Rel.kill {g:Gh} {m:Mem} {w:World} (h:Rel g m w) (i:Nat):Rel g (m.set i .dead) w∧bO g m w g (m.set i .dead) w:=by
 have get : ∀j b,(m.set i .dead)[j]? = some b→b = .dead∨(j≠i∧m[j]? = some b):=by
  intro j b hj
  rw[getElem?_set'] at hj
  by_cases e:i=j∧i<m.length
  · rw[if_pos e] at hj;exact .inl (Option.some.inj hj).symm
  · rw[if_neg e] at hj
    by_cases e2:i=j
    · subst e2;exact absurd ⟨rfl,aM hj⟩ e
    · exact .inr ⟨fun h=>e2 h.symm,hj⟩
 refine⟨⟨fun j hj=>h.pF j (by simpa using hj),fun j hj=> ?_,fun j b l hj hl=> ?_,fun j c hj hc=> ?_,fun j k b b' c hj hk ho ho' hc cY=> ?_,h.there,fun j kk ll hj=> ?_⟩,bO.less fun c ho=> ?_⟩
 · rcases get j _ hj with e | ⟨_,e⟩
   · cases e
   · exact h.free j e
 · rcases get j _ hj with e | ⟨_,e⟩
   · subst e;cases hl
   · exact h.cells j b l e hl
 · rcases get j _ hj with e | ⟨_,e⟩
   · cases e
   · exact h.tok j c e hc
 · rcases get j _ hj with e | ⟨_,e⟩
   · subst e;simp[av.bG] at ho
   rcases get k _ hk with e' | ⟨_,e'⟩
   · subst e';simp[av.bG] at ho'
   exact h.inj j k b b' c e e' ho ho' hc cY
 · rcases get j _ hj with e | ⟨_,e⟩
   · cases e
   · exact h.obs j kk ll e
 · obtain⟨j,b,hj,hb,hc⟩:=ho
   rcases get j _ hj with e | ⟨_,e⟩
   · subst e;simp[av.bG] at hb
   · exact⟨j,b,e,hb,hc⟩
theorem Rel.write {g:Gh} {m:Mem} {w w':World} (h:Rel g m w) {i c:Nat} {b b':av} {l l':List AV} {cs':Array Value} {e':TypeId} {n':Nat×Nat}
  (hi:m[i]? = some b) (hl:b.cells?=some l) (hc:g.aN i=some c) (hl':b'.cells?=some l')
  (hw : ∀k,k≠c→w'.heap[k]? = w.heap[k]?) (hs:w'.heap.size=w.heap.size) (ho:w'.os=w.os) (ht:w'.tape=w.tape) (hu:w'.output=w.output)
  (hh:w'.heap[c]? = some (.cells cs' e' n')) (hn:n'.2≤n'.1) (hv:vK g w l' cs'.toList) :
  Rel g (m.set i b') w'∧Ext g w g w'∧bO g m w g (m.set i b') w':=by
 obtain⟨c0,cs,e,n,h1,h2,h3,h4,h5⟩:=h.cells i b l hi hl
 rw[hc] at h1;cases h1
 have hp : ∀c' o,g.pure c' o→w'.cell? ⟨c',o,none⟩=w.cell? ⟨c',o,none⟩:=fun c' o p=>b7 (hw c' fun e=>h5 o (e▸p))
 have ext:Ext g w g w':=⟨fun _ _ h=>⟨h,rfl,rfl⟩,fun c' o p=>⟨p,hp c' o p⟩⟩
 have get : ∀j x,(m.set i b')[j]? = some x→(j=i∧x=b')∨(j≠i∧m[j]? = some x):=by
  intro j x hj
  rw[getElem?_set'] at hj
  by_cases e:i=j∧i<m.length
  · rw[if_pos e] at hj;exact .inl ⟨e.1.symm,(Option.some.inj hj).symm⟩
  · rw[if_neg e] at hj
    by_cases e2:i=j
    · subst e2;exact absurd ⟨rfl,aM hj⟩ e
    · exact .inr ⟨fun h=>e2 h.symm,hj⟩
 have ne : ∀j x c',j≠i→m[j]? = some x→x.bG=true→g.aN j=some c'→c'≠c:=fun j x c' hji hj ho cY e=>hji (h.inj j i x b c hj hi ho (bz hl) (e▸cY) hc)
 refine⟨⟨fun j hj=>h.pF j (by simpa using hj),fun j hj=> ?_,fun j x k hj hk=> ?_,fun j c' hj cY=> ?_,fun j k x x' c' hj hk ho ho' dO dY=> ?_,fun c' o p=> ?_,fun j kk ll hj=> ?_⟩,ext,⟨by omega,fun k hk hn=> ?_,fun c' o p=>⟨p,hp c' o p⟩,fun _ _ p=> .inl p,fun c' ho'=> ?_,ho,ht,hu⟩⟩
 · rcases get j _ hj with⟨rfl,e⟩ | ⟨_,e⟩
   · subst e;cases hl'
   · exact h.free j e
 · rcases get j _ hj with⟨rfl,e⟩ | ⟨hji,e⟩
   · subst e
     rw[hl'] at hk;cases hk
     exact⟨c,cs',e',n',hc,hh,hn,hv.mono ext,h5⟩
   · obtain⟨c1,cs1,e1,n1,k1,k2,k3,k4,k5⟩:=h.cells j x k e hk
     exact⟨c1,cs1,e1,n1,k1,(hw c1 (ne j x c1 hji e (bz hk) k1)).trans k2,k3,k4.mono ext,k5⟩
 · rcases get j _ hj with⟨rfl,e⟩ | ⟨hji,e⟩
   · subst e;cases hl'
   · obtain⟨cs1,e1,n1,k2,k3,k4,k5⟩:=h.tok j c' e cY
     exact⟨cs1,e1,n1,(hw c' (ne j _ c' hji e rfl cY)).trans k2,k3,k4,k5⟩
 · rcases get j _ hj with⟨rfl,e⟩ | ⟨hji,e⟩<;>rcases get k _ hk with⟨rfl,e'⟩ | ⟨hki,e'⟩
   · rfl
   · rw[hc] at dO;cases dO
     exact absurd rfl (ne k x' _ hki e' ho' dY)
   · rw[hc] at dY;cases dY
     exact absurd rfl (ne j x _ hji e ho dO)
   · exact h.inj j k x x' c' e e' ho ho' dO dY
 · obtain⟨v,hv⟩:=h.there c' o p
   exact⟨v,(hp c' o p).trans hv⟩
 · rcases get j _ hj with⟨rfl,e⟩ | ⟨hji,e⟩
   · subst e;cases hl'
   · obtain⟨c1,xN,vs1,k1,k2,k3,k6,k7,k8⟩:=h.obs j kk ll e
     exact⟨c1,xN,vs1,k1,(hw c1 (ne j _ c1 hji e rfl k1)).trans k2,k3.mono ext,k6,k7,k8⟩
 · exact hw k fun e=>hn ⟨i,b,hi,bz hl,e▸hc⟩
 · rcases mS ho' with⟨_,k⟩ | ⟨j,x,_,k1,k2,k3⟩
   · exact .inl ⟨i,b,hi,bz hl,k⟩
   · exact .inl ⟨j,x,k1,k2,k3⟩
theorem aC {m:Mem} {i:Nat} {b':av} {j:Nat} {x:av} (hj:(m.set i b')[j]? = some x):(j=i∧x=b')∨(j≠i∧m[j]? = some x):=by
 rw[getElem?_set'] at hj
 by_cases e:i=j∧i<m.length
 · rw[if_pos e] at hj;exact .inl ⟨e.1.symm,(Option.some.inj hj).symm⟩
 · rw[if_neg e] at hj
   by_cases e2:i=j
   · subst e2;exact absurd ⟨rfl,aM hj⟩ e
   · exact .inr ⟨fun h=>e2 h.symm,hj⟩
structure kW (w w':World) (o:Obj):Prop where
 heap:w'.heap=w.heap.push o
 os:w'.os=w.os
 tape:w'.tape=w.tape
 output:w'.output=w.output
theorem kW.old {w w':World} {o:Obj} (h:kW w w' o) {k:Nat} (hk:k<w.heap.size):w'.heap[k]? = w.heap[k]? :=by
 rw[h.heap,Array.getElem?_push,if_neg (by omega)]
theorem kW.new {w w':World} {o:Obj} (h:kW w w' o):w'.heap[w.heap.size]? = some o:=by
 rw[h.heap,Array.getElem?_push,if_pos rfl]
theorem kW.size {w w':World} {o:Obj} (h:kW w w' o):w'.heap.size=w.heap.size+1:=by rw[h.heap];simp
theorem Rel.alloc {g:Gh} {m:Mem} {w w':World} (h:Rel g m w) {i:Nat} {b:av} {l:List AV} {cs:Array Value} {e:TypeId}
  (hi:m[i]? = some .free) (hl:b.cells?=some l) (hv:vK g w l cs.toList) (hw:kW w w' (.cells cs e)) :
  Rel (g.put i w.heap.size 0 0) (m.set i b) w'∧Ext g w (g.put i w.heap.size 0 0) w'∧bO g m w (g.put i w.heap.size 0 0) (m.set i b) w':=by
 have hf:=h.free i hi
 have vr:=aM hi
 have hp : ∀c o,g.pure c o→w'.cell? ⟨c,o,none⟩=w.cell? ⟨c,o,none⟩:=fun c o p=>b7 (hw.old (h.iA p))
 have bo : ∀j,j≠i→(g.put i w.heap.size 0 0).aN j=g.aN j:=fun j hj=>by simp[Gh.put,hj]
 have bi:(g.put i w.heap.size 0 0).aN i=some w.heap.size:=by simp[Gh.put]
 have ext:Ext g w (g.put i w.heap.size 0 0) w':=⟨fun j c hc=>by
  have:j≠i:=fun e=>by subst e;rw[hf] at hc;cases hc
  simp[Gh.put,this,hc],fun c o p=>⟨p,hp c o p⟩⟩
 have lt : ∀j x c,m[j]? = some x→x.bG=true→g.aN j=some c→c<w.heap.size:=fun j x c hj ho hc=>h.gW ⟨j,x,hj,ho,hc⟩
 refine⟨⟨fun j hj=> ?_,fun j hj=> ?_,fun j x k hj hk=> ?_,fun j c hj hc=> ?_,fun j k x x' c hj hk ho ho' dO dY=> ?_,fun c o p=> ?_,fun j kk ll hj=> ?_⟩,ext,⟨by rw[hw.size];omega,fun k hk _=>hw.old hk,fun c o p=>⟨p,hp c o p⟩,fun _ _ p=> .inl p,fun c ho=> ?_,hw.os,hw.tape,hw.output⟩⟩
 · rw[List.length_set] at hj
   rw[bo j (by omega)];exact h.pF j hj
 · rcases aC hj with⟨rfl,e⟩ | ⟨hji,e⟩
   · subst e;cases hl
   · rw[bo j hji];exact h.free j e
 · rcases aC hj with⟨rfl,e⟩ | ⟨hji,e⟩
   · subst e;rw[hl] at hk;cases hk
     refine⟨_,cs,_,(0,0),bi,hw.new,Nat.le_refl _,hv.mono ext,fun o p=> ?_⟩
     have:=h.iA p
     omega
   · obtain⟨c1,cs1,e1,n1,k1,k2,k3,k4,k5⟩:=h.cells j x k e hk
     exact⟨c1,cs1,e1,n1,(bo j hji).trans k1,(hw.old (aQ k2)).trans k2,k3,k4.mono ext,k5⟩
 · rcases aC hj with⟨rfl,e⟩ | ⟨hji,e⟩
   · subst e;cases hl
   · rw[bo j hji] at hc
     obtain⟨cs1,e1,n1,k2,k3,k4,k5⟩:=h.tok j c e hc
     have h1:(g.put i w.heap.size 0 0).hi j=g.hi j:=by simp[Gh.put,hji]
     have h2:(g.put i w.heap.size 0 0).lo j=g.lo j:=by simp[Gh.put,hji]
     rw[h1,h2]
     exact⟨cs1,e1,n1,(hw.old (aQ k2)).trans k2,k3,k4,k5⟩
 · rcases aC hj with⟨rfl,e⟩ | ⟨hji,e⟩<;>rcases aC hk with⟨rfl,e'⟩ | ⟨hki,e'⟩
   · rfl
   · rw[bi] at dO;cases dO
     rw[bo k hki] at dY
     exact absurd (lt k x' _ e' ho' dY) (Nat.lt_irrefl _)
   · rw[bi] at dY;cases dY
     rw[bo j hji] at dO
     exact absurd (lt j x _ e ho dO) (Nat.lt_irrefl _)
   · rw[bo j hji] at dO;rw[bo k hki] at dY
     exact h.inj j k x x' c e e' ho ho' dO dY
 · obtain⟨v,hv⟩:=h.there c o p
   exact⟨v,(hp c o p).trans hv⟩
 · rcases aC hj with⟨rfl,e⟩ | ⟨hji,e⟩
   · subst e;cases hl
   · obtain⟨c1,xN,vs1,k1,k2,k3,k6,k7,k8⟩:=h.obs j kk ll e
     exact⟨c1,xN,vs1,(bo j hji).trans k1,(hw.old (aQ k2)).trans k2,k3.mono ext,k6,k7,by simpa[Gh.put,hji] using k8⟩
 · obtain⟨j,x,hj,hx,hc⟩:=ho
   rcases aC hj with⟨rfl,e⟩ | ⟨hji,e⟩
   · rw[bi] at hc;cases hc;exact .inr (Nat.le_refl _)
   · rw[bo j hji] at hc;exact .inl ⟨j,x,e,hx,hc⟩
theorem Rel.fresh {g:Gh} {m:Mem} {w w':World} (h:Rel g m w) {i k:Nat} {cs:Array Value} {e:TypeId} {n:Nat×Nat}
  (hi:m[i]? = some .free) (hw:kW w w' (.cells cs e n)) (hk:k≤cs.size) (hn:n.2≤n.1∨cs.size≤n.1) :
  let g':=(g.put i w.heap.size k cs.size).more w.heap.size 0 k
  Rel g' (m.set i .tok) w'∧Ext g w g' w'∧bO g m w g' (m.set i .tok) w':=by
 intro g'
 have hf:=h.free i hi
 have vr:=aM hi
 have hp : ∀c o,g.pure c o→w'.cell? ⟨c,o,none⟩=w.cell? ⟨c,o,none⟩:=fun c o p=>b7 (hw.old (h.iA p))
 have bo : ∀j,j≠i→g'.aN j=g.aN j:=fun j hj=>by simp[g',Gh.put,Gh.more,hj]
 have bi:g'.aN i=some w.heap.size:=by simp[g',Gh.put,Gh.more]
 have ext:Ext g w g' w':=⟨fun j c hc=>by
  have:j≠i:=fun e=>by subst e;rw[hf] at hc;cases hc
  simp[g',Gh.put,Gh.more,this,hc],fun c o p=>⟨.inl p,hp c o p⟩⟩
 have lt : ∀j x c,m[j]? = some x→x.bG=true→g.aN j=some c→c<w.heap.size:=fun j x c hj ho hc=>h.gW ⟨j,x,hj,ho,hc⟩
 refine⟨⟨fun j hj=> ?_,fun j hj=> ?_,fun j x l hj hl=> ?_,fun j c hj hc=> ?_,fun j k x x' c hj hk ho ho' dO dY=> ?_,fun c o p=> ?_,fun j kk ll hj=> ?_⟩,ext,⟨by rw[hw.size];omega,fun k hk _=>hw.old hk,fun c o p=>⟨.inl p,hp c o p⟩,fun c o p=> ?_,fun c ho=> ?_,hw.os,hw.tape,hw.output⟩⟩
 · rw[List.length_set] at hj
   rw[bo j (by omega)];exact h.pF j hj
 · rcases aC hj with⟨rfl,e⟩ | ⟨hji,e⟩
   · cases e
   · rw[bo j hji];exact h.free j e
 · rcases aC hj with⟨rfl,e⟩ | ⟨hji,e⟩
   · subst e;cases hl
   · obtain⟨c1,cs1,e1,n1,k1,k2,k3,k4,k5⟩:=h.cells j x l e hl
     refine⟨c1,cs1,e1,n1,(bo j hji).trans k1,(hw.old (aQ k2)).trans k2,k3,k4.mono ext,fun o p=> ?_⟩
     rcases p with p | ⟨rfl,_⟩
     · exact k5 o p
     · exact absurd (aQ k2) (Nat.lt_irrefl _)
 · rcases aC hj with⟨rfl,_⟩ | ⟨hji,e⟩
   · rw[bi] at hc;cases hc
     refine⟨cs,_,n,hw.new,by simp[g',Gh.put,Gh.more],by simpa[g',Gh.put,Gh.more] using hn,fun o h1 _ p=> ?_⟩
     have h1':k≤o:=by simpa[g',Gh.put,Gh.more] using h1
     rcases p with p | ⟨_,_,p⟩
     · exact absurd (h.iA p) (Nat.lt_irrefl _)
     · omega
   · rw[bo j hji] at hc
     obtain⟨cs1,e1,n1,k2,k3,k4,k5⟩:=h.tok j c e hc
     have h1:g'.hi j=g.hi j:=by simp[g',Gh.put,Gh.more,hji]
     have h2:g'.lo j=g.lo j:=by simp[g',Gh.put,Gh.more,hji]
     rw[h1,h2]
     refine⟨cs1,e1,n1,(hw.old (aQ k2)).trans k2,k3,k4,fun o a b p=> ?_⟩
     rcases p with p | ⟨rfl,_⟩
     · exact k5 o a b p
     · exact absurd (aQ k2) (Nat.lt_irrefl _)
 · rcases aC hj with⟨rfl,e⟩ | ⟨hji,e⟩<;>rcases aC hk with⟨rfl,e'⟩ | ⟨hki,e'⟩
   · rfl
   · rw[bi] at dO;cases dO
     rw[bo k hki] at dY
     exact absurd (lt k x' _ e' ho' dY) (Nat.lt_irrefl _)
   · rw[bi] at dY;cases dY
     rw[bo j hji] at dO
     exact absurd (lt j x _ e ho dO) (Nat.lt_irrefl _)
   · rw[bo j hji] at dO;rw[bo k hki] at dY
     exact h.inj j k x x' c e e' ho ho' dO dY
 · rcases p with p | ⟨rfl,_,p⟩
   · obtain⟨v,hv⟩:=h.there c o p
     exact⟨v,(hp c o p).trans hv⟩
   · exact⟨cs[o],by rw[aD hw.new,Array.getElem?_eq_getElem (by omega)]⟩
 · rcases aC hj with⟨rfl,e⟩ | ⟨hji,e⟩
   · cases e
   · obtain⟨c1,xN,vs1,k1,k2,k3,k6,k7,k8⟩:=h.obs j kk ll e
     exact⟨c1,xN,vs1,(bo j hji).trans k1,(hw.old (aQ k2)).trans k2,k3.mono ext,k6,fun o p=>p.elim (k7 o) fun q=>absurd (aQ k2) (by rw[q.1];exact Nat.lt_irrefl _),by simpa[g',Gh.put,Gh.more,hji] using k8⟩
 · rcases p with p | ⟨rfl,_⟩
   · exact .inl p
   · exact .inr (.inr (Nat.le_refl _))
 · obtain⟨j,x,hj,hx,hc⟩:=ho
   rcases aC hj with⟨rfl,e⟩ | ⟨hji,e⟩
   · rw[bi] at hc;cases hc;exact .inr (Nat.le_refl _)
   · rw[bo j hji] at hc;exact .inl ⟨j,x,e,hx,hc⟩
theorem Rel.spare {g:Gh} {m:Mem} {w w':World} (h:Rel g m w) {t i c k:Nat} {cs cs':Array Value} {e e':TypeId} {n:Nat×Nat}
  (ht:m[t]? = some .tok) (hc:g.aN t=some c) (hi:m[i]? = some .free) (hcs:w.heap[c]? = some (.cells cs e n)) (hk:g.lo t+k≤g.hi t)
  (hw : ∀j,j≠c→w'.heap[j]? = w.heap[j]?) (hs:w'.heap.size=w.heap.size) (ho:w'.os=w.os) (LQ:w'.tape=w.tape) (hu:w'.output=w.output)
  (hh:w'.heap[c]? = some (.cells cs' e' n)) (hcz:cs'.size=cs.size) (hout : ∀o,o<g.lo t∨g.hi t≤o→cs'[o]? = cs[o]?) :
  let g':=(g.put i c (g.lo t+k) (g.hi t)).more c (g.lo t) (g.lo t+k)
  Rel g' ((m.set t .dead).set i .tok) w'∧Ext g w g' w'∧bO g m w g' ((m.set t .dead).set i .tok) w':=by
 intro g'
 have hf:=h.free i hi
 have vr:=aM hi
 have Jv:t≠i:=fun e=>by subst e;rw[ht] at hi;cases hi
 obtain⟨cs0,e0,n0,q1,q2,q3,q4⟩:=h.tok t c ht hc
 rw[hcs] at q1;cases q1
 have hp : ∀c' o,g.pure c' o→w'.cell? ⟨c',o,none⟩=w.cell? ⟨c',o,none⟩:=by
  intro c' o p
  by_cases e:c'=c
  · subst e
    rw[aD hh,aD hcs]
    refine hout o ?_
    rcases Nat.lt_or_ge o (g.lo t) with a | a
    · exact .inl a
    · rcases Nat.lt_or_ge o (g.hi t) with b | b
      · exact absurd p (q4 o a b)
      · exact .inr b
  · exact b7 (hw c' e)
 have bo : ∀j,j≠i→g'.aN j=g.aN j:=fun j hj=>by simp[g',Gh.put,Gh.more,hj]
 have bi:g'.aN i=some c:=by simp[g',Gh.put,Gh.more]
 have ext:Ext g w g' w':=⟨fun j c hc=>by
  have:j≠i:=fun e=>by subst e;rw[hf] at hc;cases hc
  simp[g',Gh.put,Gh.more,this,hc],fun c o p=>⟨.inl p,hp c o p⟩⟩
 have get : ∀j x,((m.set t .dead).set i .tok)[j]? = some x→(j=i∧x = .tok)∨x = .dead∨(j≠i∧j≠t∧m[j]? = some x):=by
  intro j x hj
  rcases aC hj with e | ⟨hji,e⟩
  · exact .inl e
  · rcases aC e with⟨_,e'⟩ | ⟨xy,e'⟩
    · exact .inr (.inl e')
    · exact .inr (.inr ⟨hji,xy,e'⟩)
 have ne : ∀j x c',j≠t→m[j]? = some x→x.bG=true→g.aN j=some c'→c'≠c:=fun j x c' xy hj ho cY e=>xy (h.inj j t x _ c hj ht ho rfl (e▸cY) hc)
 refine⟨⟨fun j hj=> ?_,fun j hj=> ?_,fun j x l hj hl=> ?_,fun j c' hj cY=> ?_,fun j k x x' c' hj hk ho ho' dO dY=> ?_,fun c' o p=> ?_,fun j kk ll hj=> ?_⟩,ext,⟨by omega,fun j _ hn=> ?_,fun c o p=>⟨.inl p,hp c o p⟩,fun c' o p=> ?_,fun c' ho'=> ?_,ho,LQ,hu⟩⟩
 · simp only[List.length_set] at hj
   rw[bo j (by omega)];exact h.pF j hj
 · rcases get j _ hj with⟨_,e⟩ | e | ⟨hji,_,e⟩
   · cases e
   · cases e
   · rw[bo j hji];exact h.free j e
 · rcases get j _ hj with⟨_,e⟩ | e | ⟨hji,xy,e⟩
   · subst e;cases hl
   · subst e;cases hl
   · obtain⟨c1,cs1,e1,n1,k1,k2,k3,k4,k5⟩:=h.cells j x l e hl
     refine⟨c1,cs1,e1,n1,(bo j hji).trans k1,(hw c1 (ne j x c1 xy e (bz hl) k1)).trans k2,k3,k4.mono ext,fun o p=> ?_⟩
     rcases p with p | ⟨rfl,_⟩
     · exact k5 o p
     · exact ne j x _ xy e (bz hl) k1 rfl
 · rcases get j _ hj with⟨rfl,_⟩ | e | ⟨hji,xy,e⟩
   · rw[bi] at cY;cases cY
     refine⟨cs',e',n,hh,by simp only[g',Gh.put,Gh.more,if_true];omega,by simpa[g',Gh.put,Gh.more] using q3,fun o h1 h2 p=> ?_⟩
     have h1':g.lo t+k≤o:=by simpa[g',Gh.put,Gh.more] using h1
     have h2':o<g.hi t:=by simpa[g',Gh.put,Gh.more] using h2
     rcases p with p | ⟨_,_,p⟩
     · exact q4 o (by omega) h2' p
     · omega
   · cases e
   · rw[bo j hji] at cY
     obtain⟨cs1,e1,n1,k2,k3,k4,k5⟩:=h.tok j c' e cY
     have h1:g'.hi j=g.hi j:=by simp[g',Gh.put,Gh.more,hji]
     have h2:g'.lo j=g.lo j:=by simp[g',Gh.put,Gh.more,hji]
     rw[h1,h2]
     refine⟨cs1,e1,n1,(hw c' (ne j _ c' xy e rfl cY)).trans k2,k3,k4,fun o a b p=> ?_⟩
     rcases p with p | ⟨rfl,_⟩
     · exact k5 o a b p
     · exact ne j _ _ xy e rfl cY rfl
 · rcases get j _ hj with⟨rfl,e⟩ | e | ⟨hji,xy,e⟩
   · rcases get k _ hk with⟨rfl,e'⟩ | e' | ⟨hki,Lg,e'⟩
     · rfl
     · subst e';simp[av.bG] at ho'
     · rw[bi] at dO;cases dO
       rw[bo k hki] at dY
       exact absurd rfl (ne k x' _ Lg e' ho' dY)
   · subst e;simp[av.bG] at ho
   · rcases get k _ hk with⟨rfl,e'⟩ | e' | ⟨hki,Lg,e'⟩
     · rw[bi] at dY;cases dY
       rw[bo j hji] at dO
       exact absurd rfl (ne j x _ xy e ho dO)
     · subst e';simp[av.bG] at ho'
     · rw[bo j hji] at dO;rw[bo k hki] at dY
       exact h.inj j k x x' c' e e' ho ho' dO dY
 · rcases p with p | ⟨rfl,p1,p2⟩
   · obtain⟨v,hv⟩:=h.there c' o p
     exact⟨v,(hp c' o p).trans hv⟩
   · exact⟨cs'[o],by rw[aD hh,Array.getElem?_eq_getElem (by omega)]⟩
 · rcases get j _ hj with⟨_,e⟩ | e | ⟨hji,xy,e⟩
   · cases e
   · cases e
   · obtain⟨c1,xN,vs1,k1,k2,k3,k6,k7,k8⟩:=h.obs j kk ll e
     exact⟨c1,xN,vs1,(bo j hji).trans k1,(hw c1 (ne j _ c1 xy e rfl k1)).trans k2,k3.mono ext,k6,fun o p=>p.elim (k7 o) fun q=>ne j _ c1 xy e rfl k1 q.1,by simpa[g',Gh.put,Gh.more,hji] using k8⟩
 · exact hw j fun e=>hn ⟨t,_,ht,rfl,e▸hc⟩
 · rcases p with p | ⟨rfl,_⟩
   · exact .inl p
   · exact .inr (.inl ⟨t,_,ht,rfl,hc⟩)
 · obtain⟨j,x,hj,hx,xz⟩:=ho'
   rcases get j _ hj with⟨rfl,e⟩ | e | ⟨hji,_,e⟩
   · rw[bi] at xz;cases xz;exact .inl ⟨t,_,ht,rfl,hc⟩
   · subst e;simp[av.bG] at hx
   · rw[bo j hji] at xz;exact .inl ⟨j,x,e,hx,xz⟩
theorem Rel.jV {g:Gh} {m:Mem} {w w':World} (h:Rel g m w) {cs:Array Value} {e:TypeId} (hw:kW w w' (.cells cs e)) :
  Rel (g.more w.heap.size 0 cs.size) m w'∧Ext g w (g.more w.heap.size 0 cs.size) w'∧bO g m w (g.more w.heap.size 0 cs.size) m w':=by
 have hp : ∀c o,g.pure c o→w'.cell? ⟨c,o,none⟩=w.cell? ⟨c,o,none⟩:=fun c o p=>b7 (hw.old (h.iA p))
 have ext:Ext g w (g.more w.heap.size 0 cs.size) w':=⟨fun j c hc=>⟨hc,rfl,rfl⟩,fun c o p=>⟨.inl p,hp c o p⟩⟩
 refine⟨⟨h.pF,h.free,fun j x l hj hl=> ?_,fun j c hj hc=> ?_,h.inj,fun c o p=> ?_,fun j kk ll hj=> ?_⟩,ext,⟨by rw[hw.size];omega,fun k hk _=>hw.old hk,fun c o p=>⟨.inl p,hp c o p⟩,fun c o p=> ?_,fun c ho=> .inl ho,hw.os,hw.tape,hw.output⟩⟩
 · obtain⟨c1,cs1,e1,n1,k1,k2,k3,k4,k5⟩:=h.cells j x l hj hl
   refine⟨c1,cs1,e1,n1,k1,(hw.old (aQ k2)).trans k2,k3,k4.mono ext,fun o p=> ?_⟩
   rcases p with p | ⟨rfl,_⟩
   · exact k5 o p
   · exact absurd (aQ k2) (Nat.lt_irrefl _)
 · obtain⟨cs1,e1,n1,k2,k3,k4,k5⟩:=h.tok j c hj hc
   refine⟨cs1,e1,n1,(hw.old (aQ k2)).trans k2,k3,k4,fun o a b p=> ?_⟩
   rcases p with p | ⟨rfl,_⟩
   · exact k5 o a b p
   · exact absurd (aQ k2) (Nat.lt_irrefl _)
 · rcases p with p | ⟨rfl,_,p⟩
   · obtain⟨v,hv⟩:=h.there c o p
     exact⟨v,(hp c o p).trans hv⟩
   · exact⟨cs[o],by rw[aD hw.new,Array.getElem?_eq_getElem (by omega)]⟩
 · obtain⟨c1,xN,vs1,k1,k2,k3,k6,k7,k8⟩:=h.obs j kk ll hj
   exact⟨c1,xN,vs1,k1,(hw.old (aQ k2)).trans k2,k3.mono ext,k6,fun o p=>p.elim (k7 o) fun q=>absurd (aQ k2) (by rw[q.1];exact Nat.lt_irrefl _),k8⟩
 · rcases p with p | ⟨rfl,_⟩
   · exact .inl p
   · exact .inr (.inr (Nat.le_refl _))
theorem Rel.oN {g:Gh} {m:Mem} {w:World} (h:Rel g m w) {i:Nat} (hi:m[i]? = some .free):Rel g (m.set i .tok) w∧bO g m w g (m.set i .tok) w:=by
 have hf:=h.free i hi
 refine⟨⟨fun j hj=>h.pF j (by simpa using hj),fun j hj=> ?_,fun j x l hj hl=> ?_,fun j c hj hc=> ?_,fun j k x x' c hj hk ho ho' dO dY=> ?_,h.there,fun j kk ll hj=> ?_⟩,bO.less fun c ho=> ?_⟩
 · rcases aC hj with⟨_,e⟩ | ⟨_,e⟩
   · cases e
   · exact h.free j e
 · rcases aC hj with⟨_,e⟩ | ⟨_,e⟩
   · subst e;cases hl
   · exact h.cells j x l e hl
 · rcases aC hj with⟨rfl,_⟩ | ⟨_,e⟩
   · rw[hf] at hc;cases hc
   · exact h.tok j c e hc
 · rcases aC hj with⟨rfl,_⟩ | ⟨_,e⟩
   · rw[hf] at dO;cases dO
   · rcases aC hk with⟨rfl,_⟩ | ⟨_,e'⟩
     · rw[hf] at dY;cases dY
     · exact h.inj j k x x' c e e' ho ho' dO dY
 · rcases aC hj with⟨_,e⟩ | ⟨_,e⟩
   · cases e
   · exact h.obs j kk ll e
 · obtain⟨j,x,hj,hx,hc⟩:=ho
   rcases aC hj with⟨rfl,_⟩ | ⟨_,e⟩
   · rw[hf] at hc;cases hc
   · exact⟨j,x,e,hx,hc⟩
theorem Rel.gY {g:Gh} {m:Mem} {w w':World} (h:Rel g m w) (hh:w'.heap=w.heap) (ho:w'.os=w.os) (ht:w'.tape=w.tape) (hu:w'.output=w.output) :
  Rel g m w'∧Ext g w g w'∧bO g m w g m w':=by
 have hc : ∀a:Addr,w'.cell? a=w.cell? a:=fun a=>by simp[World.cell?,hh]
 have ext:Ext g w g w':=⟨fun _ _ h=>⟨h,rfl,rfl⟩,fun _ _ p=>⟨p,hc _⟩⟩
 refine⟨⟨h.pF,h.free,fun j x l hj hl=> ?_,fun j c hj LR=> ?_,h.inj,fun c o p=> ?_,fun j kk ll hj=> ?_⟩,ext,⟨by rw[hh];exact Nat.le_refl _,fun k _ _=>by rw[hh],fun c o p=>⟨p,hc _⟩,fun _ _ p=> .inl p,fun _ ho=> .inl ho,ho,ht,hu⟩⟩
 · obtain⟨c1,cs1,e1,n1,k1,k2,k3,k4,k5⟩:=h.cells j x l hj hl
   exact⟨c1,cs1,e1,n1,k1,by rw[hh];exact k2,k3,k4.mono ext,k5⟩
 · obtain⟨cs1,e1,n1,k2,k3⟩:=h.tok j c hj LR
   exact⟨cs1,e1,n1,by rw[hh];exact k2,k3⟩
 · obtain⟨v,hv⟩:=h.there c o p
   exact⟨v,(hc _).trans hv⟩
 · obtain⟨c1,xN,vs1,k1,k2,k3,k6,k7,k8⟩:=h.obs j kk ll hj
   exact⟨c1,xN,vs1,k1,by rw[hh];exact k2,k3.mono ext,k6,k7,k8⟩
theorem Rel.reserve {g:Gh} {m:Mem} {w:World} (h:Rel g m w):Rel g (m++[.free]) w∧bO g m w g (m++[.free]) w:=by
 have get : ∀j x,(m++[av.free])[j]? = some x→m[j]? = some x∨(j=m.length∧x = .free):=by
  intro j x hj
  rw[List.getElem?_append] at hj
  by_cases e:j<m.length
  · rw[if_pos e] at hj;exact .inl hj
  · rw[if_neg e] at hj
    have:=aM hj
    simp at this
    have e2:j=m.length:=by omega
    subst e2
    simp at hj
    exact .inr ⟨rfl,hj.symm⟩
 refine⟨⟨fun j hj=>h.pF j (by simp at hj;omega),fun j hj=> ?_,fun j x l hj hl=> ?_,fun j c hj hc=> ?_,fun j k x x' c hj hk ho ho' dO dY=> ?_,h.there,fun j kk ll hj=> ?_⟩,bO.less fun c ho=> ?_⟩
 · rcases get j _ hj with e | ⟨rfl,_⟩
   · exact h.free j e
   · exact h.pF _ (Nat.le_refl _)
 · rcases get j _ hj with e | ⟨_,e⟩
   · exact h.cells j x l e hl
   · subst e;cases hl
 · rcases get j _ hj with e | ⟨_,e⟩
   · exact h.tok j c e hc
   · cases e
 · rcases get j _ hj with e | ⟨_,e⟩
   · rcases get k _ hk with e' | ⟨_,e'⟩
     · exact h.inj j k x x' c e e' ho ho' dO dY
     · subst e';simp[av.bG] at ho'
   · subst e;simp[av.bG] at ho
 · rcases get j _ hj with e | ⟨_,e⟩
   · exact h.obs j kk ll e
   · cases e
 · obtain⟨j,x,hj,hx,hc⟩:=ho
   rcases get j _ hj with e | ⟨_,e⟩
   · exact⟨j,x,e,hx,hc⟩
   · subst e;simp[av.bG] at hx
theorem Rel.lV (sF:Nat) {g:Gh} {m:Mem} {w w':World} (h:Rel g m w) {i:Nat} {ob:mN} {l:List AV} {vs:List Value} {o:Obj}
  (hi:m[i]? = some .free) (hv:bM g w l vs) (hw:kW w w' o) (his:ob.is o vs) (hroom:ob.room o sF) :
  Rel (g.put i w.heap.size 0 sF) (m.set i (.ob ob l)) w'∧Ext g w (g.put i w.heap.size 0 sF) w'∧bO g m w (g.put i w.heap.size 0 sF) (m.set i (.ob ob l)) w':=by
 have hf:=h.free i hi
 have hp : ∀c o,g.pure c o→w'.cell? ⟨c,o,none⟩=w.cell? ⟨c,o,none⟩:=fun c o p=>b7 (hw.old (h.iA p))
 have bo : ∀j,j≠i→(g.put i w.heap.size 0 sF).aN j=g.aN j:=fun j hj=>by simp[Gh.put,hj]
 have bi:(g.put i w.heap.size 0 sF).aN i=some w.heap.size:=by simp[Gh.put]
 have ext:Ext g w (g.put i w.heap.size 0 sF) w':=⟨fun j c hc=>by
  have:j≠i:=fun e=>by subst e;rw[hf] at hc;cases hc
  simp[Gh.put,this,hc],fun c o p=>⟨p,hp c o p⟩⟩
 have lt : ∀j x c,m[j]? = some x→x.bG=true→g.aN j=some c→c<w.heap.size:=fun j x c hj ho hc=>h.gW ⟨j,x,hj,ho,hc⟩
 have vr:=aM hi
 refine⟨⟨fun j hj=> ?_,fun j hj=> ?_,fun j x k hj hk=> ?_,fun j c hj hc=> ?_,fun j k x x' c hj hk ho ho' dO dY=> ?_,fun c o p=> ?_,fun j kk ll hj=> ?_⟩,ext,⟨by rw[hw.size];omega,fun k hk _=>hw.old hk,fun c o p=>⟨p,hp c o p⟩,fun _ _ p=> .inl p,fun c ho=> ?_,hw.os,hw.tape,hw.output⟩⟩
 · rw[List.length_set] at hj
   rw[bo j (by omega)];exact h.pF j hj
 · rcases aC hj with⟨rfl,e⟩ | ⟨hji,e⟩
   · cases e
   · rw[bo j hji];exact h.free j e
 · rcases aC hj with⟨rfl,e⟩ | ⟨hji,e⟩
   · subst e;cases hk
   · obtain⟨c1,cs1,e1,n1,k1,k2,k3,k4,k5⟩:=h.cells j x k e hk
     exact⟨c1,cs1,e1,n1,(bo j hji).trans k1,(hw.old (aQ k2)).trans k2,k3,k4.mono ext,k5⟩
 · rcases aC hj with⟨rfl,e⟩ | ⟨hji,e⟩
   · cases e
   · rw[bo j hji] at hc
     obtain⟨cs1,e1,n1,k2,k3,k4,k5⟩:=h.tok j c e hc
     have h1:(g.put i w.heap.size 0 sF).hi j=g.hi j:=by simp[Gh.put,hji]
     have h2:(g.put i w.heap.size 0 sF).lo j=g.lo j:=by simp[Gh.put,hji]
     rw[h1,h2]
     exact⟨cs1,e1,n1,(hw.old (aQ k2)).trans k2,k3,k4,k5⟩
 · rcases aC hj with⟨rfl,e⟩ | ⟨hji,e⟩<;>rcases aC hk with⟨rfl,e'⟩ | ⟨hki,e'⟩
   · rfl
   · rw[bi] at dO;cases dO
     rw[bo k hki] at dY
     exact absurd (lt k x' _ e' ho' dY) (Nat.lt_irrefl _)
   · rw[bi] at dY;cases dY
     rw[bo j hji] at dO
     exact absurd (lt j x _ e ho dO) (Nat.lt_irrefl _)
   · rw[bo j hji] at dO;rw[bo k hki] at dY
     exact h.inj j k x x' c e e' ho ho' dO dY
 · obtain⟨v,hv⟩:=h.there c o p
   exact⟨v,(hp c o p).trans hv⟩
 · rcases aC hj with⟨rfl,e⟩ | ⟨hji,e⟩
   · cases e
     exact⟨_,_,vs,bi,hw.new,hv.mono ext,his,fun o p=>absurd (h.iA p) (Nat.lt_irrefl _),by simpa[Gh.put] using hroom⟩
   · obtain⟨c1,xN,vs1,k1,k2,k3,k6,k7,k8⟩:=h.obs j kk ll e
     exact⟨c1,xN,vs1,(bo j hji).trans k1,(hw.old (aQ k2)).trans k2,k3.mono ext,k6,k7,by simpa[Gh.put,hji] using k8⟩
 · obtain⟨j,x,hj,hx,hc⟩:=ho
   rcases aC hj with⟨rfl,e⟩ | ⟨hji,e⟩
   · rw[bi] at hc;cases hc;exact .inr (Nat.le_refl _)
   · rw[bo j hji] at hc;exact .inl ⟨j,x,e,hx,hc⟩
theorem Rel.oO {g:Gh} {m:Mem} {w w':World} (h:Rel g m w) {i:Nat} {ob:mN} {l:List AV} {vs:List Value} {o:Obj}
  (hi:m[i]? = some .free) (hv:bM g w l vs) (hw:kW w w' o) (his:ob.is o vs) (hroom:ob.room o 0:=by trivial) :
  Rel (g.put i w.heap.size 0 0) (m.set i (.ob ob l)) w'∧Ext g w (g.put i w.heap.size 0 0) w'∧bO g m w (g.put i w.heap.size 0 0) (m.set i (.ob ob l)) w':=
 Rel.lV 0 h hi hv hw his hroom
theorem Rel.eE {g:Gh} {m:Mem} {w w':World} (h:Rel g m w) {i c:Nat} {ob xO:mN} {l l':List AV} {vs':List Value} {o':Obj}
  (hi:m[i]? = some (.ob ob l)) (hc:g.aN i=some c)
  (hw : ∀k,k≠c→w'.heap[k]? = w.heap[k]?) (hs:w'.heap.size=w.heap.size) (ho:w'.os=w.os) (ht:w'.tape=w.tape) (hu:w'.output=w.output)
  (hh:w'.heap[c]? = some o') (his:xO.is o' vs') (hv:bM g w l' vs') (hroom:xO.room o' (g.hi i):=by trivial) :
  Rel g (m.set i (.ob xO l')) w'∧Ext g w g w'∧bO g m w g (m.set i (.ob xO l')) w':=by
 obtain⟨c0,M0,LP,h1,_,_,_,hnp,_⟩:=h.obs i ob l hi
 rw[hc] at h1;cases h1
 have hp : ∀c' o,g.pure c' o→w'.cell? ⟨c',o,none⟩=w.cell? ⟨c',o,none⟩:=fun c' o p=>b7 (hw c' fun e=>hnp o (e▸p))
 have ext:Ext g w g w':=⟨fun _ _ h=>⟨h,rfl,rfl⟩,fun c' o p=>⟨p,hp c' o p⟩⟩
 have ne : ∀j x c',j≠i→m[j]? = some x→x.bG=true→g.aN j=some c'→c'≠c:=fun j x c' hji hj ho cY e=>hji (h.inj j i x _ c hj hi ho rfl (e▸cY) hc)
 refine⟨⟨fun j hj=>h.pF j (by simpa using hj),fun j hj=> ?_,fun j x k hj hk=> ?_,fun j c' hj cY=> ?_,fun j k x x' c' hj hk ho ho' dO dY=> ?_,fun c' o p=> ?_,fun j kk ll hj=> ?_⟩,ext,⟨by omega,fun k hk hn=> ?_,fun c' o p=>⟨p,hp c' o p⟩,fun _ _ p=> .inl p,fun c' ho'=> ?_,ho,ht,hu⟩⟩
 · rcases aC hj with⟨rfl,e⟩ | ⟨_,e⟩
   · cases e
   · exact h.free j e
 · rcases aC hj with⟨rfl,e⟩ | ⟨hji,e⟩
   · subst e;cases hk
   · obtain⟨c1,cs1,e1,n1,k1,k2,k3,k4,k5⟩:=h.cells j x k e hk
     exact⟨c1,cs1,e1,n1,k1,(hw c1 (ne j x c1 hji e (bz hk) k1)).trans k2,k3,k4.mono ext,k5⟩
 · rcases aC hj with⟨rfl,e⟩ | ⟨hji,e⟩
   · cases e
   · obtain⟨cs1,e1,n1,k2,k3,k4,k5⟩:=h.tok j c' e cY
     exact⟨cs1,e1,n1,(hw c' (ne j _ c' hji e rfl cY)).trans k2,k3,k4,k5⟩
 · rcases aC hj with⟨rfl,e⟩ | ⟨hji,e⟩<;>rcases aC hk with⟨rfl,e'⟩ | ⟨hki,e'⟩
   · rfl
   · rw[hc] at dO;cases dO
     exact absurd rfl (ne k x' _ hki e' ho' dY)
   · rw[hc] at dY;cases dY
     exact absurd rfl (ne j x _ hji e ho dO)
   · exact h.inj j k x x' c' e e' ho ho' dO dY
 · obtain⟨v,hv⟩:=h.there c' o p
   exact⟨v,(hp c' o p).trans hv⟩
 · rcases aC hj with⟨rfl,e⟩ | ⟨hji,e⟩
   · cases e
     exact⟨c,_,vs',hc,hh,hv.mono ext,his,hnp,hroom⟩
   · obtain⟨c1,xN,vs1,k1,k2,k3,k6,k7,k8⟩:=h.obs j kk ll e
     exact⟨c1,xN,vs1,k1,(hw c1 (ne j _ c1 hji e rfl k1)).trans k2,k3.mono ext,k6,k7,k8⟩
 · exact hw k fun e=>hn ⟨i,_,hi,rfl,e▸hc⟩
 · rcases mS ho' with⟨_,k⟩ | ⟨j,x,_,k1,k2,k3⟩
   · exact .inl ⟨i,_,hi,rfl,k⟩
   · exact .inl ⟨j,x,k1,k2,k3⟩
end Go.Am
end
section
namespace Go.Am
open Go.RowKit
def bh (g:Gh) (m:Mem) (w:World) (r:Result Next) (a:AV) (m':Mem):Prop:=
 ∃v w' g',(r = .ok (.value v) w'∨(r = .ok .skip w'∧v=undef))∧VA g' w' a v∧Rel g' m' w'∧Ext g w g' w'∧bO g m w g' m' w'
theorem bh.quiet {g:Gh} {m:Mem} {w:World} {r:Result Next} {a:AV} {v:Value} (h:Rel g m w) (hr:r = .ok (.value v) w) (ha:VA g w a v):bh g m w r a m:=
 ⟨v,w,g,.inl hr,ha,h,Ext.refl g w,bO.refl g m w⟩
theorem az {P:Program} {t:TypeId} {n:Nat} (h:dg P t=some n) (w:World):(sizeOf t).run P w = .ok n w:=by
 unfold dg at h
 cases hi:P.info? t with
 |none=>simp[hi] at h
 |some i=>simp only[hi,Option.map_some,Option.some.injEq] at h;simp[sizeOf,typeInfo,hi,h]
theorem cW {P:Program} {t:TypeId} {i:TypeInfo} (h:P.info? t=some i) (w:World):(typeInfo t).run P w = .ok i w:=by
 simp[typeInfo,h]
theorem iB {P:Program} {t:TypeId} {b:Bool} (h:Dq P t=some b) (w:World):(isAgg t).run P w = .ok b w:=by
 unfold Dq at h
 cases hu:P.underlying t with
 |none=>simp[hu] at h
 |some d=>cases d<;>simp[hu] at h<;>subst h<;>simp[isAgg,run_underlying hu]
theorem Du {g:Gh} {w:World} {a:AV} {v cv:Value} (h:A2 a=some v) (ha:VA g w a cv):cv=v:=by
 cases ha with
 |p v' _ hp=>cases hp<;>simp[A2] at h;exact h
 |_=>simp[A2] at h
theorem pH {g:Gh} {w:World} : ∀{l:List AV} {vs cs:List Value},oS l=some vs→bM g w l cs→cs=vs
 |[],vs,cs,h,ha=>by
  cases cs with
  |nil=>simp[oS] at h;exact h.symm
  |cons _ _=>exact ha.elim
 |a::l,vs,cs,h,ha=>by
  cases cs with
  |nil=>exact ha.elim
  |cons c cs=>
   simp only[oS] at h
   cases h1:A2 a with
   |none=>simp[h1] at h
   |some v=>
    cases h2:oS l with
    |none=>simp[h1,h2] at h
    |some us=>
     simp only[h1,h2,Option.some.injEq] at h
     subst h
     rw[Du h1 ha.1,pH h2 ha.2]
theorem xP {g:Gh} {w:World} {a:AV} {v cv:Value} (h:xF a=some v) (ha:VA g w a cv):cv=v:=by
 cases ha with
 |p v' _ hp=>cases hp<;>simp[xF] at h;exact h
 |agg l cs hl hh=>
  simp only[xF,Option.map_eq_some_iff] at h
  obtain⟨vs,h1,rfl⟩:=h
  rw[←pH h1 (aK.bV hl hh)]
 |aO l cs hl hh=>
  simp only[xF,Option.map_eq_some_iff] at h
  obtain⟨vs,h1,rfl⟩:=h
  rw[←pH h1 (aK.bV hl hh)]
 |_=>simp[xF] at h
theorem uq {α:Type} (P:Program) (w:World) : ∀(s:Sem α) (a:α),eA P s=some a→s.run P w = .ok a w:=by
 intro s
 induction s with
 |pure b=>intro a h;simp[eA] at h;subst h;rfl
 |program k ih=>intro a h;simp only[eA] at h;simp only[Sem.run];exact ih P a h
 |mark m k ih=>intro a h;simp only[eA] at h;simp only[Sem.run];exact ih a h
 |_=>intro a h;simp[eA] at h
theorem VA.eO {g:Gh} {w:World} (v:Value):VA g w (eO v) v:=by
 unfold Am.eO
 split
 · exact .os none 0 0 [] none 0 (.lT 0 none 0 (.inr ⟨rfl,rfl⟩)) (.inl rfl)
 · exact .p _ _ (.sc v)
theorem bM.cZ {g:Gh} {w:World} : ∀(l:List Value),bM g w (l.map Am.eO) l
 |[]=>trivial
 |v::l=>⟨VA.eO v,bM.cZ l⟩
theorem VA.yR {g:Gh} {w:World} (v:Value):VA g w (yR v) v:=by
 unfold Am.yR
 split
 · exact VA.uk.2 (bM.cZ _)
 · exact VA.fY.2 (bM.cZ _)
 · exact VA.eO _
theorem sG {ρ:Operand→AV} : ∀{l:List Operand},nE ρ l=true → ∀x∈l,∃v,xF (ρ x)=some v
 |[],_,_,hx=>by cases hx
 |y::l,h,x,hx=>by
  simp only[nE,Bool.and_eq_true] at h
  cases hx with
  |head=>exact Option.isSome_iff_exists.1 h.1
  |tail _ hx=>exact sG h.2 x hx
theorem getD_some {m:Mem} {b:Nat} {x:av} (h:m.getD b .dead=x) (hx:x ≠ .dead):m[b]? = some x:=by
 rw[List.getD_eq_getElem?_getD] at h
 cases hq:m[b]? with
 |none=>rw[hq] at h;exact absurd h.symm hx
 |some y=>rw[hq] at h;exact congrArg some h
section ops
variable {P:Program} {g:Gh} {m:Mem} {w:World} {ρ:Operand→AV} {aV:Operand→Value} {o:Oper}
theorem cQ (hr : ∀x,VA g w (ρ x) (aV x)) (hs : ∀cs b,o.op ≠ .select cs b) {a:AV} (h:scalar P ρ o=some a) :
  ∃v,(execOp aV o).run P w = .ok (.value v) w∧VA g w a v:=by
 unfold scalar at h
 cases hb:nE ρ o.op.operands.toList with
 |false=>simp[hb] at h
 |true=>
  simp only[hb,cond_true] at h
  have hc:execOp aV o=execOp (fun x=>(xF (ρ x)).getD undef) o:=execOp_congr o hs fun x hx=>by
   obtain⟨v,hv⟩:=sG hb x (Array.mem_toList_iff.2 hx)
   simp[hv,xP hv (hr x)]
  cases he:eA P (execOp (fun x=>(xF (ρ x)).getD undef) o) with
  |none=>simp[he] at h
  |some nx=>
   cases nx with
   |value v=>
    simp only[he,Option.some.injEq] at h
    subst h
    exact⟨v,by rw[hc];exact uq P w _ _ he,VA.yR v⟩
   |_=>simp[he] at h
theorem vM {d:Option TypeDesc} {c:PV} (h:(sr d c).2=true):(sr d c).1=c∧c ≠ .bad:=by
 unfold sr at h ⊢
 split at h
 · cases c with
   |sc v=>cases v<;>simp_all [isInt,aA]
   |_=>simp[isInt] at h
 · cases c with
   |sc v=>cases v<;>simp_all [isBool,A3]
   |_=>simp[isBool] at h
 · cases c with
   |sc v=>cases v<;>simp_all [isStr,EL]
   |_=>simp[isStr] at h
 · cases c<;>simp_all [aR,aj,au,af]
 · cases c<;>simp_all [isOk]
theorem pI {d:Option TypeDesc} {a:AV} (h:(iM d a).2=true):(iM d a).1=a∧a ≠ .p .bad:=by
 cases a with
 |p c=>simp only[iM] at h ⊢;exact⟨by rw[(vM h).1],fun e=>(vM h).2 (AV.p.inj e)⟩
 |_=>exact⟨rfl,fun e=>by cases e⟩
theorem vN : ∀{ds:List (Option TypeDesc)} {l:List AV},(lI ds l).2=true→(lI ds l).1=l ∧ ∀x∈l,x ≠ .p .bad
 |[],[],_=>⟨rfl,fun _ h=>by cases h⟩
 |d::ds,a::l,h=>by
  simp only[lI,Bool.and_eq_true] at h ⊢
  obtain⟨h1,h2⟩:=vN h.2
  refine⟨by rw[(pI h.1).1,h1],fun x hx=> ?_⟩
  cases hx with
  |head=>exact(pI h.1).2
  |tail _ hx=>exact h2 x hx
 |[],_::_,h=>by simp[lI] at h
 |_::_,[],h=>by simp[lI] at h
theorem dn {α:Type} (d:α) (l:List α) : ∀(n off:Nat),(iY d l off n).length=n
 |0,_=>rfl
 |n+1,off=>by simp[iY,dn d l n]
theorem jk {α:Type} (d:α) (l:List α) : ∀(n off j:Nat) (h:j<(iY d l off n).length),(iY d l off n)[j]=l.getD (off+j) d
 |0,_,_,h=>by simp[iY] at h
 |n+1,off,0,_=>by simp[iY]
 |n+1,off,j+1,h=>by
  simp only[iY,List.getElem_cons_succ]
  rw[jk d l n (off+1) j]
  congr 1;omega
theorem Rel.E6 (h:Rel g m w) {b c:Nat} {k:List AV} {t:TypeId} {pq:Bool} (hb:m[b]? = some (.ob (.gr t pq) k)) (hc:g.aN b=some c) {j:Nat} (hj:j<k.length) : ∃v,w.cell? ⟨c,j,none⟩=some v∧VA g w k[j] v:=by
 obtain⟨c',ob,vs,h1,h2,h3,h4,_,_⟩:=h.obs b _ _ hb
 rw[hc] at h1;cases h1
 obtain⟨cs,e,n,rfl,_,_,q1,q2,_⟩:=h4
 have hl:=h3.len
 have Br:j<vs.length:=by omega
 have Lh:j<cs.size:=by omega
 refine⟨cs[j],by rw[aD h2,Array.getElem?_eq_getElem Lh],?_⟩
 have:=h3.get j hj Br
 have e1:vs[j]? = some cs[j]:=by
  rw[q1,List.getElem?_take,if_pos Br]
  simp[Lh]
 rw[List.getElem?_eq_getElem Br] at e1
 rwa [Option.some.inj e1] at this
theorem kE (h:Rel g m w) {a:AV} {ca:Value} (ha:VA g w a ca) {n:Nat} {l:List AV} (he:ij (fun i=>m.getD i .dead) a n=some (l,true)) (hb : ∀x∈l,x ≠ .p .bad) :
  ∃c o vs,ca = .pointer (some ⟨c,o,none⟩)∧bM g w l vs∧vs.length=n ∧ ∀j v,vs[j]? = some v→w.cell? ⟨c,o+j,none⟩=some v:=by
 have key : ∀(c o:Nat),l.length=n→(∀j (hj:j<l.length),∃v,w.cell? ⟨c,o+j,none⟩=some v∧VA g w l[j] v) →
   ∃vs,bM g w l vs∧vs.length=n ∧ ∀j v,vs[j]? = some v→w.cell? ⟨c,o+j,none⟩=some v:=by
  intro c o hl hh
  refine⟨(List.range n).map fun j=>(w.cell? ⟨c,o+j,none⟩).getD undef,aK.bV (by simp[hl]) fun i hi _=> ?_,by simp,fun j v hj=> ?_⟩
  · obtain⟨v,h1,h2⟩:=hh i hi
    simpa[h1] using h2
  · simp only[List.getElem?_map,Option.map_eq_some_iff] at hj
    obtain⟨k,hk,rfl⟩:=hj
    have hk':=List.getElem?_eq_some_iff.1 hk
    obtain⟨hlt,hk'⟩:=hk'
    simp at hlt hk'
    subst hk'
    obtain⟨v,h1,_⟩:=hh j (by omega)
    simp[h1]
 unfold ij at he
 split at he
 · rename_i off cs
   simp only[Option.some.injEq,Prod.mk.injEq,and_true] at he
   subst he
   rw[VA.pv] at ha
   cases ha with
   |pp _ _ b o f hp hv=>
    obtain⟨vs,h1,h2,h3⟩:=key b (o+off) (by simp[dn]) (fun j hj=>by
     have hj':j<(iY PV.bad cs off n).length:=by simpa using hj
     have hx:=hb _ (List.getElem_mem hj)
     simp only[List.getElem_map,jk] at hx ⊢
     rcases Nat.lt_or_ge (off+j) cs.length with hlt | hge
     · refine⟨f (off+j),by rw[Nat.add_assoc];exact(hp (off+j) hlt).2.1,?_⟩
       rw[List.getD_eq_getElem?_getD,List.getElem?_eq_getElem hlt]
       exact .p _ _ (hv (off+j) hlt)
     · exact absurd (by rw[List.getD_eq_getElem?_getD,List.getElem?_eq_none hge];rfl) hx)
    exact⟨b,o+off,vs,rfl,h1,h2,h3⟩
 · rename_i b off
   cases ha with
   |mp _ _ c hc=>
    split at he
    · rename_i k hk
      simp only[Option.some.injEq,Prod.mk.injEq,and_true] at he
      subst he
      have hm:m[b]? = some (.pc k):=getD_some hk (by simp)
      obtain⟨c',cs,e,q,h1,h2,h3,h4,h5⟩:=h.cells b _ _ hm rfl
      rw[hc] at h1;cases h1
      have h4:=h4.1
      have hlen:=h4.len
      obtain⟨vs,k1,k2,k3⟩:=key c off (by simp[dn]) (fun j hj=>by
       have hx:=hb _ (List.getElem_mem hj)
       simp only[List.getElem_map,jk] at hx ⊢
       rcases Nat.lt_or_ge (off+j) k.length with hlt | hge
       · have hlt':off+j<cs.size:=by simp at hlen;omega
         refine⟨cs[off+j],by rw[aD h2,Array.getElem?_eq_getElem hlt'],?_⟩
         rw[List.getD_eq_getElem?_getD,List.getElem?_eq_getElem hlt]
         have:=h4.get (off+j) (by simpa using hlt) (by simpa using hlt')
         simpa using this
       · exact absurd (by rw[List.getD_eq_getElem?_getD,List.getElem?_eq_none hge];rfl) hx)
      exact⟨c,off,vs,rfl,k1,k2,k3⟩
    · rename_i k hk
      simp only[Option.some.injEq,Prod.mk.injEq] at he
      obtain⟨rfl,hle⟩:=he
      have hle':=Nat.le_of_ble_eq_true hle
      have hm:m[b]? = some (.ac k):=getD_some hk (by simp)
      obtain⟨c',cs,e,q,h1,h2,h3,h4,h5⟩:=h.cells b _ _ hm rfl
      rw[hc] at h1;cases h1
      have h4:=h4.1
      have hlen:=h4.len
      obtain⟨vs,k1,k2,k3⟩:=key c off (by simp[dn]) (fun j hj=>by
       simp only[dn] at hj
       simp only[jk]
       have hlt:off+j<k.length:=by omega
       have hlt':off+j<cs.size:=by simp at hlen;omega
       refine⟨cs[off+j],by rw[aD h2,Array.getElem?_eq_getElem hlt'],?_⟩
       rw[List.getD_eq_getElem?_getD,List.getElem?_eq_getElem hlt]
       have:=h4.get (off+j) hlt (by simpa using hlt')
       simpa using this)
      exact⟨c,off,vs,rfl,k1,k2,k3⟩
    · rename_i k hk
      simp only[Option.some.injEq,Prod.mk.injEq] at he
      obtain⟨rfl,hle⟩:=he
      have hle':=Nat.le_of_ble_eq_true hle
      obtain⟨vs,k1,k2,k3⟩:=key c off (by simp[dn]) (fun j hj=>by
       simp only[dn] at hj
       simp only[jk]
       have hlt:off+j<k.length:=by omega
       obtain⟨v,q1,q2⟩:=h.E6 (getD_some hk (by simp)) hc hlt
       refine⟨v,q1,?_⟩
       rw[List.getD_eq_getElem?_getD,List.getElem?_eq_getElem hlt]
       exact q2)
      exact⟨c,off,vs,rfl,k1,k2,k3⟩
    · cases he
 · cases he
theorem bw (c o j:Nat):(⟨c,o,none⟩:Addr).add j=⟨c,o+j,none⟩:=by unfold Addr.add;split<;>simp_all
theorem lW (h:Rel g m w) {a:AV} {ca:Value} (ha:VA g w a ca) {t:TypeId} {v:AV} (he:gN P (fun i=>m.getD i .dead) t a=some (v,true)) :
  ∃c o cv,ca = .pointer (some ⟨c,o,none⟩)∧(loadVar t ⟨c,o,none⟩).run P w = .ok cv w∧VA g w v cv:=by
 unfold gN at he
 split at he
 · rename_i n hag hsz
   simp only[Option.map_eq_some_iff,Prod.mk.injEq,Bool.and_eq_true] at he
   obtain⟨⟨l,ok⟩,h1,rfl,hok,h2⟩:=he
   simp only at hok h2
   subst hok
   obtain⟨e1,e2⟩:=vN h2
   obtain⟨c,o,vs,rfl,k1,k2,k3⟩:=kE h ha h1 e2
   refine⟨c,o,.agg vs.toArray,rfl,?_,?_⟩
   · have:=run_loadCells_list (P:=P) w ⟨c,o,none⟩ vs (fun j v hj=>by rw[bw];exact k3 j v hj)
     simp only[loadVar,Sem.run_bind,iB hag,Result.andThen_ok,if_true,az hsz,←k2,this,Sem.run_pure]
   · simp only[e1];exact VA.uk.2 (by simpa using k1)
 · rename_i n hag hsz
   split at he
   · rename_i x ok hx
     simp only[Option.some.injEq,Prod.mk.injEq,Bool.and_eq_true] at he
     obtain⟨rfl,hok,h2⟩:=he
     subst hok
     obtain⟨e1,e2⟩:=pI h2
     obtain⟨c,o,vs,rfl,k1,k2,k3⟩:=kE h ha hx (fun y hy=>by simp at hy;subst hy;exact e2)
     cases vs with
     |nil=>exact k1.elim
     |cons u us=>
      have:=k3 0 u rfl
      simp only[Nat.add_zero] at this
      exact⟨c,o,u,rfl,by simp[loadVar,iB hag,this],by rw[e1];exact k1.1⟩
   · cases he
 · cases he
end ops
end Go.Am
end
section
namespace Go.Am
open Go.RowKit
section ops
variable {P:Program} {g:Gh} {m:Mem} {w:World} {ρ:Operand→AV} {aV:Operand→Value} {o:Oper}
theorem kF {x a:AV} {cx:Value} {n:Nat} (h:ir x n=some a) (hx:VA g w x cx) :
  ∃c o,cx = .pointer (some ⟨c,o,none⟩)∧VA g w a (.pointer (some ⟨c,o+n,none⟩)):=by
 cases hx with
 |p v cv hv=>
  cases hv with
  |pp off cells b o f hp hv=>
   simp only[ir,Option.some.injEq] at h;subst h
   exact⟨b,o+off,rfl,.p _ _ (by rw[Nat.add_assoc];exact .pp (off+n) cells b o f hp hv)⟩
  |_=>simp[ir] at h
 |mp b off c hc=>
  simp only[ir,Option.some.injEq] at h;subst h
  exact⟨c,off,rfl,.mp b (off+n) c hc⟩
 |_=>simp[ir] at h
theorem pJ {c o:Nat} {f:Field} {n:Nat} (h:dg P f.type=some n) (hn:n≠0) :
  (fieldPlace ⟨c,o,none⟩ f).run P w = .ok ⟨c,o+f.offset,none⟩ w:=by
 simp[fieldPlace,az h,hn,bw]
theorem lX {t:TypeId} {x a:AV} {cx:Value} {f:Nat} (h:gy P t x f=some a) (hx:VA g w x cx) :
  ∃v,(Instr.fieldAt t cx f).run P w = .ok v w∧VA g w a v:=by
 unfold gy at h
 split at h
 · rename_i fields hu
   split at h
   · rename_i fd hf
     split at h
     · rename_i n hn
       cases hb:Nat.ble 1 n with
       |false=>simp[hb] at h
       |true=>
        simp only[hb,cond_true] at h
        have h1:=Nat.le_of_ble_eq_true hb
        obtain⟨c,o,rfl,ha⟩:=kF h hx
        refine⟨_,?_,ha⟩
        simp[Instr.fieldAt,run_underlying hu,hf,Instr.sureAddr,pJ hn (by omega:n≠0)]
     · cases h
   · cases h
 · cases h
theorem j5 {i:Int} {n:Nat}:ep i n=true↔0≤i∧i<n:=by simp[ep]
theorem lY {t:TypeId} {x i a:AV} {cx ci:Value} (h:gz P t x i=some (a,true)) (hx:VA g w x cx) (hi:VA g w i ci) :
  ∃v,(Instr.indexAt t cx ci).run P w = .ok v w∧VA g w a v:=by
 unfold gz at h
 split at h
 · rename_i k n len elem hu
   rw[VA.pv] at hi;cases hi
   split at h
   · rename_i size hsz
     simp only[Option.map_eq_some_iff,Prod.mk.injEq] at h
     obtain⟨a',h1,rfl,h2⟩:=h
     obtain⟨c,o,rfl,ha⟩:=kF h1 hx
     rw[j5] at h2
     refine⟨_,?_,ha⟩
     simp[Instr.indexAt,asIntOf,run_underlying hu,Instr.sureAddr,h2,az hsz,bw]
   · cases h
 · rename_i k n elem hu
   rw[VA.pv] at hi;cases hi
   split at h
   · rename_i size len sz cs hsz
     simp only[Option.some.injEq,Prod.mk.injEq,Bool.and_eq_true] at h
     obtain⟨rfl,h2,_⟩:=h
     rw[j5] at h2
     rw[VA.pv] at hx
     cases hx with
     |ps _ _ _ b o cap f hl hc hz hp hv=>
      refine⟨_,?_,.p _ _ (.pp (n.toNat*size) cs b o f hp hv)⟩
      simp[Instr.indexAt,asIntOf,run_underlying hu,h2,az hsz,bw]
     |lT sz a cap=>simp at h2;omega
   · rename_i size tok len sz cs hsz
     simp only[Option.some.injEq,Prod.mk.injEq,Bool.and_eq_true] at h
     obtain⟨rfl,h2,_⟩:=h
     rw[j5] at h2
     cases hx with
     |os _ _ _ _ ad cap hx hr=>
      cases hx with
      |ps _ _ _ b o cap f hl hc hz hp hv=>
       refine⟨_,?_,.p _ _ (.pp (n.toNat*size) cs b o f hp hv)⟩
       simp[Instr.indexAt,asIntOf,run_underlying hu,h2,az hsz,bw]
      |lT sz a cap=>simp at h2;omega
   · rename_i size b off len sz cap hsz
     simp only[Option.some.injEq,Prod.mk.injEq,Bool.and_eq_true] at h
     obtain⟨rfl,h2,_⟩:=h
     rw[j5] at h2
     cases hx with
     |ms _ _ _ _ cap c hb hc=>
      refine⟨_,?_,.mp b _ c hb⟩
      simp[Instr.indexAt,asIntOf,run_underlying hu,h2,az hsz,bw]
     |mg _ _ _ _ cap c hb hc=>
      refine⟨_,?_,.mp b _ c hb⟩
      simp[Instr.indexAt,asIntOf,run_underlying hu,h2,az hsz,bw]
   · cases h
 · cases h
theorem sH {α:Type} (d:α) : ∀(n:Nat) (l:List α) (off:Nat),off+n≤l.length→iY d l off n=(l.drop off).take n
 |0,_,_,_=>by simp[iY]
 |n+1,l,off,h=>by
  have hlt:off<l.length:=by omega
  rw[iY,sH d n l (off+1) (by omega),List.drop_eq_getElem_cons hlt,List.take_succ_cons,List.getD_eq_getElem?_getD,List.getElem?_eq_getElem hlt]
  rfl
theorem lZ {t:TypeId} {cs:List AV} {ca:Array Value} {off:Nat} {a:AV} (h:partOf P t cs off=some (a,true)) (hc:bM g w cs ca.toList) :
  ∃v,(part t ca off).run P w = .ok v w∧VA g w a v:=by
 have hlen:=hc.len
 unfold partOf at h
 split at h
 · rename_i n hag hsz
   simp only[Option.some.injEq,Prod.mk.injEq] at h
   obtain⟨rfl,h2⟩:=h
   have h2:=Nat.le_of_ble_eq_true h2
   refine⟨_,by simp[part,iB hag,az hsz];rfl,VA.uk.2 ?_⟩
   rw[sH _ _ _ _ h2]
   have:=(hc.drop off).take n
   simpa[List.drop_take] using this
 · rename_i n hag hsz
   simp only[Option.some.injEq,Prod.mk.injEq] at h
   obtain⟨rfl,h2⟩:=h
   have h2:off<cs.length:=by simpa[Nat.blt_eq] using h2
   have h3:off<ca.size:=by simp at hlen;omega
   refine⟨ca[off],by simp[part,iB hag,Array.getElem?_eq_getElem h3],?_⟩
   rw[List.getD_eq_getElem?_getD,List.getElem?_eq_getElem h2]
   exact hc.get off h2 (by simpa using h3)
 · cases h
theorem rH {t:TypeId} {x a:AV} {cx:Value} {f:Nat} (h:oC P t x f=some (a,true)) (hx:VA g w x cx) :
  ∃v,(Instr.field t cx f).run P w = .ok v w∧VA g w a v:=by
 unfold oC at h
 split at h
 · rename_i fields cs hu
   split at h
   · rename_i fd hf
     cases hx with
     |agg _ ca hl hh=>
      obtain⟨v,h1,h2⟩:=lZ h (VA.uk.1 (.agg cs ca hl hh))
      exact⟨v,by simp[Instr.field,run_underlying hu,hf,asAgg,h1],h2⟩
   · cases h
 · cases h
theorem pK (s:ByteArray) (i:Nat):s[i]? = s.data.toList[i]? :=by
 rcases Nat.lt_or_ge i s.size with h | h
 · have h2:i<s.data.toList.length:=by rw[Array.length_toList];exact h
   rw[getElem?_pos s i h,List.getElem?_eq_getElem h2]
   rfl
 · have h2:s.data.toList.length≤i:=by rw[Array.length_toList];exact h
   rw[getElem?_neg s i (Nat.not_lt.2 h),List.getElem?_eq_none h2]
theorem rI {t:TypeId} {x i a:AV} {cx ci:Value} (h:oD P t x i=some (a,true)) (hx:VA g w x cx) (hi:VA g w i ci) :
  ∃v,(Instr.index t cx ci).run P w = .ok v w∧VA g w a v:=by
 unfold oD at h
 split at h
 · rename_i cs k n
   rw[VA.pv] at hi;cases hi
   split at h
   · rename_i len elem hu
     split at h
     · rename_i size v ok hsz hp
       simp only[Option.some.injEq,Prod.mk.injEq,Bool.and_eq_true] at h
       obtain⟨rfl,h1,rfl⟩:=h
       rw[j5] at h1
       cases hx with
       |agg _ ca hl hh=>
        simp only[hsz,Option.getD_some] at hp
        obtain⟨v,h2,h3⟩:=lZ hp (VA.uk.1 (.agg cs ca hl hh))
        refine⟨v,?_,h3⟩
        simp[Instr.index,asIntOf,run_underlying hu,h1,az hsz,h2]
     · cases h
   · cases h
 · rename_i s k n
   rw[VA.pv] at hi hx;cases hi;cases hx
   split at h
   · rename_i hu
     simp only[Option.some.injEq,Prod.mk.injEq] at h
     obtain⟨rfl,h1⟩:=h
     rw[j5] at h1
     have hlt:n.toNat<s.data.toList.length:=by omega
     refine⟨_,?_,.p _ _ (.sc _)⟩
     simp only[Instr.index,asIntOf,run_underlying hu,Sem.run_bind,Sem.run_pure,Result.andThen_ok,h1.1,if_true,pK,List.getElem?_eq_getElem hlt,List.getD_eq_getElem?_getD,Option.getD_some]
   · cases h
 · cases h
theorem fu (hr : ∀x,VA g w (ρ x) (aV x)) {x:Option Operand} {d n:Nat} (h:bound ρ x d=some (n,true)) :
  (x=none∧n=d)∨(∃y k i,x=some y∧aV y = .int k i∧0≤i∧n=i.toNat):=by
 unfold bound at h
 split at h
 · simp only[Option.some.injEq,Prod.mk.injEq,and_true] at h;exact .inl ⟨rfl,h.symm⟩
 · rename_i y
   split at h
   · rename_i k i he
     simp only[Option.some.injEq,Prod.mk.injEq,decide_eq_true_eq] at h
     have:=hr y
     rw[he,VA.pv] at this
     refine .inr ⟨y,k,i,rfl,?_,h.2,h.1.symm⟩
     generalize aV y=cv at this
     cases this;rfl
   · cases h
theorem run_sliceBound {k:IntKind} {i:Int} {y:Nat} {code:BoundsCode} (h0:0≤i) (h1:i.toNat≤y):(Instr.sliceBound (.int k i) y code).run P w = .ok i.toNat w:=by
 have:i≤y:=by omega
 simp[Instr.sliceBound,asIntOf,h0,this]
theorem aS (hr : ∀x,VA g w (ρ x) (aV x)) {Ho:Bool} {len cap l h:Nat} {low high:Option Operand}
  (hl:bound ρ low 0=some (l,true)) (hh:bound ρ high len=some (h,true)) (h1:l≤h) (h2:h≤cap) :
  (Instr.sliceBounds Ho len cap (low.map aV) (high.map aV) none).run P w = .ok (l,h,cap) w:=by
 rcases fu hr hl with⟨rfl,rfl⟩ | ⟨y,k,i,rfl,hy,hi,rfl⟩<;>rcases fu hr hh with⟨rfl,rfl⟩ | ⟨y',k',i',rfl,hy',hi',rfl⟩
 · simp[Instr.sliceBounds]
 · simp[Instr.sliceBounds,hy',run_sliceBound hi' h2]
 · simp[Instr.sliceBounds,hy,run_sliceBound hi h1]
 · simp[Instr.sliceBounds,hy,hy',run_sliceBound hi h1,run_sliceBound hi' h2]
theorem fy (hr : ∀x,VA g w (ρ x) (aV x)) {Ho:Bool} {len cap l h:Nat} {low:Option Operand} {hx mx:Operand}
  (hl:bound ρ low 0=some (l,true)) (hh:bound ρ (some hx) len=some (h,true)) (hm:bound ρ (some mx) 0=some (h,true)) (h1:l≤h) (h2:h≤cap) :
  (Instr.sliceBounds Ho len cap (low.map aV) (some (aV hx)) (some (aV mx))).run P w = .ok (l,h,h) w:=by
 rcases fu hr hh with⟨e,_⟩ | ⟨y',k',i',e,hy',hi',rfl⟩
 · cases e
 cases e
 rcases fu hr hm with⟨e,_⟩ | ⟨y2,k2,i2,e,HD,hi2,e2⟩
 · cases e
 cases e
 rw[e2] at h2
 rcases fu hr hl with⟨rfl,rfl⟩ | ⟨y,k,i,rfl,hy,hi,rfl⟩
 · simp only[Instr.sliceBounds,Sem.run_bind,hy',HD,run_sliceBound hi2 h2,Result.andThen_ok,Option.map_none,Sem.run_pure]
   rw[run_sliceBound hi' (by omega)];simp[e2]
 · simp only[Instr.sliceBounds,Sem.run_bind,hy,hy',HD,run_sliceBound hi2 h2,Result.andThen_ok,Option.map_some]
   rw[run_sliceBound hi' (by omega)]
   simp only[Result.andThen_ok]
   rw[run_sliceBound hi (by omega)];simp[e2]
theorem kA (hr : ∀x,VA g w (ρ x) (aV x)) {Ho:Bool} {len cap l h m':Nat} {low:Option Operand} {hx mx:Operand}
  (hl:bound ρ low 0=some (l,true)) (hh:bound ρ (some hx) len=some (h,true)) (hm:bound ρ (some mx) 0=some (m',true)) (h1:l≤h) (h2:h≤m') (h3:m'≤cap) :
  (Instr.sliceBounds Ho len cap (low.map aV) (some (aV hx)) (some (aV mx))).run P w = .ok (l,h,m') w:=by
 rcases fu hr hh with⟨e,_⟩ | ⟨y',k',i',e,hy',hi',rfl⟩
 · cases e
 cases e
 rcases fu hr hm with⟨e,_⟩ | ⟨y2,k2,i2,e,HD,hi2,rfl⟩
 · cases e
 cases e
 rcases fu hr hl with⟨rfl,rfl⟩ | ⟨y,k,i,rfl,hy,hi,rfl⟩
 · simp only[Instr.sliceBounds,Sem.run_bind,hy',HD,run_sliceBound hi2 h3,Result.andThen_ok,Option.map_none,Sem.run_pure]
   rw[run_sliceBound hi' h2];simp
 · simp only[Instr.sliceBounds,Sem.run_bind,hy,hy',HD,run_sliceBound hi2 h3,Result.andThen_ok,Option.map_some]
   rw[run_sliceBound hi' h2]
   simp only[Result.andThen_ok]
   rw[run_sliceBound hi h1];simp
theorem jl {α:Type} (cs:List α) {len l h size:Nat} {low high:Option Operand} (hl:cs.length=len*size) (h1:l≤h) (h2:h≤len) (e1:low=none→l=0) (e2:high=none→h=len) :
  cut cs (times low l size) (times high h size)=(cs.drop (l*size)).take ((h-l)*size):=by
 have Jw:(h-l)*size=h*size-l*size:=Nat.sub_mul _ _ _
 have LS:h*size≤len*size:=Nat.mul_le_mul_right _ h2
 have Dv:l*size≤h*size:=Nat.mul_le_mul_right _ h1
 unfold cut times
 cases low with
 |none=>
  have:=e1 rfl;subst this
  cases high with
  |none=>have:=e2 rfl;subst this;simp[hl,List.take_of_length_le]
  |some _=>simp
 |some _=>
  cases high with
  |none=>
   have:=e2 rfl;subst this
   simp only[Option.map_some,Option.map_none]
   rw[List.take_of_length_le]
   simp[hl,Jw]
  |some _=>simp only[Option.map_some];rw[List.drop_take,Jw]
theorem j6 {len sz:Nat} {cs:List PV} {a:Option Addr} {cap l h m':Nat} (hx:VP g w (.ps len sz cs) (.slice a len cap)) (h1:l≤h) (h2:h≤len) (h3:h≤m') (h4:m'≤cap) :
  VP g w (.ps (h-l) sz ((cs.drop (l*sz)).take ((h-l)*sz))) (.slice (if m'=l then a else a.map (·.add (l*sz))) (h-l) (m'-l)):=by
 cases hx with
 |ps _ _ _ b o cap f hl hc hz hp hv=>
  have Jw:(h-l)*sz=h*sz-l*sz:=Nat.sub_mul _ _ _
  have LS:h*sz≤len*sz:=Nat.mul_le_mul_right _ h2
  have Dv:l*sz≤h*sz:=Nat.mul_le_mul_right _ h1
  by_cases e:m'=l
  · have:h-l=0:=by omega
    simp only[this,Nat.zero_mul,List.take_zero]
    exact .lT _ _ _ (.inl hz)
  · simp only[if_neg e,Option.map_some,bw]
    refine .ps _ _ _ b (o+l*sz) _ (fun k=>f (l*sz+k)) (by simp[hl,Jw];omega) (by omega) hz (fun k hk=> ?_) (fun k hk=> ?_)
    · simp only[List.length_take,List.length_drop,hl] at hk
      have:=hp (l*sz+k) (by omega)
      rw[Nat.add_assoc];exact this
    · simp only[List.length_take,List.length_drop,hl] at hk
      have:=hv (l*sz+k) (by omega)
      simpa using this
 |lT sz a cap hz=>
  have:h-l=0:=by omega
  simp only[this,List.drop_nil,List.take_nil]
  exact .lT _ _ _ (hz.imp id fun⟨e,e2⟩=>by subst e;subst e2;exact⟨by split<;>rfl,by omega⟩)
theorem gG {len sz size:Nat} {cs:List PV} {a:Option Addr} {cap:Nat} (hx:VP g w (.ps len sz cs) (.slice a len cap)) (h:(Nat.beq sz size||(Nat.beq len 0&&Nat.ble 1 size))=true):VP g w (.ps len size cs) (.slice a len cap):=by
 simp only[Bool.or_eq_true,Bool.and_eq_true,Nat.beq_eq] at h
 rcases h with rfl | ⟨rfl,h1⟩
 · exact hx
 · have h1:=Nat.le_of_ble_eq_true h1
   cases hx with
   |ps _ _ _ b o cap f hl hc hz hp hv=>
    simp at hl;subst hl
    exact .lT _ _ _ (.inl h1)
   |lT=>exact .lT _ _ _ (.inl h1)
theorem iC {len sz:Nat} {cs:List PV} {cv:Value} (hx:VP g w (.ps len sz cs) cv):cs.length=len*sz ∧ ∃a cap,cv = .slice a len cap∧(len≤cap):=by
 cases hx with
 |ps _ _ _ b o cap f hl hc hz hp hv=>exact⟨hl,_,_,rfl,hc⟩
 |lT=>exact⟨by simp,_,_,rfl,Nat.zero_le _⟩
end ops
end Go.Am
end
section
namespace Go.Am
open Go.RowKit
theorem ef {ρ:Operand→AV} {d n:Nat} {b:Bool} (h:bound ρ none d=some (n,b)):n=d:=by
 simp only[bound,Option.some.injEq,Prod.mk.injEq] at h;exact h.1.symm
section ops
variable {P:Program} {g:Gh} {m:Mem} {w:World} {ρ:Operand→AV} {aV:Operand→Value} {o:Oper}
theorem rJ (hr : ∀x,VA g w (ρ x) (aV x)) {t:TypeId} {x a:AV} {cx:Value} {low high mx:Option Operand} (h:jX P ρ t x low high mx=some (a,true)) (hx:VA g w x cx) :
  ∃v,(Instr.sliceAt t cx (low.map aV) (high.map aV) (mx.map aV)).run P w = .ok v w∧VA g w a v:=by
 unfold jX at h
 split at h
 · rename_i n elem hu
   split at h
   · rename_i size l a' h' b' i off hsz hl hh
     simp only[Option.some.injEq,Prod.mk.injEq,Bool.and_eq_true] at h
     obtain⟨rfl,⟨⟨rfl,rfl⟩,h1⟩,h2⟩:=h
     have h1:=Nat.le_of_ble_eq_true h1
     have h2:=Nat.le_of_ble_eq_true h2
     cases hx with
     |mp _ _ c hc=>
      have e:(if n=l then(⟨c,off,none⟩:Addr) else(⟨c,off,none⟩:Addr).add (l*size))=⟨c,cond (Nat.beq n l) off (off+l*size),none⟩:=by
       by_cases e:n=l
       · simp[e]
       · have:Nat.beq n l=false:=by rw[Bool.eq_false_iff];intro k;exact e (Nat.eq_of_beq_eq_true k)
         simp[e,this,bw]
      refine⟨_,?_,.ms i (cond (Nat.beq n l) off (off+l*size)) (h'-l) size (n-l) c hc (by omega)⟩
      simp only[Instr.sliceAt,Sem.run_bind,run_underlying hu,Result.andThen_ok,Instr.sureAddr,Option.map_none,aS hr hl hh h1 h2,az hsz,Sem.run_pure,e]
   · cases h
 · rename_i elem hu
   split at h
   · rename_i size l a' len sz cs hsz hl
     rw[VA.pv] at hx
     obtain⟨hlen,ad,cap,rfl,hcap⟩:=iC hx
     split at h
     · rename_i h' b' hh
       simp only[Option.some.injEq,Prod.mk.injEq,Bool.and_eq_true,Nat.beq_eq] at h
       obtain⟨rfl,⟨⟨⟨rfl,rfl⟩,h1⟩,h2⟩,rfl⟩:=h
       have h1:=Nat.le_of_ble_eq_true h1
       have h2:=Nat.le_of_ble_eq_true h2
       refine⟨_,?_,.p _ _ (by rw[jl cs hlen h1 h2 (fun e:low=none=>ef (e▸hl)) (fun e=>ef (e▸hh))];exact j6 hx h1 h2 (Nat.le_trans h2 hcap) (Nat.le_refl _))⟩
       simp only[Instr.sliceAt,Instr.slice,Sem.run_bind,run_underlying hu,Result.andThen_ok,Option.map_none,aS hr hl hh h1 (Nat.le_trans h2 hcap),az hsz,Sem.run_pure]
     · rename_i h' b' mo hh
       split at h
       · rename_i m' c' hm
         simp only[Option.some.injEq,Prod.mk.injEq,Bool.and_eq_true,Nat.beq_eq] at h
         obtain⟨rfl,⟨⟨⟨⟨⟨rfl,rfl⟩,rfl⟩,h1⟩,h2⟩,rfl⟩,h3,rfl⟩:=h
         have h1:=Nat.le_of_ble_eq_true h1
         have h2:=Nat.le_of_ble_eq_true h2
         obtain⟨hx',rfl⟩:=Option.isSome_iff_exists.1 h3
         have hv:=j6 (m':=m') hx h1 h2 (Nat.le_refl _) (Nat.le_trans h2 hcap)
         refine⟨_,?_,.os none (m'-l) sz _ _ _ (by rw[jl cs hlen h1 h2 (fun e:low=none=>ef (e▸hl)) (fun e=>by cases e)];exact hv) (.inl rfl)⟩
         simp only[Instr.sliceAt,Instr.slice,Sem.run_bind,run_underlying hu,Result.andThen_ok,Option.map_some,fy hr hl hh hm h1 (Nat.le_trans h2 hcap),az hsz,Sem.run_pure]
       · cases h
     · cases h
   · rename_i size l a' tok len sz cs hsz hl
     cases hx with
     |os _ _ _ _ ad cap hx vO=>
     obtain⟨hlen,M1,cap',he,hcap⟩:=iC hx
     cases he
     split at h
     · rename_i h' b' hh
       split at h
       · simp only[Option.some.injEq,Prod.mk.injEq,Bool.and_eq_true] at h
         obtain⟨rfl,⟨⟨rfl,rfl⟩,h1⟩,h3⟩:=h
         have h1:=Nat.le_of_ble_eq_true h1
         have:=ef hh;subst this
         have hsz':(Nat.beq sz size||(Nat.beq h' 0&&Nat.ble 1 size))=true:=by
          rw[Bool.or_eq_true] at h3 ⊢
          refine h3.imp id fun k=> ?_
          simp only[Bool.and_eq_true] at k ⊢
          exact⟨k.1,k.2.1⟩
         have hx':=gG hx hsz'
         have hlen':=(iC hx').1
         have hv:=j6 (m':=cap) hx' h1 (Nat.le_refl _) hcap (Nat.le_refl _)
         have hc:=jl (low:=low) (high:=none) cs hlen' h1 (Nat.le_refl _) (fun e:low=none=>ef (e▸hl)) (fun _=>rfl)
         simp only[times,Option.map_none] at hc
         refine⟨_,?_,.os tok (h'-l) size _ _ _ (by simp only[times];rw[hc];exact hv) ?_⟩
         · have hb:=aS (P:=P) (Ho:=true) hr hl hh h1 hcap
           simp only[Option.map_none] at hb
           simp only[Instr.sliceAt,Instr.slice,Sem.run_bind,run_underlying hu,Result.andThen_ok,Option.map_none,hb,az hsz,Sem.run_pure]
         · rcases vO with rfl | ⟨t,b,o',rfl,rfl,q1,q2,q3,q4⟩
           · exact .inl rfl
           · have:sz=size:=by simpa[Nat.beq_eq] using h3
             subst this
             by_cases e:cap=l
             · exact .inl (by omega)
             · refine .inr ⟨t,b,o'+l*sz,rfl,by simp[e,bw],q1,?_,?_,by omega⟩
               · rw[q2,Nat.sub_mul];have:=Nat.mul_le_mul_right sz h1;omega
               · rw[q3,Nat.sub_mul];have:=Nat.mul_le_mul_right sz (Nat.le_trans h1 hcap);omega
       · rename_i hy
         have HE : ∀{sz:Nat},VP g w (.ps len sz cs) (.slice ad len cap)→cs.length=len*size→l≤h'→h'≤len→cut cs (times low l size) (some (h'*size))=(cs.drop (l*size)).take ((h'-l)*size):=fun _ hlen' h1 h2=>by
          have hc:=jl (low:=low) (high:=some hy) cs hlen' h1 h2 (fun e:low=none=>ef (e▸hl)) (fun e=>by cases e)
          simpa only[times,Option.map_some] using hc
         split at h
         · rename_i heq
           simp only[Option.some.injEq,Prod.mk.injEq,Bool.and_eq_true] at h
           obtain⟨rfl,⟨⟨⟨rfl,rfl⟩,h1⟩,h2⟩,h3⟩:=h
           have heq:=Nat.eq_of_beq_eq_true heq
           have h1:=Nat.le_of_ble_eq_true h1
           have h2:=Nat.le_of_ble_eq_true h2
           have Li:cap=len:=by
            rcases vO with e | ⟨t,b,o',e,_⟩
            · exact e
            · cases e
           have hx':=gG hx h3
           have hlen':=(iC hx').1
           have hv:=j6 (m':=cap) hx' h1 h2 (Nat.le_trans h2 hcap) (Nat.le_refl _)
           refine⟨_,?_,.os none (h'-l) size _ _ _ (by rw[HE hx hlen' h1 h2];exact hv) (.inl (by omega))⟩
           simp only[Instr.sliceAt,Instr.slice,Sem.run_bind,run_underlying hu,Result.andThen_ok,Option.map_none,aS hr hl hh h1 (Nat.le_trans h2 hcap),az hsz,Sem.run_pure]
         · simp only[Option.some.injEq,Prod.mk.injEq,Bool.and_eq_true] at h
           obtain⟨rfl,⟨⟨⟨rfl,rfl⟩,h1⟩,h2⟩,h3⟩:=h
           have h1:=Nat.le_of_ble_eq_true h1
           have h2:=Nat.le_of_ble_eq_true h2
           have hx':=gG hx h3
           have hlen':=(iC hx').1
           refine⟨_,?_,.p _ _ (by rw[HE hx hlen' h1 h2];exact j6 hx' h1 h2 (Nat.le_trans h2 hcap) (Nat.le_refl _))⟩
           simp only[Instr.sliceAt,Instr.slice,Sem.run_bind,run_underlying hu,Result.andThen_ok,Option.map_none,aS hr hl hh h1 (Nat.le_trans h2 hcap),az hsz,Sem.run_pure]
     · rename_i h' b' mo hh
       split at h
       · rename_i m' c' hm
         simp only[Option.some.injEq,Prod.mk.injEq,Bool.and_eq_true,Nat.beq_eq] at h
         obtain⟨rfl,⟨⟨⟨⟨⟨rfl,rfl⟩,rfl⟩,h1⟩,h2⟩,rfl⟩,h3,h4⟩:=h
         have h1:=Nat.le_of_ble_eq_true h1
         have h2:=Nat.le_of_ble_eq_true h2
         obtain⟨hx',rfl⟩:=Option.isSome_iff_exists.1 h3
         have Lj:=gG hx h4
         have hlen':=(iC Lj).1
         have hv:=j6 (m':=m') Lj h1 h2 (Nat.le_refl _) (Nat.le_trans h2 hcap)
         refine⟨_,?_,.os none (m'-l) size _ _ _ (by rw[jl cs hlen' h1 h2 (fun e:low=none=>ef (e▸hl)) (fun e=>by cases e)];exact hv) (.inl rfl)⟩
         simp only[Instr.sliceAt,Instr.slice,Sem.run_bind,run_underlying hu,Result.andThen_ok,Option.map_some,fy hr hl hh hm h1 (Nat.le_trans h2 hcap),az hsz,Sem.run_pure]
       · cases h
     · cases h
   · rename_i size l a' i off len sz hsz hl
     cases hx with
     |mg _ _ _ _ cap c hc hcap hroom=>
     split at h
     · rename_i h' b' hh
       simp only[Option.some.injEq,Prod.mk.injEq,Bool.and_eq_true,Bool.or_eq_true,Nat.beq_eq,Nat.blt_eq] at h
       obtain⟨rfl,⟨⟨⟨⟨rfl,rfl⟩,h1⟩,h2⟩,rfl⟩,h3⟩:=h
       have h1:=Nat.le_of_ble_eq_true h1
       have h2:=Nat.le_of_ble_eq_true h2
       have e:(if cap=l then some (⟨c,off,none⟩:Addr) else(some (⟨c,off,none⟩:Addr)).map (·.add (l*sz)))=some ⟨c,off+l*sz,none⟩:=by
        by_cases e:cap=l
        · have:l=0:=by omega
          simp[e,this]
        · simp[e,bw]
       refine⟨_,?_,.mg i (off+l*sz) (h'-l) sz (cap-l) c hc (by omega) ?_⟩
       · simp only[Instr.sliceAt,Instr.slice,Sem.run_bind,run_underlying hu,Result.andThen_ok,Option.map_none,aS hr hl hh h1 (Nat.le_trans h2 hcap),az hsz,Sem.run_pure,e]
       · rw[Nat.sub_mul]
         have:=Nat.mul_le_mul_right sz (Nat.le_trans (Nat.le_trans h1 h2) hcap)
         omega
     · rename_i h' b' mo hh
       split at h
       · rename_i m' c' hm
         simp only[Option.some.injEq,Prod.mk.injEq,Bool.and_eq_true,Nat.beq_eq] at h
         obtain⟨rfl,⟨⟨⟨⟨⟨rfl,rfl⟩,rfl⟩,h1⟩,h2⟩,h4⟩,h3,rfl⟩:=h
         have h1:=Nat.le_of_ble_eq_true h1
         have h2:=Nat.le_of_ble_eq_true h2
         have h4:=Nat.le_of_ble_eq_true h4
         obtain⟨hx',rfl⟩:=Option.isSome_iff_exists.1 h3
         have e:(if m'=l then some (⟨c,off,none⟩:Addr) else some ((⟨c,off,none⟩:Addr).add (l*sz)))=some ⟨c,cond (Nat.beq m' l) off (off+l*sz),none⟩:=by
          by_cases e:m'=l
          · simp[e]
          · have:Nat.beq m' l=false:=by rw[Bool.eq_false_iff];intro k;exact e (Nat.eq_of_beq_eq_true k)
            simp[e,this,bw]
         refine⟨_,?_,.ms i (cond (Nat.beq m' l) off (off+l*sz)) (h'-l) sz (m'-l) c hc (by omega)⟩
         simp only[Instr.sliceAt,Instr.slice,Sem.run_bind,run_underlying hu,Result.andThen_ok,Option.map_some,kA hr hl hh hm h1 h2 (Nat.le_trans h4 hcap),az hsz,Sem.run_pure,e]
       · cases h
     · cases h
   · rename_i size l a' i off len sz cap hsz hl
     cases hx with
     |ms _ _ _ _ cap c hc hcap=>
     split at h
     · rename_i h' b' hh
       simp only[Option.some.injEq,Prod.mk.injEq,Bool.and_eq_true,Nat.beq_eq] at h
       obtain⟨rfl,⟨⟨⟨rfl,rfl⟩,h1⟩,h2⟩,rfl⟩:=h
       have h1:=Nat.le_of_ble_eq_true h1
       have h2:=Nat.le_of_ble_eq_true h2
       have e:(if cap=l then some (⟨c,off,none⟩:Addr) else(some (⟨c,off,none⟩:Addr)).map (·.add (l*sz)))=some ⟨c,cond (Nat.beq cap l) off (off+l*sz),none⟩:=by
        by_cases e:cap=l
        · simp[e]
        · have:Nat.beq cap l=false:=by rw[Bool.eq_false_iff];intro k;exact e (Nat.eq_of_beq_eq_true k)
          simp[e,this,bw]
       refine⟨_,?_,.ms i (cond (Nat.beq cap l) off (off+l*sz)) (h'-l) sz (cap-l) c hc (by omega)⟩
       simp only[Instr.sliceAt,Instr.slice,Sem.run_bind,run_underlying hu,Result.andThen_ok,Option.map_none,aS hr hl hh h1 h2,az hsz,Sem.run_pure,e]
     · cases h
   · cases h
 · rename_i hu
   split at h
   · rename_i l a' s hl
     rw[VA.pv] at hx;cases hx
     split at h
     · rename_i h' b' hh
       simp only[Option.some.injEq,Prod.mk.injEq,Bool.and_eq_true] at h
       obtain⟨rfl,⟨⟨rfl,rfl⟩,h1⟩,h2⟩:=h
       have h1:=Nat.le_of_ble_eq_true h1
       have h2:=Nat.le_of_ble_eq_true h2
       have e:s.data.toList.length=s.size:=Array.length_toList
       rw[e] at hh h2
       refine⟨_,?_,.p _ _ (.sc _)⟩
       simp only[Instr.sliceAt,Instr.slice,Sem.run_bind,run_underlying hu,Result.andThen_ok,Option.map_none,Option.isSome_none,Bool.false_eq_true,if_false,Sem.run_pure,aS hr hl hh h1 h2]
     · cases h
   · cases h
 · cases h
theorem om (op:BinOp) (t:TypeId) (x y:Operand) (k k':IntKind) (a b:Int):(eqGuard op t x y (.int k a) (.int k' b)).run P w = .ok () w:=by
 unfold eqGuard;cases op<;>rfl
theorem kX (op:BinOp) (t:TypeId) (x y:Operand) (a b:ByteArray):(eqGuard op t x y (.string a) (.string b)).run P w = .ok () w:=by
 unfold eqGuard;cases op<;>rfl
theorem ur {op:BinOp} {t:TypeId} {k k':IntKind} {a b:Int} {v:Value} (h:xI op k a k' b=some (v,true)):(binOp op t (.int k a) (.int k' b)).run P w = .ok v w:=by
 cases op<;>simp only[xI,Option.some.injEq,Prod.mk.injEq,Bool.and_eq_true,beq_iff_eq,Bool.not_eq_true',beq_eq_false_iff_ne,decide_eq_true_eq] at h
 case quo=>obtain⟨rfl,rfl,hb⟩:=h;simp[binOp,Op.intDiv,hb]
 case rem=>obtain⟨rfl,rfl,hb⟩:=h;simp[binOp,Op.intDiv,hb]
 case shl=>obtain⟨rfl,hb⟩:=h;simp[binOp,Op.shift,Int.not_lt.2 hb]
 case shr=>obtain⟨rfl,hb⟩:=h;simp[binOp,Op.shift,Int.not_lt.2 hb]
 all_goals obtain⟨rfl,rfl⟩:=h
 all_goals simp[binOp,Op.intArith,Op.intBits,Op.intCmp]
theorem uu {op:BinOp} {t:TypeId} {a b:ByteArray} {v:Value} (h:xJ op a b=some (v,true)):(binOp op t (.string a) (.string b)).run P w = .ok v w:=by
 have e : ∀s:ByteArray,s.data.toList.length=s.size:=fun s=>Array.length_toList
 cases op<;>simp only[xJ,Option.some.injEq,Prod.mk.injEq,and_true,reduceCtorEq] at h
 case add=>
  obtain⟨rfl,h⟩:=h
  have h:=Nat.le_of_ble_eq_true h
  rw[e,e] at h
  rw[binOp_string_add,run_string_add_sum w a b (by unfold aJ at h;omega)]
 all_goals (subst h;simp[binOp,Op.stringOp,ByteArray.toList_eq])
theorem eF (d:Nat) (cx cy:Array Value) : ∀(fs:List Field) (i:Nat) (xs ys:List AV) (b:Bool),eB P i fs xs ys=some b→bM g w xs (cx.toList.drop i)→bM g w ys (cy.toList.drop i) →
  (Op.eqFields (d+1) cx cy fs).run P w = .ok b w
 |[],i,xs,ys,b,h,hx,hy=>by
  cases xs<;>cases ys<;>simp only[eB,Option.some.injEq,reduceCtorEq] at h
  subst h
  simp[Op.eqFields]
 |f::fs,i,xs,ys,b,h,hx,hy=>by
  cases xs with
  |nil=>simp[eB] at h
  |cons x xs=>
   cases ys with
   |nil=>simp[eB] at h
   |cons y ys=>
    have EO : ∀(c:Array Value) (z:AV) (zs:List AV),bM g w (z::zs) (c.toList.drop i) → ∃v,c[i]? = some v∧VA g w z v∧bM g w zs (c.toList.drop (i+1)):=by
     intro c z zs hz
     cases hd:c.toList.drop i with
     |nil=>rw[hd] at hz;exact hz.elim
     |cons v vs=>
      rw[hd] at hz
      have h1:c.toList[i]? = some v:=by rw[←List.head?_drop,hd];rfl
      have h2:c.toList.drop (i+1)=vs:=by rw[←List.tail_drop,hd];rfl
      refine⟨v,by simpa using h1,hz.1,?_⟩
      rw[h2];exact hz.2
    obtain⟨vx,ex,rx,tx⟩:=EO cx x xs hx
    obtain⟨vy,ey,ry,ty⟩:=EO cy y ys hy
    simp only[eB] at h
    split at h
    · rename_i _ k a k' a' hu
      cases hc:(k==k'&&Nat.beq f.offset i&&f.name != "_" && P.plainKey f.type) with
      |false=>rw[hc] at h;cases h
      |true=>
       rw[hc] at h
       simp only[cond_true,Option.map_eq_some_iff] at h
       obtain⟨r,h1,rfl⟩:=h
       simp only[Bool.and_eq_true,beq_iff_eq,bne_iff_ne] at hc
       obtain⟨⟨⟨rfl,ho⟩,hn⟩,hp⟩:=hc
       have ho:=Nat.eq_of_beq_eq_true ho
       rw[VA.pv] at rx ry
       cases rx
       cases ry
       have ih:=eF d cx cy fs (i+1) xs ys r h1 tx ty
       simp only[Op.eqFields,if_pos hn,Sem.run_bind,ho,run_part_plain w hp ex,run_part_plain w hp ey,Result.andThen_ok,run_equalIn_int w d f.type k _ a a' hu]
       cases hab:(a==a') with
       |true=>simp[ih]
       |false=>simp
    · rename_i _ a a' hu
      cases hc:(Nat.beq f.offset i&&f.name != "_" && P.plainKey f.type) with
      |false=>rw[hc] at h;cases h
      |true=>
       rw[hc] at h
       simp only[cond_true,Option.map_eq_some_iff] at h
       obtain⟨r,h1,rfl⟩:=h
       simp only[Bool.and_eq_true,bne_iff_ne] at hc
       obtain⟨⟨ho,hn⟩,hp⟩:=hc
       have ho:=Nat.eq_of_beq_eq_true ho
       rw[VA.pv] at rx ry
       cases rx
       cases ry
       have ih:=eF d cx cy fs (i+1) xs ys r h1 tx ty
       simp only[Op.eqFields,if_pos hn,Sem.run_bind,ho,run_part_plain w hp ex,run_part_plain w hp ey,Result.andThen_ok,run_equalIn_bool' w d f.type a a' hu]
       cases hab:(a==a') with
       |true=>simp[ih]
       |false=>simp
    · rename_i _ a a' hu
      cases hc:(Nat.beq f.offset i&&f.name != "_" && P.plainKey f.type) with
      |false=>rw[hc] at h;cases h
      |true=>
       rw[hc] at h
       simp only[cond_true,Option.map_eq_some_iff] at h
       obtain⟨r,h1,rfl⟩:=h
       simp only[Bool.and_eq_true,bne_iff_ne] at hc
       obtain⟨⟨ho,hn⟩,hp⟩:=hc
       have ho:=Nat.eq_of_beq_eq_true ho
       rw[VA.pv] at rx ry
       cases rx
       cases ry
       have ih:=eF d cx cy fs (i+1) xs ys r h1 tx ty
       simp only[Op.eqFields,if_pos hn,Sem.run_bind,ho,run_part_plain w hp ex,run_part_plain w hp ey,Result.andThen_ok,run_equalIn_string w d f.type a a' hu,ByteArray.toList_eq]
       cases hab:(a.data.toList==a'.data.toList) with
       |true=>simp[ih]
       |false=>simp
    · cases h
theorem nI {t:TypeId} {x y:AV} {b:Bool} {vx vy:Value} (h:vD P t x y=some b) (hx:VA g w x vx) (hy:VA g w y vy) :
  (∀op p q,(eqGuard op t p q vx vy).run P w = .ok () w)∧(binOp .eql t vx vy).run P w = .ok (.bool b) w∧(binOp .neq t vx vy).run P w = .ok (.bool (!b)) w:=by
 unfold vD at h
 split at h
 · rename_i xs ys
   split at h
   · rename_i fs hu
     cases hc:(!P.stoodInHeld t && !P.eqGuardType P.depth t) with
     |false=>rw[hc] at h;cases h
     |true=>
      rw[hc] at h
      simp only[cond_true] at h
      simp only[Bool.and_eq_true,Bool.not_eq_true'] at hc
      cases hx with
      |agg _ cx lx hx=>
       cases hy with
       |agg _ cy ly hy=>
        have hfo:P.fieldsOf t=fs:=by unfold Program.fieldsOf;rw[hu]
        have LU:P.underlying t=some (.struct (P.fieldsOf t)):=by rw[hfo,hu]
        have key:=eF (g:=g) (w:=w) 9998 cx cy fs.toList 0 xs ys b h (by simpa using aK.bV lx hx) (by simpa using aK.bV ly hy)
        have e:(Op.equalIn 10000 t (.agg cx) (.agg cy)).run P w = .ok b w:=by
         rw[run_equalIn_agg w 9999 t cx cy LU hc.1,hfo];exact key
        refine⟨fun op p q=>run_eqGuard_agg w op t p q cx cy hc.2,?_,?_⟩
        · rw[run_eql_struct,e];rfl
        · rw[run_neq_struct,e];rfl
   · cases h
 · cases h
theorem rK (hr : ∀x,VA g w (ρ x) (aV x)) {op:BinOp} {t yt:TypeId} {x y:Operand} (ho:o.op = .binOp op t x y yt) {a:AV} (h:lM P ρ o op (ρ x) (ρ y)=some (a,true)) :
  ∃v,(execOp aV o).run P w = .ok (.value v) w∧VA g w a v:=by
 unfold lM at h
 split at h
 · rename_i k a' k' b' hx hy
   simp only[Option.map_eq_some_iff,Prod.mk.injEq] at h
   obtain⟨⟨v,ok⟩,h1,rfl,h2⟩:=h
   simp only at h2;subst h2
   have cx:aV x = .int k a':=by have:=hr x;rw[hx,VA.pv] at this;generalize aV x=z at this;cases this;rfl
   have cy:aV y = .int k' b':=by have:=hr y;rw[hy,VA.pv] at this;generalize aV y=z at this;cases this;rfl
   exact⟨v,by simp only[execOp,ho,cx,cy,Sem.run_bind,om,Result.andThen_ok,ur h1,Sem.run_pure],.p _ _ (.sc v)⟩
 · rename_i a' b' hx hy
   simp only[Option.map_eq_some_iff,Prod.mk.injEq] at h
   obtain⟨⟨v,ok⟩,h1,rfl,h2⟩:=h
   simp only at h2;subst h2
   have cx:aV x = .string a':=by have:=hr x;rw[hx,VA.pv] at this;generalize aV x=z at this;cases this;rfl
   have cy:aV y = .string b':=by have:=hr y;rw[hy,VA.pv] at this;generalize aV y=z at this;cases this;rfl
   exact⟨v,by simp only[execOp,ho,cx,cy,Sem.run_bind,kX,Result.andThen_ok,uu h1,Sem.run_pure],.p _ _ (.sc v)⟩
 · have hs : ∀cs b,o.op ≠ .select cs b:=fun _ _=>by rw[ho];exact fun e=>by cases e
   split at h
   · split at h
     · rename_i b hb
       simp only[Option.some.injEq,Prod.mk.injEq,and_true] at h
       subst h
       have hb:vD P t (ρ x) (ρ y)=some b:=by unfold yS at hb;rw[ho] at hb;exact hb
       obtain⟨k1,k2,k3⟩:=nI hb (hr x) (hr y)
       exact⟨_,by simp only[execOp,ho,Sem.run_bind,k1,Result.andThen_ok,k2,Sem.run_pure],.p _ _ (.sc _)⟩
     cases hc:(gA (ρ x)&&gB (ρ y)||gB (ρ x)&&gA (ρ y)) with
     |true=>simp[hc] at h
     |false=>
      simp only[hc,cond_false,Option.map_eq_some_iff,Prod.mk.injEq,and_true] at h
      obtain⟨v,h1,rfl⟩:=h
      exact cQ hr hs h1
   · split at h
     · rename_i b hb
       simp only[Option.some.injEq,Prod.mk.injEq,and_true] at h
       subst h
       have hb:vD P t (ρ x) (ρ y)=some b:=by unfold yS at hb;rw[ho] at hb;exact hb
       obtain⟨k1,k2,k3⟩:=nI hb (hr x) (hr y)
       exact⟨_,by simp only[execOp,ho,Sem.run_bind,k1,Result.andThen_ok,k3,Sem.run_pure],.p _ _ (.sc _)⟩
     cases hc:(gA (ρ x)&&gB (ρ y)||gB (ρ x)&&gA (ρ y)) with
     |true=>simp[hc] at h
     |false=>
      simp only[hc,cond_false,Option.map_eq_some_iff,Prod.mk.injEq,and_true] at h
      obtain⟨v,h1,rfl⟩:=h
      exact cQ hr hs h1
   · cases h
theorem uw (hr : ∀x,VA g w (ρ x) (aV x)) {op:UnOp} {t:TypeId} {x:Operand} (ho:o.op = .unOp op t x) {a:AV} (h:oW P ρ o op (ρ x)=some (a,true)) :
  ∃v,(execOp aV o).run P w = .ok (.value v) w∧VA g w a v:=by
 unfold oW at h
 split at h
 · rename_i b hx
   simp only[Option.some.injEq,Prod.mk.injEq,and_true] at h;subst h
   have cx:aV x = .bool b:=by have:=hr x;rw[hx,VA.pv] at this;generalize aV x=z at this;cases this;rfl
   exact⟨_,by simp only[execOp,ho,cx,Op.unary,Sem.run_bind,Sem.run_pure,Result.andThen_ok],.p _ _ (.sc _)⟩
 · rename_i k n hx
   simp only[Option.some.injEq,Prod.mk.injEq,and_true] at h;subst h
   have cx:aV x = .int k n:=by have:=hr x;rw[hx,VA.pv] at this;generalize aV x=z at this;cases this;rfl
   exact⟨_,by simp only[execOp,ho,cx,Op.unary,Op.intArith,Sem.run_bind,Sem.run_pure,Result.andThen_ok],.p _ _ (.sc _)⟩
 · simp only[Option.map_eq_some_iff,Prod.mk.injEq,and_true] at h
   obtain⟨v,h1,rfl⟩:=h
   exact cQ hr (fun _ _=>by rw[ho];exact fun e=>by cases e) h1
theorem l5 {t:TypeId} {x a:AV} {cx:Value} (h:jd P t x=some a) (hx:VA g w x cx) :
  ∃v,(Instr.makeInterface t cx).run P w = .ok v w∧VA g w a v:=by
 unfold jd at h
 split at h
 · cases h
 · rename_i d hd hu
   have hrun:(Instr.makeInterface t cx).run P w = .ok (.iface t cx) w:=by
    cases d<;>first
     |(exact absurd rfl (hd _))
     |simp[Instr.makeInterface,run_underlying hu]
   refine⟨_,hrun,?_⟩
   split at h
   · simp only[Option.some.injEq] at h;subst h
     rw[VA.pv] at hx;cases hx
     exact .p _ _ (.sc _)
   · simp only[Option.some.injEq] at h;subst h
     rw[VA.pv] at hx
     exact .p _ _ (.gx _ _ _ hx)
   · simp only[Option.some.injEq] at h;subst h
     exact .gx _ _ _ hx
 · cases h
theorem mT (hr : ∀x,VA g w (ρ x) (aV x)) {x:Operand} (ho:o.op = .nilCheck x) {a:AV} (h:fR P ρ o (ρ x)=some a) :
  ∃v,(execOp aV o).run P w = .ok (.value v) w∧VA g w a v:=by
 unfold fR at h
 split at h
 · rename_i off cs hx
   simp only[Option.some.injEq] at h;subst h
   have:=hr x;rw[hx] at this
   refine⟨aV x,?_,this⟩
   generalize hz:aV x=z at this
   rw[VA.pv] at this;cases this
   simp[execOp,ho,hz]
 · rename_i b off hx
   simp only[Option.some.injEq] at h;subst h
   have:=hr x;rw[hx] at this
   refine⟨aV x,?_,this⟩
   generalize hz:aV x=z at this
   cases this
   simp[execOp,ho,hz]
 · rename_i f a' b' hx
   simp only[Option.some.injEq] at h;subst h
   have:=hr x;rw[hx] at this
   refine⟨aV x,?_,this⟩
   generalize hz:aV x=z at this
   cases this
   simp[execOp,ho,hz]
 · exact cQ hr (fun _ _=>by rw[ho];exact fun e=>by cases e) h
theorem vP {argTypes:Array TypeId} {ty:TypeId} {x a:AV} {cx:Value} (h:A8 P argTypes x=some a) (hx:VA g w x cx) :
  ∃v,(Builtin.len_ argTypes ty #[cx]).run P w = .ok v w∧VA g w a v:=by
 unfold A8 at h
 split at h
 · rename_i t ht
   split at h
   · rename_i len sz cs hu
     simp only[Option.some.injEq] at h;subst h
     rw[VA.pv] at hx
     obtain⟨_,ad,cap,rfl,_⟩:=iC hx
     exact⟨_,by simp[Builtin.len_,ht,run_underlying hu,goInt],.p _ _ (.sc _)⟩
   · rename_i tok len sz cs hu
     simp only[Option.some.injEq] at h;subst h
     cases hx with
     |os _ _ _ _ ad cap hx _=>exact⟨_,by simp[Builtin.len_,ht,run_underlying hu,goInt],.p _ _ (.sc _)⟩
   · rename_i b off len sz cap hu
     simp only[Option.some.injEq] at h;subst h
     cases hx with
     |ms _ _ _ _ cap c _ _=>exact⟨_,by simp[Builtin.len_,ht,run_underlying hu,goInt],.p _ _ (.sc _)⟩
     |mg _ _ _ _ cap c _ _ _=>exact⟨_,by simp[Builtin.len_,ht,run_underlying hu,goInt],.p _ _ (.sc _)⟩
   · rename_i s hu
     simp only[Option.some.injEq] at h;subst h
     rw[VA.pv] at hx;cases hx
     rw[show s.data.toList.length=s.size from Array.length_toList]
     exact⟨_,by simp[Builtin.len_,ht,run_underlying hu,goInt],.p _ _ (.sc _)⟩
   · rename_i n e hu
     simp only[Option.some.injEq] at h;subst h
     exact⟨_,by simp[Builtin.len_,ht,run_underlying hu,goInt],.p _ _ (.sc _)⟩
   · cases h
 · cases h
end ops
end Go.Am
end
section
namespace Go.Am
open Go.RowKit
section ops
variable {P:Program} {g:Gh} {m:Mem} {w:World}
theorem b8 : ∀{l:List AV} {bQ:List PV} {vs:List Value},fL l=some bQ→bM g w l vs→vJ g w bQ vs
 |[],bQ,vs,h,hv=>by
  simp[fL] at h;subst h
  cases vs with
  |nil=>trivial
  |cons _ _=>exact hv.elim
 |a::l,bQ,vs,h,hv=>by
  cases vs with
  |nil=>exact hv.elim
  |cons v vs=>
   simp only[fL] at h
   cases h1:tU a with
   |none=>simp[h1] at h
   |some pv=>
    cases h2:fL l with
    |none=>simp[h1,h2] at h
    |some us=>
     simp only[h1,h2,Option.some.injEq] at h
     subst h
     refine⟨?_,b8 h2 hv.2⟩
     have h0:=hv.1
     cases h0 with
     |p M3 _ hp=>simp[tU] at h1;subst h1;exact hp
     |os tok len sz cells ad cap hp _=>simp[tU] at h1;subst h1;exact hp
     |_=>simp[tU] at h1
def mU (P:Program) (g:Gh) (w:World) (sz n:Nat) (bQ:List PV) (cx:Value):Prop:=
 ∃vs:List Value,vJ g w bQ vs∧vs.length=n*sz∧(∀v∈vs,v.oneCell'=true)∧(Builtin.lenOf cx).run P w = .ok n w ∧ ∀k,k≤n→(Builtin.firstCells sz k cx).run P w = .ok (vs.take (k*sz)).toArray w
theorem cR {sz n cap:Nat} {bQ:List PV} {b o:Nat} {vs:List Value} (h1:vJ g w bQ vs) (h2:vs.length=n*sz) (ho : ∀v∈vs,v.oneCell'=true) (h3 : ∀j v,vs[j]? = some v→w.cell? ⟨b,o+j,none⟩=some v) :
  mU P g w sz n bQ (.slice (some ⟨b,o,none⟩) n cap):=by
 refine⟨vs,h1,h2,ho,by simp[Builtin.lenOf],fun k hk=> ?_⟩
 have hl:(vs.take (k*sz)).length=k*sz:=by
  rw[List.length_take,h2];exact Nat.min_eq_left (Nat.mul_le_mul_right _ hk)
 have:=run_loadCells_list (P:=P) w ⟨b,o,none⟩ (vs.take (k*sz)) (fun j v hj=>by
  rw[bw];exact h3 j v (by rw[List.getElem?_take] at hj;split at hj<;>simp_all))
 rw[hl] at this
 simpa[Builtin.firstCells] using this
theorem j7 {sz n:Nat} {bQ:List PV} {cx:Value} (h:VP g w (.ps n sz bQ) cx):mU P g w sz n bQ cx:=by
 cases h with
 |ps _ _ _ b o cap f hl hc hz hp hv=>
  refine cR (vs:=(List.range bQ.length).map f) (aK.bV (by simp) fun i hi _=> ?_) (by simp[hl]) (fun v hv=> ?_) fun j v hj=> ?_
  · simpa using hv i hi
  · obtain⟨k,hk,rfl⟩:=List.mem_map.1 hv
    exact(hp k (by simpa using hk)).2.2
  · simp only[List.getElem?_map,Option.map_eq_some_iff] at hj
    obtain⟨k,hk,rfl⟩:=hj
    obtain⟨hlt,hk⟩:=List.getElem?_eq_some_iff.1 hk
    simp at hlt hk;subst hk
    exact(hp j hlt).2.1
 |lT _ a cap=>
  refine⟨[],trivial,by simp,by simp,by simp[Builtin.lenOf],fun k hk=> ?_⟩
  have:k=0:=by omega
  subst this
  cases a<;>simp[Builtin.firstCells,loadCells,loadCellsFrom]
theorem kY : ∀{l:List AV},oU l=true→fL l=some (l.map xG)
 |[],_=>rfl
 |.p v::l,h=>by
  have:=kY (l:=l) (by simpa[oU] using h)
  simp[fL,tU,this,xG]
 |.ah::_,h | .os .. :: _,h | .mp .. :: _,h | .ms .. :: _,h | .fn .. :: _,h | .agg _::_,h | .aO _::_,h | .gx .. :: _,h | .vm _::_,h | .vy _::_,h=>by simp[oU] at h
theorem cK (h:Rel g m w) {sz n:Nat} {x:AV} {cx:Value} {bQ:List PV} (he:contents (fun i=>m.getD i .dead) sz x=some (n,bQ,true)) (hx:VA g w x cx) :
  mU P g w sz n bQ cx:=by
 unfold contents at he
 split at he
 · simp only[Option.some.injEq,Prod.mk.injEq] at he
   obtain⟨rfl,rfl,h1⟩:=he
   rw[VA.pv] at hx
   obtain⟨_,ad,cap,rfl,_⟩:=iC hx
   exact j7 (gG hx h1)
 · simp only[Option.some.injEq,Prod.mk.injEq] at he
   obtain⟨rfl,rfl,h1⟩:=he
   cases hx with
   |os _ _ _ _ ad cap hx _=>exact j7 (gG hx h1)
 · rename_i b off len s cap
   cases hx with
   |ms _ _ _ _ cap c hc hcap=>
   split at he
   · rename_i l hl
     simp only[Option.some.injEq,Prod.mk.injEq,Bool.and_eq_true,Nat.beq_eq] at he
     obtain⟨rfl,rfl,rfl,h1⟩:=he
     have h1:=Nat.le_of_ble_eq_true h1
     have hm:=getD_some hl (by simp)
     obtain⟨c',cs,e,q,k1,k2,k3,k4,k5⟩:=h.cells b _ _ hm rfl
     rw[hc] at k1;cases k1
     have hone:=k4.2
     have k4:=k4.1
     have hlen:=k4.len
     simp at hlen
     refine cR (vs:=(cs.toList.drop off).take (len*s)) ?_ (by simp;omega) (fun v hv=>hone v (List.mem_of_mem_drop (List.mem_of_mem_take hv))) fun j v hj=> ?_
     · have:=((k4.drop off).take (len*s))
       rw[←List.map_drop,←List.map_take] at this
       exact aK.bV (by simpa using this.len) fun i a b=>by
        have:=this.get i (by simpa using a) b
        rw[List.getElem_map,VA.pv] at this
        exact this
     · rw[List.getElem?_take] at hj
       split at hj
       · rw[List.getElem?_drop] at hj
         rw[aD k2];simpa using hj
       · cases hj
   · rename_i l hl
     simp only[Option.map_eq_some_iff,Prod.mk.injEq,Bool.and_eq_true,Nat.beq_eq] at he
     obtain⟨us,he,rfl,rfl,rfl,h1⟩:=he
     have h1:=Nat.le_of_ble_eq_true h1
     have hm:=getD_some hl (by simp)
     obtain⟨c',cs,e,q,k1,k2,k3,k4,k5⟩:=h.cells b _ _ hm rfl
     rw[hc] at k1;cases k1
     have hone:=k4.2
     have k4:=k4.1
     have hlen:=k4.len
     simp at hlen
     refine cR (vs:=(cs.toList.drop off).take (len*s)) (b8 he ((k4.drop off).take (len*s))) (by simp;omega) (fun v hv=>hone v (List.mem_of_mem_drop (List.mem_of_mem_take hv))) fun j v hj=> ?_
     rw[List.getElem?_take] at hj
     split at hj
     · rw[List.getElem?_drop] at hj
       rw[aD k2];simpa using hj
     · cases hj
   · rename_i l hl
     simp only[Option.some.injEq,Prod.mk.injEq,Bool.and_eq_true,Nat.beq_eq] at he
     obtain⟨rfl,rfl,hp,rfl,h1⟩:=he
     have he:=kY hp
     have h1:=Nat.le_of_ble_eq_true h1
     obtain⟨c',ob,vs,k1,k2,k3,k4,_,_⟩:=h.obs b _ _ (getD_some hl (by simp))
     rw[hc] at k1;cases k1
     obtain⟨cs,e,q,rfl,_,q0,q1,q2,q3⟩:=k4
     have hlen:=k3.len
     refine cR (vs:=(vs.drop off).take (len*s)) (b8 he ((k3.drop off).take (len*s))) (by simp;omega) (fun v hv=> ?_) fun j v hj=> ?_
     · have hv:=List.mem_of_mem_drop (List.mem_of_mem_take hv)
       rw[q1] at hv
       exact q3 v (List.mem_of_mem_take hv)
     · rw[List.getElem?_take] at hj
       split at hj
       · rw[List.getElem?_drop,q1,List.getElem?_take] at hj
         split at hj
         · rw[aD k2];simpa using hj
         · cases hj
       · cases hj
   · rename_i l hl
     simp only[Option.map_eq_some_iff,Prod.mk.injEq,Bool.and_eq_true,Nat.beq_eq] at he
     obtain⟨us,he,rfl,rfl,rfl,h1⟩:=he
     have h1:=Nat.le_of_ble_eq_true h1
     obtain⟨c',ob,vs,k1,k2,k3,k4,_,_⟩:=h.obs b _ _ (getD_some hl (by simp))
     rw[hc] at k1;cases k1
     obtain⟨cs,e,q,rfl,_,q0,q1,q2,q3⟩:=k4
     have hlen:=k3.len
     refine cR (vs:=(vs.drop off).take (len*s)) (b8 he ((k3.drop off).take (len*s))) (by simp;omega) (fun v hv=> ?_) fun j v hj=> ?_
     · have hv:=List.mem_of_mem_drop (List.mem_of_mem_take hv)
       rw[q1] at hv
       exact q3 v (List.mem_of_mem_take hv)
     · rw[List.getElem?_take] at hj
       split at hj
       · rw[List.getElem?_drop,q1,List.getElem?_take] at hj
         split at hj
         · rw[aD k2];simpa using hj
         · cases hj
       · cases hj
   · cases he
 · rename_i b off len s
   cases hx with
   |mg _ _ _ _ cap c hc hcap hroom=>
   split at he
   · rename_i l hl
     simp only[Option.some.injEq,Prod.mk.injEq,Bool.and_eq_true,Nat.beq_eq] at he
     obtain⟨rfl,rfl,hp,rfl,h1⟩:=he
     have he:=kY hp
     have h1:=Nat.le_of_ble_eq_true h1
     obtain⟨c',ob,vs,k1,k2,k3,k4,_,_⟩:=h.obs b _ _ (getD_some hl (by simp))
     rw[hc] at k1;cases k1
     obtain⟨cs,e,q,rfl,_,q0,q1,q2,q3⟩:=k4
     have hlen:=k3.len
     refine cR (vs:=(vs.drop off).take (len*s)) (b8 he ((k3.drop off).take (len*s))) (by simp;omega) (fun v hv=> ?_) fun j v hj=> ?_
     · have hv:=List.mem_of_mem_drop (List.mem_of_mem_take hv)
       rw[q1] at hv
       exact q3 v (List.mem_of_mem_take hv)
     · rw[List.getElem?_take] at hj
       split at hj
       · rw[List.getElem?_drop,q1,List.getElem?_take] at hj
         split at hj
         · rw[aD k2];simpa using hj
         · cases hj
       · cases hj
   · rename_i l hl
     simp only[Option.map_eq_some_iff,Prod.mk.injEq,Bool.and_eq_true,Nat.beq_eq] at he
     obtain⟨us,he,rfl,rfl,rfl,h1⟩:=he
     have h1:=Nat.le_of_ble_eq_true h1
     obtain⟨c',ob,vs,k1,k2,k3,k4,_,_⟩:=h.obs b _ _ (getD_some hl (by simp))
     rw[hc] at k1;cases k1
     obtain⟨cs,e,q,rfl,_,q0,q1,q2,q3⟩:=k4
     have hlen:=k3.len
     refine cR (vs:=(vs.drop off).take (len*s)) (b8 he ((k3.drop off).take (len*s))) (by simp;omega) (fun v hv=> ?_) fun j v hj=> ?_
     · have hv:=List.mem_of_mem_drop (List.mem_of_mem_take hv)
       rw[q1] at hv
       exact q3 v (List.mem_of_mem_take hv)
     · rw[List.getElem?_take] at hj
       split at hj
       · rw[List.getElem?_drop,q1,List.getElem?_take] at hj
         split at hj
         · rw[aD k2];simpa using hj
         · cases hj
       · cases hj
   · cases he
 · rename_i s
   simp only[Option.some.injEq,Prod.mk.injEq,Nat.beq_eq] at he
   obtain⟨rfl,rfl,rfl⟩:=he
   rw[VA.pv] at hx;cases hx
   refine⟨s.data.toList.map fun b=> .int .u8 b.toNat,aK.bV (by simp) fun i a b=> ?_,by simp,by simp[Value.oneCell'],?_,fun k hk=> ?_⟩
   · simp only[List.getElem_map];exact .sc _
   · rw[show s.data.toList.length=s.size from Array.length_toList];simp[Builtin.lenOf]
   · simp only[Builtin.firstCells,Sem.run_pure,Result.ok.injEq,and_true]
     apply Array.ext'
     simp[ByteArray.data_extract]
 · cases he
theorem pL {a:AV} {v:Value} (h:ig a=true) (ha:VA g w a v):v.oneCell'=true:=by
 cases ha with
 |p pv cv hp=>cases hp<;>first | rfl | (simpa[ig] using h)
 |agg=>simp[ig] at h
 |aO=>simp[ig] at h
 |ah=>simp[ig] at h
 |_=>rfl
theorem fM : ∀{l:List AV} {vs:List Value},fQ l=true→bM g w l vs → ∀u∈vs,u.oneCell'=true
 |[],[],_,_,_,hu=>by cases hu
 |a::l,v::vs,h,hv,u,hu=>by
  simp only[fQ,Bool.and_eq_true] at h
  cases hu with
  |head=>exact pL h.1 hv.1
  |tail _ hu=>exact fM h.2 hv.2 u hu
 |[],_::_,_,hv,_,_=>hv.elim
 |_::_,[],_,hv,_,_=>hv.elim
theorem gP {a:AV} {v:Value} (h:(cellsOf a).2=true) (ha:VA g w a v):bM g w (cellsOf a).1 v.cells.toList ∧ ∀u∈v.cells.toList,u.oneCell'=true:=by
 have E7 : ∀{v:Value},v.oneCell'=true→v.cells = #[v]:=by intro v h;cases v<;>first | rfl | (simp[Value.oneCell'] at h)
 cases ha with
 |agg l cs hl hh=>
  have:=VA.uk.1 (.agg l cs hl hh)
  exact⟨this,fM h this⟩
 |p pv cv hp=>
  have h1:=pL (a:= .p pv) (by simpa[cellsOf] using h) (.p pv v hp)
  rw[E7 h1]
  exact⟨⟨.p pv v hp,trivial⟩,by simpa using h1⟩
 |os tok len sz cells ad cap hp hr=>
  exact⟨⟨.os tok len sz cells ad cap hp hr,trivial⟩,by simp[Value.cells,Value.oneCell']⟩
 |mp b off c hc=>exact⟨⟨.mp b off c hc,trivial⟩,by simp[Value.cells,Value.oneCell']⟩
 |ms b off len sz cap c hc hcap=>exact⟨⟨.ms b off len sz cap c hc hcap,trivial⟩,by simp[Value.cells,Value.oneCell']⟩
 |mg b off len sz cap c hc hcap hh=>exact⟨⟨.mg b off len sz cap c hc hcap hh,trivial⟩,by simp[Value.cells,Value.oneCell']⟩
 |vm b c hc=>exact⟨⟨.vm b c hc,trivial⟩,by simp[Value.cells,Value.oneCell']⟩
 |vy b c hc=>exact⟨⟨.vy b c hc,trivial⟩,by simp[Value.cells,Value.oneCell']⟩
 |fn f l k fa ca hl hk h1 h2=>exact⟨⟨.fn f l k fa ca hl hk h1 h2,trivial⟩,by simp[Value.cells,Value.oneCell']⟩
 |gx t v cv hv=>exact⟨⟨.gx t v cv hv,trivial⟩,by simp[Value.cells,Value.oneCell']⟩
 |ah=>simp[cellsOf,ig] at h
 |aO=>simp[cellsOf,ig] at h
theorem sJ (off:Nat) : ∀(l:List Value) (k:Nat) (cs:Array Value),
  ((l.zipIdx k).foldl (fun cs (c,j)=>cs.setIfInBounds (off+j) c) cs).toList=bN cs.toList (off+k) l
 |[],k,cs=>rfl
 |v::l,k,cs=>by
  simp only[List.zipIdx_cons,List.foldl_cons,bN]
  rw[sJ off l (k+1)]
  simp[Nat.add_assoc]
theorem aK.bN {α β:Type} {r:α→β→Prop} : ∀{new:List α} {new':List β} {l:List α} {l':List β} (off:Nat),aK r l l'→aK r new new'→aK r (bN l off new) (bN l' off new')
 |[],[],_,_,_,h,_=>h
 |_::_,_::_,_,_,off,h,k=>aK.bN (off+1) (h.set off k.1) k.2
 |[],_::_,_,_,_,_,k=>k.elim
 |_::_,[],_,_,_,_,k=>k.elim
theorem fZ {α:Type} {p:α→Prop} : ∀(n l:List α) (o:Nat),(∀v∈l,p v)→(∀v∈n,p v) → ∀v∈bN l o n,p v
 |[],_,_,h,_=>h
 |x::n,l,o,h,h'=>fZ n _ (o+1) (fun v hv=>by
   rcases List.mem_or_eq_of_mem_set hv with k | k
   · exact h v k
   · exact k▸h' x (.head _)) fun v hv=>h' v (.tail _ hv)
theorem gH {place:Nat→Option (Nat×Nat)} : ∀{parts:List (Nat×AV)} {gb:List (Nat×Value)} {cells cs:List AV} {ca:Array Value},
  aK (fun a b=>a.1=b.1∧VA g w a.2 b.2) parts gb→vK g w cells ca.toList→nF place cells parts=some (cs,true) →
   ∃ux,Instr.fill place ca gb=some ux∧vK g w cs ux.toList∧ux.size=ca.size
 |[],[],cells,cs,ca,_,hc,h=>by
  simp[nF] at h;subst h
  exact⟨ca,rfl,hc,rfl⟩
 |(i,a)::parts,(j,v)::gb,cells,cs,ca,hp,hc,h=>by
  obtain⟨⟨rfl,hv⟩,hp⟩:=hp
  simp only[nF] at h
  cases Bs:place i with
  |none=>simp[Bs] at h
  |some q=>
   obtain⟨off,size⟩:=q
   simp only[Bs] at h
   cases hf:nF place (bN cells off (cellsOf a).1) parts with
   |none=>simp[hf] at h
   |some r=>
    obtain⟨cs',ok⟩:=r
    simp only[hf,Option.some.injEq,Prod.mk.injEq,Bool.and_eq_true,Nat.beq_eq] at h
    obtain⟨rfl,⟨⟨h0,h1⟩,h2⟩,rfl⟩:=h
    have h2:=Nat.le_of_ble_eq_true h2
    have hlc:=hc.1.len
    obtain⟨k1,k2⟩:=gP h0 hv
    have vQ:=k1.len
    have rL:vK g w (bN cells off (cellsOf a).1) (bN ca.toList off v.cells.toList):=⟨hc.1.bN off k1,fZ _ _ _ hc.2 k2⟩
    have y8:(v.cells.zipIdx.foldl (fun cs (c,j)=>cs.setIfInBounds (off+j) c) ca).toList=bN ca.toList off v.cells.toList:=by
     rw[←Array.foldl_toList,Array.toList_zipIdx,sJ];simp
    obtain⟨ux,q1,q2,q3⟩:=gH (ca:=v.cells.zipIdx.foldl (fun cs (c,j)=>cs.setIfInBounds (off+j) c) ca) hp (by rw[y8];exact rL) hf
    have hsz:v.cells.size=size:=by simp at vQ;omega
    have hroom : ¬(off+v.cells.size>ca.size):=by simp at hlc;omega
    refine⟨ux,?_,q2,?_⟩
    · simp only[Instr.fill,Bs]
      rw[if_neg (by simp[hsz,hsz▸hroom]<;>omega)]
      exact q1
    · rw[q3]
      have:=congrArg List.length y8
      have JN : ∀(n:List Value) (l:List Value) (o:Nat),(bN l o n).length=l.length:=by
       intro n
       induction n with
       |nil=>intro l o;rfl
       |cons x n ih=>intro l o;simp[bN,ih]
      simpa[JN] using this
 |[],_::_,_,_,_,h,_,_=>h.elim
 |_::_,[],_,_,_,h,_,_=>h.elim
end ops
end Go.Am
end
section
namespace Go.Am
open Go.RowKit
section ops
variable {P:Program} {g:Gh} {m:Mem} {w:World}
theorem checked_eq {l k:List AV} (h:checked l=some k):k=l∧fQ l=true:=by
 unfold checked at h
 cases hb:fQ l with
 |false=>simp[hb] at h
 |true=>simp[hb] at h;exact⟨h.symm,rfl⟩
theorem br {t:TypeId} {l:List AV} (h:zeroCells P t=some l) : ∃z,(∀w,(zeroValue t).run P w = .ok z w)∧vK g w l z.cells.toList:=by
 unfold zeroCells at h
 cases hi:P.info? t with
 |none=>simp[hi] at h
 |some i=>
  cases hz:i.zero with
  |none=>simp[hi,hz] at h
  |some z=>
   have hrun : ∀w,(zeroValue t).run P w = .ok z w:=fun w=>by simp[zeroValue,typeInfo,hi,hz]
   refine⟨z,hrun,?_⟩
   simp only[hi,Option.bind_some,hz] at h
   cases z<;>(obtain⟨rfl,hc⟩:=checked_eq h)<;>first
    |exact⟨bM.cZ _,fM hc (bM.cZ (g:=g) (w:=w) _)⟩
    |exact⟨⟨VA.eO _,trivial⟩,fM (vs:=[_]) hc ⟨VA.eO (g:=g) (w:=w) _,trivial⟩⟩
theorem jm : ∀{fs:List Field} {pl:List (Nat×Nat)},placesOf P fs=some pl → ∀w,(fs.mapM fun f=>do pure (f.offset,←sizeOf f.type):Sem (List (Nat×Nat))).run P w = .ok pl w
 |[],pl,h,w=>by simp[placesOf] at h;subst h;simp
 |f::fs,pl,h,w=>by
  simp only[placesOf] at h
  cases h1:dg P f.type with
  |none=>simp[h1] at h
  |some n=>
   cases h2:placesOf P fs with
   |none=>simp[h1,h2] at h
   |some l=>
    simp only[h1,h2,Option.some.injEq] at h
    subst h
    have ih:=jm h2 w
    simp only[List.mapM_cons,Sem.run_bind,az h1,Result.andThen_ok,Sem.run_pure,ih]
theorem rM {t:TypeId} {parts:List (Nat×AV)} {gb:Array (Nat×Value)} {a:AV} (h:oB P t parts=some (a,true)) (hp:aK (fun a b=>a.1=b.1∧VA g w a.2 b.2) parts gb.toList) :
  ∃v,(Instr.build t gb).run P w = .ok v w∧VA g w a v:=by
 unfold oB at h
 split at h
 · rename_i z fields hz hu
   split at h
   · rename_i pl Bs
     simp only[Option.map_eq_some_iff,Prod.mk.injEq] at h
     obtain⟨⟨cs,ok⟩,h1,rfl,h2⟩:=h
     simp only at h2;subst h2
     obtain⟨zv,y9,xQ⟩:=br (g:=g) (w:=w) hz
     obtain⟨ca,h3,h4,_⟩:=gH hp xQ h1
     refine⟨.agg ca,?_,VA.uk.2 h4.1⟩
     have JO:(fields.mapM fun f=>do pure (f.offset,←sizeOf f.type):Sem (Array (Nat×Nat))).run P w = .ok pl.toArray w:=by
      rw[Array.mapM_eq_mapM_toList]
      simp only[Sem.run_map,jm Bs w,Result.andThen_ok]
     have hfun:(fun i:Nat=>pl.toArray[i]?)=fun i:Nat=>pl[i]? :=by funext i;simp
     simp only[Instr.build,Sem.run_bind,y9,Result.andThen_ok,run_underlying hu,JO,hfun,h3,Sem.run_pure]
   · cases h
 · rename_i z n elem hz hu
   split at h
   · rename_i size hsz
     simp only[Option.map_eq_some_iff,Prod.mk.injEq] at h
     obtain⟨⟨cs,ok⟩,h1,rfl,h2⟩:=h
     simp only at h2;subst h2
     obtain⟨zv,y9,xQ⟩:=br (g:=g) (w:=w) hz
     obtain⟨ca,h3,h4,_⟩:=gH hp xQ h1
     exact⟨.agg ca,by simp only[Instr.build,Sem.run_bind,y9,Result.andThen_ok,run_underlying hu,az hsz,h3,Sem.run_pure],VA.uk.2 h4.1⟩
   · cases h
 · cases h
theorem jo {α:Type} (z:List α) : ∀n,(bp z n).length=n*z.length
 |0=>by simp[bp]
 |n+1=>by simp[bp,jo z n,Nat.succ_mul,Nat.add_comm]
theorem nJ {α:Type} (z:List α) : ∀(n i:Nat) (h:i<(bp z n).length),∃h':i%z.length<z.length,(bp z n)[i]=z[i%z.length]
 |0,i,h=>by simp[bp] at h
 |n+1,i,h=>by
  simp only[bp,List.length_append] at h
  by_cases hlt:i<z.length
  · refine⟨by rw[Nat.mod_eq_of_lt hlt];exact hlt,?_⟩
    simp only[bp,List.getElem_append,hlt,dite_true,Nat.mod_eq_of_lt hlt]
  · obtain⟨h1,h2⟩:=nJ z n (i-z.length) (by omega)
    have e:(i-z.length)%z.length=i%z.length:=by rw[←Nat.mod_eq_sub_mod (by omega)]
    refine⟨by rw[←e];exact h1,?_⟩
    simp only[bp,List.getElem_append,hlt,dite_false,h2,e]
theorem mV {α:Type} {r:α→Value→Prop} {z:List α} {zv:Array Value} (hz:aK r z zv.toList) (n:Nat) :
  aK r (bp z n) ((Array.range (n*zv.size)).map (zv[· % zv.size]!)).toList:=by
 have hl:=hz.len
 simp at hl
 refine aK.bV (by simp[jo,hl]) fun i hi hj=> ?_
 obtain⟨h1,h2⟩:=nJ z n i hi
 rw[h2]
 have h3:i%zv.size<zv.size:=hl▸h1
 simp only[Array.toList_map,Array.toList_range,List.getElem_map,List.getElem_range]
 rw[getElem!_pos zv _ h3]
 have:=hz.get (i%z.length) h1 (by simpa[←hl] using h1)
 simpa[hl] using this
theorem uy {zv:Array Value} (h : ∀v∈zv.toList,v.oneCell'=true) (n:Nat) : ∀v∈((Array.range (n*zv.size)).map (zv[· % zv.size]!)).toList,v.oneCell'=true:=by
 intro v hv
 simp only[Array.toList_map,Array.toList_range,List.mem_map,List.mem_range] at hv
 obtain⟨i,hi,rfl⟩:=hv
 have h3:i%zv.size<zv.size:=Nat.mod_lt _ (Nat.pos_of_ne_zero fun e=>by simp[e] at hi)
 rw[getElem!_pos zv _ h3]
 exact h _ (by simp)
theorem eG {α:Type} (v:α) : ∀n,List.replicate n v=bp [v] n
 |0=>rfl
 |n+1=>by rw[List.replicate_succ,eG v n];rfl
theorem Bt {elem:TypeId} {n:Nat} {l:List AV} (h:zeros P elem n=some l) : ∃size z,dg P elem=some size∧zeroCells P elem=some z∧z.length=size∧1≤size∧l=bp z n:=by
 unfold zeros at h
 split at h
 · rename_i size z h1 h2
   cases hb:(Nat.beq z.length size&&Nat.ble 1 size) with
   |false=>simp[hb] at h
   |true=>
    simp only[hb,cond_true] at h
    simp only[Bool.and_eq_true,Nat.beq_eq] at hb
    refine⟨size,z,h1,h2,hb.1,Nat.le_of_ble_eq_true hb.2,?_⟩
    split at h
    · simp only[Option.some.injEq] at h;rw[←h,eG]
    · simp only[Option.some.injEq] at h;exact h.symm
 · cases h
theorem Bu {elem:TypeId} {n:Nat} {b:av} (h:A6 P elem n=some b) : ∃size z,dg P elem=some size∧zeroCells P elem=some z∧z.length=size∧1≤size∧b.cells?=some (bp z n):=by
 have HF : ∀(vs:List PV) n,(bp vs n).map AV.p=bp (vs.map AV.p) n:=by
  intro vs n
  induction n with
  |zero=>rfl
  |succ n ih=>simp[bp,ih]
 unfold A6 at h
 split at h
 · rename_i size z h1 h2
   cases hb:(Nat.beq z.length size&&Nat.ble 1 size) with
   |false=>simp[hb] at h
   |true=>
    simp only[hb,cond_true] at h
    simp only[Bool.and_eq_true,Nat.beq_eq] at hb
    refine⟨size,z,h1,h2,hb.1,Nat.le_of_ble_eq_true hb.2,?_⟩
    split at h
    · rename_i v hv
      simp only[Option.some.injEq] at h;subst h
      have:=lU hv
      simp only[av.cells?,eG,HF,this]
    · rename_i vs _ hv
      simp only[Option.some.injEq] at h;subst h
      have:=lU hv
      simp only[av.cells?,HF,this]
    · simp only[Option.some.injEq] at h;subst h;rfl
 · cases h
theorem cE (w:World) (o:Obj):kW w (w.alloc o) o:=⟨rfl,rfl,rfl,rfl⟩
theorem bh.alloc (h:Rel g m w) {aF:Nat} (hn:m[aF]? = some .free) {l:List AV} {cs:Array Value} {e:TypeId} {b:av} (hb:b.cells?=some l) (hv:vK g w l cs.toList) {r:Result Next} {v:Value} {a:AV}
  (hr:r = .ok (.value v) (w.alloc (.cells cs e))) (ha : ∀g':Gh,g'.aN aF=some w.heap.size→VA g' (w.alloc (.cells cs e)) a v):bh g m w r a (m.set aF b):=by
 obtain⟨h1,h2,h3⟩:=h.alloc hn hb hv (cE w (.cells cs e))
 exact⟨v,_,_,.inl hr,ha _ (by simp[Gh.put]),h1,h2,h3⟩
end ops
end Go.Am
end
