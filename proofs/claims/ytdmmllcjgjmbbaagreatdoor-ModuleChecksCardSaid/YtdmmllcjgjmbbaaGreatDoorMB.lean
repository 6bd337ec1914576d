/-
What becomes of the relations when a block is made, written, lent: facts on worlds.
Operations, one by one: what the executor tells of an operation is what the model does. First those that change no memory.
Operations that change no memory: addresses, parts, slices, arithmetic, comparisons.
Operations that change no memory, more: slices, arithmetic, comparisons, conversions of numbers, lengths.
What stands in slices; values that are built; blocks that are made and written.
Values that are built, blocks that are made and written: the operations.
-/
import Derived.Test.YtdmmllcjgjmbbaaGreatDoorMA
section
namespace Go.Am
open Go.RowKit
theorem A8 : ∀{l:List AV},rY l=true→(l.map CX).map AV.p=l
 |[],_=>rfl
 |.p v::r,h=>by
  simp only[rY] at h
  have:=A8 h
  simp only[List.map_cons,CX]
  rw[this]
 |.an::_,h | .os .. :: _,h | .mp .. :: _,h | .ms .. :: _,h | .fn .. :: _,h | .agg _::_,h | .aS _::_,h | .iR .. :: _,h | .vm _::_,h | .vy _::_,h=>by simp[rY] at h
theorem nW {l:List AV} {vs:List PV} (h:Gd l=some vs):vs.map AV.p=l:=by
 unfold Gd at h
 cases hp:rY l with
 |false=>simp[hp] at h
 |true=>
  simp only[hp,cond_true,Option.some.injEq] at h
  subst h
  exact A8 hp
theorem lp (l:List AV):(AZ l).cells?=some l:=by
 unfold AZ
 cases h:Gd l with
 |none=>rfl
 |some vs=>simp[bg.cells?,nW h]
theorem b8 {b:bg} {l:List AV} (h:b.cells?=some l):b.cP=true:=by cases b<;>simp_all [bg.cells?,bg.cP]
def Gh.put (g:Gh) (i c lo hi:Nat):Gh:=
 {g with bE:=fun j=>if j=i then some c else g.bE j,lo:=fun j=>if j=i then lo else g.lo j,hi:=fun j=>if j=i then hi else g.hi j}
def Gh.more (g:Gh) (c lo hi:Nat):Gh:={g with pure:=fun c' o=>g.pure c' o∨(c'=c∧lo≤o∧o<hi)}
theorem getElem?_set' {α:Type} (l:List α) (i j:Nat) (a:α):(l.set i a)[j]? = if i=j∧i<l.length then some a else l[j]? :=by
 rw[List.getElem?_set]
 by_cases h:i=j
 · subst h;by_cases h2:i<l.length<;>simp[h2]
 · simp[h]
theorem bA {α:Type} {l:List α} {i:Nat} {a:α} (h:l[i]? = some a):i<l.length:=(List.getElem?_eq_some_iff.1 h).1
theorem cV {w w':World} {c o:Nat} (h:w'.heap[c]? = w.heap[c]?):w'.cell? ⟨c,o,none⟩=w.cell? ⟨c,o,none⟩:=by
 simp only[World.cell?,h]
theorem bf {w:World} {c o:Nat} {cs:Array Value} {e:TypeId} {n:Nat×Nat} (h:w.heap[c]? = some (.cells cs e n)):w.cell? ⟨c,o,none⟩=cs[o]? :=by
 simp[World.cell?,h]
theorem bz {w:World} {c:Nat} {o:Obj} (h:w.heap[c]? = some o):c<w.heap.size:=by
 rcases Nat.lt_or_ge c w.heap.size with k | k
 · exact k
 · simp[Array.getElem?_eq_none k] at h
theorem pM {g:Gh} {m:Mem} {i:Nat} {b:bg} {c:Nat} (h:eN g (m.set i b) c):(b.cP=true∧g.bE i=some c)∨(∃j b',j≠i∧m[j]? = some b'∧b'.cP=true∧g.bE j=some c):=by
 obtain⟨j,b',hj,ho,hc⟩:=h
 rw[getElem?_set'] at hj
 by_cases e:i=j∧i<m.length
 · rw[if_pos e] at hj;cases hj;exact .inl ⟨ho,e.1▸hc⟩
 · rw[if_neg e] at hj
   refine .inr ⟨j,b',fun h=> ?_,hj,ho,hc⟩
   subst h
   exact e ⟨rfl,bA hj⟩
theorem Rel.kill {g:Gh} {m:Mem} {w:World} (h:Rel g m w) (i:Nat):Rel g (m.set i .dead) w∧cM g m w g (m.set i .dead) w:=by
 have get : ∀j b,(m.set i .dead)[j]? = some b→b = .dead∨(j≠i∧m[j]? = some b):=by
  intro j b hj
  rw[getElem?_set'] at hj
  by_cases e:i=j∧i<m.length
  · rw[if_pos e] at hj;exact .inl (Option.some.inj hj).symm
  · rw[if_neg e] at hj
    by_cases e2:i=j
    · subst e2;exact absurd ⟨rfl,bA hj⟩ e
    · exact .inr ⟨fun h=>e2 h.symm,hj⟩
 refine⟨⟨fun j hj=>h.vT j (by simpa using hj),fun j hj=> ?_,fun j b l hj hl=> ?_,fun j c hj hc=> ?_,fun j k b b' c hj hk ho ho' hc eP=> ?_,h.there,fun j kk ll hj=> ?_⟩,cM.less fun c ho=> ?_⟩
 · rcases get j _ hj with e | ⟨_,e⟩
   · cases e
   · exact h.free j e
 · rcases get j _ hj with e | ⟨_,e⟩
   · subst e;cases hl
   · exact h.cells j b l e hl
 · rcases get j _ hj with e | ⟨_,e⟩
   · cases e
   · exact h.tok j c e hc
 · rcases get j _ hj with e | ⟨_,e⟩
   · subst e;simp[bg.cP] at ho
   rcases get k _ hk with e' | ⟨_,e'⟩
   · subst e';simp[bg.cP] at ho'
   exact h.inj j k b b' c e e' ho ho' hc eP
 · rcases get j _ hj with e | ⟨_,e⟩
   · cases e
   · exact h.obs j kk ll e
 · obtain⟨j,b,hj,hb,hc⟩:=ho
   rcases get j _ hj with e | ⟨_,e⟩
   · subst e;simp[bg.cP] at hb
   · exact⟨j,b,e,hb,hc⟩
theorem Rel.write {g:Gh} {m:Mem} {w w':World} (h:Rel g m w) {i c:Nat} {b b':bg} {l l':List AV} {cs':Array Value} {e':TypeId} {n':Nat×Nat}
  (hi:m[i]? = some b) (hl:b.cells?=some l) (hc:g.bE i=some c) (hl':b'.cells?=some l')
  (hw : ∀k,k≠c→w'.heap[k]? = w.heap[k]?) (hs:w'.heap.size=w.heap.size) (ho:w'.os=w.os) (ht:w'.tape=w.tape) (hu:w'.output=w.output)
  (hh:w'.heap[c]? = some (.cells cs' e' n')) (hn:n'.2≤n'.1) (hv:A7 g w l' cs'.toList) :
  Rel g (m.set i b') w'∧Ext g w g w'∧cM g m w g (m.set i b') w':=by
 obtain⟨c0,cs,e,n,h1,h2,h3,h4,h5⟩:=h.cells i b l hi hl
 rw[hc] at h1;cases h1
 have hp : ∀c' o,g.pure c' o→w'.cell? ⟨c',o,none⟩=w.cell? ⟨c',o,none⟩:=fun c' o p=>cV (hw c' fun e=>h5 o (e▸p))
 have ext:Ext g w g w':=⟨fun _ _ h=>⟨h,rfl,rfl⟩,fun c' o p=>⟨p,hp c' o p⟩⟩
 have get : ∀j x,(m.set i b')[j]? = some x→(j=i∧x=b')∨(j≠i∧m[j]? = some x):=by
  intro j x hj
  rw[getElem?_set'] at hj
  by_cases e:i=j∧i<m.length
  · rw[if_pos e] at hj;exact .inl ⟨e.1.symm,(Option.some.inj hj).symm⟩
  · rw[if_neg e] at hj
    by_cases e2:i=j
    · subst e2;exact absurd ⟨rfl,bA hj⟩ e
    · exact .inr ⟨fun h=>e2 h.symm,hj⟩
 have ne : ∀j x c',j≠i→m[j]? = some x→x.cP=true→g.bE j=some c'→c'≠c:=fun j x c' hji hj ho eP e=>hji (h.inj j i x b c hj hi ho (b8 hl) (e▸eP) hc)
 refine⟨⟨fun j hj=>h.vT j (by simpa using hj),fun j hj=> ?_,fun j x k hj hk=> ?_,fun j c' hj eP=> ?_,fun j k x x' c' hj hk ho ho' ff fI=> ?_,fun c' o p=> ?_,fun j kk ll hj=> ?_⟩,ext,⟨by omega,fun k hk hn=> ?_,fun c' o p=>⟨p,hp c' o p⟩,fun _ _ p=> .inl p,fun c' ho'=> ?_,ho,ht,hu⟩⟩
 · rcases get j _ hj with⟨rfl,e⟩ | ⟨_,e⟩
   · subst e;cases hl'
   · exact h.free j e
 · rcases get j _ hj with⟨rfl,e⟩ | ⟨hji,e⟩
   · subst e
     rw[hl'] at hk;cases hk
     exact⟨c,cs',e',n',hc,hh,hn,hv.mono ext,h5⟩
   · obtain⟨c1,cs1,e1,n1,k1,k2,k3,k4,k5⟩:=h.cells j x k e hk
     exact⟨c1,cs1,e1,n1,k1,(hw c1 (ne j x c1 hji e (b8 hk) k1)).trans k2,k3,k4.mono ext,k5⟩
 · rcases get j _ hj with⟨rfl,e⟩ | ⟨hji,e⟩
   · subst e;cases hl'
   · obtain⟨cs1,e1,n1,k2,k3,k4,k5⟩:=h.tok j c' e eP
     exact⟨cs1,e1,n1,(hw c' (ne j _ c' hji e rfl eP)).trans k2,k3,k4,k5⟩
 · rcases get j _ hj with⟨rfl,e⟩ | ⟨hji,e⟩<;>rcases get k _ hk with⟨rfl,e'⟩ | ⟨hki,e'⟩
   · rfl
   · rw[hc] at ff;cases ff
     exact absurd rfl (ne k x' _ hki e' ho' fI)
   · rw[hc] at fI;cases fI
     exact absurd rfl (ne j x _ hji e ho ff)
   · exact h.inj j k x x' c' e e' ho ho' ff fI
 · obtain⟨v,hv⟩:=h.there c' o p
   exact⟨v,(hp c' o p).trans hv⟩
 · rcases get j _ hj with⟨rfl,e⟩ | ⟨hji,e⟩
   · subst e;cases hl'
   · obtain⟨c1,C3,vs1,k1,k2,k3,k6,k7,k8⟩:=h.obs j kk ll e
     exact⟨c1,C3,vs1,k1,(hw c1 (ne j _ c1 hji e rfl k1)).trans k2,k3.mono ext,k6,k7,k8⟩
 · exact hw k fun e=>hn ⟨i,b,hi,b8 hl,e▸hc⟩
 · rcases pM ho' with⟨_,k⟩ | ⟨j,x,_,k1,k2,k3⟩
   · exact .inl ⟨i,b,hi,b8 hl,k⟩
   · exact .inl ⟨j,x,k1,k2,k3⟩
theorem aX {m:Mem} {i:Nat} {b':bg} {j:Nat} {x:bg} (hj:(m.set i b')[j]? = some x):(j=i∧x=b')∨(j≠i∧m[j]? = some x):=by
 rw[getElem?_set'] at hj
 by_cases e:i=j∧i<m.length
 · rw[if_pos e] at hj;exact .inl ⟨e.1.symm,(Option.some.inj hj).symm⟩
 · rw[if_neg e] at hj
   by_cases e2:i=j
   · subst e2;exact absurd ⟨rfl,bA hj⟩ e
   · exact .inr ⟨fun h=>e2 h.symm,hj⟩
structure nj (w w':World) (o:Obj):Prop where
 heap:w'.heap=w.heap.push o
 os:w'.os=w.os
 tape:w'.tape=w.tape
 output:w'.output=w.output
theorem nj.old {w w':World} {o:Obj} (h:nj w w' o) {k:Nat} (hk:k<w.heap.size):w'.heap[k]? = w.heap[k]? :=by
 rw[h.heap,Array.getElem?_push,if_neg (by omega)]
theorem nj.new {w w':World} {o:Obj} (h:nj w w' o):w'.heap[w.heap.size]? = some o:=by
 rw[h.heap,Array.getElem?_push,if_pos rfl]
theorem nj.size {w w':World} {o:Obj} (h:nj w w' o):w'.heap.size=w.heap.size+1:=by rw[h.heap];simp
theorem Rel.alloc {g:Gh} {m:Mem} {w w':World} (h:Rel g m w) {i:Nat} {b:bg} {l:List AV} {cs:Array Value} {e:TypeId}
  (hi:m[i]? = some .free) (hl:b.cells?=some l) (hv:A7 g w l cs.toList) (hw:nj w w' (.cells cs e)) :
  Rel (g.put i w.heap.size 0 0) (m.set i b) w'∧Ext g w (g.put i w.heap.size 0 0) w'∧cM g m w (g.put i w.heap.size 0 0) (m.set i b) w':=by
 have hf:=h.free i hi
 have nX:=bA hi
 have hp : ∀c o,g.pure c o→w'.cell? ⟨c,o,none⟩=w.cell? ⟨c,o,none⟩:=fun c o p=>cV (hw.old (h.jY p))
 have bo : ∀j,j≠i→(g.put i w.heap.size 0 0).bE j=g.bE j:=fun j hj=>by simp[Gh.put,hj]
 have bi:(g.put i w.heap.size 0 0).bE i=some w.heap.size:=by simp[Gh.put]
 have ext:Ext g w (g.put i w.heap.size 0 0) w':=⟨fun j c hc=>by
  have:j≠i:=fun e=>by subst e;rw[hf] at hc;cases hc
  simp[Gh.put,this,hc],fun c o p=>⟨p,hp c o p⟩⟩
 have lt : ∀j x c,m[j]? = some x→x.cP=true→g.bE j=some c→c<w.heap.size:=fun j x c hj ho hc=>h.jy ⟨j,x,hj,ho,hc⟩
 refine⟨⟨fun j hj=> ?_,fun j hj=> ?_,fun j x k hj hk=> ?_,fun j c hj hc=> ?_,fun j k x x' c hj hk ho ho' ff fI=> ?_,fun c o p=> ?_,fun j kk ll hj=> ?_⟩,ext,⟨by rw[hw.size];omega,fun k hk _=>hw.old hk,fun c o p=>⟨p,hp c o p⟩,fun _ _ p=> .inl p,fun c ho=> ?_,hw.os,hw.tape,hw.output⟩⟩
 · rw[List.length_set] at hj
   rw[bo j (by omega)];exact h.vT j hj
 · rcases aX hj with⟨rfl,e⟩ | ⟨hji,e⟩
   · subst e;cases hl
   · rw[bo j hji];exact h.free j e
 · rcases aX hj with⟨rfl,e⟩ | ⟨hji,e⟩
   · subst e;rw[hl] at hk;cases hk
     refine⟨_,cs,_,(0,0),bi,hw.new,Nat.le_refl _,hv.mono ext,fun o p=> ?_⟩
     have:=h.jY p
     omega
   · obtain⟨c1,cs1,e1,n1,k1,k2,k3,k4,k5⟩:=h.cells j x k e hk
     exact⟨c1,cs1,e1,n1,(bo j hji).trans k1,(hw.old (bz k2)).trans k2,k3,k4.mono ext,k5⟩
 · rcases aX hj with⟨rfl,e⟩ | ⟨hji,e⟩
   · subst e;cases hl
   · rw[bo j hji] at hc
     obtain⟨cs1,e1,n1,k2,k3,k4,k5⟩:=h.tok j c e hc
     have h1:(g.put i w.heap.size 0 0).hi j=g.hi j:=by simp[Gh.put,hji]
     have h2:(g.put i w.heap.size 0 0).lo j=g.lo j:=by simp[Gh.put,hji]
     rw[h1,h2]
     exact⟨cs1,e1,n1,(hw.old (bz k2)).trans k2,k3,k4,k5⟩
 · rcases aX hj with⟨rfl,e⟩ | ⟨hji,e⟩<;>rcases aX hk with⟨rfl,e'⟩ | ⟨hki,e'⟩
   · rfl
   · rw[bi] at ff;cases ff
     rw[bo k hki] at fI
     exact absurd (lt k x' _ e' ho' fI) (Nat.lt_irrefl _)
   · rw[bi] at fI;cases fI
     rw[bo j hji] at ff
     exact absurd (lt j x _ e ho ff) (Nat.lt_irrefl _)
   · rw[bo j hji] at ff;rw[bo k hki] at fI
     exact h.inj j k x x' c e e' ho ho' ff fI
 · obtain⟨v,hv⟩:=h.there c o p
   exact⟨v,(hp c o p).trans hv⟩
 · rcases aX hj with⟨rfl,e⟩ | ⟨hji,e⟩
   · subst e;cases hl
   · obtain⟨c1,C3,vs1,k1,k2,k3,k6,k7,k8⟩:=h.obs j kk ll e
     exact⟨c1,C3,vs1,(bo j hji).trans k1,(hw.old (bz k2)).trans k2,k3.mono ext,k6,k7,by simpa[Gh.put,hji] using k8⟩
 · obtain⟨j,x,hj,hx,hc⟩:=ho
   rcases aX hj with⟨rfl,e⟩ | ⟨hji,e⟩
   · rw[bi] at hc;cases hc;exact .inr (Nat.le_refl _)
   · rw[bo j hji] at hc;exact .inl ⟨j,x,e,hx,hc⟩
theorem Rel.fresh {g:Gh} {m:Mem} {w w':World} (h:Rel g m w) {i k:Nat} {cs:Array Value} {e:TypeId} {n:Nat×Nat}
  (hi:m[i]? = some .free) (hw:nj w w' (.cells cs e n)) (hk:k≤cs.size) (hn:n.2≤n.1∨cs.size≤n.1) :
  let g':=(g.put i w.heap.size k cs.size).more w.heap.size 0 k
  Rel g' (m.set i .tok) w'∧Ext g w g' w'∧cM g m w g' (m.set i .tok) w':=by
 intro g'
 have hf:=h.free i hi
 have nX:=bA hi
 have hp : ∀c o,g.pure c o→w'.cell? ⟨c,o,none⟩=w.cell? ⟨c,o,none⟩:=fun c o p=>cV (hw.old (h.jY p))
 have bo : ∀j,j≠i→g'.bE j=g.bE j:=fun j hj=>by simp[g',Gh.put,Gh.more,hj]
 have bi:g'.bE i=some w.heap.size:=by simp[g',Gh.put,Gh.more]
 have ext:Ext g w g' w':=⟨fun j c hc=>by
  have:j≠i:=fun e=>by subst e;rw[hf] at hc;cases hc
  simp[g',Gh.put,Gh.more,this,hc],fun c o p=>⟨.inl p,hp c o p⟩⟩
 have lt : ∀j x c,m[j]? = some x→x.cP=true→g.bE j=some c→c<w.heap.size:=fun j x c hj ho hc=>h.jy ⟨j,x,hj,ho,hc⟩
 refine⟨⟨fun j hj=> ?_,fun j hj=> ?_,fun j x l hj hl=> ?_,fun j c hj hc=> ?_,fun j k x x' c hj hk ho ho' ff fI=> ?_,fun c o p=> ?_,fun j kk ll hj=> ?_⟩,ext,⟨by rw[hw.size];omega,fun k hk _=>hw.old hk,fun c o p=>⟨.inl p,hp c o p⟩,fun c o p=> ?_,fun c ho=> ?_,hw.os,hw.tape,hw.output⟩⟩
 · rw[List.length_set] at hj
   rw[bo j (by omega)];exact h.vT j hj
 · rcases aX hj with⟨rfl,e⟩ | ⟨hji,e⟩
   · cases e
   · rw[bo j hji];exact h.free j e
 · rcases aX hj with⟨rfl,e⟩ | ⟨hji,e⟩
   · subst e;cases hl
   · obtain⟨c1,cs1,e1,n1,k1,k2,k3,k4,k5⟩:=h.cells j x l e hl
     refine⟨c1,cs1,e1,n1,(bo j hji).trans k1,(hw.old (bz k2)).trans k2,k3,k4.mono ext,fun o p=> ?_⟩
     rcases p with p | ⟨rfl,_⟩
     · exact k5 o p
     · exact absurd (bz k2) (Nat.lt_irrefl _)
 · rcases aX hj with⟨rfl,_⟩ | ⟨hji,e⟩
   · rw[bi] at hc;cases hc
     refine⟨cs,_,n,hw.new,by simp[g',Gh.put,Gh.more],by simpa[g',Gh.put,Gh.more] using hn,fun o h1 _ p=> ?_⟩
     have h1':k≤o:=by simpa[g',Gh.put,Gh.more] using h1
     rcases p with p | ⟨_,_,p⟩
     · exact absurd (h.jY p) (Nat.lt_irrefl _)
     · omega
   · rw[bo j hji] at hc
     obtain⟨cs1,e1,n1,k2,k3,k4,k5⟩:=h.tok j c e hc
     have h1:g'.hi j=g.hi j:=by simp[g',Gh.put,Gh.more,hji]
     have h2:g'.lo j=g.lo j:=by simp[g',Gh.put,Gh.more,hji]
     rw[h1,h2]
     refine⟨cs1,e1,n1,(hw.old (bz k2)).trans k2,k3,k4,fun o a b p=> ?_⟩
     rcases p with p | ⟨rfl,_⟩
     · exact k5 o a b p
     · exact absurd (bz k2) (Nat.lt_irrefl _)
 · rcases aX hj with⟨rfl,e⟩ | ⟨hji,e⟩<;>rcases aX hk with⟨rfl,e'⟩ | ⟨hki,e'⟩
   · rfl
   · rw[bi] at ff;cases ff
     rw[bo k hki] at fI
     exact absurd (lt k x' _ e' ho' fI) (Nat.lt_irrefl _)
   · rw[bi] at fI;cases fI
     rw[bo j hji] at ff
     exact absurd (lt j x _ e ho ff) (Nat.lt_irrefl _)
   · rw[bo j hji] at ff;rw[bo k hki] at fI
     exact h.inj j k x x' c e e' ho ho' ff fI
 · rcases p with p | ⟨rfl,_,p⟩
   · obtain⟨v,hv⟩:=h.there c o p
     exact⟨v,(hp c o p).trans hv⟩
   · exact⟨cs[o],by rw[bf hw.new,Array.getElem?_eq_getElem (by omega)]⟩
 · rcases aX hj with⟨rfl,e⟩ | ⟨hji,e⟩
   · cases e
   · obtain⟨c1,C3,vs1,k1,k2,k3,k6,k7,k8⟩:=h.obs j kk ll e
     exact⟨c1,C3,vs1,(bo j hji).trans k1,(hw.old (bz k2)).trans k2,k3.mono ext,k6,fun o p=>p.elim (k7 o) fun q=>absurd (bz k2) (by rw[q.1];exact Nat.lt_irrefl _),by simpa[g',Gh.put,Gh.more,hji] using k8⟩
 · rcases p with p | ⟨rfl,_⟩
   · exact .inl p
   · exact .inr (.inr (Nat.le_refl _))
 · obtain⟨j,x,hj,hx,hc⟩:=ho
   rcases aX hj with⟨rfl,e⟩ | ⟨hji,e⟩
   · rw[bi] at hc;cases hc;exact .inr (Nat.le_refl _)
   · rw[bo j hji] at hc;exact .inl ⟨j,x,e,hx,hc⟩
theorem Rel.spare {g:Gh} {m:Mem} {w w':World} (h:Rel g m w) {t i c k:Nat} {cs cs':Array Value} {e e':TypeId} {n:Nat×Nat}
  (ht:m[t]? = some .tok) (hc:g.bE t=some c) (hi:m[i]? = some .free) (hcs:w.heap[c]? = some (.cells cs e n)) (hk:g.lo t+k≤g.hi t)
  (hw : ∀j,j≠c→w'.heap[j]? = w.heap[j]?) (hs:w'.heap.size=w.heap.size) (ho:w'.os=w.os) (htp:w'.tape=w.tape) (hu:w'.output=w.output)
  (hh:w'.heap[c]? = some (.cells cs' e' n)) (hcz:cs'.size=cs.size) (hout : ∀o,o<g.lo t∨g.hi t≤o→cs'[o]? = cs[o]?) :
  let g':=(g.put i c (g.lo t+k) (g.hi t)).more c (g.lo t) (g.lo t+k)
  Rel g' ((m.set t .dead).set i .tok) w'∧Ext g w g' w'∧cM g m w g' ((m.set t .dead).set i .tok) w':=by
 intro g'
 have hf:=h.free i hi
 have nX:=bA hi
 have Zf:t≠i:=fun e=>by subst e;rw[ht] at hi;cases hi
 obtain⟨cs0,e0,n0,q1,q2,q3,q4⟩:=h.tok t c ht hc
 rw[hcs] at q1;cases q1
 have hp : ∀c' o,g.pure c' o→w'.cell? ⟨c',o,none⟩=w.cell? ⟨c',o,none⟩:=by
  intro c' o p
  by_cases e:c'=c
  · subst e
    rw[bf hh,bf hcs]
    refine hout o ?_
    rcases Nat.lt_or_ge o (g.lo t) with a | a
    · exact .inl a
    · rcases Nat.lt_or_ge o (g.hi t) with b | b
      · exact absurd p (q4 o a b)
      · exact .inr b
  · exact cV (hw c' e)
 have bo : ∀j,j≠i→g'.bE j=g.bE j:=fun j hj=>by simp[g',Gh.put,Gh.more,hj]
 have bi:g'.bE i=some c:=by simp[g',Gh.put,Gh.more]
 have ext:Ext g w g' w':=⟨fun j c hc=>by
  have:j≠i:=fun e=>by subst e;rw[hf] at hc;cases hc
  simp[g',Gh.put,Gh.more,this,hc],fun c o p=>⟨.inl p,hp c o p⟩⟩
 have get : ∀j x,((m.set t .dead).set i .tok)[j]? = some x→(j=i∧x = .tok)∨x = .dead∨(j≠i∧j≠t∧m[j]? = some x):=by
  intro j x hj
  rcases aX hj with e | ⟨hji,e⟩
  · exact .inl e
  · rcases aX e with⟨_,e'⟩ | ⟨EF,e'⟩
    · exact .inr (.inl e')
    · exact .inr (.inr ⟨hji,EF,e'⟩)
 have ne : ∀j x c',j≠t→m[j]? = some x→x.cP=true→g.bE j=some c'→c'≠c:=fun j x c' EF hj ho eP e=>EF (h.inj j t x _ c hj ht ho rfl (e▸eP) hc)
 refine⟨⟨fun j hj=> ?_,fun j hj=> ?_,fun j x l hj hl=> ?_,fun j c' hj eP=> ?_,fun j k x x' c' hj hk ho ho' ff fI=> ?_,fun c' o p=> ?_,fun j kk ll hj=> ?_⟩,ext,⟨by omega,fun j _ hn=> ?_,fun c o p=>⟨.inl p,hp c o p⟩,fun c' o p=> ?_,fun c' ho'=> ?_,ho,htp,hu⟩⟩
 · simp only[List.length_set] at hj
   rw[bo j (by omega)];exact h.vT j hj
 · rcases get j _ hj with⟨_,e⟩ | e | ⟨hji,_,e⟩
   · cases e
   · cases e
   · rw[bo j hji];exact h.free j e
 · rcases get j _ hj with⟨_,e⟩ | e | ⟨hji,EF,e⟩
   · subst e;cases hl
   · subst e;cases hl
   · obtain⟨c1,cs1,e1,n1,k1,k2,k3,k4,k5⟩:=h.cells j x l e hl
     refine⟨c1,cs1,e1,n1,(bo j hji).trans k1,(hw c1 (ne j x c1 EF e (b8 hl) k1)).trans k2,k3,k4.mono ext,fun o p=> ?_⟩
     rcases p with p | ⟨rfl,_⟩
     · exact k5 o p
     · exact ne j x _ EF e (b8 hl) k1 rfl
 · rcases get j _ hj with⟨rfl,_⟩ | e | ⟨hji,EF,e⟩
   · rw[bi] at eP;cases eP
     refine⟨cs',e',n,hh,by simp only[g',Gh.put,Gh.more,if_true];omega,by simpa[g',Gh.put,Gh.more] using q3,fun o h1 h2 p=> ?_⟩
     have h1':g.lo t+k≤o:=by simpa[g',Gh.put,Gh.more] using h1
     have h2':o<g.hi t:=by simpa[g',Gh.put,Gh.more] using h2
     rcases p with p | ⟨_,_,p⟩
     · exact q4 o (by omega) h2' p
     · omega
   · cases e
   · rw[bo j hji] at eP
     obtain⟨cs1,e1,n1,k2,k3,k4,k5⟩:=h.tok j c' e eP
     have h1:g'.hi j=g.hi j:=by simp[g',Gh.put,Gh.more,hji]
     have h2:g'.lo j=g.lo j:=by simp[g',Gh.put,Gh.more,hji]
     rw[h1,h2]
     refine⟨cs1,e1,n1,(hw c' (ne j _ c' EF e rfl eP)).trans k2,k3,k4,fun o a b p=> ?_⟩
     rcases p with p | ⟨rfl,_⟩
     · exact k5 o a b p
     · exact ne j _ _ EF e rfl eP rfl
 · rcases get j _ hj with⟨rfl,e⟩ | e | ⟨hji,EF,e⟩
   · rcases get k _ hk with⟨rfl,e'⟩ | e' | ⟨hki,hkt,e'⟩
     · rfl
     · subst e';simp[bg.cP] at ho'
     · rw[bi] at ff;cases ff
       rw[bo k hki] at fI
       exact absurd rfl (ne k x' _ hkt e' ho' fI)
   · subst e;simp[bg.cP] at ho
   · rcases get k _ hk with⟨rfl,e'⟩ | e' | ⟨hki,hkt,e'⟩
     · rw[bi] at fI;cases fI
       rw[bo j hji] at ff
       exact absurd rfl (ne j x _ EF e ho ff)
     · subst e';simp[bg.cP] at ho'
     · rw[bo j hji] at ff;rw[bo k hki] at fI
       exact h.inj j k x x' c' e e' ho ho' ff fI
 · rcases p with p | ⟨rfl,p1,p2⟩
   · obtain⟨v,hv⟩:=h.there c' o p
     exact⟨v,(hp c' o p).trans hv⟩
   · exact⟨cs'[o],by rw[bf hh,Array.getElem?_eq_getElem (by omega)]⟩
 · rcases get j _ hj with⟨_,e⟩ | e | ⟨hji,EF,e⟩
   · cases e
   · cases e
   · obtain⟨c1,C3,vs1,k1,k2,k3,k6,k7,k8⟩:=h.obs j kk ll e
     exact⟨c1,C3,vs1,(bo j hji).trans k1,(hw c1 (ne j _ c1 EF e rfl k1)).trans k2,k3.mono ext,k6,fun o p=>p.elim (k7 o) fun q=>ne j _ c1 EF e rfl k1 q.1,by simpa[g',Gh.put,Gh.more,hji] using k8⟩
 · exact hw j fun e=>hn ⟨t,_,ht,rfl,e▸hc⟩
 · rcases p with p | ⟨rfl,_⟩
   · exact .inl p
   · exact .inr (.inl ⟨t,_,ht,rfl,hc⟩)
 · obtain⟨j,x,hj,hx,IM⟩:=ho'
   rcases get j _ hj with⟨rfl,e⟩ | e | ⟨hji,_,e⟩
   · rw[bi] at IM;cases IM;exact .inl ⟨t,_,ht,rfl,hc⟩
   · subst e;simp[bg.cP] at hx
   · rw[bo j hji] at IM;exact .inl ⟨j,x,e,hx,IM⟩
theorem Rel.nY {g:Gh} {m:Mem} {w w':World} (h:Rel g m w) {cs:Array Value} {e:TypeId} (hw:nj w w' (.cells cs e)) :
  Rel (g.more w.heap.size 0 cs.size) m w'∧Ext g w (g.more w.heap.size 0 cs.size) w'∧cM g m w (g.more w.heap.size 0 cs.size) m w':=by
 have hp : ∀c o,g.pure c o→w'.cell? ⟨c,o,none⟩=w.cell? ⟨c,o,none⟩:=fun c o p=>cV (hw.old (h.jY p))
 have ext:Ext g w (g.more w.heap.size 0 cs.size) w':=⟨fun j c hc=>⟨hc,rfl,rfl⟩,fun c o p=>⟨.inl p,hp c o p⟩⟩
 refine⟨⟨h.vT,h.free,fun j x l hj hl=> ?_,fun j c hj hc=> ?_,h.inj,fun c o p=> ?_,fun j kk ll hj=> ?_⟩,ext,⟨by rw[hw.size];omega,fun k hk _=>hw.old hk,fun c o p=>⟨.inl p,hp c o p⟩,fun c o p=> ?_,fun c ho=> .inl ho,hw.os,hw.tape,hw.output⟩⟩
 · obtain⟨c1,cs1,e1,n1,k1,k2,k3,k4,k5⟩:=h.cells j x l hj hl
   refine⟨c1,cs1,e1,n1,k1,(hw.old (bz k2)).trans k2,k3,k4.mono ext,fun o p=> ?_⟩
   rcases p with p | ⟨rfl,_⟩
   · exact k5 o p
   · exact absurd (bz k2) (Nat.lt_irrefl _)
 · obtain⟨cs1,e1,n1,k2,k3,k4,k5⟩:=h.tok j c hj hc
   refine⟨cs1,e1,n1,(hw.old (bz k2)).trans k2,k3,k4,fun o a b p=> ?_⟩
   rcases p with p | ⟨rfl,_⟩
   · exact k5 o a b p
   · exact absurd (bz k2) (Nat.lt_irrefl _)
 · rcases p with p | ⟨rfl,_,p⟩
   · obtain⟨v,hv⟩:=h.there c o p
     exact⟨v,(hp c o p).trans hv⟩
   · exact⟨cs[o],by rw[bf hw.new,Array.getElem?_eq_getElem (by omega)]⟩
 · obtain⟨c1,C3,vs1,k1,k2,k3,k6,k7,k8⟩:=h.obs j kk ll hj
   exact⟨c1,C3,vs1,k1,(hw.old (bz k2)).trans k2,k3.mono ext,k6,fun o p=>p.elim (k7 o) fun q=>absurd (bz k2) (by rw[q.1];exact Nat.lt_irrefl _),k8⟩
 · rcases p with p | ⟨rfl,_⟩
   · exact .inl p
   · exact .inr (.inr (Nat.le_refl _))
theorem Rel.Nq {g:Gh} {m:Mem} {w:World} (h:Rel g m w) {i:Nat} (hi:m[i]? = some .free):Rel g (m.set i .tok) w∧cM g m w g (m.set i .tok) w:=by
 have hf:=h.free i hi
 refine⟨⟨fun j hj=>h.vT j (by simpa using hj),fun j hj=> ?_,fun j x l hj hl=> ?_,fun j c hj hc=> ?_,fun j k x x' c hj hk ho ho' ff fI=> ?_,h.there,fun j kk ll hj=> ?_⟩,cM.less fun c ho=> ?_⟩
 · rcases aX hj with⟨_,e⟩ | ⟨_,e⟩
   · cases e
   · exact h.free j e
 · rcases aX hj with⟨_,e⟩ | ⟨_,e⟩
   · subst e;cases hl
   · exact h.cells j x l e hl
 · rcases aX hj with⟨rfl,_⟩ | ⟨_,e⟩
   · rw[hf] at hc;cases hc
   · exact h.tok j c e hc
 · rcases aX hj with⟨rfl,_⟩ | ⟨_,e⟩
   · rw[hf] at ff;cases ff
   · rcases aX hk with⟨rfl,_⟩ | ⟨_,e'⟩
     · rw[hf] at fI;cases fI
     · exact h.inj j k x x' c e e' ho ho' ff fI
 · rcases aX hj with⟨_,e⟩ | ⟨_,e⟩
   · cases e
   · exact h.obs j kk ll e
 · obtain⟨j,x,hj,hx,hc⟩:=ho
   rcases aX hj with⟨rfl,_⟩ | ⟨_,e⟩
   · rw[hf] at hc;cases hc
   · exact⟨j,x,e,hx,hc⟩
theorem Rel.jA {g:Gh} {m:Mem} {w w':World} (h:Rel g m w) (hh:w'.heap=w.heap) (ho:w'.os=w.os) (ht:w'.tape=w.tape) (hu:w'.output=w.output) :
  Rel g m w'∧Ext g w g w'∧cM g m w g m w':=by
 have hc : ∀a:Addr,w'.cell? a=w.cell? a:=fun a=>by simp[World.cell?,hh]
 have ext:Ext g w g w':=⟨fun _ _ h=>⟨h,rfl,rfl⟩,fun _ _ p=>⟨p,hc _⟩⟩
 refine⟨⟨h.vT,h.free,fun j x l hj hl=> ?_,fun j c hj hcc=> ?_,h.inj,fun c o p=> ?_,fun j kk ll hj=> ?_⟩,ext,⟨by rw[hh];exact Nat.le_refl _,fun k _ _=>by rw[hh],fun c o p=>⟨p,hc _⟩,fun _ _ p=> .inl p,fun _ ho=> .inl ho,ho,ht,hu⟩⟩
 · obtain⟨c1,cs1,e1,n1,k1,k2,k3,k4,k5⟩:=h.cells j x l hj hl
   exact⟨c1,cs1,e1,n1,k1,by rw[hh];exact k2,k3,k4.mono ext,k5⟩
 · obtain⟨cs1,e1,n1,k2,k3⟩:=h.tok j c hj hcc
   exact⟨cs1,e1,n1,by rw[hh];exact k2,k3⟩
 · obtain⟨v,hv⟩:=h.there c o p
   exact⟨v,(hc _).trans hv⟩
 · obtain⟨c1,C3,vs1,k1,k2,k3,k6,k7,k8⟩:=h.obs j kk ll hj
   exact⟨c1,C3,vs1,k1,by rw[hh];exact k2,k3.mono ext,k6,k7,k8⟩
theorem Rel.reserve {g:Gh} {m:Mem} {w:World} (h:Rel g m w):Rel g (m++[.free]) w∧cM g m w g (m++[.free]) w:=by
 have get : ∀j x,(m++[bg.free])[j]? = some x→m[j]? = some x∨(j=m.length∧x = .free):=by
  intro j x hj
  rw[List.getElem?_append] at hj
  by_cases e:j<m.length
  · rw[if_pos e] at hj;exact .inl hj
  · rw[if_neg e] at hj
    have:=bA hj
    simp at this
    have e2:j=m.length:=by omega
    subst e2
    simp at hj
    exact .inr ⟨rfl,hj.symm⟩
 refine⟨⟨fun j hj=>h.vT j (by simp at hj;omega),fun j hj=> ?_,fun j x l hj hl=> ?_,fun j c hj hc=> ?_,fun j k x x' c hj hk ho ho' ff fI=> ?_,h.there,fun j kk ll hj=> ?_⟩,cM.less fun c ho=> ?_⟩
 · rcases get j _ hj with e | ⟨rfl,_⟩
   · exact h.free j e
   · exact h.vT _ (Nat.le_refl _)
 · rcases get j _ hj with e | ⟨_,e⟩
   · exact h.cells j x l e hl
   · subst e;cases hl
 · rcases get j _ hj with e | ⟨_,e⟩
   · exact h.tok j c e hc
   · cases e
 · rcases get j _ hj with e | ⟨_,e⟩
   · rcases get k _ hk with e' | ⟨_,e'⟩
     · exact h.inj j k x x' c e e' ho ho' ff fI
     · subst e';simp[bg.cP] at ho'
   · subst e;simp[bg.cP] at ho
 · rcases get j _ hj with e | ⟨_,e⟩
   · exact h.obs j kk ll e
   · cases e
 · obtain⟨j,x,hj,hx,hc⟩:=ho
   rcases get j _ hj with e | ⟨_,e⟩
   · exact⟨j,x,e,hx,hc⟩
   · subst e;simp[bg.cP] at hx
theorem Rel.nZ (dV:Nat) {g:Gh} {m:Mem} {w w':World} (h:Rel g m w) {i:Nat} {ob:jQ} {l:List AV} {vs:List Value} {o:Obj}
  (hi:m[i]? = some .free) (hv:cj g w l vs) (hw:nj w w' o) (his:ob.is o vs) (hroom:ob.room o dV) :
  Rel (g.put i w.heap.size 0 dV) (m.set i (.ob ob l)) w'∧Ext g w (g.put i w.heap.size 0 dV) w'∧cM g m w (g.put i w.heap.size 0 dV) (m.set i (.ob ob l)) w':=by
 have hf:=h.free i hi
 have hp : ∀c o,g.pure c o→w'.cell? ⟨c,o,none⟩=w.cell? ⟨c,o,none⟩:=fun c o p=>cV (hw.old (h.jY p))
 have bo : ∀j,j≠i→(g.put i w.heap.size 0 dV).bE j=g.bE j:=fun j hj=>by simp[Gh.put,hj]
 have bi:(g.put i w.heap.size 0 dV).bE i=some w.heap.size:=by simp[Gh.put]
 have ext:Ext g w (g.put i w.heap.size 0 dV) w':=⟨fun j c hc=>by
  have:j≠i:=fun e=>by subst e;rw[hf] at hc;cases hc
  simp[Gh.put,this,hc],fun c o p=>⟨p,hp c o p⟩⟩
 have lt : ∀j x c,m[j]? = some x→x.cP=true→g.bE j=some c→c<w.heap.size:=fun j x c hj ho hc=>h.jy ⟨j,x,hj,ho,hc⟩
 have nX:=bA hi
 refine⟨⟨fun j hj=> ?_,fun j hj=> ?_,fun j x k hj hk=> ?_,fun j c hj hc=> ?_,fun j k x x' c hj hk ho ho' ff fI=> ?_,fun c o p=> ?_,fun j kk ll hj=> ?_⟩,ext,⟨by rw[hw.size];omega,fun k hk _=>hw.old hk,fun c o p=>⟨p,hp c o p⟩,fun _ _ p=> .inl p,fun c ho=> ?_,hw.os,hw.tape,hw.output⟩⟩
 · rw[List.length_set] at hj
   rw[bo j (by omega)];exact h.vT j hj
 · rcases aX hj with⟨rfl,e⟩ | ⟨hji,e⟩
   · cases e
   · rw[bo j hji];exact h.free j e
 · rcases aX hj with⟨rfl,e⟩ | ⟨hji,e⟩
   · subst e;cases hk
   · obtain⟨c1,cs1,e1,n1,k1,k2,k3,k4,k5⟩:=h.cells j x k e hk
     exact⟨c1,cs1,e1,n1,(bo j hji).trans k1,(hw.old (bz k2)).trans k2,k3,k4.mono ext,k5⟩
 · rcases aX hj with⟨rfl,e⟩ | ⟨hji,e⟩
   · cases e
   · rw[bo j hji] at hc
     obtain⟨cs1,e1,n1,k2,k3,k4,k5⟩:=h.tok j c e hc
     have h1:(g.put i w.heap.size 0 dV).hi j=g.hi j:=by simp[Gh.put,hji]
     have h2:(g.put i w.heap.size 0 dV).lo j=g.lo j:=by simp[Gh.put,hji]
     rw[h1,h2]
     exact⟨cs1,e1,n1,(hw.old (bz k2)).trans k2,k3,k4,k5⟩
 · rcases aX hj with⟨rfl,e⟩ | ⟨hji,e⟩<;>rcases aX hk with⟨rfl,e'⟩ | ⟨hki,e'⟩
   · rfl
   · rw[bi] at ff;cases ff
     rw[bo k hki] at fI
     exact absurd (lt k x' _ e' ho' fI) (Nat.lt_irrefl _)
   · rw[bi] at fI;cases fI
     rw[bo j hji] at ff
     exact absurd (lt j x _ e ho ff) (Nat.lt_irrefl _)
   · rw[bo j hji] at ff;rw[bo k hki] at fI
     exact h.inj j k x x' c e e' ho ho' ff fI
 · obtain⟨v,hv⟩:=h.there c o p
   exact⟨v,(hp c o p).trans hv⟩
 · rcases aX hj with⟨rfl,e⟩ | ⟨hji,e⟩
   · cases e
     exact⟨_,_,vs,bi,hw.new,hv.mono ext,his,fun o p=>absurd (h.jY p) (Nat.lt_irrefl _),by simpa[Gh.put] using hroom⟩
   · obtain⟨c1,C3,vs1,k1,k2,k3,k6,k7,k8⟩:=h.obs j kk ll e
     exact⟨c1,C3,vs1,(bo j hji).trans k1,(hw.old (bz k2)).trans k2,k3.mono ext,k6,k7,by simpa[Gh.put,hji] using k8⟩
 · obtain⟨j,x,hj,hx,hc⟩:=ho
   rcases aX hj with⟨rfl,e⟩ | ⟨hji,e⟩
   · rw[bi] at hc;cases hc;exact .inr (Nat.le_refl _)
   · rw[bo j hji] at hc;exact .inl ⟨j,x,e,hx,hc⟩
theorem Rel.rT {g:Gh} {m:Mem} {w w':World} (h:Rel g m w) {i:Nat} {ob:jQ} {l:List AV} {vs:List Value} {o:Obj}
  (hi:m[i]? = some .free) (hv:cj g w l vs) (hw:nj w w' o) (his:ob.is o vs) (hroom:ob.room o 0:=by trivial) :
  Rel (g.put i w.heap.size 0 0) (m.set i (.ob ob l)) w'∧Ext g w (g.put i w.heap.size 0 0) w'∧cM g m w (g.put i w.heap.size 0 0) (m.set i (.ob ob l)) w':=
 Rel.nZ 0 h hi hv hw his hroom
theorem Rel.fJ {g:Gh} {m:Mem} {w w':World} (h:Rel g m w) {i c:Nat} {ob C4:jQ} {l l':List AV} {vs':List Value} {o':Obj}
  (hi:m[i]? = some (.ob ob l)) (hc:g.bE i=some c)
  (hw : ∀k,k≠c→w'.heap[k]? = w.heap[k]?) (hs:w'.heap.size=w.heap.size) (ho:w'.os=w.os) (ht:w'.tape=w.tape) (hu:w'.output=w.output)
  (hh:w'.heap[c]? = some o') (his:C4.is o' vs') (hv:cj g w l' vs') (hroom:C4.room o' (g.hi i):=by trivial) :
  Rel g (m.set i (.ob C4 l')) w'∧Ext g w g w'∧cM g m w g (m.set i (.ob C4 l')) w':=by
 obtain⟨c0,ob0,vs0,h1,_,_,_,hnp,_⟩:=h.obs i ob l hi
 rw[hc] at h1;cases h1
 have hp : ∀c' o,g.pure c' o→w'.cell? ⟨c',o,none⟩=w.cell? ⟨c',o,none⟩:=fun c' o p=>cV (hw c' fun e=>hnp o (e▸p))
 have ext:Ext g w g w':=⟨fun _ _ h=>⟨h,rfl,rfl⟩,fun c' o p=>⟨p,hp c' o p⟩⟩
 have ne : ∀j x c',j≠i→m[j]? = some x→x.cP=true→g.bE j=some c'→c'≠c:=fun j x c' hji hj ho eP e=>hji (h.inj j i x _ c hj hi ho rfl (e▸eP) hc)
 refine⟨⟨fun j hj=>h.vT j (by simpa using hj),fun j hj=> ?_,fun j x k hj hk=> ?_,fun j c' hj eP=> ?_,fun j k x x' c' hj hk ho ho' ff fI=> ?_,fun c' o p=> ?_,fun j kk ll hj=> ?_⟩,ext,⟨by omega,fun k hk hn=> ?_,fun c' o p=>⟨p,hp c' o p⟩,fun _ _ p=> .inl p,fun c' ho'=> ?_,ho,ht,hu⟩⟩
 · rcases aX hj with⟨rfl,e⟩ | ⟨_,e⟩
   · cases e
   · exact h.free j e
 · rcases aX hj with⟨rfl,e⟩ | ⟨hji,e⟩
   · subst e;cases hk
   · obtain⟨c1,cs1,e1,n1,k1,k2,k3,k4,k5⟩:=h.cells j x k e hk
     exact⟨c1,cs1,e1,n1,k1,(hw c1 (ne j x c1 hji e (b8 hk) k1)).trans k2,k3,k4.mono ext,k5⟩
 · rcases aX hj with⟨rfl,e⟩ | ⟨hji,e⟩
   · cases e
   · obtain⟨cs1,e1,n1,k2,k3,k4,k5⟩:=h.tok j c' e eP
     exact⟨cs1,e1,n1,(hw c' (ne j _ c' hji e rfl eP)).trans k2,k3,k4,k5⟩
 · rcases aX hj with⟨rfl,e⟩ | ⟨hji,e⟩<;>rcases aX hk with⟨rfl,e'⟩ | ⟨hki,e'⟩
   · rfl
   · rw[hc] at ff;cases ff
     exact absurd rfl (ne k x' _ hki e' ho' fI)
   · rw[hc] at fI;cases fI
     exact absurd rfl (ne j x _ hji e ho ff)
   · exact h.inj j k x x' c' e e' ho ho' ff fI
 · obtain⟨v,hv⟩:=h.there c' o p
   exact⟨v,(hp c' o p).trans hv⟩
 · rcases aX hj with⟨rfl,e⟩ | ⟨hji,e⟩
   · cases e
     exact⟨c,_,vs',hc,hh,hv.mono ext,his,hnp,hroom⟩
   · obtain⟨c1,C3,vs1,k1,k2,k3,k6,k7,k8⟩:=h.obs j kk ll e
     exact⟨c1,C3,vs1,k1,(hw c1 (ne j _ c1 hji e rfl k1)).trans k2,k3.mono ext,k6,k7,k8⟩
 · exact hw k fun e=>hn ⟨i,_,hi,rfl,e▸hc⟩
 · rcases pM ho' with⟨_,k⟩ | ⟨j,x,_,k1,k2,k3⟩
   · exact .inl ⟨i,_,hi,rfl,k⟩
   · exact .inl ⟨j,x,k1,k2,k3⟩
end Go.Am
end
section
namespace Go.Am
open Go.RowKit
def bR (g:Gh) (m:Mem) (w:World) (r:Result Next) (a:AV) (m':Mem):Prop:=
 ∃v w' g',(r = .ok (.value v) w'∨(r = .ok .skip w'∧v=undef))∧VA g' w' a v∧Rel g' m' w'∧Ext g w g' w'∧cM g m w g' m' w'
theorem bR.quiet {g:Gh} {m:Mem} {w:World} {r:Result Next} {a:AV} {v:Value} (h:Rel g m w) (hr:r = .ok (.value v) w) (ha:VA g w a v):bR g m w r a m:=
 ⟨v,w,g,.inl hr,ha,h,Ext.refl g w,cM.refl g m w⟩
theorem aO {P:Program} {t:TypeId} {n:Nat} (h:eo P t=some n) (w:World):(sizeOf t).run P w = .ok n w:=by
 unfold eo at h
 cases hi:P.info? t with
 |none=>simp[hi] at h
 |some i=>simp only[hi,Option.map_some,Option.some.injEq] at h;simp[sizeOf,typeInfo,hi,h]
theorem dZ {P:Program} {t:TypeId} {i:TypeInfo} (h:P.info? t=some i) (w:World):(typeInfo t).run P w = .ok i w:=by
 simp[typeInfo,h]
theorem jZ {P:Program} {t:TypeId} {b:Bool} (h:Nl P t=some b) (w:World):(isAgg t).run P w = .ok b w:=by
 unfold Nl at h
 cases hu:P.underlying t with
 |none=>simp[hu] at h
 |some d=>cases d<;>simp[hu] at h<;>subst h<;>simp[isAgg,run_underlying hu]
theorem Nr {g:Gh} {w:World} {a:AV} {v cv:Value} (h:Il a=some v) (ha:VA g w a cv):cv=v:=by
 cases ha with
 |p v' _ hp=>cases hp<;>simp[Il] at h;exact h
 |_=>simp[Il] at h
theorem sF {g:Gh} {w:World} : ∀{l:List AV} {vs cs:List Value},rX l=some vs→cj g w l cs→cs=vs
 |[],vs,cs,h,ha=>by
  cases cs with
  |nil=>simp[rX] at h;exact h.symm
  |cons _ _=>exact ha.elim
 |a::l,vs,cs,h,ha=>by
  cases cs with
  |nil=>exact ha.elim
  |cons c cs=>
   simp only[rX] at h
   cases h1:Il a with
   |none=>simp[h1] at h
   |some v=>
    cases h2:rX l with
    |none=>simp[h1,h2] at h
    |some us=>
     simp only[h1,h2,Option.some.injEq] at h
     subst h
     rw[Nr h1 ha.1,sF h2 ha.2]
theorem C5 {g:Gh} {w:World} {a:AV} {v cv:Value} (h:CW a=some v) (ha:VA g w a cv):cv=v:=by
 cases ha with
 |p v' _ hp=>cases hp<;>simp[CW] at h;exact h
 |agg l cs hl hh=>
  simp only[CW,Option.map_eq_some_iff] at h
  obtain⟨vs,h1,rfl⟩:=h
  rw[←sF h1 (bq.ct hl hh)]
 |aS l cs hl hh=>
  simp only[CW,Option.map_eq_some_iff] at h
  obtain⟨vs,h1,rfl⟩:=h
  rw[←sF h1 (bq.ct hl hh)]
 |_=>simp[CW] at h
theorem zC {α:Type} (P:Program) (w:World) : ∀(s:Sem α) (a:α),fE P s=some a→s.run P w = .ok a w:=by
 intro s
 induction s with
 |pure b=>intro a h;simp[fE] at h;subst h;rfl
 |program k ih=>intro a h;simp only[fE] at h;simp only[Sem.run];exact ih P a h
 |mark m k ih=>intro a h;simp only[fE] at h;simp only[Sem.run];exact ih a h
 |_=>intro a h;simp[fE] at h
theorem VA.fS {g:Gh} {w:World} (v:Value):VA g w (fS v) v:=by
 unfold Am.fS
 split
 · exact .os none 0 0 [] none 0 (.qp 0 none 0 (.inr ⟨rfl,rfl⟩)) (.inl rfl)
 · exact .p _ _ (.sc v)
theorem cj.eX {g:Gh} {w:World} : ∀(l:List Value),cj g w (l.map Am.fS) l
 |[]=>trivial
 |v::l=>⟨VA.fS v,cj.eX l⟩
theorem VA.Et {g:Gh} {w:World} (v:Value):VA g w (Et v) v:=by
 unfold Am.Et
 split
 · exact VA.sD.2 (cj.eX _)
 · exact VA.iA.2 (cj.eX _)
 · exact VA.fS _
theorem wW {ρ:Operand→AV} : ∀{l:List Operand},ql ρ l=true → ∀x∈l,∃v,CW (ρ x)=some v
 |[],_,_,hx=>by cases hx
 |y::l,h,x,hx=>by
  simp only[ql,Bool.and_eq_true] at h
  cases hx with
  |head=>exact Option.isSome_iff_exists.1 h.1
  |tail _ hx=>exact wW h.2 x hx
theorem getD_some {m:Mem} {b:Nat} {x:bg} (h:m.getD b .dead=x) (hx:x ≠ .dead):m[b]? = some x:=by
 rw[List.getD_eq_getElem?_getD] at h
 cases hq:m[b]? with
 |none=>rw[hq] at h;exact absurd h.symm hx
 |some y=>rw[hq] at h;exact congrArg some h
section ops
variable {P:Program} {g:Gh} {m:Mem} {w:World} {ρ:Operand→AV} {bL:Operand→Value} {o:Oper}
theorem dP (hr : ∀x,VA g w (ρ x) (bL x)) (hs : ∀cs b,o.op ≠ .select cs b) {a:AV} (h:scalar P ρ o=some a) :
  ∃v,(execOp bL o).run P w = .ok (.value v) w∧VA g w a v:=by
 unfold scalar at h
 cases hb:ql ρ o.op.operands.toList with
 |false=>simp[hb] at h
 |true=>
  simp only[hb,cond_true] at h
  have hc:execOp bL o=execOp (fun x=>(CW (ρ x)).getD undef) o:=execOp_congr o hs fun x hx=>by
   obtain⟨v,hv⟩:=wW hb x (Array.mem_toList_iff.2 hx)
   simp[hv,C5 hv (hr x)]
  cases he:fE P (execOp (fun x=>(CW (ρ x)).getD undef) o) with
  |none=>simp[he] at h
  |some nx=>
   cases nx with
   |value v=>
    simp only[he,Option.some.injEq] at h
    subst h
    exact⟨v,by rw[hc];exact zC P w _ _ he,VA.Et v⟩
   |_=>simp[he] at h
theorem A9 {d:Option TypeDesc} {c:PV} (h:(rZ d c).2=true):(rZ d c).1=c∧c ≠ .bad:=by
 unfold rZ at h ⊢
 split at h
 · cases c with
   |sc v=>cases v<;>simp_all [isInt,au]
   |_=>simp[isInt] at h
 · cases c with
   |sc v=>cases v<;>simp_all [isBool,aT]
   |_=>simp[isBool] at h
 · cases c with
   |sc v=>cases v<;>simp_all [isStr,aN]
   |_=>simp[isStr] at h
 · cases c<;>simp_all [aH,aq,aA,aj]
 · cases c<;>simp_all [isOk]
theorem sG {d:Option TypeDesc} {a:AV} (h:(gw d a).2=true):(gw d a).1=a∧a ≠ .p .bad:=by
 cases a with
 |p c=>simp only[gw] at h ⊢;exact⟨by rw[(A9 h).1],fun e=>(A9 h).2 (AV.p.inj e)⟩
 |_=>exact⟨rfl,fun e=>by cases e⟩
theorem Ba : ∀{ds:List (Option TypeDesc)} {l:List AV},(nN ds l).2=true→(nN ds l).1=l ∧ ∀x∈l,x ≠ .p .bad
 |[],[],_=>⟨rfl,fun _ h=>by cases h⟩
 |d::ds,a::l,h=>by
  simp only[nN,Bool.and_eq_true] at h ⊢
  obtain⟨h1,h2⟩:=Ba h.2
  refine⟨by rw[(sG h.1).1,h1],fun x hx=> ?_⟩
  cases hx with
  |head=>exact(sG h.1).2
  |tail _ hx=>exact h2 x hx
 |[],_::_,h=>by simp[nN] at h
 |_::_,[],h=>by simp[nN] at h
theorem ez {α:Type} (d:α) (l:List α) : ∀(n off:Nat),(kR d l off n).length=n
 |0,_=>rfl
 |n+1,off=>by simp[kR,ez d l n]
theorem lq {α:Type} (d:α) (l:List α) : ∀(n off j:Nat) (h:j<(kR d l off n).length),(kR d l off n)[j]=l.getD (off+j) d
 |0,_,_,h=>by simp[kR] at h
 |n+1,off,0,_=>by simp[kR]
 |n+1,off,j+1,h=>by
  simp only[kR,List.getElem_cons_succ]
  rw[lq d l n (off+1) j]
  congr 1;omega
theorem Rel.QZ (h:Rel g m w) {b c:Nat} {k:List AV} {t:TypeId} {pq:Bool} (hb:m[b]? = some (.ob (.gr t pq) k)) (hc:g.bE b=some c) {j:Nat} (hj:j<k.length) : ∃v,w.cell? ⟨c,j,none⟩=some v∧VA g w k[j] v:=by
 obtain⟨c',ob,vs,h1,h2,h3,h4,_,_⟩:=h.obs b _ _ hb
 rw[hc] at h1;cases h1
 obtain⟨cs,e,n,rfl,_,_,q1,q2,_⟩:=h4
 have hl:=h3.len
 have IN:j<vs.length:=by omega
 have hjc:j<cs.size:=by omega
 refine⟨cs[j],by rw[bf h2,Array.getElem?_eq_getElem hjc],?_⟩
 have:=h3.get j hj IN
 have e1:vs[j]? = some cs[j]:=by
  rw[q1,List.getElem?_take,if_pos IN]
  simp[hjc]
 rw[List.getElem?_eq_getElem IN] at e1
 rwa [Option.some.inj e1] at this
theorem mU (h:Rel g m w) {a:AV} {ca:Value} (ha:VA g w a ca) {n:Nat} {l:List AV} (he:jS (fun i=>m.getD i .dead) a n=some (l,true)) (hb : ∀x∈l,x ≠ .p .bad) :
  ∃c o vs,ca = .pointer (some ⟨c,o,none⟩)∧cj g w l vs∧vs.length=n ∧ ∀j v,vs[j]? = some v→w.cell? ⟨c,o+j,none⟩=some v:=by
 have key : ∀(c o:Nat),l.length=n→(∀j (hj:j<l.length),∃v,w.cell? ⟨c,o+j,none⟩=some v∧VA g w l[j] v) →
   ∃vs,cj g w l vs∧vs.length=n ∧ ∀j v,vs[j]? = some v→w.cell? ⟨c,o+j,none⟩=some v:=by
  intro c o hl hh
  refine⟨(List.range n).map fun j=>(w.cell? ⟨c,o+j,none⟩).getD undef,bq.ct (by simp[hl]) fun i hi _=> ?_,by simp,fun j v hj=> ?_⟩
  · obtain⟨v,h1,h2⟩:=hh i hi
    simpa[h1] using h2
  · simp only[List.getElem?_map,Option.map_eq_some_iff] at hj
    obtain⟨k,hk,rfl⟩:=hj
    have hk':=List.getElem?_eq_some_iff.1 hk
    obtain⟨hlt,hk'⟩:=hk'
    simp at hlt hk'
    subst hk'
    obtain⟨v,h1,_⟩:=hh j (by omega)
    simp[h1]
 unfold jS at he
 split at he
 · rename_i off cs
   simp only[Option.some.injEq,Prod.mk.injEq,and_true] at he
   subst he
   rw[VA.pv] at ha
   cases ha with
   |pp _ _ b o f hp hv=>
    obtain⟨vs,h1,h2,h3⟩:=key b (o+off) (by simp[ez]) (fun j hj=>by
     have hj':j<(kR PV.bad cs off n).length:=by simpa using hj
     have hx:=hb _ (List.getElem_mem hj)
     simp only[List.getElem_map,lq] at hx ⊢
     rcases Nat.lt_or_ge (off+j) cs.length with hlt | hge
     · refine⟨f (off+j),by rw[Nat.add_assoc];exact(hp (off+j) hlt).2.1,?_⟩
       rw[List.getD_eq_getElem?_getD,List.getElem?_eq_getElem hlt]
       exact .p _ _ (hv (off+j) hlt)
     · exact absurd (by rw[List.getD_eq_getElem?_getD,List.getElem?_eq_none hge];rfl) hx)
    exact⟨b,o+off,vs,rfl,h1,h2,h3⟩
 · rename_i b off
   cases ha with
   |mp _ _ c hc=>
    split at he
    · rename_i k hk
      simp only[Option.some.injEq,Prod.mk.injEq,and_true] at he
      subst he
      have hm:m[b]? = some (.pc k):=getD_some hk (by simp)
      obtain⟨c',cs,e,q,h1,h2,h3,h4,h5⟩:=h.cells b _ _ hm rfl
      rw[hc] at h1;cases h1
      have h4:=h4.1
      have hlen:=h4.len
      obtain⟨vs,k1,k2,k3⟩:=key c off (by simp[ez]) (fun j hj=>by
       have hx:=hb _ (List.getElem_mem hj)
       simp only[List.getElem_map,lq] at hx ⊢
       rcases Nat.lt_or_ge (off+j) k.length with hlt | hge
       · have hlt':off+j<cs.size:=by simp at hlen;omega
         refine⟨cs[off+j],by rw[bf h2,Array.getElem?_eq_getElem hlt'],?_⟩
         rw[List.getD_eq_getElem?_getD,List.getElem?_eq_getElem hlt]
         have:=h4.get (off+j) (by simpa using hlt) (by simpa using hlt')
         simpa using this
       · exact absurd (by rw[List.getD_eq_getElem?_getD,List.getElem?_eq_none hge];rfl) hx)
      exact⟨c,off,vs,rfl,k1,k2,k3⟩
    · rename_i k hk
      simp only[Option.some.injEq,Prod.mk.injEq] at he
      obtain⟨rfl,hle⟩:=he
      have hle':=Nat.le_of_ble_eq_true hle
      have hm:m[b]? = some (.ac k):=getD_some hk (by simp)
      obtain⟨c',cs,e,q,h1,h2,h3,h4,h5⟩:=h.cells b _ _ hm rfl
      rw[hc] at h1;cases h1
      have h4:=h4.1
      have hlen:=h4.len
      obtain⟨vs,k1,k2,k3⟩:=key c off (by simp[ez]) (fun j hj=>by
       simp only[ez] at hj
       simp only[lq]
       have hlt:off+j<k.length:=by omega
       have hlt':off+j<cs.size:=by simp at hlen;omega
       refine⟨cs[off+j],by rw[bf h2,Array.getElem?_eq_getElem hlt'],?_⟩
       rw[List.getD_eq_getElem?_getD,List.getElem?_eq_getElem hlt]
       have:=h4.get (off+j) hlt (by simpa using hlt')
       simpa using this)
      exact⟨c,off,vs,rfl,k1,k2,k3⟩
    · rename_i k hk
      simp only[Option.some.injEq,Prod.mk.injEq] at he
      obtain⟨rfl,hle⟩:=he
      have hle':=Nat.le_of_ble_eq_true hle
      obtain⟨vs,k1,k2,k3⟩:=key c off (by simp[ez]) (fun j hj=>by
       simp only[ez] at hj
       simp only[lq]
       have hlt:off+j<k.length:=by omega
       obtain⟨v,q1,q2⟩:=h.QZ (getD_some hk (by simp)) hc hlt
       refine⟨v,q1,?_⟩
       rw[List.getD_eq_getElem?_getD,List.getElem?_eq_getElem hlt]
       exact q2)
      exact⟨c,off,vs,rfl,k1,k2,k3⟩
    · cases he
 · cases he
theorem bY (c o j:Nat):(⟨c,o,none⟩:Addr).add j=⟨c,o+j,none⟩:=by unfold Addr.add;split<;>simp_all
theorem oa (h:Rel g m w) {a:AV} {ca:Value} (ha:VA g w a ca) {t:TypeId} {v:AV} (he:jl P (fun i=>m.getD i .dead) t a=some (v,true)) :
  ∃c o cv,ca = .pointer (some ⟨c,o,none⟩)∧(loadVar t ⟨c,o,none⟩).run P w = .ok cv w∧VA g w v cv:=by
 unfold jl at he
 split at he
 · rename_i n hag hsz
   simp only[Option.map_eq_some_iff,Prod.mk.injEq,Bool.and_eq_true] at he
   obtain⟨⟨l,ok⟩,h1,rfl,hok,h2⟩:=he
   simp only at hok h2
   subst hok
   obtain⟨e1,e2⟩:=Ba h2
   obtain⟨c,o,vs,rfl,k1,k2,k3⟩:=mU h ha h1 e2
   refine⟨c,o,.agg vs.toArray,rfl,?_,?_⟩
   · have:=run_loadCells_list (P:=P) w ⟨c,o,none⟩ vs (fun j v hj=>by rw[bY];exact k3 j v hj)
     simp only[loadVar,Sem.run_bind,jZ hag,Result.andThen_ok,if_true,aO hsz,←k2,this,Sem.run_pure]
   · simp only[e1];exact VA.sD.2 (by simpa using k1)
 · rename_i n hag hsz
   split at he
   · rename_i x ok hx
     simp only[Option.some.injEq,Prod.mk.injEq,Bool.and_eq_true] at he
     obtain⟨rfl,hok,h2⟩:=he
     subst hok
     obtain⟨e1,e2⟩:=sG h2
     obtain⟨c,o,vs,rfl,k1,k2,k3⟩:=mU h ha hx (fun y hy=>by simp at hy;subst hy;exact e2)
     cases vs with
     |nil=>exact k1.elim
     |cons u us=>
      have:=k3 0 u rfl
      simp only[Nat.add_zero] at this
      exact⟨c,o,u,rfl,by simp[loadVar,jZ hag,this],by rw[e1];exact k1.1⟩
   · cases he
 · cases he
end ops
end Go.Am
end
section
namespace Go.Am
open Go.RowKit
section ops
variable {P:Program} {g:Gh} {m:Mem} {w:World} {ρ:Operand→AV} {bL:Operand→Value} {o:Oper}
theorem mV {x a:AV} {cx:Value} {n:Nat} (h:jU x n=some a) (hx:VA g w x cx) :
  ∃c o,cx = .pointer (some ⟨c,o,none⟩)∧VA g w a (.pointer (some ⟨c,o+n,none⟩)):=by
 cases hx with
 |p v cv hv=>
  cases hv with
  |pp off cells b o f hp hv=>
   simp only[jU,Option.some.injEq] at h;subst h
   exact⟨b,o+off,rfl,.p _ _ (by rw[Nat.add_assoc];exact .pp (off+n) cells b o f hp hv)⟩
  |_=>simp[jU] at h
 |mp b off c hc=>
  simp only[jU,Option.some.injEq] at h;subst h
  exact⟨c,off,rfl,.mp b (off+n) c hc⟩
 |_=>simp[jU] at h
theorem sH {c o:Nat} {f:Field} {n:Nat} (h:eo P f.type=some n) (hn:n≠0) :
  (fieldPlace ⟨c,o,none⟩ f).run P w = .ok ⟨c,o+f.offset,none⟩ w:=by
 simp[fieldPlace,aO h,hn,bY]
theorem oc {t:TypeId} {x a:AV} {cx:Value} {f:Nat} (h:iS P t x f=some a) (hx:VA g w x cx) :
  ∃v,(Instr.fieldAt t cx f).run P w = .ok v w∧VA g w a v:=by
 unfold iS at h
 split at h
 · rename_i fields hu
   split at h
   · rename_i fd hf
     split at h
     · rename_i n hn
       cases hb:Nat.ble 1 n with
       |false=>simp[hb] at h
       |true=>
        simp only[hb,cond_true] at h
        have h1:=Nat.le_of_ble_eq_true hb
        obtain⟨c,o,rfl,ha⟩:=mV h hx
        refine⟨_,?_,ha⟩
        simp[Instr.fieldAt,run_underlying hu,hf,Instr.sureAddr,sH hn (by omega:n≠0)]
     · cases h
   · cases h
 · cases h
theorem mC {i:Int} {n:Nat}:aG i n=true↔0≤i∧i<n:=by simp[aG]
theorem og {t:TypeId} {x i a:AV} {cx ci:Value} (h:iT P t x i=some (a,true)) (hx:VA g w x cx) (hi:VA g w i ci) :
  ∃v,(Instr.indexAt t cx ci).run P w = .ok v w∧VA g w a v:=by
 unfold iT at h
 split at h
 · rename_i k n len elem hu
   rw[VA.pv] at hi;cases hi
   split at h
   · rename_i size hsz
     simp only[Option.map_eq_some_iff,Prod.mk.injEq] at h
     obtain⟨a',h1,rfl,h2⟩:=h
     obtain⟨c,o,rfl,ha⟩:=mV h1 hx
     rw[mC] at h2
     refine⟨_,?_,ha⟩
     simp[Instr.indexAt,asIntOf,run_underlying hu,Instr.sureAddr,h2,aO hsz,bY]
   · cases h
 · rename_i k n elem hu
   rw[VA.pv] at hi;cases hi
   split at h
   · rename_i size len sz cs hsz
     simp only[Option.some.injEq,Prod.mk.injEq,Bool.and_eq_true] at h
     obtain⟨rfl,h2,_⟩:=h
     rw[mC] at h2
     rw[VA.pv] at hx
     cases hx with
     |ps _ _ _ b o cap f hl hc hz hp hv=>
      refine⟨_,?_,.p _ _ (.pp (n.toNat*size) cs b o f hp hv)⟩
      simp[Instr.indexAt,asIntOf,run_underlying hu,h2,aO hsz,bY]
     |qp sz a cap=>simp at h2;omega
   · rename_i size tok len sz cs hsz
     simp only[Option.some.injEq,Prod.mk.injEq,Bool.and_eq_true] at h
     obtain⟨rfl,h2,_⟩:=h
     rw[mC] at h2
     cases hx with
     |os _ _ _ _ ad cap hx hr=>
      cases hx with
      |ps _ _ _ b o cap f hl hc hz hp hv=>
       refine⟨_,?_,.p _ _ (.pp (n.toNat*size) cs b o f hp hv)⟩
       simp[Instr.indexAt,asIntOf,run_underlying hu,h2,aO hsz,bY]
      |qp sz a cap=>simp at h2;omega
   · rename_i size b off len sz cap hsz
     simp only[Option.some.injEq,Prod.mk.injEq,Bool.and_eq_true] at h
     obtain⟨rfl,h2,_⟩:=h
     rw[mC] at h2
     cases hx with
     |ms _ _ _ _ cap c hb hc=>
      refine⟨_,?_,.mp b _ c hb⟩
      simp[Instr.indexAt,asIntOf,run_underlying hu,h2,aO hsz,bY]
     |mg _ _ _ _ cap c hb hc=>
      refine⟨_,?_,.mp b _ c hb⟩
      simp[Instr.indexAt,asIntOf,run_underlying hu,h2,aO hsz,bY]
   · cases h
 · cases h
theorem wX {α:Type} (d:α) : ∀(n:Nat) (l:List α) (off:Nat),off+n≤l.length→kR d l off n=(l.drop off).take n
 |0,_,_,_=>by simp[kR]
 |n+1,l,off,h=>by
  have hlt:off<l.length:=by omega
  rw[kR,wX d n l (off+1) (by omega),List.drop_eq_getElem_cons hlt,List.take_succ_cons,List.getD_eq_getElem?_getD,List.getElem?_eq_getElem hlt]
  rfl
theorem oh {t:TypeId} {cs:List AV} {ca:Array Value} {off:Nat} {a:AV} (h:partOf P t cs off=some (a,true)) (hc:cj g w cs ca.toList) :
  ∃v,(part t ca off).run P w = .ok v w∧VA g w a v:=by
 have hlen:=hc.len
 unfold partOf at h
 split at h
 · rename_i n hag hsz
   simp only[Option.some.injEq,Prod.mk.injEq] at h
   obtain⟨rfl,h2⟩:=h
   have h2:=Nat.le_of_ble_eq_true h2
   refine⟨_,by simp[part,jZ hag,aO hsz];rfl,VA.sD.2 ?_⟩
   rw[wX _ _ _ _ h2]
   have:=(hc.drop off).take n
   simpa[List.drop_take] using this
 · rename_i n hag hsz
   simp only[Option.some.injEq,Prod.mk.injEq] at h
   obtain⟨rfl,h2⟩:=h
   have h2:off<cs.length:=by simpa[Nat.blt_eq] using h2
   have h3:off<ca.size:=by simp at hlen;omega
   refine⟨ca[off],by simp[part,jZ hag,Array.getElem?_eq_getElem h3],?_⟩
   rw[List.getD_eq_getElem?_getD,List.getElem?_eq_getElem h2]
   exact hc.get off h2 (by simpa using h3)
 · cases h
theorem vU {t:TypeId} {x a:AV} {cx:Value} {f:Nat} (h:rJ P t x f=some (a,true)) (hx:VA g w x cx) :
  ∃v,(Instr.field t cx f).run P w = .ok v w∧VA g w a v:=by
 unfold rJ at h
 split at h
 · rename_i fields cs hu
   split at h
   · rename_i fd hf
     cases hx with
     |agg _ ca hl hh=>
      obtain⟨v,h1,h2⟩:=oh h (VA.sD.1 (.agg cs ca hl hh))
      exact⟨v,by simp[Instr.field,run_underlying hu,hf,asAgg,h1],h2⟩
   · cases h
 · cases h
theorem sJ (s:ByteArray) (i:Nat):s[i]? = s.data.toList[i]? :=by
 rcases Nat.lt_or_ge i s.size with h | h
 · have h2:i<s.data.toList.length:=by rw[Array.length_toList];exact h
   rw[getElem?_pos s i h,List.getElem?_eq_getElem h2]
   rfl
 · have h2:s.data.toList.length≤i:=by rw[Array.length_toList];exact h
   rw[getElem?_neg s i (Nat.not_lt.2 h),List.getElem?_eq_none h2]
theorem vV {t:TypeId} {x i a:AV} {cx ci:Value} (h:rK P t x i=some (a,true)) (hx:VA g w x cx) (hi:VA g w i ci) :
  ∃v,(Instr.index t cx ci).run P w = .ok v w∧VA g w a v:=by
 unfold rK at h
 split at h
 · rename_i cs k n
   rw[VA.pv] at hi;cases hi
   split at h
   · rename_i len elem hu
     split at h
     · rename_i size v ok hsz hp
       simp only[Option.some.injEq,Prod.mk.injEq,Bool.and_eq_true] at h
       obtain⟨rfl,h1,rfl⟩:=h
       rw[mC] at h1
       cases hx with
       |agg _ ca hl hh=>
        simp only[hsz,Option.getD_some] at hp
        obtain⟨v,h2,h3⟩:=oh hp (VA.sD.1 (.agg cs ca hl hh))
        refine⟨v,?_,h3⟩
        simp[Instr.index,asIntOf,run_underlying hu,h1,aO hsz,h2]
     · cases h
   · cases h
 · rename_i s k n
   rw[VA.pv] at hi hx;cases hi;cases hx
   split at h
   · rename_i hu
     simp only[Option.some.injEq,Prod.mk.injEq] at h
     obtain⟨rfl,h1⟩:=h
     rw[mC] at h1
     have hlt:n.toNat<s.data.toList.length:=by omega
     refine⟨_,?_,.p _ _ (.sc _)⟩
     simp only[Instr.index,asIntOf,run_underlying hu,Sem.run_bind,Sem.run_pure,Result.andThen_ok,h1.1,if_true,sJ,List.getElem?_eq_getElem hlt,List.getD_eq_getElem?_getD,Option.getD_some]
   · cases h
 · cases h
theorem gz (hr : ∀x,VA g w (ρ x) (bL x)) {x:Option Operand} {d n:Nat} (h:bound ρ x d=some (n,true)) :
  (x=none∧n=d)∨(∃y k i,x=some y∧bL y = .int k i∧0≤i∧n=i.toNat):=by
 unfold bound at h
 split at h
 · simp only[Option.some.injEq,Prod.mk.injEq,and_true] at h;exact .inl ⟨rfl,h.symm⟩
 · rename_i y
   split at h
   · rename_i k i he
     simp only[Option.some.injEq,Prod.mk.injEq,decide_eq_true_eq] at h
     have:=hr y
     rw[he,VA.pv] at this
     refine .inr ⟨y,k,i,rfl,?_,h.2,h.1.symm⟩
     generalize bL y=cv at this
     cases this;rfl
   · cases h
theorem run_sliceBound {k:IntKind} {i:Int} {y:Nat} {code:BoundsCode} (h0:0≤i) (h1:i.toNat≤y):(Instr.sliceBound (.int k i) y code).run P w = .ok i.toNat w:=by
 have:i≤y:=by omega
 simp[Instr.sliceBound,asIntOf,h0,this]
theorem bH (hr : ∀x,VA g w (ρ x) (bL x)) {V0:Bool} {len cap l h:Nat} {low high:Option Operand}
  (hl:bound ρ low 0=some (l,true)) (hh:bound ρ high len=some (h,true)) (h1:l≤h) (h2:h≤cap) :
  (Instr.sliceBounds V0 len cap (low.map bL) (high.map bL) none).run P w = .ok (l,h,cap) w:=by
 rcases gz hr hl with⟨rfl,rfl⟩ | ⟨y,k,i,rfl,hy,hi,rfl⟩<;>rcases gz hr hh with⟨rfl,rfl⟩ | ⟨y',k',i',rfl,hy',hi',rfl⟩
 · simp[Instr.sliceBounds]
 · simp[Instr.sliceBounds,hy',run_sliceBound hi' h2]
 · simp[Instr.sliceBounds,hy,run_sliceBound hi h1]
 · simp[Instr.sliceBounds,hy,hy',run_sliceBound hi h1,run_sliceBound hi' h2]
theorem gA (hr : ∀x,VA g w (ρ x) (bL x)) {V0:Bool} {len cap l h:Nat} {low:Option Operand} {hx mx:Operand}
  (hl:bound ρ low 0=some (l,true)) (hh:bound ρ (some hx) len=some (h,true)) (hm:bound ρ (some mx) 0=some (h,true)) (h1:l≤h) (h2:h≤cap) :
  (Instr.sliceBounds V0 len cap (low.map bL) (some (bL hx)) (some (bL mx))).run P w = .ok (l,h,h) w:=by
 rcases gz hr hh with⟨e,_⟩ | ⟨y',k',i',e,hy',hi',rfl⟩
 · cases e
 cases e
 rcases gz hr hm with⟨e,_⟩ | ⟨y2,k2,i2,e,Wd,hi2,e2⟩
 · cases e
 cases e
 rw[e2] at h2
 rcases gz hr hl with⟨rfl,rfl⟩ | ⟨y,k,i,rfl,hy,hi,rfl⟩
 · simp only[Instr.sliceBounds,Sem.run_bind,hy',Wd,run_sliceBound hi2 h2,Result.andThen_ok,Option.map_none,Sem.run_pure]
   rw[run_sliceBound hi' (by omega)];simp[e2]
 · simp only[Instr.sliceBounds,Sem.run_bind,hy,hy',Wd,run_sliceBound hi2 h2,Result.andThen_ok,Option.map_some]
   rw[run_sliceBound hi' (by omega)]
   simp only[Result.andThen_ok]
   rw[run_sliceBound hi (by omega)];simp[e2]
theorem mQ (hr : ∀x,VA g w (ρ x) (bL x)) {V0:Bool} {len cap l h m':Nat} {low:Option Operand} {hx mx:Operand}
  (hl:bound ρ low 0=some (l,true)) (hh:bound ρ (some hx) len=some (h,true)) (hm:bound ρ (some mx) 0=some (m',true)) (h1:l≤h) (h2:h≤m') (h3:m'≤cap) :
  (Instr.sliceBounds V0 len cap (low.map bL) (some (bL hx)) (some (bL mx))).run P w = .ok (l,h,m') w:=by
 rcases gz hr hh with⟨e,_⟩ | ⟨y',k',i',e,hy',hi',rfl⟩
 · cases e
 cases e
 rcases gz hr hm with⟨e,_⟩ | ⟨y2,k2,i2,e,Wd,hi2,rfl⟩
 · cases e
 cases e
 rcases gz hr hl with⟨rfl,rfl⟩ | ⟨y,k,i,rfl,hy,hi,rfl⟩
 · simp only[Instr.sliceBounds,Sem.run_bind,hy',Wd,run_sliceBound hi2 h3,Result.andThen_ok,Option.map_none,Sem.run_pure]
   rw[run_sliceBound hi' h2];simp
 · simp only[Instr.sliceBounds,Sem.run_bind,hy,hy',Wd,run_sliceBound hi2 h3,Result.andThen_ok,Option.map_some]
   rw[run_sliceBound hi' h2]
   simp only[Result.andThen_ok]
   rw[run_sliceBound hi h1];simp
theorem lu {α:Type} (cs:List α) {len l h size:Nat} {low high:Option Operand} (hl:cs.length=len*size) (h1:l≤h) (h2:h≤len) (e1:low=none→l=0) (e2:high=none→h=len) :
  cut cs (times low l size) (times high h size)=(cs.drop (l*size)).take ((h-l)*size):=by
 have Zg:(h-l)*size=h*size-l*size:=Nat.sub_mul _ _ _
 have hhl:h*size≤len*size:=Nat.mul_le_mul_right _ h2
 have IP:l*size≤h*size:=Nat.mul_le_mul_right _ h1
 unfold cut times
 cases low with
 |none=>
  have:=e1 rfl;subst this
  cases high with
  |none=>have:=e2 rfl;subst this;simp[hl,List.take_of_length_le]
  |some _=>simp
 |some _=>
  cases high with
  |none=>
   have:=e2 rfl;subst this
   simp only[Option.map_some,Option.map_none]
   rw[List.take_of_length_le]
   simp[hl,Zg]
  |some _=>simp only[Option.map_some];rw[List.drop_take,Zg]
theorem mD {len sz:Nat} {cs:List PV} {a:Option Addr} {cap l h m':Nat} (hx:VP g w (.ps len sz cs) (.slice a len cap)) (h1:l≤h) (h2:h≤len) (h3:h≤m') (h4:m'≤cap) :
  VP g w (.ps (h-l) sz ((cs.drop (l*sz)).take ((h-l)*sz))) (.slice (if m'=l then a else a.map (·.add (l*sz))) (h-l) (m'-l)):=by
 cases hx with
 |ps _ _ _ b o cap f hl hc hz hp hv=>
  have Zg:(h-l)*sz=h*sz-l*sz:=Nat.sub_mul _ _ _
  have hhl:h*sz≤len*sz:=Nat.mul_le_mul_right _ h2
  have IP:l*sz≤h*sz:=Nat.mul_le_mul_right _ h1
  by_cases e:m'=l
  · have:h-l=0:=by omega
    simp only[this,Nat.zero_mul,List.take_zero]
    exact .qp _ _ _ (.inl hz)
  · simp only[if_neg e,Option.map_some,bY]
    refine .ps _ _ _ b (o+l*sz) _ (fun k=>f (l*sz+k)) (by simp[hl,Zg];omega) (by omega) hz (fun k hk=> ?_) (fun k hk=> ?_)
    · simp only[List.length_take,List.length_drop,hl] at hk
      have:=hp (l*sz+k) (by omega)
      rw[Nat.add_assoc];exact this
    · simp only[List.length_take,List.length_drop,hl] at hk
      have:=hv (l*sz+k) (by omega)
      simpa using this
 |qp sz a cap hz=>
  have:h-l=0:=by omega
  simp only[this,List.drop_nil,List.take_nil]
  exact .qp _ _ _ (hz.imp id fun⟨e,e2⟩=>by subst e;subst e2;exact⟨by split<;>rfl,by omega⟩)
theorem jc {len sz size:Nat} {cs:List PV} {a:Option Addr} {cap:Nat} (hx:VP g w (.ps len sz cs) (.slice a len cap)) (h:(Nat.beq sz size||(Nat.beq len 0&&Nat.ble 1 size))=true):VP g w (.ps len size cs) (.slice a len cap):=by
 simp only[Bool.or_eq_true,Bool.and_eq_true,Nat.beq_eq] at h
 rcases h with rfl | ⟨rfl,h1⟩
 · exact hx
 · have h1:=Nat.le_of_ble_eq_true h1
   cases hx with
   |ps _ _ _ b o cap f hl hc hz hp hv=>
    simp at hl;subst hl
    exact .qp _ _ _ (.inl h1)
   |qp=>exact .qp _ _ _ (.inl h1)
theorem j3 {len sz:Nat} {cs:List PV} {cv:Value} (hx:VP g w (.ps len sz cs) cv):cs.length=len*sz ∧ ∃a cap,cv = .slice a len cap∧(len≤cap):=by
 cases hx with
 |ps _ _ _ b o cap f hl hc hz hp hv=>exact⟨hl,_,_,rfl,hc⟩
 |qp=>exact⟨by simp,_,_,rfl,Nat.zero_le _⟩
end ops
end Go.Am
end
section
namespace Go.Am
open Go.RowKit
theorem fj {ρ:Operand→AV} {d n:Nat} {b:Bool} (h:bound ρ none d=some (n,b)):n=d:=by
 simp only[bound,Option.some.injEq,Prod.mk.injEq] at h;exact h.1.symm
section ops
variable {P:Program} {g:Gh} {m:Mem} {w:World} {ρ:Operand→AV} {bL:Operand→Value} {o:Oper}
theorem vW (hr : ∀x,VA g w (ρ x) (bL x)) {t:TypeId} {x a:AV} {cx:Value} {low high mx:Option Operand} (h:mq P ρ t x low high mx=some (a,true)) (hx:VA g w x cx) :
  ∃v,(Instr.sliceAt t cx (low.map bL) (high.map bL) (mx.map bL)).run P w = .ok v w∧VA g w a v:=by
 unfold mq at h
 split at h
 · rename_i n elem hu
   split at h
   · rename_i size l a' h' b' i off hsz hl hh
     simp only[Option.some.injEq,Prod.mk.injEq,Bool.and_eq_true] at h
     obtain⟨rfl,⟨⟨rfl,rfl⟩,h1⟩,h2⟩:=h
     have h1:=Nat.le_of_ble_eq_true h1
     have h2:=Nat.le_of_ble_eq_true h2
     cases hx with
     |mp _ _ c hc=>
      have e:(if n=l then(⟨c,off,none⟩:Addr) else(⟨c,off,none⟩:Addr).add (l*size))=⟨c,cond (Nat.beq n l) off (off+l*size),none⟩:=by
       by_cases e:n=l
       · simp[e]
       · have:Nat.beq n l=false:=by rw[Bool.eq_false_iff];intro k;exact e (Nat.eq_of_beq_eq_true k)
         simp[e,this,bY]
      refine⟨_,?_,.ms i (cond (Nat.beq n l) off (off+l*size)) (h'-l) size (n-l) c hc (by omega)⟩
      simp only[Instr.sliceAt,Sem.run_bind,run_underlying hu,Result.andThen_ok,Instr.sureAddr,Option.map_none,bH hr hl hh h1 h2,aO hsz,Sem.run_pure,e]
   · cases h
 · rename_i elem hu
   split at h
   · rename_i size l a' len sz cs hsz hl
     rw[VA.pv] at hx
     obtain⟨hlen,ad,cap,rfl,hcap⟩:=j3 hx
     split at h
     · rename_i h' b' hh
       simp only[Option.some.injEq,Prod.mk.injEq,Bool.and_eq_true,Nat.beq_eq] at h
       obtain⟨rfl,⟨⟨⟨rfl,rfl⟩,h1⟩,h2⟩,rfl⟩:=h
       have h1:=Nat.le_of_ble_eq_true h1
       have h2:=Nat.le_of_ble_eq_true h2
       refine⟨_,?_,.p _ _ (by rw[lu cs hlen h1 h2 (fun e:low=none=>fj (e▸hl)) (fun e=>fj (e▸hh))];exact mD hx h1 h2 (Nat.le_trans h2 hcap) (Nat.le_refl _))⟩
       simp only[Instr.sliceAt,Instr.slice,Sem.run_bind,run_underlying hu,Result.andThen_ok,Option.map_none,bH hr hl hh h1 (Nat.le_trans h2 hcap),aO hsz,Sem.run_pure]
     · rename_i h' b' mo hh
       split at h
       · rename_i m' c' hm
         simp only[Option.some.injEq,Prod.mk.injEq,Bool.and_eq_true,Nat.beq_eq] at h
         obtain⟨rfl,⟨⟨⟨⟨⟨rfl,rfl⟩,rfl⟩,h1⟩,h2⟩,rfl⟩,h3,rfl⟩:=h
         have h1:=Nat.le_of_ble_eq_true h1
         have h2:=Nat.le_of_ble_eq_true h2
         obtain⟨hx',rfl⟩:=Option.isSome_iff_exists.1 h3
         have hv:=mD (m':=m') hx h1 h2 (Nat.le_refl _) (Nat.le_trans h2 hcap)
         refine⟨_,?_,.os none (m'-l) sz _ _ _ (by rw[lu cs hlen h1 h2 (fun e:low=none=>fj (e▸hl)) (fun e=>by cases e)];exact hv) (.inl rfl)⟩
         simp only[Instr.sliceAt,Instr.slice,Sem.run_bind,run_underlying hu,Result.andThen_ok,Option.map_some,gA hr hl hh hm h1 (Nat.le_trans h2 hcap),aO hsz,Sem.run_pure]
       · cases h
     · cases h
   · rename_i size l a' tok len sz cs hsz hl
     cases hx with
     |os _ _ _ _ ad cap hx Bb=>
     obtain⟨hlen,ad',cap',he,hcap⟩:=j3 hx
     cases he
     split at h
     · rename_i h' b' hh
       split at h
       · simp only[Option.some.injEq,Prod.mk.injEq,Bool.and_eq_true] at h
         obtain⟨rfl,⟨⟨rfl,rfl⟩,h1⟩,h3⟩:=h
         have h1:=Nat.le_of_ble_eq_true h1
         have:=fj hh;subst this
         have hsz':(Nat.beq sz size||(Nat.beq h' 0&&Nat.ble 1 size))=true:=by
          rw[Bool.or_eq_true] at h3 ⊢
          refine h3.imp id fun k=> ?_
          simp only[Bool.and_eq_true] at k ⊢
          exact⟨k.1,k.2.1⟩
         have hx':=jc hx hsz'
         have hlen':=(j3 hx').1
         have hv:=mD (m':=cap) hx' h1 (Nat.le_refl _) hcap (Nat.le_refl _)
         have hc:=lu (low:=low) (high:=none) cs hlen' h1 (Nat.le_refl _) (fun e:low=none=>fj (e▸hl)) (fun _=>rfl)
         simp only[times,Option.map_none] at hc
         refine⟨_,?_,.os tok (h'-l) size _ _ _ (by simp only[times];rw[hc];exact hv) ?_⟩
         · have hb:=bH (P:=P) (V0:=true) hr hl hh h1 hcap
           simp only[Option.map_none] at hb
           simp only[Instr.sliceAt,Instr.slice,Sem.run_bind,run_underlying hu,Result.andThen_ok,Option.map_none,hb,aO hsz,Sem.run_pure]
         · rcases Bb with rfl | ⟨t,b,o',rfl,rfl,q1,q2,q3,q4⟩
           · exact .inl rfl
           · have:sz=size:=by simpa[Nat.beq_eq] using h3
             subst this
             by_cases e:cap=l
             · exact .inl (by omega)
             · refine .inr ⟨t,b,o'+l*sz,rfl,by simp[e,bY],q1,?_,?_,by omega⟩
               · rw[q2,Nat.sub_mul];have:=Nat.mul_le_mul_right sz h1;omega
               · rw[q3,Nat.sub_mul];have:=Nat.mul_le_mul_right sz (Nat.le_trans h1 hcap);omega
       · rename_i hy
         have We : ∀{sz:Nat},VP g w (.ps len sz cs) (.slice ad len cap)→cs.length=len*size→l≤h'→h'≤len→cut cs (times low l size) (some (h'*size))=(cs.drop (l*size)).take ((h'-l)*size):=fun _ hlen' h1 h2=>by
          have hc:=lu (low:=low) (high:=some hy) cs hlen' h1 h2 (fun e:low=none=>fj (e▸hl)) (fun e=>by cases e)
          simpa only[times,Option.map_some] using hc
         split at h
         · rename_i heq
           simp only[Option.some.injEq,Prod.mk.injEq,Bool.and_eq_true] at h
           obtain⟨rfl,⟨⟨⟨rfl,rfl⟩,h1⟩,h2⟩,h3⟩:=h
           have heq:=Nat.eq_of_beq_eq_true heq
           have h1:=Nat.le_of_ble_eq_true h1
           have h2:=Nat.le_of_ble_eq_true h2
           have abk:cap=len:=by
            rcases Bb with e | ⟨t,b,o',e,_⟩
            · exact e
            · cases e
           have hx':=jc hx h3
           have hlen':=(j3 hx').1
           have hv:=mD (m':=cap) hx' h1 h2 (Nat.le_trans h2 hcap) (Nat.le_refl _)
           refine⟨_,?_,.os none (h'-l) size _ _ _ (by rw[We hx hlen' h1 h2];exact hv) (.inl (by omega))⟩
           simp only[Instr.sliceAt,Instr.slice,Sem.run_bind,run_underlying hu,Result.andThen_ok,Option.map_none,bH hr hl hh h1 (Nat.le_trans h2 hcap),aO hsz,Sem.run_pure]
         · simp only[Option.some.injEq,Prod.mk.injEq,Bool.and_eq_true] at h
           obtain⟨rfl,⟨⟨⟨rfl,rfl⟩,h1⟩,h2⟩,h3⟩:=h
           have h1:=Nat.le_of_ble_eq_true h1
           have h2:=Nat.le_of_ble_eq_true h2
           have hx':=jc hx h3
           have hlen':=(j3 hx').1
           refine⟨_,?_,.p _ _ (by rw[We hx hlen' h1 h2];exact mD hx' h1 h2 (Nat.le_trans h2 hcap) (Nat.le_refl _))⟩
           simp only[Instr.sliceAt,Instr.slice,Sem.run_bind,run_underlying hu,Result.andThen_ok,Option.map_none,bH hr hl hh h1 (Nat.le_trans h2 hcap),aO hsz,Sem.run_pure]
     · rename_i h' b' mo hh
       split at h
       · rename_i m' c' hm
         simp only[Option.some.injEq,Prod.mk.injEq,Bool.and_eq_true,Nat.beq_eq] at h
         obtain⟨rfl,⟨⟨⟨⟨⟨rfl,rfl⟩,rfl⟩,h1⟩,h2⟩,rfl⟩,h3,h4⟩:=h
         have h1:=Nat.le_of_ble_eq_true h1
         have h2:=Nat.le_of_ble_eq_true h2
         obtain⟨hx',rfl⟩:=Option.isSome_iff_exists.1 h3
         have hx2:=jc hx h4
         have hlen':=(j3 hx2).1
         have hv:=mD (m':=m') hx2 h1 h2 (Nat.le_refl _) (Nat.le_trans h2 hcap)
         refine⟨_,?_,.os none (m'-l) size _ _ _ (by rw[lu cs hlen' h1 h2 (fun e:low=none=>fj (e▸hl)) (fun e=>by cases e)];exact hv) (.inl rfl)⟩
         simp only[Instr.sliceAt,Instr.slice,Sem.run_bind,run_underlying hu,Result.andThen_ok,Option.map_some,gA hr hl hh hm h1 (Nat.le_trans h2 hcap),aO hsz,Sem.run_pure]
       · cases h
     · cases h
   · rename_i size l a' i off len sz hsz hl
     cases hx with
     |mg _ _ _ _ cap c hc hcap hroom=>
     split at h
     · rename_i h' b' hh
       simp only[Option.some.injEq,Prod.mk.injEq,Bool.and_eq_true,Bool.or_eq_true,Nat.beq_eq,Nat.blt_eq] at h
       obtain⟨rfl,⟨⟨⟨⟨rfl,rfl⟩,h1⟩,h2⟩,rfl⟩,h3⟩:=h
       have h1:=Nat.le_of_ble_eq_true h1
       have h2:=Nat.le_of_ble_eq_true h2
       have e:(if cap=l then some (⟨c,off,none⟩:Addr) else(some (⟨c,off,none⟩:Addr)).map (·.add (l*sz)))=some ⟨c,off+l*sz,none⟩:=by
        by_cases e:cap=l
        · have:l=0:=by omega
          simp[e,this]
        · simp[e,bY]
       refine⟨_,?_,.mg i (off+l*sz) (h'-l) sz (cap-l) c hc (by omega) ?_⟩
       · simp only[Instr.sliceAt,Instr.slice,Sem.run_bind,run_underlying hu,Result.andThen_ok,Option.map_none,bH hr hl hh h1 (Nat.le_trans h2 hcap),aO hsz,Sem.run_pure,e]
       · rw[Nat.sub_mul]
         have:=Nat.mul_le_mul_right sz (Nat.le_trans (Nat.le_trans h1 h2) hcap)
         omega
     · rename_i h' b' mo hh
       split at h
       · rename_i m' c' hm
         simp only[Option.some.injEq,Prod.mk.injEq,Bool.and_eq_true,Nat.beq_eq] at h
         obtain⟨rfl,⟨⟨⟨⟨⟨rfl,rfl⟩,rfl⟩,h1⟩,h2⟩,h4⟩,h3,rfl⟩:=h
         have h1:=Nat.le_of_ble_eq_true h1
         have h2:=Nat.le_of_ble_eq_true h2
         have h4:=Nat.le_of_ble_eq_true h4
         obtain⟨hx',rfl⟩:=Option.isSome_iff_exists.1 h3
         have e:(if m'=l then some (⟨c,off,none⟩:Addr) else some ((⟨c,off,none⟩:Addr).add (l*sz)))=some ⟨c,cond (Nat.beq m' l) off (off+l*sz),none⟩:=by
          by_cases e:m'=l
          · simp[e]
          · have:Nat.beq m' l=false:=by rw[Bool.eq_false_iff];intro k;exact e (Nat.eq_of_beq_eq_true k)
            simp[e,this,bY]
         refine⟨_,?_,.ms i (cond (Nat.beq m' l) off (off+l*sz)) (h'-l) sz (m'-l) c hc (by omega)⟩
         simp only[Instr.sliceAt,Instr.slice,Sem.run_bind,run_underlying hu,Result.andThen_ok,Option.map_some,mQ hr hl hh hm h1 h2 (Nat.le_trans h4 hcap),aO hsz,Sem.run_pure,e]
       · cases h
     · cases h
   · rename_i size l a' i off len sz cap hsz hl
     cases hx with
     |ms _ _ _ _ cap c hc hcap=>
     split at h
     · rename_i h' b' hh
       simp only[Option.some.injEq,Prod.mk.injEq,Bool.and_eq_true,Nat.beq_eq] at h
       obtain⟨rfl,⟨⟨⟨rfl,rfl⟩,h1⟩,h2⟩,rfl⟩:=h
       have h1:=Nat.le_of_ble_eq_true h1
       have h2:=Nat.le_of_ble_eq_true h2
       have e:(if cap=l then some (⟨c,off,none⟩:Addr) else(some (⟨c,off,none⟩:Addr)).map (·.add (l*sz)))=some ⟨c,cond (Nat.beq cap l) off (off+l*sz),none⟩:=by
        by_cases e:cap=l
        · simp[e]
        · have:Nat.beq cap l=false:=by rw[Bool.eq_false_iff];intro k;exact e (Nat.eq_of_beq_eq_true k)
          simp[e,this,bY]
       refine⟨_,?_,.ms i (cond (Nat.beq cap l) off (off+l*sz)) (h'-l) sz (cap-l) c hc (by omega)⟩
       simp only[Instr.sliceAt,Instr.slice,Sem.run_bind,run_underlying hu,Result.andThen_ok,Option.map_none,bH hr hl hh h1 h2,aO hsz,Sem.run_pure,e]
     · cases h
   · cases h
 · rename_i hu
   split at h
   · rename_i l a' s hl
     rw[VA.pv] at hx;cases hx
     split at h
     · rename_i h' b' hh
       simp only[Option.some.injEq,Prod.mk.injEq,Bool.and_eq_true] at h
       obtain⟨rfl,⟨⟨rfl,rfl⟩,h1⟩,h2⟩:=h
       have h1:=Nat.le_of_ble_eq_true h1
       have h2:=Nat.le_of_ble_eq_true h2
       have e:s.data.toList.length=s.size:=Array.length_toList
       rw[e] at hh h2
       refine⟨_,?_,.p _ _ (.sc _)⟩
       simp only[Instr.sliceAt,Instr.slice,Sem.run_bind,run_underlying hu,Result.andThen_ok,Option.map_none,Option.isSome_none,Bool.false_eq_true,if_false,Sem.run_pure,bH hr hl hh h1 h2]
     · cases h
   · cases h
 · cases h
theorem rm (op:BinOp) (t:TypeId) (x y:Operand) (k k':IntKind) (a b:Int):(eqGuard op t x y (.int k a) (.int k' b)).run P w = .ok () w:=by
 unfold eqGuard;cases op<;>rfl
theorem nk (op:BinOp) (t:TypeId) (x y:Operand) (a b:ByteArray):(eqGuard op t x y (.string a) (.string b)).run P w = .ok () w:=by
 unfold eqGuard;cases op<;>rfl
theorem zD {op:BinOp} {t:TypeId} {k k':IntKind} {a b:Int} {v:Value} (h:CZ op k a k' b=some (v,true)):(binOp op t (.int k a) (.int k' b)).run P w = .ok v w:=by
 cases op<;>simp only[CZ,Option.some.injEq,Prod.mk.injEq,Bool.and_eq_true,beq_iff_eq,Bool.not_eq_true',beq_eq_false_iff_ne,decide_eq_true_eq] at h
 case quo=>obtain⟨rfl,rfl,hb⟩:=h;simp[binOp,Op.intDiv,hb]
 case rem=>obtain⟨rfl,rfl,hb⟩:=h;simp[binOp,Op.intDiv,hb]
 case shl=>obtain⟨rfl,hb⟩:=h;simp[binOp,Op.shift,Int.not_lt.2 hb]
 case shr=>obtain⟨rfl,hb⟩:=h;simp[binOp,Op.shift,Int.not_lt.2 hb]
 all_goals obtain⟨rfl,rfl⟩:=h
 all_goals simp[binOp,Op.intArith,Op.intBits,Op.intCmp]
theorem zE {op:BinOp} {t:TypeId} {a b:ByteArray} {v:Value} (h:C0 op a b=some (v,true)):(binOp op t (.string a) (.string b)).run P w = .ok v w:=by
 have e : ∀s:ByteArray,s.data.toList.length=s.size:=fun s=>Array.length_toList
 cases op<;>simp only[C0,Option.some.injEq,Prod.mk.injEq,and_true,reduceCtorEq] at h
 case add=>
  obtain⟨rfl,h⟩:=h
  have h:=Nat.le_of_ble_eq_true h
  rw[e,e] at h
  rw[binOp_string_add,run_string_add_sum w a b (by unfold dh at h;omega)]
 all_goals (subst h;simp[binOp,Op.stringOp,ByteArray.toList_eq])
theorem fK (d:Nat) (cx cy:Array Value) : ∀(fs:List Field) (i:Nat) (xs ys:List AV) (b:Bool),fF P i fs xs ys=some b→cj g w xs (cx.toList.drop i)→cj g w ys (cy.toList.drop i) →
  (Op.eqFields (d+1) cx cy fs).run P w = .ok b w
 |[],i,xs,ys,b,h,hx,hy=>by
  cases xs<;>cases ys<;>simp only[fF,Option.some.injEq,reduceCtorEq] at h
  subst h
  simp[Op.eqFields]
 |f::fs,i,xs,ys,b,h,hx,hy=>by
  cases xs with
  |nil=>simp[fF] at h
  |cons x xs=>
   cases ys with
   |nil=>simp[fF] at h
   |cons y ys=>
    have QA : ∀(c:Array Value) (z:AV) (zs:List AV),cj g w (z::zs) (c.toList.drop i) → ∃v,c[i]? = some v∧VA g w z v∧cj g w zs (c.toList.drop (i+1)):=by
     intro c z zs hz
     cases hd:c.toList.drop i with
     |nil=>rw[hd] at hz;exact hz.elim
     |cons v vs=>
      rw[hd] at hz
      have h1:c.toList[i]? = some v:=by rw[←List.head?_drop,hd];rfl
      have h2:c.toList.drop (i+1)=vs:=by rw[←List.tail_drop,hd];rfl
      refine⟨v,by simpa using h1,hz.1,?_⟩
      rw[h2];exact hz.2
    obtain⟨vx,ex,rx,tx⟩:=QA cx x xs hx
    obtain⟨vy,ey,ry,ty⟩:=QA cy y ys hy
    simp only[fF] at h
    split at h
    · rename_i _ k a k' a' hu
      cases hc:(k==k'&&Nat.beq f.offset i&&f.name != "_" && P.plainKey f.type) with
      |false=>rw[hc] at h;cases h
      |true=>
       rw[hc] at h
       simp only[cond_true,Option.map_eq_some_iff] at h
       obtain⟨r,h1,rfl⟩:=h
       simp only[Bool.and_eq_true,beq_iff_eq,bne_iff_ne] at hc
       obtain⟨⟨⟨rfl,ho⟩,hn⟩,hp⟩:=hc
       have ho:=Nat.eq_of_beq_eq_true ho
       rw[VA.pv] at rx ry
       cases rx
       cases ry
       have ih:=fK d cx cy fs (i+1) xs ys r h1 tx ty
       simp only[Op.eqFields,if_pos hn,Sem.run_bind,ho,run_part_plain w hp ex,run_part_plain w hp ey,Result.andThen_ok,run_equalIn_int w d f.type k _ a a' hu]
       cases hab:(a==a') with
       |true=>simp[ih]
       |false=>simp
    · rename_i _ a a' hu
      cases hc:(Nat.beq f.offset i&&f.name != "_" && P.plainKey f.type) with
      |false=>rw[hc] at h;cases h
      |true=>
       rw[hc] at h
       simp only[cond_true,Option.map_eq_some_iff] at h
       obtain⟨r,h1,rfl⟩:=h
       simp only[Bool.and_eq_true,bne_iff_ne] at hc
       obtain⟨⟨ho,hn⟩,hp⟩:=hc
       have ho:=Nat.eq_of_beq_eq_true ho
       rw[VA.pv] at rx ry
       cases rx
       cases ry
       have ih:=fK d cx cy fs (i+1) xs ys r h1 tx ty
       simp only[Op.eqFields,if_pos hn,Sem.run_bind,ho,run_part_plain w hp ex,run_part_plain w hp ey,Result.andThen_ok,run_equalIn_bool' w d f.type a a' hu]
       cases hab:(a==a') with
       |true=>simp[ih]
       |false=>simp
    · rename_i _ a a' hu
      cases hc:(Nat.beq f.offset i&&f.name != "_" && P.plainKey f.type) with
      |false=>rw[hc] at h;cases h
      |true=>
       rw[hc] at h
       simp only[cond_true,Option.map_eq_some_iff] at h
       obtain⟨r,h1,rfl⟩:=h
       simp only[Bool.and_eq_true,bne_iff_ne] at hc
       obtain⟨⟨ho,hn⟩,hp⟩:=hc
       have ho:=Nat.eq_of_beq_eq_true ho
       rw[VA.pv] at rx ry
       cases rx
       cases ry
       have ih:=fK d cx cy fs (i+1) xs ys r h1 tx ty
       simp only[Op.eqFields,if_pos hn,Sem.run_bind,ho,run_part_plain w hp ex,run_part_plain w hp ey,Result.andThen_ok,run_equalIn_string w d f.type a a' hu,ByteArray.toList_eq]
       cases hab:(a.data.toList==a'.data.toList) with
       |true=>simp[ih]
       |false=>simp
    · cases h
theorem qq {t:TypeId} {x y:AV} {b:Bool} {vx vy:Value} (h:A1 P t x y=some b) (hx:VA g w x vx) (hy:VA g w y vy) :
  (∀op p q,(eqGuard op t p q vx vy).run P w = .ok () w)∧(binOp .eql t vx vy).run P w = .ok (.bool b) w∧(binOp .neq t vx vy).run P w = .ok (.bool (!b)) w:=by
 unfold A1 at h
 split at h
 · rename_i xs ys
   split at h
   · rename_i fs hu
     cases hc:(!P.stoodInHeld t && !P.eqGuardType P.depth t) with
     |false=>rw[hc] at h;cases h
     |true=>
      rw[hc] at h
      simp only[cond_true] at h
      simp only[Bool.and_eq_true,Bool.not_eq_true'] at hc
      cases hx with
      |agg _ cx lx hx=>
       cases hy with
       |agg _ cy ly hy=>
        have hfo:P.fieldsOf t=fs:=by unfold Program.fieldsOf;rw[hu]
        have hu2:P.underlying t=some (.struct (P.fieldsOf t)):=by rw[hfo,hu]
        have key:=fK (g:=g) (w:=w) 9998 cx cy fs.toList 0 xs ys b h (by simpa using bq.ct lx hx) (by simpa using bq.ct ly hy)
        have e:(Op.equalIn 10000 t (.agg cx) (.agg cy)).run P w = .ok b w:=by
         rw[run_equalIn_agg w 9999 t cx cy hu2 hc.1,hfo];exact key
        refine⟨fun op p q=>run_eqGuard_agg w op t p q cx cy hc.2,?_,?_⟩
        · rw[run_eql_struct,e];rfl
        · rw[run_neq_struct,e];rfl
   · cases h
 · cases h
theorem vX (hr : ∀x,VA g w (ρ x) (bL x)) {op:BinOp} {t yt:TypeId} {x y:Operand} (ho:o.op = .binOp op t x y yt) {a:AV} (h:nQ P ρ o op (ρ x) (ρ y)=some (a,true)) :
  ∃v,(execOp bL o).run P w = .ok (.value v) w∧VA g w a v:=by
 unfold nQ at h
 split at h
 · rename_i k a' k' b' hx hy
   simp only[Option.map_eq_some_iff,Prod.mk.injEq] at h
   obtain⟨⟨v,ok⟩,h1,rfl,h2⟩:=h
   simp only at h2;subst h2
   have cx:bL x = .int k a':=by have:=hr x;rw[hx,VA.pv] at this;generalize bL x=z at this;cases this;rfl
   have cy:bL y = .int k' b':=by have:=hr y;rw[hy,VA.pv] at this;generalize bL y=z at this;cases this;rfl
   exact⟨v,by simp only[execOp,ho,cx,cy,Sem.run_bind,rm,Result.andThen_ok,zD h1,Sem.run_pure],.p _ _ (.sc v)⟩
 · rename_i a' b' hx hy
   simp only[Option.map_eq_some_iff,Prod.mk.injEq] at h
   obtain⟨⟨v,ok⟩,h1,rfl,h2⟩:=h
   simp only at h2;subst h2
   have cx:bL x = .string a':=by have:=hr x;rw[hx,VA.pv] at this;generalize bL x=z at this;cases this;rfl
   have cy:bL y = .string b':=by have:=hr y;rw[hy,VA.pv] at this;generalize bL y=z at this;cases this;rfl
   exact⟨v,by simp only[execOp,ho,cx,cy,Sem.run_bind,nk,Result.andThen_ok,zE h1,Sem.run_pure],.p _ _ (.sc v)⟩
 · have hs : ∀cs b,o.op ≠ .select cs b:=fun _ _=>by rw[ho];exact fun e=>by cases e
   split at h
   · split at h
     · rename_i b hb
       simp only[Option.some.injEq,Prod.mk.injEq,and_true] at h
       subst h
       have hb:A1 P t (ρ x) (ρ y)=some b:=by unfold Eu at hb;rw[ho] at hb;exact hb
       obtain⟨k1,k2,k3⟩:=qq hb (hr x) (hr y)
       exact⟨_,by simp only[execOp,ho,Sem.run_bind,k1,Result.andThen_ok,k2,Sem.run_pure],.p _ _ (.sc _)⟩
     cases hc:(iU (ρ x)&&iV (ρ y)||iV (ρ x)&&iU (ρ y)) with
     |true=>simp[hc] at h
     |false=>
      simp only[hc,cond_false,Option.map_eq_some_iff,Prod.mk.injEq,and_true] at h
      obtain⟨v,h1,rfl⟩:=h
      exact dP hr hs h1
   · split at h
     · rename_i b hb
       simp only[Option.some.injEq,Prod.mk.injEq,and_true] at h
       subst h
       have hb:A1 P t (ρ x) (ρ y)=some b:=by unfold Eu at hb;rw[ho] at hb;exact hb
       obtain⟨k1,k2,k3⟩:=qq hb (hr x) (hr y)
       exact⟨_,by simp only[execOp,ho,Sem.run_bind,k1,Result.andThen_ok,k3,Sem.run_pure],.p _ _ (.sc _)⟩
     cases hc:(iU (ρ x)&&iV (ρ y)||iV (ρ x)&&iU (ρ y)) with
     |true=>simp[hc] at h
     |false=>
      simp only[hc,cond_false,Option.map_eq_some_iff,Prod.mk.injEq,and_true] at h
      obtain⟨v,h1,rfl⟩:=h
      exact dP hr hs h1
   · cases h
theorem zF (hr : ∀x,VA g w (ρ x) (bL x)) {op:UnOp} {t:TypeId} {x:Operand} (ho:o.op = .unOp op t x) {a:AV} (h:sk P ρ o op (ρ x)=some (a,true)) :
  ∃v,(execOp bL o).run P w = .ok (.value v) w∧VA g w a v:=by
 unfold sk at h
 split at h
 · rename_i b hx
   simp only[Option.some.injEq,Prod.mk.injEq,and_true] at h;subst h
   have cx:bL x = .bool b:=by have:=hr x;rw[hx,VA.pv] at this;generalize bL x=z at this;cases this;rfl
   exact⟨_,by simp only[execOp,ho,cx,Op.unary,Sem.run_bind,Sem.run_pure,Result.andThen_ok],.p _ _ (.sc _)⟩
 · rename_i k n hx
   simp only[Option.some.injEq,Prod.mk.injEq,and_true] at h;subst h
   have cx:bL x = .int k n:=by have:=hr x;rw[hx,VA.pv] at this;generalize bL x=z at this;cases this;rfl
   exact⟨_,by simp only[execOp,ho,cx,Op.unary,Op.intArith,Sem.run_bind,Sem.run_pure,Result.andThen_ok],.p _ _ (.sc _)⟩
 · simp only[Option.map_eq_some_iff,Prod.mk.injEq,and_true] at h
   obtain⟨v,h1,rfl⟩:=h
   exact dP hr (fun _ _=>by rw[ho];exact fun e=>by cases e) h1
theorem om {t:TypeId} {x a:AV} {cx:Value} (h:kU P t x=some a) (hx:VA g w x cx) :
  ∃v,(Instr.makeInterface t cx).run P w = .ok v w∧VA g w a v:=by
 unfold kU at h
 split at h
 · cases h
 · rename_i d hd hu
   have hrun:(Instr.makeInterface t cx).run P w = .ok (.iface t cx) w:=by
    cases d<;>first
     |(exact absurd rfl (hd _))
     |simp[Instr.makeInterface,run_underlying hu]
   refine⟨_,hrun,?_⟩
   split at h
   · simp only[Option.some.injEq] at h;subst h
     rw[VA.pv] at hx;cases hx
     exact .p _ _ (.sc _)
   · simp only[Option.some.injEq] at h;subst h
     rw[VA.pv] at hx
     exact .p _ _ (.iR _ _ _ hx)
   · simp only[Option.some.injEq] at h;subst h
     exact .iR _ _ _ hx
 · cases h
theorem pN (hr : ∀x,VA g w (ρ x) (bL x)) {x:Operand} (ho:o.op = .nilCheck x) {a:AV} (h:ij P ρ o (ρ x)=some a) :
  ∃v,(execOp bL o).run P w = .ok (.value v) w∧VA g w a v:=by
 unfold ij at h
 split at h
 · rename_i off cs hx
   simp only[Option.some.injEq] at h;subst h
   have:=hr x;rw[hx] at this
   refine⟨bL x,?_,this⟩
   generalize hz:bL x=z at this
   rw[VA.pv] at this;cases this
   simp[execOp,ho,hz]
 · rename_i b off hx
   simp only[Option.some.injEq] at h;subst h
   have:=hr x;rw[hx] at this
   refine⟨bL x,?_,this⟩
   generalize hz:bL x=z at this
   cases this
   simp[execOp,ho,hz]
 · rename_i f a' b' hx
   simp only[Option.some.injEq] at h;subst h
   have:=hr x;rw[hx] at this
   refine⟨bL x,?_,this⟩
   generalize hz:bL x=z at this
   cases this
   simp[execOp,ho,hz]
 · exact dP hr (fun _ _=>by rw[ho];exact fun e=>by cases e) h
theorem Bc {argTypes:Array TypeId} {ty:TypeId} {x a:AV} {cx:Value} (h:Ir P argTypes x=some a) (hx:VA g w x cx) :
  ∃v,(Builtin.len_ argTypes ty #[cx]).run P w = .ok v w∧VA g w a v:=by
 unfold Ir at h
 split at h
 · rename_i t ht
   split at h
   · rename_i len sz cs hu
     simp only[Option.some.injEq] at h;subst h
     rw[VA.pv] at hx
     obtain⟨_,ad,cap,rfl,_⟩:=j3 hx
     exact⟨_,by simp[Builtin.len_,ht,run_underlying hu,goInt],.p _ _ (.sc _)⟩
   · rename_i tok len sz cs hu
     simp only[Option.some.injEq] at h;subst h
     cases hx with
     |os _ _ _ _ ad cap hx _=>exact⟨_,by simp[Builtin.len_,ht,run_underlying hu,goInt],.p _ _ (.sc _)⟩
   · rename_i b off len sz cap hu
     simp only[Option.some.injEq] at h;subst h
     cases hx with
     |ms _ _ _ _ cap c _ _=>exact⟨_,by simp[Builtin.len_,ht,run_underlying hu,goInt],.p _ _ (.sc _)⟩
     |mg _ _ _ _ cap c _ _ _=>exact⟨_,by simp[Builtin.len_,ht,run_underlying hu,goInt],.p _ _ (.sc _)⟩
   · rename_i s hu
     simp only[Option.some.injEq] at h;subst h
     rw[VA.pv] at hx;cases hx
     rw[show s.data.toList.length=s.size from Array.length_toList]
     exact⟨_,by simp[Builtin.len_,ht,run_underlying hu,goInt],.p _ _ (.sc _)⟩
   · rename_i n e hu
     simp only[Option.some.injEq] at h;subst h
     exact⟨_,by simp[Builtin.len_,ht,run_underlying hu,goInt],.p _ _ (.sc _)⟩
   · cases h
 · cases h
end ops
end Go.Am
end
section
namespace Go.Am
open Go.RowKit
section ops
variable {P:Program} {g:Gh} {m:Mem} {w:World}
theorem cW : ∀{l:List AV} {aE:List PV} {vs:List Value},gP l=some aE→cj g w l vs→AY g w aE vs
 |[],aE,vs,h,hv=>by
  simp[gP] at h;subst h
  cases vs with
  |nil=>trivial
  |cons _ _=>exact hv.elim
 |a::l,aE,vs,h,hv=>by
  cases vs with
  |nil=>exact hv.elim
  |cons v vs=>
   simp only[gP] at h
   cases h1:zj a with
   |none=>simp[h1] at h
   |some pv=>
    cases h2:gP l with
    |none=>simp[h1,h2] at h
    |some us=>
     simp only[h1,h2,Option.some.injEq] at h
     subst h
     refine⟨?_,cW h2 hv.2⟩
     have h0:=hv.1
     cases h0 with
     |p pv' _ hp=>simp[zj] at h1;subst h1;exact hp
     |os tok len sz cells ad cap hp _=>simp[zj] at h1;subst h1;exact hp
     |_=>simp[zj] at h1
def pO (P:Program) (g:Gh) (w:World) (sz n:Nat) (aE:List PV) (cx:Value):Prop:=
 ∃vs:List Value,AY g w aE vs∧vs.length=n*sz∧(∀v∈vs,v.oneCell'=true)∧(Builtin.lenOf cx).run P w = .ok n w ∧ ∀k,k≤n→(Builtin.firstCells sz k cx).run P w = .ok (vs.take (k*sz)).toArray w
theorem dQ {sz n cap:Nat} {aE:List PV} {b o:Nat} {vs:List Value} (h1:AY g w aE vs) (h2:vs.length=n*sz) (ho : ∀v∈vs,v.oneCell'=true) (h3 : ∀j v,vs[j]? = some v→w.cell? ⟨b,o+j,none⟩=some v) :
  pO P g w sz n aE (.slice (some ⟨b,o,none⟩) n cap):=by
 refine⟨vs,h1,h2,ho,by simp[Builtin.lenOf],fun k hk=> ?_⟩
 have hl:(vs.take (k*sz)).length=k*sz:=by
  rw[List.length_take,h2];exact Nat.min_eq_left (Nat.mul_le_mul_right _ hk)
 have:=run_loadCells_list (P:=P) w ⟨b,o,none⟩ (vs.take (k*sz)) (fun j v hj=>by
  rw[bY];exact h3 j v (by rw[List.getElem?_take] at hj;split at hj<;>simp_all))
 rw[hl] at this
 simpa[Builtin.firstCells] using this
theorem mE {sz n:Nat} {aE:List PV} {cx:Value} (h:VP g w (.ps n sz aE) cx):pO P g w sz n aE cx:=by
 cases h with
 |ps _ _ _ b o cap f hl hc hz hp hv=>
  refine dQ (vs:=(List.range aE.length).map f) (bq.ct (by simp) fun i hi _=> ?_) (by simp[hl]) (fun v hv=> ?_) fun j v hj=> ?_
  · simpa using hv i hi
  · obtain⟨k,hk,rfl⟩:=List.mem_map.1 hv
    exact(hp k (by simpa using hk)).2.2
  · simp only[List.getElem?_map,Option.map_eq_some_iff] at hj
    obtain⟨k,hk,rfl⟩:=hj
    obtain⟨hlt,hk⟩:=List.getElem?_eq_some_iff.1 hk
    simp at hlt hk;subst hk
    exact(hp j hlt).2.1
 |qp _ a cap=>
  refine⟨[],trivial,by simp,by simp,by simp[Builtin.lenOf],fun k hk=> ?_⟩
  have:k=0:=by omega
  subst this
  cases a<;>simp[Builtin.firstCells,loadCells,loadCellsFrom]
theorem nq : ∀{l:List AV},rY l=true→gP l=some (l.map CX)
 |[],_=>rfl
 |.p v::l,h=>by
  have:=nq (l:=l) (by simpa[rY] using h)
  simp[gP,zj,this,CX]
 |.an::_,h | .os .. :: _,h | .mp .. :: _,h | .ms .. :: _,h | .fn .. :: _,h | .agg _::_,h | .aS _::_,h | .iR .. :: _,h | .vm _::_,h | .vy _::_,h=>by simp[rY] at h
theorem dH (h:Rel g m w) {sz n:Nat} {x:AV} {cx:Value} {aE:List PV} (he:contents (fun i=>m.getD i .dead) sz x=some (n,aE,true)) (hx:VA g w x cx) :
  pO P g w sz n aE cx:=by
 unfold contents at he
 split at he
 · simp only[Option.some.injEq,Prod.mk.injEq] at he
   obtain⟨rfl,rfl,h1⟩:=he
   rw[VA.pv] at hx
   obtain⟨_,ad,cap,rfl,_⟩:=j3 hx
   exact mE (jc hx h1)
 · simp only[Option.some.injEq,Prod.mk.injEq] at he
   obtain⟨rfl,rfl,h1⟩:=he
   cases hx with
   |os _ _ _ _ ad cap hx _=>exact mE (jc hx h1)
 · rename_i b off len s cap
   cases hx with
   |ms _ _ _ _ cap c hc hcap=>
   split at he
   · rename_i l hl
     simp only[Option.some.injEq,Prod.mk.injEq,Bool.and_eq_true,Nat.beq_eq] at he
     obtain⟨rfl,rfl,rfl,h1⟩:=he
     have h1:=Nat.le_of_ble_eq_true h1
     have hm:=getD_some hl (by simp)
     obtain⟨c',cs,e,q,k1,k2,k3,k4,k5⟩:=h.cells b _ _ hm rfl
     rw[hc] at k1;cases k1
     have hone:=k4.2
     have k4:=k4.1
     have hlen:=k4.len
     simp at hlen
     refine dQ (vs:=(cs.toList.drop off).take (len*s)) ?_ (by simp;omega) (fun v hv=>hone v (List.mem_of_mem_drop (List.mem_of_mem_take hv))) fun j v hj=> ?_
     · have:=((k4.drop off).take (len*s))
       rw[←List.map_drop,←List.map_take] at this
       exact bq.ct (by simpa using this.len) fun i a b=>by
        have:=this.get i (by simpa using a) b
        rw[List.getElem_map,VA.pv] at this
        exact this
     · rw[List.getElem?_take] at hj
       split at hj
       · rw[List.getElem?_drop] at hj
         rw[bf k2];simpa using hj
       · cases hj
   · rename_i l hl
     simp only[Option.map_eq_some_iff,Prod.mk.injEq,Bool.and_eq_true,Nat.beq_eq] at he
     obtain⟨us,he,rfl,rfl,rfl,h1⟩:=he
     have h1:=Nat.le_of_ble_eq_true h1
     have hm:=getD_some hl (by simp)
     obtain⟨c',cs,e,q,k1,k2,k3,k4,k5⟩:=h.cells b _ _ hm rfl
     rw[hc] at k1;cases k1
     have hone:=k4.2
     have k4:=k4.1
     have hlen:=k4.len
     simp at hlen
     refine dQ (vs:=(cs.toList.drop off).take (len*s)) (cW he ((k4.drop off).take (len*s))) (by simp;omega) (fun v hv=>hone v (List.mem_of_mem_drop (List.mem_of_mem_take hv))) fun j v hj=> ?_
     rw[List.getElem?_take] at hj
     split at hj
     · rw[List.getElem?_drop] at hj
       rw[bf k2];simpa using hj
     · cases hj
   · rename_i l hl
     simp only[Option.some.injEq,Prod.mk.injEq,Bool.and_eq_true,Nat.beq_eq] at he
     obtain⟨rfl,rfl,hp,rfl,h1⟩:=he
     have he:=nq hp
     have h1:=Nat.le_of_ble_eq_true h1
     obtain⟨c',ob,vs,k1,k2,k3,k4,_,_⟩:=h.obs b _ _ (getD_some hl (by simp))
     rw[hc] at k1;cases k1
     obtain⟨cs,e,q,rfl,_,q0,q1,q2,q3⟩:=k4
     have hlen:=k3.len
     refine dQ (vs:=(vs.drop off).take (len*s)) (cW he ((k3.drop off).take (len*s))) (by simp;omega) (fun v hv=> ?_) fun j v hj=> ?_
     · have hv:=List.mem_of_mem_drop (List.mem_of_mem_take hv)
       rw[q1] at hv
       exact q3 v (List.mem_of_mem_take hv)
     · rw[List.getElem?_take] at hj
       split at hj
       · rw[List.getElem?_drop,q1,List.getElem?_take] at hj
         split at hj
         · rw[bf k2];simpa using hj
         · cases hj
       · cases hj
   · rename_i l hl
     simp only[Option.map_eq_some_iff,Prod.mk.injEq,Bool.and_eq_true,Nat.beq_eq] at he
     obtain⟨us,he,rfl,rfl,rfl,h1⟩:=he
     have h1:=Nat.le_of_ble_eq_true h1
     obtain⟨c',ob,vs,k1,k2,k3,k4,_,_⟩:=h.obs b _ _ (getD_some hl (by simp))
     rw[hc] at k1;cases k1
     obtain⟨cs,e,q,rfl,_,q0,q1,q2,q3⟩:=k4
     have hlen:=k3.len
     refine dQ (vs:=(vs.drop off).take (len*s)) (cW he ((k3.drop off).take (len*s))) (by simp;omega) (fun v hv=> ?_) fun j v hj=> ?_
     · have hv:=List.mem_of_mem_drop (List.mem_of_mem_take hv)
       rw[q1] at hv
       exact q3 v (List.mem_of_mem_take hv)
     · rw[List.getElem?_take] at hj
       split at hj
       · rw[List.getElem?_drop,q1,List.getElem?_take] at hj
         split at hj
         · rw[bf k2];simpa using hj
         · cases hj
       · cases hj
   · cases he
 · rename_i b off len s
   cases hx with
   |mg _ _ _ _ cap c hc hcap hroom=>
   split at he
   · rename_i l hl
     simp only[Option.some.injEq,Prod.mk.injEq,Bool.and_eq_true,Nat.beq_eq] at he
     obtain⟨rfl,rfl,hp,rfl,h1⟩:=he
     have he:=nq hp
     have h1:=Nat.le_of_ble_eq_true h1
     obtain⟨c',ob,vs,k1,k2,k3,k4,_,_⟩:=h.obs b _ _ (getD_some hl (by simp))
     rw[hc] at k1;cases k1
     obtain⟨cs,e,q,rfl,_,q0,q1,q2,q3⟩:=k4
     have hlen:=k3.len
     refine dQ (vs:=(vs.drop off).take (len*s)) (cW he ((k3.drop off).take (len*s))) (by simp;omega) (fun v hv=> ?_) fun j v hj=> ?_
     · have hv:=List.mem_of_mem_drop (List.mem_of_mem_take hv)
       rw[q1] at hv
       exact q3 v (List.mem_of_mem_take hv)
     · rw[List.getElem?_take] at hj
       split at hj
       · rw[List.getElem?_drop,q1,List.getElem?_take] at hj
         split at hj
         · rw[bf k2];simpa using hj
         · cases hj
       · cases hj
   · rename_i l hl
     simp only[Option.map_eq_some_iff,Prod.mk.injEq,Bool.and_eq_true,Nat.beq_eq] at he
     obtain⟨us,he,rfl,rfl,rfl,h1⟩:=he
     have h1:=Nat.le_of_ble_eq_true h1
     obtain⟨c',ob,vs,k1,k2,k3,k4,_,_⟩:=h.obs b _ _ (getD_some hl (by simp))
     rw[hc] at k1;cases k1
     obtain⟨cs,e,q,rfl,_,q0,q1,q2,q3⟩:=k4
     have hlen:=k3.len
     refine dQ (vs:=(vs.drop off).take (len*s)) (cW he ((k3.drop off).take (len*s))) (by simp;omega) (fun v hv=> ?_) fun j v hj=> ?_
     · have hv:=List.mem_of_mem_drop (List.mem_of_mem_take hv)
       rw[q1] at hv
       exact q3 v (List.mem_of_mem_take hv)
     · rw[List.getElem?_take] at hj
       split at hj
       · rw[List.getElem?_drop,q1,List.getElem?_take] at hj
         split at hj
         · rw[bf k2];simpa using hj
         · cases hj
       · cases hj
   · cases he
 · rename_i s
   simp only[Option.some.injEq,Prod.mk.injEq,Nat.beq_eq] at he
   obtain⟨rfl,rfl,rfl⟩:=he
   rw[VA.pv] at hx;cases hx
   refine⟨s.data.toList.map fun b=> .int .u8 b.toNat,bq.ct (by simp) fun i a b=> ?_,by simp,by simp[Value.oneCell'],?_,fun k hk=> ?_⟩
   · simp only[List.getElem_map];exact .sc _
   · rw[show s.data.toList.length=s.size from Array.length_toList];simp[Builtin.lenOf]
   · simp only[Builtin.firstCells,Sem.run_pure,Result.ok.injEq,and_true]
     apply Array.ext'
     simp[ByteArray.data_extract]
 · cases he
theorem sK {a:AV} {v:Value} (h:jR a=true) (ha:VA g w a v):v.oneCell'=true:=by
 cases ha with
 |p pv cv hp=>cases hp<;>first | rfl | (simpa[jR] using h)
 |agg=>simp[jR] at h
 |aS=>simp[jR] at h
 |an=>simp[jR] at h
 |_=>rfl
theorem gS : ∀{l:List AV} {vs:List Value},ig l=true→cj g w l vs → ∀u∈vs,u.oneCell'=true
 |[],[],_,_,_,hu=>by cases hu
 |a::l,v::vs,h,hv,u,hu=>by
  simp only[ig,Bool.and_eq_true] at h
  cases hu with
  |head=>exact sK h.1 hv.1
  |tail _ hu=>exact gS h.2 hv.2 u hu
 |[],_::_,_,hv,_,_=>hv.elim
 |_::_,[],_,hv,_,_=>hv.elim
theorem jo {a:AV} {v:Value} (h:(cellsOf a).2=true) (ha:VA g w a v):cj g w (cellsOf a).1 v.cells.toList ∧ ∀u∈v.cells.toList,u.oneCell'=true:=by
 have Q0 : ∀{v:Value},v.oneCell'=true→v.cells = #[v]:=by intro v h;cases v<;>first | rfl | (simp[Value.oneCell'] at h)
 cases ha with
 |agg l cs hl hh=>
  have:=VA.sD.1 (.agg l cs hl hh)
  exact⟨this,gS h this⟩
 |p pv cv hp=>
  have h1:=sK (a:= .p pv) (by simpa[cellsOf] using h) (.p pv v hp)
  rw[Q0 h1]
  exact⟨⟨.p pv v hp,trivial⟩,by simpa using h1⟩
 |os tok len sz cells ad cap hp hr=>
  exact⟨⟨.os tok len sz cells ad cap hp hr,trivial⟩,by simp[Value.cells,Value.oneCell']⟩
 |mp b off c hc=>exact⟨⟨.mp b off c hc,trivial⟩,by simp[Value.cells,Value.oneCell']⟩
 |ms b off len sz cap c hc hcap=>exact⟨⟨.ms b off len sz cap c hc hcap,trivial⟩,by simp[Value.cells,Value.oneCell']⟩
 |mg b off len sz cap c hc hcap hh=>exact⟨⟨.mg b off len sz cap c hc hcap hh,trivial⟩,by simp[Value.cells,Value.oneCell']⟩
 |vm b c hc=>exact⟨⟨.vm b c hc,trivial⟩,by simp[Value.cells,Value.oneCell']⟩
 |vy b c hc=>exact⟨⟨.vy b c hc,trivial⟩,by simp[Value.cells,Value.oneCell']⟩
 |fn f l k fa ca hl hk h1 h2=>exact⟨⟨.fn f l k fa ca hl hk h1 h2,trivial⟩,by simp[Value.cells,Value.oneCell']⟩
 |iR t v cv hv=>exact⟨⟨.iR t v cv hv,trivial⟩,by simp[Value.cells,Value.oneCell']⟩
 |an=>simp[cellsOf,jR] at h
 |aS=>simp[cellsOf,jR] at h
theorem wY (off:Nat) : ∀(l:List Value) (k:Nat) (cs:Array Value),
  ((l.zipIdx k).foldl (fun cs (c,j)=>cs.setIfInBounds (off+j) c) cs).toList=cL cs.toList (off+k) l
 |[],k,cs=>rfl
 |v::l,k,cs=>by
  simp only[List.zipIdx_cons,List.foldl_cons,cL]
  rw[wY off l (k+1)]
  simp[Nat.add_assoc]
theorem bq.cL {α β:Type} {r:α→β→Prop} : ∀{new:List α} {new':List β} {l:List α} {l':List β} (off:Nat),bq r l l'→bq r new new'→bq r (cL l off new) (cL l' off new')
 |[],[],_,_,_,h,_=>h
 |_::_,_::_,_,_,off,h,k=>bq.cL (off+1) (h.set off k.1) k.2
 |[],_::_,_,_,_,_,k=>k.elim
 |_::_,[],_,_,_,_,k=>k.elim
theorem iB {α:Type} {p:α→Prop} : ∀(n l:List α) (o:Nat),(∀v∈l,p v)→(∀v∈n,p v) → ∀v∈cL l o n,p v
 |[],_,_,h,_=>h
 |x::n,l,o,h,h'=>iB n _ (o+1) (fun v hv=>by
   rcases List.mem_or_eq_of_mem_set hv with k | k
   · exact h v k
   · exact k▸h' x (.head _)) fun v hv=>h' v (.tail _ hv)
theorem jd {place:Nat→Option (Nat×Nat)} : ∀{parts:List (Nat×AV)} {iC:List (Nat×Value)} {cells cs:List AV} {ca:Array Value},
  bq (fun a b=>a.1=b.1∧VA g w a.2 b.2) parts iC→A7 g w cells ca.toList→qm place cells parts=some (cs,true) →
   ∃zG,Instr.fill place ca iC=some zG∧A7 g w cs zG.toList∧zG.size=ca.size
 |[],[],cells,cs,ca,_,hc,h=>by
  simp[qm] at h;subst h
  exact⟨ca,rfl,hc,rfl⟩
 |(i,a)::parts,(j,v)::iC,cells,cs,ca,hp,hc,h=>by
  obtain⟨⟨rfl,hv⟩,hp⟩:=hp
  simp only[qm] at h
  cases Bd:place i with
  |none=>simp[Bd] at h
  |some q=>
   obtain⟨off,size⟩:=q
   simp only[Bd] at h
   cases hf:qm place (cL cells off (cellsOf a).1) parts with
   |none=>simp[hf] at h
   |some r=>
    obtain⟨cs',ok⟩:=r
    simp only[hf,Option.some.injEq,Prod.mk.injEq,Bool.and_eq_true,Nat.beq_eq] at h
    obtain⟨rfl,⟨⟨h0,h1⟩,h2⟩,rfl⟩:=h
    have h2:=Nat.le_of_ble_eq_true h2
    have hlc:=hc.1.len
    obtain⟨k1,k2⟩:=jo h0 hv
    have Be:=k1.len
    have vY:A7 g w (cL cells off (cellsOf a).1) (cL ca.toList off v.cells.toList):=⟨hc.1.cL off k1,iB _ _ _ hc.2 k2⟩
    have EG:(v.cells.zipIdx.foldl (fun cs (c,j)=>cs.setIfInBounds (off+j) c) ca).toList=cL ca.toList off v.cells.toList:=by
     rw[←Array.foldl_toList,Array.toList_zipIdx,wY];simp
    obtain⟨zG,q1,q2,q3⟩:=jd (ca:=v.cells.zipIdx.foldl (fun cs (c,j)=>cs.setIfInBounds (off+j) c) ca) hp (by rw[EG];exact vY) hf
    have hsz:v.cells.size=size:=by simp at Be;omega
    have hroom : ¬(off+v.cells.size>ca.size):=by simp at hlc;omega
    refine⟨zG,?_,q2,?_⟩
    · simp only[Instr.fill,Bd]
      rw[if_neg (by simp[hsz,hsz▸hroom]<;>omega)]
      exact q1
    · rw[q3]
      have:=congrArg List.length EG
      have Nc : ∀(n:List Value) (l:List Value) (o:Nat),(cL l o n).length=l.length:=by
       intro n
       induction n with
       |nil=>intro l o;rfl
       |cons x n ih=>intro l o;simp[cL,ih]
      simpa[Nc] using this
 |[],_::_,_,_,_,h,_,_=>h.elim
 |_::_,[],_,_,_,h,_,_=>h.elim
end ops
end Go.Am
end
section
namespace Go.Am
open Go.RowKit
section ops
variable {P:Program} {g:Gh} {m:Mem} {w:World}
theorem checked_eq {l k:List AV} (h:checked l=some k):k=l∧ig l=true:=by
 unfold checked at h
 cases hb:ig l with
 |false=>simp[hb] at h
 |true=>simp[hb] at h;exact⟨h.symm,rfl⟩
theorem bV {t:TypeId} {l:List AV} (h:zeroCells P t=some l) : ∃z,(∀w,(zeroValue t).run P w = .ok z w)∧A7 g w l z.cells.toList:=by
 unfold zeroCells at h
 cases hi:P.info? t with
 |none=>simp[hi] at h
 |some i=>
  cases hz:i.zero with
  |none=>simp[hi,hz] at h
  |some z=>
   have hrun : ∀w,(zeroValue t).run P w = .ok z w:=fun w=>by simp[zeroValue,typeInfo,hi,hz]
   refine⟨z,hrun,?_⟩
   simp only[hi,Option.bind_some,hz] at h
   cases z<;>(obtain⟨rfl,hc⟩:=checked_eq h)<;>first
    |exact⟨cj.eX _,gS hc (cj.eX (g:=g) (w:=w) _)⟩
    |exact⟨⟨VA.fS _,trivial⟩,gS (vs:=[_]) hc ⟨VA.fS (g:=g) (w:=w) _,trivial⟩⟩
theorem lz : ∀{fs:List Field} {pl:List (Nat×Nat)},placesOf P fs=some pl → ∀w,(fs.mapM fun f=>do pure (f.offset,←sizeOf f.type):Sem (List (Nat×Nat))).run P w = .ok pl w
 |[],pl,h,w=>by simp[placesOf] at h;subst h;simp
 |f::fs,pl,h,w=>by
  simp only[placesOf] at h
  cases h1:eo P f.type with
  |none=>simp[h1] at h
  |some n=>
   cases h2:placesOf P fs with
   |none=>simp[h1,h2] at h
   |some l=>
    simp only[h1,h2,Option.some.injEq] at h
    subst h
    have ih:=lz h2 w
    simp only[List.mapM_cons,Sem.run_bind,aO h1,Result.andThen_ok,Sem.run_pure,ih]
theorem vZ {t:TypeId} {parts:List (Nat×AV)} {iC:Array (Nat×Value)} {a:AV} (h:rI P t parts=some (a,true)) (hp:bq (fun a b=>a.1=b.1∧VA g w a.2 b.2) parts iC.toList) :
  ∃v,(Instr.build t iC).run P w = .ok v w∧VA g w a v:=by
 unfold rI at h
 split at h
 · rename_i z fields hz hu
   split at h
   · rename_i pl Bd
     simp only[Option.map_eq_some_iff,Prod.mk.injEq] at h
     obtain⟨⟨cs,ok⟩,h1,rfl,h2⟩:=h
     simp only at h2;subst h2
     obtain⟨zv,EH,C6⟩:=bV (g:=g) (w:=w) hz
     obtain⟨ca,h3,h4,_⟩:=jd hp C6 h1
     refine⟨.agg ca,?_,VA.sD.2 h4.1⟩
     have Zy:(fields.mapM fun f=>do pure (f.offset,←sizeOf f.type):Sem (Array (Nat×Nat))).run P w = .ok pl.toArray w:=by
      rw[Array.mapM_eq_mapM_toList]
      simp only[Sem.run_map,lz Bd w,Result.andThen_ok]
     have hfun:(fun i:Nat=>pl.toArray[i]?)=fun i:Nat=>pl[i]? :=by funext i;simp
     simp only[Instr.build,Sem.run_bind,EH,Result.andThen_ok,run_underlying hu,Zy,hfun,h3,Sem.run_pure]
   · cases h
 · rename_i z n elem hz hu
   split at h
   · rename_i size hsz
     simp only[Option.map_eq_some_iff,Prod.mk.injEq] at h
     obtain⟨⟨cs,ok⟩,h1,rfl,h2⟩:=h
     simp only at h2;subst h2
     obtain⟨zv,EH,C6⟩:=bV (g:=g) (w:=w) hz
     obtain⟨ca,h3,h4,_⟩:=jd hp C6 h1
     exact⟨.agg ca,by simp only[Instr.build,Sem.run_bind,EH,Result.andThen_ok,run_underlying hu,aO hsz,h3,Sem.run_pure],VA.sD.2 h4.1⟩
   · cases h
 · cases h
theorem lA {α:Type} (z:List α) : ∀n,(bT z n).length=n*z.length
 |0=>by simp[bT]
 |n+1=>by simp[bT,lA z n,Nat.succ_mul,Nat.add_comm]
theorem qu {α:Type} (z:List α) : ∀(n i:Nat) (h:i<(bT z n).length),∃h':i%z.length<z.length,(bT z n)[i]=z[i%z.length]
 |0,i,h=>by simp[bT] at h
 |n+1,i,h=>by
  simp only[bT,List.length_append] at h
  by_cases hlt:i<z.length
  · refine⟨by rw[Nat.mod_eq_of_lt hlt];exact hlt,?_⟩
    simp only[bT,List.getElem_append,hlt,dite_true,Nat.mod_eq_of_lt hlt]
  · obtain⟨h1,h2⟩:=qu z n (i-z.length) (by omega)
    have e:(i-z.length)%z.length=i%z.length:=by rw[←Nat.mod_eq_sub_mod (by omega)]
    refine⟨by rw[←e];exact h1,?_⟩
    simp only[bT,List.getElem_append,hlt,dite_false,h2,e]
theorem pP {α:Type} {r:α→Value→Prop} {z:List α} {zv:Array Value} (hz:bq r z zv.toList) (n:Nat) :
  bq r (bT z n) ((Array.range (n*zv.size)).map (zv[· % zv.size]!)).toList:=by
 have hl:=hz.len
 simp at hl
 refine bq.ct (by simp[lA,hl]) fun i hi hj=> ?_
 obtain⟨h1,h2⟩:=qu z n i hi
 rw[h2]
 have h3:i%zv.size<zv.size:=hl▸h1
 simp only[Array.toList_map,Array.toList_range,List.getElem_map,List.getElem_range]
 rw[getElem!_pos zv _ h3]
 have:=hz.get (i%z.length) h1 (by simpa[←hl] using h1)
 simpa[hl] using this
theorem zH {zv:Array Value} (h : ∀v∈zv.toList,v.oneCell'=true) (n:Nat) : ∀v∈((Array.range (n*zv.size)).map (zv[· % zv.size]!)).toList,v.oneCell'=true:=by
 intro v hv
 simp only[Array.toList_map,Array.toList_range,List.mem_map,List.mem_range] at hv
 obtain⟨i,hi,rfl⟩:=hv
 have h3:i%zv.size<zv.size:=Nat.mod_lt _ (Nat.pos_of_ne_zero fun e=>by simp[e] at hi)
 rw[getElem!_pos zv _ h3]
 exact h _ (by simp)
theorem fL {α:Type} (v:α) : ∀n,List.replicate n v=bT [v] n
 |0=>rfl
 |n+1=>by rw[List.replicate_succ,fL v n];rfl
theorem IQ {elem:TypeId} {n:Nat} {l:List AV} (h:zeros P elem n=some l) : ∃size z,eo P elem=some size∧zeroCells P elem=some z∧z.length=size∧1≤size∧l=bT z n:=by
 unfold zeros at h
 split at h
 · rename_i size z h1 h2
   cases hb:(Nat.beq z.length size&&Nat.ble 1 size) with
   |false=>simp[hb] at h
   |true=>
    simp only[hb,cond_true] at h
    simp only[Bool.and_eq_true,Nat.beq_eq] at hb
    refine⟨size,z,h1,h2,hb.1,Nat.le_of_ble_eq_true hb.2,?_⟩
    split at h
    · simp only[Option.some.injEq] at h;rw[←h,fL]
    · simp only[Option.some.injEq] at h;exact h.symm
 · cases h
theorem IS {elem:TypeId} {n:Nat} {b:bg} (h:Iq P elem n=some b) : ∃size z,eo P elem=some size∧zeroCells P elem=some z∧z.length=size∧1≤size∧b.cells?=some (bT z n):=by
 have Wf : ∀(vs:List PV) n,(bT vs n).map AV.p=bT (vs.map AV.p) n:=by
  intro vs n
  induction n with
  |zero=>rfl
  |succ n ih=>simp[bT,ih]
 unfold Iq at h
 split at h
 · rename_i size z h1 h2
   cases hb:(Nat.beq z.length size&&Nat.ble 1 size) with
   |false=>simp[hb] at h
   |true=>
    simp only[hb,cond_true] at h
    simp only[Bool.and_eq_true,Nat.beq_eq] at hb
    refine⟨size,z,h1,h2,hb.1,Nat.le_of_ble_eq_true hb.2,?_⟩
    split at h
    · rename_i v hv
      simp only[Option.some.injEq] at h;subst h
      have:=nW hv
      simp only[bg.cells?,fL,Wf,this]
    · rename_i vs _ hv
      simp only[Option.some.injEq] at h;subst h
      have:=nW hv
      simp only[bg.cells?,Wf,this]
    · simp only[Option.some.injEq] at h;subst h;rfl
 · cases h
theorem dz (w:World) (o:Obj):nj w (w.alloc o) o:=⟨rfl,rfl,rfl,rfl⟩
theorem bR.alloc (h:Rel g m w) {bw:Nat} (hn:m[bw]? = some .free) {l:List AV} {cs:Array Value} {e:TypeId} {b:bg} (hb:b.cells?=some l) (hv:A7 g w l cs.toList) {r:Result Next} {v:Value} {a:AV}
  (hr:r = .ok (.value v) (w.alloc (.cells cs e))) (ha : ∀g':Gh,g'.bE bw=some w.heap.size→VA g' (w.alloc (.cells cs e)) a v):bR g m w r a (m.set bw b):=by
 obtain⟨h1,h2,h3⟩:=h.alloc hn hb hv (dz w (.cells cs e))
 exact⟨v,_,_,.inl hr,ha _ (by simp[Gh.put]),h1,h2,h3⟩
end ops
end Go.Am
end
