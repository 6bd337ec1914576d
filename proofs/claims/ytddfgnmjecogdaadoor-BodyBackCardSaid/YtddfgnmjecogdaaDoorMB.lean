import Derived.Test.YtddfgnmjecogdaaDoorMA
open Option.some renaming injEq→dC,inj→dE
open List renaming getD_eq_getElem?_getD→dt,getElem?_take→dT,getElem?_eq_getElem→dp,mem_of_mem_take→ed,mem_of_mem_drop→ee,getElem?_drop→eh,length_append→ei,getElem_map→eQ,getElem?_eq_some_iff→fb,take_of_length_le→fe,getElem?_eq_none→fg,length_set→fh,length_drop→fi,length_take→fl,getElem_append→ft,getElem?_map→fv,getElem_mem→fw,drop_take→fx,mem_map→gg,range→gl
open Nat renaming le_of_ble_eq_true→gv,le_refl→df,lt_irrefl→ib,beq_eq→ic,le_trans→ch,mul_le_mul_right→ie,eq_of_beq_eq_true→bm,beq→be,lt_or_ge→ik,sub_mul→im,add_assoc→iu,mod_eq_of_lt→iv,ble→bj,blt_eq→ix
open Array renaming getElem?_eq_getElem→ja,length_toList→jb,getElem?_push→jn,toList_range→ka,toList_map→kb,range→kc
open Option renaming map_eq_some_iff→kd,map_none→kh,map_some→kl,isSome_iff_exists→km,getD_some→kp
open Bool renaming and_eq_true→dv,eq_false_iff→kv,or_eq_true→kx,not_eq_true'→ky
open Prod.mk renaming injEq→kz
open Go.Sem renaming run_bind→la,run_pure→lh
open Go.Result renaming andThen_ok→lj
open Go.Instr renaming sliceBounds→lk,sliceAt→lr,slice→lv,indexAt→lL,makeInterface→l4,sureAddr→ma,sliceBound→mb,index→mc,build→mf,fieldAt→mi,field→ml,fill→mr
open Go.Op renaming eqFields→mv,intArith→my
open Go.Builtin renaming len_→na,firstCells→nc,lenOf→nd,cap_→np
open Go.Value renaming oneCell'→nz,cells→od
section
namespace Go.Am
open Go.RowKit
theorem Bt : ∀{l:List AV},uj l=true→(l.map Bg).map AV.p=l
 |[],_=>rfl
 |.p v::r,h=>by
  simp only[uj] at h
  have:=Bt h
  simp only[List.map_cons,Bg]
  rw[this]
 |.af::_,h | .os .. :: _,h | .mp .. :: _,h | .ms .. :: _,h | .fn .. :: _,h | .agg _::_,h | .bk _::_,h | .kA .. :: _,h | .vm _::_,h | .vy _::_,h=>by simp[uj] at h
theorem qv {l:List AV} {vs:List PV} (h:E6 l=some vs):vs.map AV.p=l:=by
 unfold E6 at h
 cases hp:uj l with
 |false=>simp[hp] at h
 |true=>
  simp only[hp,cond_true,dC] at h
  subst h
  exact Bt hp
theorem m9 (l:List AV):(Bh l).cells?=some l:=by
 unfold Bh
 cases h:E6 l with
 |none=>rfl
 |some vs=>simp[aH.cells?,qv h]
theorem bY {b:aH} {l:List AV} (h:b.cells?=some l):b.bX=true:=by cases b<;>simp_all [aH.cells?,aH.bX]
def Gh.put (g:Gh) (i c lo hi:Nat):Gh:=
 {g with aP:=fun j=>if j=i then some c else g.aP j,lo:=fun j=>if j=i then lo else g.lo j,hi:=fun j=>if j=i then hi else g.hi j}
def Gh.more (g:Gh) (c lo hi:Nat):Gh:={g with pure:=fun c' o=>g.pure c' o∨(c'=c∧lo≤o∧o<hi)}
theorem getElem?_set' {α:Type} (l:List α) (i j:Nat) (a:α):(l.set i a)[j]? = if i=j∧i<l.length then some a else l[j]? :=by
 rw[List.getElem?_set]
 by_cases h:i=j
 · subst h;by_cases h2:i<l.length<;>simp[h2]
 · simp[h]
theorem aV {α:Type} {l:List α} {i:Nat} {a:α} (h:l[i]? = some a):i<l.length:=(fb.1 h).1
theorem dB {w w':World} {c o:Nat} (h:w'.heap[c]? = w.heap[c]?):w'.cell? ⟨c,o,none⟩=w.cell? ⟨c,o,none⟩:=by
 simp only[World.cell?,h]
theorem aM {w:World} {c o:Nat} {cs:Array Value} {e:TypeId} {n:Nat×Nat} (h:w.heap[c]? = some (.cells cs e n)):w.cell? ⟨c,o,none⟩=cs[o]? :=by
 simp[World.cell?,h]
theorem bw {w:World} {c:Nat} {o:Obj} (h:w.heap[c]? = some o):c<w.heap.size:=by
 rcases ik c w.heap.size with k | k
 · exact k
 · simp[Array.getElem?_eq_none k] at h
theorem oy {g:Gh} {m:Mem} {i:Nat} {b:aH} {c:Nat} (h:cA g (m.set i b) c):(b.bX=true∧g.aP i=some c)∨(∃j b',j≠i∧m[j]? = some b'∧b'.bX=true∧g.aP j=some c):=by
 obtain⟨j,b',hj,ho,hc⟩:=h
 rw[getElem?_set'] at hj
 by_cases e:i=j∧i<m.length
 · rw[if_pos e] at hj;cases hj;exact .inl ⟨ho,e.1▸hc⟩
 · rw[if_neg e] at hj
   refine .inr ⟨j,b',fun h=> ?_,hj,ho,hc⟩
   subst h
   exact e ⟨rfl,aV hj⟩
theorem Rel.kill {g:Gh} {m:Mem} {w:World} (h:Rel g m w) (i:Nat):Rel g (m.set i .dead) w∧cr g m w g (m.set i .dead) w:=by
 have get : ∀j b,(m.set i .dead)[j]? = some b→b = .dead∨(j≠i∧m[j]? = some b):=by
  intro j b hj
  rw[getElem?_set'] at hj
  by_cases e:i=j∧i<m.length
  · rw[if_pos e] at hj;exact .inl (dE hj).symm
  · rw[if_neg e] at hj
    by_cases e2:i=j
    · subst e2;exact absurd ⟨rfl,aV hj⟩ e
    · exact .inr ⟨fun h=>e2 h.symm,hj⟩
 refine⟨⟨fun j hj=>h.rJ j (by simpa using hj),fun j hj=> ?_,fun j b l hj hl=> ?_,fun j c hj hc=> ?_,fun j k b b' c hj hk ho ho' hc dJ=> ?_,h.there,fun j kk ll hj=> ?_⟩,cr.less fun c ho=> ?_⟩
 · rcases get j _ hj with e | ⟨_,e⟩
   · cases e
   · exact h.free j e
 · rcases get j _ hj with e | ⟨_,e⟩
   · subst e;cases hl
   · exact h.cells j b l e hl
 · rcases get j _ hj with e | ⟨_,e⟩
   · cases e
   · exact h.tok j c e hc
 · rcases get j _ hj with e | ⟨_,e⟩
   · subst e;simp[aH.bX] at ho
   rcases get k _ hk with e' | ⟨_,e'⟩
   · subst e';simp[aH.bX] at ho'
   exact h.inj j k b b' c e e' ho ho' hc dJ
 · rcases get j _ hj with e | ⟨_,e⟩
   · cases e
   · exact h.obs j kk ll e
 · obtain⟨j,b,hj,hb,hc⟩:=ho
   rcases get j _ hj with e | ⟨_,e⟩
   · subst e;simp[aH.bX] at hb
   · exact⟨j,b,e,hb,hc⟩
theorem Rel.write {g:Gh} {m:Mem} {w w':World} (h:Rel g m w) {i c:Nat} {b b':aH} {l l':List AV} {cs':Array Value} {e':TypeId} {n':Nat×Nat}
  (hi:m[i]? = some b) (hl:b.cells?=some l) (hc:g.aP i=some c) (hl':b'.cells?=some l')
  (hw : ∀k,k≠c→w'.heap[k]? = w.heap[k]?) (hs:w'.heap.size=w.heap.size) (ho:w'.os=w.os) (ht:w'.tape=w.tape) (hu:w'.output=w.output)
  (hh:w'.heap[c]? = some (.cells cs' e' n')) (hn:n'.2≤n'.1) (hv:Bs g w l' cs'.toList) :
  Rel g (m.set i b') w'∧Ext g w g w'∧cr g m w g (m.set i b') w':=by
 obtain⟨c0,cs,e,n,h1,h2,h3,h4,h5⟩:=h.cells i b l hi hl
 rw[hc] at h1;cases h1
 have hp : ∀c' o,g.pure c' o→w'.cell? ⟨c',o,none⟩=w.cell? ⟨c',o,none⟩:=fun c' o p=>dB (hw c' fun e=>h5 o (e▸p))
 have ext:Ext g w g w':=⟨fun _ _ h=>⟨h,rfl,rfl⟩,fun c' o p=>⟨p,hp c' o p⟩⟩
 have get : ∀j x,(m.set i b')[j]? = some x→(j=i∧x=b')∨(j≠i∧m[j]? = some x):=by
  intro j x hj
  rw[getElem?_set'] at hj
  by_cases e:i=j∧i<m.length
  · rw[if_pos e] at hj;exact .inl ⟨e.1.symm,(dE hj).symm⟩
  · rw[if_neg e] at hj
    by_cases e2:i=j
    · subst e2;exact absurd ⟨rfl,aV hj⟩ e
    · exact .inr ⟨fun h=>e2 h.symm,hj⟩
 have ne : ∀j x c',j≠i→m[j]? = some x→x.bX=true→g.aP j=some c'→c'≠c:=fun j x c' hji hj ho dJ e=>hji (h.inj j i x b c hj hi ho (bY hl) (e▸dJ) hc)
 refine⟨⟨fun j hj=>h.rJ j (by simpa using hj),fun j hj=> ?_,fun j x k hj hk=> ?_,fun j c' hj dJ=> ?_,fun j k x x' c' hj hk ho ho' eI ff=> ?_,fun c' o p=> ?_,fun j kk ll hj=> ?_⟩,ext,⟨by omega,fun k hk hn=> ?_,fun c' o p=>⟨p,hp c' o p⟩,fun _ _ p=> .inl p,fun c' ho'=> ?_,ho,ht,hu⟩⟩
 · rcases get j _ hj with⟨rfl,e⟩ | ⟨_,e⟩
   · subst e;cases hl'
   · exact h.free j e
 · rcases get j _ hj with⟨rfl,e⟩ | ⟨hji,e⟩
   · subst e
     rw[hl'] at hk;cases hk
     exact⟨c,cs',e',n',hc,hh,hn,hv.mono ext,h5⟩
   · obtain⟨c1,cs1,e1,n1,k1,k2,k3,k4,k5⟩:=h.cells j x k e hk
     exact⟨c1,cs1,e1,n1,k1,(hw c1 (ne j x c1 hji e (bY hk) k1)).trans k2,k3,k4.mono ext,k5⟩
 · rcases get j _ hj with⟨rfl,e⟩ | ⟨hji,e⟩
   · subst e;cases hl'
   · obtain⟨cs1,e1,n1,k2,k3,k4,k5⟩:=h.tok j c' e dJ
     exact⟨cs1,e1,n1,(hw c' (ne j _ c' hji e rfl dJ)).trans k2,k3,k4,k5⟩
 · rcases get j _ hj with⟨rfl,e⟩ | ⟨hji,e⟩<;>rcases get k _ hk with⟨rfl,e'⟩ | ⟨hki,e'⟩
   · rfl
   · rw[hc] at eI;cases eI
     exact absurd rfl (ne k x' _ hki e' ho' ff)
   · rw[hc] at ff;cases ff
     exact absurd rfl (ne j x _ hji e ho eI)
   · exact h.inj j k x x' c' e e' ho ho' eI ff
 · obtain⟨v,hv⟩:=h.there c' o p
   exact⟨v,(hp c' o p).trans hv⟩
 · rcases get j _ hj with⟨rfl,e⟩ | ⟨hji,e⟩
   · subst e;cases hl'
   · obtain⟨c1,CX,vs1,k1,k2,k3,k6,k7,k8⟩:=h.obs j kk ll e
     exact⟨c1,CX,vs1,k1,(hw c1 (ne j _ c1 hji e rfl k1)).trans k2,k3.mono ext,k6,k7,k8⟩
 · exact hw k fun e=>hn ⟨i,b,hi,bY hl,e▸hc⟩
 · rcases oy ho' with⟨_,k⟩ | ⟨j,x,_,k1,k2,k3⟩
   · exact .inl ⟨i,b,hi,bY hl,k⟩
   · exact .inl ⟨j,x,k1,k2,k3⟩
theorem aq {m:Mem} {i:Nat} {b':aH} {j:Nat} {x:aH} (hj:(m.set i b')[j]? = some x):(j=i∧x=b')∨(j≠i∧m[j]? = some x):=by
 rw[getElem?_set'] at hj
 by_cases e:i=j∧i<m.length
 · rw[if_pos e] at hj;exact .inl ⟨e.1.symm,(dE hj).symm⟩
 · rw[if_neg e] at hj
   by_cases e2:i=j
   · subst e2;exact absurd ⟨rfl,aV hj⟩ e
   · exact .inr ⟨fun h=>e2 h.symm,hj⟩
structure pH (w w':World) (o:Obj):Prop where
 heap:w'.heap=w.heap.push o
 os:w'.os=w.os
 tape:w'.tape=w.tape
 output:w'.output=w.output
theorem pH.old {w w':World} {o:Obj} (h:pH w w' o) {k:Nat} (hk:k<w.heap.size):w'.heap[k]? = w.heap[k]? :=by
 rw[h.heap,jn,if_neg (by omega)]
theorem pH.new {w w':World} {o:Obj} (h:pH w w' o):w'.heap[w.heap.size]? = some o:=by
 rw[h.heap,jn,if_pos rfl]
theorem pH.size {w w':World} {o:Obj} (h:pH w w' o):w'.heap.size=w.heap.size+1:=by rw[h.heap];simp
theorem Rel.alloc {g:Gh} {m:Mem} {w w':World} (h:Rel g m w) {i:Nat} {b:aH} {l:List AV} {cs:Array Value} {e:TypeId}
  (hi:m[i]? = some .free) (hl:b.cells?=some l) (hv:Bs g w l cs.toList) (hw:pH w w' (.cells cs e)) :
  Rel (g.put i w.heap.size 0 0) (m.set i b) w'∧Ext g w (g.put i w.heap.size 0 0) w'∧cr g m w (g.put i w.heap.size 0 0) (m.set i b) w':=by
 have hf:=h.free i hi
 have CH:=aV hi
 have hp : ∀c o,g.pure c o→w'.cell? ⟨c,o,none⟩=w.cell? ⟨c,o,none⟩:=fun c o p=>dB (hw.old (h.l5 p))
 have bo : ∀j,j≠i→(g.put i w.heap.size 0 0).aP j=g.aP j:=fun j hj=>by simp[Gh.put,hj]
 have bi:(g.put i w.heap.size 0 0).aP i=some w.heap.size:=by simp[Gh.put]
 have ext:Ext g w (g.put i w.heap.size 0 0) w':=⟨fun j c hc=>by
  have:j≠i:=fun e=>by subst e;rw[hf] at hc;cases hc
  simp[Gh.put,this,hc],fun c o p=>⟨p,hp c o p⟩⟩
 have lt : ∀j x c,m[j]? = some x→x.bX=true→g.aP j=some c→c<w.heap.size:=fun j x c hj ho hc=>h.fV ⟨j,x,hj,ho,hc⟩
 refine⟨⟨fun j hj=> ?_,fun j hj=> ?_,fun j x k hj hk=> ?_,fun j c hj hc=> ?_,fun j k x x' c hj hk ho ho' eI ff=> ?_,fun c o p=> ?_,fun j kk ll hj=> ?_⟩,ext,⟨by rw[hw.size];omega,fun k hk _=>hw.old hk,fun c o p=>⟨p,hp c o p⟩,fun _ _ p=> .inl p,fun c ho=> ?_,hw.os,hw.tape,hw.output⟩⟩
 · rw[fh] at hj
   rw[bo j (by omega)];exact h.rJ j hj
 · rcases aq hj with⟨rfl,e⟩ | ⟨hji,e⟩
   · subst e;cases hl
   · rw[bo j hji];exact h.free j e
 · rcases aq hj with⟨rfl,e⟩ | ⟨hji,e⟩
   · subst e;rw[hl] at hk;cases hk
     refine⟨_,cs,_,(0,0),bi,hw.new,df _,hv.mono ext,fun o p=> ?_⟩
     have:=h.l5 p
     omega
   · obtain⟨c1,cs1,e1,n1,k1,k2,k3,k4,k5⟩:=h.cells j x k e hk
     exact⟨c1,cs1,e1,n1,(bo j hji).trans k1,(hw.old (bw k2)).trans k2,k3,k4.mono ext,k5⟩
 · rcases aq hj with⟨rfl,e⟩ | ⟨hji,e⟩
   · subst e;cases hl
   · rw[bo j hji] at hc
     obtain⟨cs1,e1,n1,k2,k3,k4,k5⟩:=h.tok j c e hc
     have h1:(g.put i w.heap.size 0 0).hi j=g.hi j:=by simp[Gh.put,hji]
     have h2:(g.put i w.heap.size 0 0).lo j=g.lo j:=by simp[Gh.put,hji]
     rw[h1,h2]
     exact⟨cs1,e1,n1,(hw.old (bw k2)).trans k2,k3,k4,k5⟩
 · rcases aq hj with⟨rfl,e⟩ | ⟨hji,e⟩<;>rcases aq hk with⟨rfl,e'⟩ | ⟨hki,e'⟩
   · rfl
   · rw[bi] at eI;cases eI
     rw[bo k hki] at ff
     exact absurd (lt k x' _ e' ho' ff) (ib _)
   · rw[bi] at ff;cases ff
     rw[bo j hji] at eI
     exact absurd (lt j x _ e ho eI) (ib _)
   · rw[bo j hji] at eI;rw[bo k hki] at ff
     exact h.inj j k x x' c e e' ho ho' eI ff
 · obtain⟨v,hv⟩:=h.there c o p
   exact⟨v,(hp c o p).trans hv⟩
 · rcases aq hj with⟨rfl,e⟩ | ⟨hji,e⟩
   · subst e;cases hl
   · obtain⟨c1,CX,vs1,k1,k2,k3,k6,k7,k8⟩:=h.obs j kk ll e
     exact⟨c1,CX,vs1,(bo j hji).trans k1,(hw.old (bw k2)).trans k2,k3.mono ext,k6,k7,by simpa[Gh.put,hji] using k8⟩
 · obtain⟨j,x,hj,hx,hc⟩:=ho
   rcases aq hj with⟨rfl,e⟩ | ⟨hji,e⟩
   · rw[bi] at hc;cases hc;exact .inr (df _)
   · rw[bo j hji] at hc;exact .inl ⟨j,x,e,hx,hc⟩
theorem Rel.fresh {g:Gh} {m:Mem} {w w':World} (h:Rel g m w) {i k:Nat} {cs:Array Value} {e:TypeId} {n:Nat×Nat}
  (hi:m[i]? = some .free) (hw:pH w w' (.cells cs e n)) (hk:k≤cs.size) (hn:n.2≤n.1∨cs.size≤n.1) :
  let g':=(g.put i w.heap.size k cs.size).more w.heap.size 0 k
  Rel g' (m.set i .tok) w'∧Ext g w g' w'∧cr g m w g' (m.set i .tok) w':=by
 intro g'
 have hf:=h.free i hi
 have CH:=aV hi
 have hp : ∀c o,g.pure c o→w'.cell? ⟨c,o,none⟩=w.cell? ⟨c,o,none⟩:=fun c o p=>dB (hw.old (h.l5 p))
 have bo : ∀j,j≠i→g'.aP j=g.aP j:=fun j hj=>by simp[g',Gh.put,Gh.more,hj]
 have bi:g'.aP i=some w.heap.size:=by simp[g',Gh.put,Gh.more]
 have ext:Ext g w g' w':=⟨fun j c hc=>by
  have:j≠i:=fun e=>by subst e;rw[hf] at hc;cases hc
  simp[g',Gh.put,Gh.more,this,hc],fun c o p=>⟨.inl p,hp c o p⟩⟩
 have lt : ∀j x c,m[j]? = some x→x.bX=true→g.aP j=some c→c<w.heap.size:=fun j x c hj ho hc=>h.fV ⟨j,x,hj,ho,hc⟩
 refine⟨⟨fun j hj=> ?_,fun j hj=> ?_,fun j x l hj hl=> ?_,fun j c hj hc=> ?_,fun j k x x' c hj hk ho ho' eI ff=> ?_,fun c o p=> ?_,fun j kk ll hj=> ?_⟩,ext,⟨by rw[hw.size];omega,fun k hk _=>hw.old hk,fun c o p=>⟨.inl p,hp c o p⟩,fun c o p=> ?_,fun c ho=> ?_,hw.os,hw.tape,hw.output⟩⟩
 · rw[fh] at hj
   rw[bo j (by omega)];exact h.rJ j hj
 · rcases aq hj with⟨rfl,e⟩ | ⟨hji,e⟩
   · cases e
   · rw[bo j hji];exact h.free j e
 · rcases aq hj with⟨rfl,e⟩ | ⟨hji,e⟩
   · subst e;cases hl
   · obtain⟨c1,cs1,e1,n1,k1,k2,k3,k4,k5⟩:=h.cells j x l e hl
     refine⟨c1,cs1,e1,n1,(bo j hji).trans k1,(hw.old (bw k2)).trans k2,k3,k4.mono ext,fun o p=> ?_⟩
     rcases p with p | ⟨rfl,_⟩
     · exact k5 o p
     · exact absurd (bw k2) (ib _)
 · rcases aq hj with⟨rfl,_⟩ | ⟨hji,e⟩
   · rw[bi] at hc;cases hc
     refine⟨cs,_,n,hw.new,by simp[g',Gh.put,Gh.more],by simpa[g',Gh.put,Gh.more] using hn,fun o h1 _ p=> ?_⟩
     have h1':k≤o:=by simpa[g',Gh.put,Gh.more] using h1
     rcases p with p | ⟨_,_,p⟩
     · exact absurd (h.l5 p) (ib _)
     · omega
   · rw[bo j hji] at hc
     obtain⟨cs1,e1,n1,k2,k3,k4,k5⟩:=h.tok j c e hc
     have h1:g'.hi j=g.hi j:=by simp[g',Gh.put,Gh.more,hji]
     have h2:g'.lo j=g.lo j:=by simp[g',Gh.put,Gh.more,hji]
     rw[h1,h2]
     refine⟨cs1,e1,n1,(hw.old (bw k2)).trans k2,k3,k4,fun o a b p=> ?_⟩
     rcases p with p | ⟨rfl,_⟩
     · exact k5 o a b p
     · exact absurd (bw k2) (ib _)
 · rcases aq hj with⟨rfl,e⟩ | ⟨hji,e⟩<;>rcases aq hk with⟨rfl,e'⟩ | ⟨hki,e'⟩
   · rfl
   · rw[bi] at eI;cases eI
     rw[bo k hki] at ff
     exact absurd (lt k x' _ e' ho' ff) (ib _)
   · rw[bi] at ff;cases ff
     rw[bo j hji] at eI
     exact absurd (lt j x _ e ho eI) (ib _)
   · rw[bo j hji] at eI;rw[bo k hki] at ff
     exact h.inj j k x x' c e e' ho ho' eI ff
 · rcases p with p | ⟨rfl,_,p⟩
   · obtain⟨v,hv⟩:=h.there c o p
     exact⟨v,(hp c o p).trans hv⟩
   · exact⟨cs[o],by rw[aM hw.new,ja (by omega)]⟩
 · rcases aq hj with⟨rfl,e⟩ | ⟨hji,e⟩
   · cases e
   · obtain⟨c1,CX,vs1,k1,k2,k3,k6,k7,k8⟩:=h.obs j kk ll e
     exact⟨c1,CX,vs1,(bo j hji).trans k1,(hw.old (bw k2)).trans k2,k3.mono ext,k6,fun o p=>p.elim (k7 o) fun q=>absurd (bw k2) (by rw[q.1];exact ib _),by simpa[g',Gh.put,Gh.more,hji] using k8⟩
 · rcases p with p | ⟨rfl,_⟩
   · exact .inl p
   · exact .inr (.inr (df _))
 · obtain⟨j,x,hj,hx,hc⟩:=ho
   rcases aq hj with⟨rfl,e⟩ | ⟨hji,e⟩
   · rw[bi] at hc;cases hc;exact .inr (df _)
   · rw[bo j hji] at hc;exact .inl ⟨j,x,e,hx,hc⟩
theorem Rel.spare {g:Gh} {m:Mem} {w w':World} (h:Rel g m w) {t i c k:Nat} {cs cs':Array Value} {e e':TypeId} {n:Nat×Nat}
  (ht:m[t]? = some .tok) (hc:g.aP t=some c) (hi:m[i]? = some .free) (hcs:w.heap[c]? = some (.cells cs e n)) (hk:g.lo t+k≤g.hi t)
  (hw : ∀j,j≠c→w'.heap[j]? = w.heap[j]?) (hs:w'.heap.size=w.heap.size) (ho:w'.os=w.os) (S1:w'.tape=w.tape) (hu:w'.output=w.output)
  (hh:w'.heap[c]? = some (.cells cs' e' n)) (hcz:cs'.size=cs.size) (hout : ∀o,o<g.lo t∨g.hi t≤o→cs'[o]? = cs[o]?) :
  let g':=(g.put i c (g.lo t+k) (g.hi t)).more c (g.lo t) (g.lo t+k)
  Rel g' ((m.set t .dead).set i .tok) w'∧Ext g w g' w'∧cr g m w g' ((m.set t .dead).set i .tok) w':=by
 intro g'
 have hf:=h.free i hi
 have CH:=aV hi
 have Qd:t≠i:=fun e=>by subst e;rw[ht] at hi;cases hi
 obtain⟨cs0,e0,n0,q1,q2,q3,q4⟩:=h.tok t c ht hc
 rw[hcs] at q1;cases q1
 have hp : ∀c' o,g.pure c' o→w'.cell? ⟨c',o,none⟩=w.cell? ⟨c',o,none⟩:=by
  intro c' o p
  by_cases e:c'=c
  · subst e
    rw[aM hh,aM hcs]
    refine hout o ?_
    rcases ik o (g.lo t) with a | a
    · exact .inl a
    · rcases ik o (g.hi t) with b | b
      · exact absurd p (q4 o a b)
      · exact .inr b
  · exact dB (hw c' e)
 have bo : ∀j,j≠i→g'.aP j=g.aP j:=fun j hj=>by simp[g',Gh.put,Gh.more,hj]
 have bi:g'.aP i=some c:=by simp[g',Gh.put,Gh.more]
 have ext:Ext g w g' w':=⟨fun j c hc=>by
  have:j≠i:=fun e=>by subst e;rw[hf] at hc;cases hc
  simp[g',Gh.put,Gh.more,this,hc],fun c o p=>⟨.inl p,hp c o p⟩⟩
 have get : ∀j x,((m.set t .dead).set i .tok)[j]? = some x→(j=i∧x = .tok)∨x = .dead∨(j≠i∧j≠t∧m[j]? = some x):=by
  intro j x hj
  rcases aq hj with e | ⟨hji,e⟩
  · exact .inl e
  · rcases aq e with⟨_,e'⟩ | ⟨Bu,e'⟩
    · exact .inr (.inl e')
    · exact .inr (.inr ⟨hji,Bu,e'⟩)
 have ne : ∀j x c',j≠t→m[j]? = some x→x.bX=true→g.aP j=some c'→c'≠c:=fun j x c' Bu hj ho dJ e=>Bu (h.inj j t x _ c hj ht ho rfl (e▸dJ) hc)
 refine⟨⟨fun j hj=> ?_,fun j hj=> ?_,fun j x l hj hl=> ?_,fun j c' hj dJ=> ?_,fun j k x x' c' hj hk ho ho' eI ff=> ?_,fun c' o p=> ?_,fun j kk ll hj=> ?_⟩,ext,⟨by omega,fun j _ hn=> ?_,fun c o p=>⟨.inl p,hp c o p⟩,fun c' o p=> ?_,fun c' ho'=> ?_,ho,S1,hu⟩⟩
 · simp only[fh] at hj
   rw[bo j (by omega)];exact h.rJ j hj
 · rcases get j _ hj with⟨_,e⟩ | e | ⟨hji,_,e⟩
   · cases e
   · cases e
   · rw[bo j hji];exact h.free j e
 · rcases get j _ hj with⟨_,e⟩ | e | ⟨hji,Bu,e⟩
   · subst e;cases hl
   · subst e;cases hl
   · obtain⟨c1,cs1,e1,n1,k1,k2,k3,k4,k5⟩:=h.cells j x l e hl
     refine⟨c1,cs1,e1,n1,(bo j hji).trans k1,(hw c1 (ne j x c1 Bu e (bY hl) k1)).trans k2,k3,k4.mono ext,fun o p=> ?_⟩
     rcases p with p | ⟨rfl,_⟩
     · exact k5 o p
     · exact ne j x _ Bu e (bY hl) k1 rfl
 · rcases get j _ hj with⟨rfl,_⟩ | e | ⟨hji,Bu,e⟩
   · rw[bi] at dJ;cases dJ
     refine⟨cs',e',n,hh,by simp only[g',Gh.put,Gh.more,if_true];omega,by simpa[g',Gh.put,Gh.more] using q3,fun o h1 h2 p=> ?_⟩
     have h1':g.lo t+k≤o:=by simpa[g',Gh.put,Gh.more] using h1
     have h2':o<g.hi t:=by simpa[g',Gh.put,Gh.more] using h2
     rcases p with p | ⟨_,_,p⟩
     · exact q4 o (by omega) h2' p
     · omega
   · cases e
   · rw[bo j hji] at dJ
     obtain⟨cs1,e1,n1,k2,k3,k4,k5⟩:=h.tok j c' e dJ
     have h1:g'.hi j=g.hi j:=by simp[g',Gh.put,Gh.more,hji]
     have h2:g'.lo j=g.lo j:=by simp[g',Gh.put,Gh.more,hji]
     rw[h1,h2]
     refine⟨cs1,e1,n1,(hw c' (ne j _ c' Bu e rfl dJ)).trans k2,k3,k4,fun o a b p=> ?_⟩
     rcases p with p | ⟨rfl,_⟩
     · exact k5 o a b p
     · exact ne j _ _ Bu e rfl dJ rfl
 · rcases get j _ hj with⟨rfl,e⟩ | e | ⟨hji,Bu,e⟩
   · rcases get k _ hk with⟨rfl,e'⟩ | e' | ⟨hki,Sn,e'⟩
     · rfl
     · subst e';simp[aH.bX] at ho'
     · rw[bi] at eI;cases eI
       rw[bo k hki] at ff
       exact absurd rfl (ne k x' _ Sn e' ho' ff)
   · subst e;simp[aH.bX] at ho
   · rcases get k _ hk with⟨rfl,e'⟩ | e' | ⟨hki,Sn,e'⟩
     · rw[bi] at ff;cases ff
       rw[bo j hji] at eI
       exact absurd rfl (ne j x _ Bu e ho eI)
     · subst e';simp[aH.bX] at ho'
     · rw[bo j hji] at eI;rw[bo k hki] at ff
       exact h.inj j k x x' c' e e' ho ho' eI ff
 · rcases p with p | ⟨rfl,p1,p2⟩
   · obtain⟨v,hv⟩:=h.there c' o p
     exact⟨v,(hp c' o p).trans hv⟩
   · exact⟨cs'[o],by rw[aM hh,ja (by omega)]⟩
 · rcases get j _ hj with⟨_,e⟩ | e | ⟨hji,Bu,e⟩
   · cases e
   · cases e
   · obtain⟨c1,CX,vs1,k1,k2,k3,k6,k7,k8⟩:=h.obs j kk ll e
     exact⟨c1,CX,vs1,(bo j hji).trans k1,(hw c1 (ne j _ c1 Bu e rfl k1)).trans k2,k3.mono ext,k6,fun o p=>p.elim (k7 o) fun q=>ne j _ c1 Bu e rfl k1 q.1,by simpa[g',Gh.put,Gh.more,hji] using k8⟩
 · exact hw j fun e=>hn ⟨t,_,ht,rfl,e▸hc⟩
 · rcases p with p | ⟨rfl,_⟩
   · exact .inl p
   · exact .inr (.inl ⟨t,_,ht,rfl,hc⟩)
 · obtain⟨j,x,hj,hx,rK⟩:=ho'
   rcases get j _ hj with⟨rfl,e⟩ | e | ⟨hji,_,e⟩
   · rw[bi] at rK;cases rK;exact .inl ⟨t,_,ht,rfl,hc⟩
   · subst e;simp[aH.bX] at hx
   · rw[bo j hji] at rK;exact .inl ⟨j,x,e,hx,rK⟩
theorem Rel.kr {g:Gh} {m:Mem} {w w':World} (h:Rel g m w) {cs:Array Value} {e:TypeId} (hw:pH w w' (.cells cs e)) :
  Rel (g.more w.heap.size 0 cs.size) m w'∧Ext g w (g.more w.heap.size 0 cs.size) w'∧cr g m w (g.more w.heap.size 0 cs.size) m w':=by
 have hp : ∀c o,g.pure c o→w'.cell? ⟨c,o,none⟩=w.cell? ⟨c,o,none⟩:=fun c o p=>dB (hw.old (h.l5 p))
 have ext:Ext g w (g.more w.heap.size 0 cs.size) w':=⟨fun j c hc=>⟨hc,rfl,rfl⟩,fun c o p=>⟨.inl p,hp c o p⟩⟩
 refine⟨⟨h.rJ,h.free,fun j x l hj hl=> ?_,fun j c hj hc=> ?_,h.inj,fun c o p=> ?_,fun j kk ll hj=> ?_⟩,ext,⟨by rw[hw.size];omega,fun k hk _=>hw.old hk,fun c o p=>⟨.inl p,hp c o p⟩,fun c o p=> ?_,fun c ho=> .inl ho,hw.os,hw.tape,hw.output⟩⟩
 · obtain⟨c1,cs1,e1,n1,k1,k2,k3,k4,k5⟩:=h.cells j x l hj hl
   refine⟨c1,cs1,e1,n1,k1,(hw.old (bw k2)).trans k2,k3,k4.mono ext,fun o p=> ?_⟩
   rcases p with p | ⟨rfl,_⟩
   · exact k5 o p
   · exact absurd (bw k2) (ib _)
 · obtain⟨cs1,e1,n1,k2,k3,k4,k5⟩:=h.tok j c hj hc
   refine⟨cs1,e1,n1,(hw.old (bw k2)).trans k2,k3,k4,fun o a b p=> ?_⟩
   rcases p with p | ⟨rfl,_⟩
   · exact k5 o a b p
   · exact absurd (bw k2) (ib _)
 · rcases p with p | ⟨rfl,_,p⟩
   · obtain⟨v,hv⟩:=h.there c o p
     exact⟨v,(hp c o p).trans hv⟩
   · exact⟨cs[o],by rw[aM hw.new,ja (by omega)]⟩
 · obtain⟨c1,CX,vs1,k1,k2,k3,k6,k7,k8⟩:=h.obs j kk ll hj
   exact⟨c1,CX,vs1,k1,(hw.old (bw k2)).trans k2,k3.mono ext,k6,fun o p=>p.elim (k7 o) fun q=>absurd (bw k2) (by rw[q.1];exact ib _),k8⟩
 · rcases p with p | ⟨rfl,_⟩
   · exact .inl p
   · exact .inr (.inr (df _))
theorem Rel.qw {g:Gh} {m:Mem} {w:World} (h:Rel g m w) {i:Nat} (hi:m[i]? = some .free):Rel g (m.set i .tok) w∧cr g m w g (m.set i .tok) w:=by
 have hf:=h.free i hi
 refine⟨⟨fun j hj=>h.rJ j (by simpa using hj),fun j hj=> ?_,fun j x l hj hl=> ?_,fun j c hj hc=> ?_,fun j k x x' c hj hk ho ho' eI ff=> ?_,h.there,fun j kk ll hj=> ?_⟩,cr.less fun c ho=> ?_⟩
 · rcases aq hj with⟨_,e⟩ | ⟨_,e⟩
   · cases e
   · exact h.free j e
 · rcases aq hj with⟨_,e⟩ | ⟨_,e⟩
   · subst e;cases hl
   · exact h.cells j x l e hl
 · rcases aq hj with⟨rfl,_⟩ | ⟨_,e⟩
   · rw[hf] at hc;cases hc
   · exact h.tok j c e hc
 · rcases aq hj with⟨rfl,_⟩ | ⟨_,e⟩
   · rw[hf] at eI;cases eI
   · rcases aq hk with⟨rfl,_⟩ | ⟨_,e'⟩
     · rw[hf] at ff;cases ff
     · exact h.inj j k x x' c e e' ho ho' eI ff
 · rcases aq hj with⟨_,e⟩ | ⟨_,e⟩
   · cases e
   · exact h.obs j kk ll e
 · obtain⟨j,x,hj,hx,hc⟩:=ho
   rcases aq hj with⟨rfl,_⟩ | ⟨_,e⟩
   · rw[hf] at hc;cases hc
   · exact⟨j,x,e,hx,hc⟩
theorem Rel.jK {g:Gh} {m:Mem} {w w':World} (h:Rel g m w) (hh:w'.heap=w.heap) (ho:w'.os=w.os) (ht:w'.tape=w.tape) (hu:w'.output=w.output) :
  Rel g m w'∧Ext g w g w'∧cr g m w g m w':=by
 have hc : ∀a:Addr,w'.cell? a=w.cell? a:=fun a=>by simp[World.cell?,hh]
 have ext:Ext g w g w':=⟨fun _ _ h=>⟨h,rfl,rfl⟩,fun _ _ p=>⟨p,hc _⟩⟩
 refine⟨⟨h.rJ,h.free,fun j x l hj hl=> ?_,fun j c hj S2=> ?_,h.inj,fun c o p=> ?_,fun j kk ll hj=> ?_⟩,ext,⟨by rw[hh];exact df _,fun k _ _=>by rw[hh],fun c o p=>⟨p,hc _⟩,fun _ _ p=> .inl p,fun _ ho=> .inl ho,ho,ht,hu⟩⟩
 · obtain⟨c1,cs1,e1,n1,k1,k2,k3,k4,k5⟩:=h.cells j x l hj hl
   exact⟨c1,cs1,e1,n1,k1,by rw[hh];exact k2,k3,k4.mono ext,k5⟩
 · obtain⟨cs1,e1,n1,k2,k3⟩:=h.tok j c hj S2
   exact⟨cs1,e1,n1,by rw[hh];exact k2,k3⟩
 · obtain⟨v,hv⟩:=h.there c o p
   exact⟨v,(hc _).trans hv⟩
 · obtain⟨c1,CX,vs1,k1,k2,k3,k6,k7,k8⟩:=h.obs j kk ll hj
   exact⟨c1,CX,vs1,k1,by rw[hh];exact k2,k3.mono ext,k6,k7,k8⟩
theorem Rel.reserve {g:Gh} {m:Mem} {w:World} (h:Rel g m w):Rel g (m++[.free]) w∧cr g m w g (m++[.free]) w:=by
 have get : ∀j x,(m++[aH.free])[j]? = some x→m[j]? = some x∨(j=m.length∧x = .free):=by
  intro j x hj
  rw[List.getElem?_append] at hj
  by_cases e:j<m.length
  · rw[if_pos e] at hj;exact .inl hj
  · rw[if_neg e] at hj
    have:=aV hj
    simp at this
    have e2:j=m.length:=by omega
    subst e2
    simp at hj
    exact .inr ⟨rfl,hj.symm⟩
 refine⟨⟨fun j hj=>h.rJ j (by simp at hj;omega),fun j hj=> ?_,fun j x l hj hl=> ?_,fun j c hj hc=> ?_,fun j k x x' c hj hk ho ho' eI ff=> ?_,h.there,fun j kk ll hj=> ?_⟩,cr.less fun c ho=> ?_⟩
 · rcases get j _ hj with e | ⟨rfl,_⟩
   · exact h.free j e
   · exact h.rJ _ (df _)
 · rcases get j _ hj with e | ⟨_,e⟩
   · exact h.cells j x l e hl
   · subst e;cases hl
 · rcases get j _ hj with e | ⟨_,e⟩
   · exact h.tok j c e hc
   · cases e
 · rcases get j _ hj with e | ⟨_,e⟩
   · rcases get k _ hk with e' | ⟨_,e'⟩
     · exact h.inj j k x x' c e e' ho ho' eI ff
     · subst e';simp[aH.bX] at ho'
   · subst e;simp[aH.bX] at ho
 · rcases get j _ hj with e | ⟨_,e⟩
   · exact h.obs j kk ll e
   · cases e
 · obtain⟨j,x,hj,hx,hc⟩:=ho
   rcases get j _ hj with e | ⟨_,e⟩
   · exact⟨j,x,e,hx,hc⟩
   · subst e;simp[aH.bX] at hx
theorem Rel.qx (yM:Nat) {g:Gh} {m:Mem} {w w':World} (h:Rel g m w) {i:Nat} {ob:fR} {l:List AV} {vs:List Value} {o:Obj}
  (hi:m[i]? = some .free) (hv:bN g w l vs) (hw:pH w w' o) (his:ob.is o vs) (hroom:ob.room o yM) :
  Rel (g.put i w.heap.size 0 yM) (m.set i (.ob ob l)) w'∧Ext g w (g.put i w.heap.size 0 yM) w'∧cr g m w (g.put i w.heap.size 0 yM) (m.set i (.ob ob l)) w':=by
 have hf:=h.free i hi
 have hp : ∀c o,g.pure c o→w'.cell? ⟨c,o,none⟩=w.cell? ⟨c,o,none⟩:=fun c o p=>dB (hw.old (h.l5 p))
 have bo : ∀j,j≠i→(g.put i w.heap.size 0 yM).aP j=g.aP j:=fun j hj=>by simp[Gh.put,hj]
 have bi:(g.put i w.heap.size 0 yM).aP i=some w.heap.size:=by simp[Gh.put]
 have ext:Ext g w (g.put i w.heap.size 0 yM) w':=⟨fun j c hc=>by
  have:j≠i:=fun e=>by subst e;rw[hf] at hc;cases hc
  simp[Gh.put,this,hc],fun c o p=>⟨p,hp c o p⟩⟩
 have lt : ∀j x c,m[j]? = some x→x.bX=true→g.aP j=some c→c<w.heap.size:=fun j x c hj ho hc=>h.fV ⟨j,x,hj,ho,hc⟩
 have CH:=aV hi
 refine⟨⟨fun j hj=> ?_,fun j hj=> ?_,fun j x k hj hk=> ?_,fun j c hj hc=> ?_,fun j k x x' c hj hk ho ho' eI ff=> ?_,fun c o p=> ?_,fun j kk ll hj=> ?_⟩,ext,⟨by rw[hw.size];omega,fun k hk _=>hw.old hk,fun c o p=>⟨p,hp c o p⟩,fun _ _ p=> .inl p,fun c ho=> ?_,hw.os,hw.tape,hw.output⟩⟩
 · rw[fh] at hj
   rw[bo j (by omega)];exact h.rJ j hj
 · rcases aq hj with⟨rfl,e⟩ | ⟨hji,e⟩
   · cases e
   · rw[bo j hji];exact h.free j e
 · rcases aq hj with⟨rfl,e⟩ | ⟨hji,e⟩
   · subst e;cases hk
   · obtain⟨c1,cs1,e1,n1,k1,k2,k3,k4,k5⟩:=h.cells j x k e hk
     exact⟨c1,cs1,e1,n1,(bo j hji).trans k1,(hw.old (bw k2)).trans k2,k3,k4.mono ext,k5⟩
 · rcases aq hj with⟨rfl,e⟩ | ⟨hji,e⟩
   · cases e
   · rw[bo j hji] at hc
     obtain⟨cs1,e1,n1,k2,k3,k4,k5⟩:=h.tok j c e hc
     have h1:(g.put i w.heap.size 0 yM).hi j=g.hi j:=by simp[Gh.put,hji]
     have h2:(g.put i w.heap.size 0 yM).lo j=g.lo j:=by simp[Gh.put,hji]
     rw[h1,h2]
     exact⟨cs1,e1,n1,(hw.old (bw k2)).trans k2,k3,k4,k5⟩
 · rcases aq hj with⟨rfl,e⟩ | ⟨hji,e⟩<;>rcases aq hk with⟨rfl,e'⟩ | ⟨hki,e'⟩
   · rfl
   · rw[bi] at eI;cases eI
     rw[bo k hki] at ff
     exact absurd (lt k x' _ e' ho' ff) (ib _)
   · rw[bi] at ff;cases ff
     rw[bo j hji] at eI
     exact absurd (lt j x _ e ho eI) (ib _)
   · rw[bo j hji] at eI;rw[bo k hki] at ff
     exact h.inj j k x x' c e e' ho ho' eI ff
 · obtain⟨v,hv⟩:=h.there c o p
   exact⟨v,(hp c o p).trans hv⟩
 · rcases aq hj with⟨rfl,e⟩ | ⟨hji,e⟩
   · cases e
     exact⟨_,_,vs,bi,hw.new,hv.mono ext,his,fun o p=>absurd (h.l5 p) (ib _),by simpa[Gh.put] using hroom⟩
   · obtain⟨c1,CX,vs1,k1,k2,k3,k6,k7,k8⟩:=h.obs j kk ll e
     exact⟨c1,CX,vs1,(bo j hji).trans k1,(hw.old (bw k2)).trans k2,k3.mono ext,k6,k7,by simpa[Gh.put,hji] using k8⟩
 · obtain⟨j,x,hj,hx,hc⟩:=ho
   rcases aq hj with⟨rfl,e⟩ | ⟨hji,e⟩
   · rw[bi] at hc;cases hc;exact .inr (df _)
   · rw[bo j hji] at hc;exact .inl ⟨j,x,e,hx,hc⟩
theorem Rel.uP {g:Gh} {m:Mem} {w w':World} (h:Rel g m w) {i:Nat} {ob:fR} {l:List AV} {vs:List Value} {o:Obj}
  (hi:m[i]? = some .free) (hv:bN g w l vs) (hw:pH w w' o) (his:ob.is o vs) (hroom:ob.room o 0:=by trivial) :
  Rel (g.put i w.heap.size 0 0) (m.set i (.ob ob l)) w'∧Ext g w (g.put i w.heap.size 0 0) w'∧cr g m w (g.put i w.heap.size 0 0) (m.set i (.ob ob l)) w':=
 Rel.qx 0 h hi hv hw his hroom
theorem Rel.eX {g:Gh} {m:Mem} {w w':World} (h:Rel g m w) {i c:Nat} {ob xQ:fR} {l l':List AV} {vs':List Value} {o':Obj}
  (hi:m[i]? = some (.ob ob l)) (hc:g.aP i=some c)
  (hw : ∀k,k≠c→w'.heap[k]? = w.heap[k]?) (hs:w'.heap.size=w.heap.size) (ho:w'.os=w.os) (ht:w'.tape=w.tape) (hu:w'.output=w.output)
  (hh:w'.heap[c]? = some o') (his:xQ.is o' vs') (hv:bN g w l' vs') (hroom:xQ.room o' (g.hi i):=by trivial) :
  Rel g (m.set i (.ob xQ l')) w'∧Ext g w g w'∧cr g m w g (m.set i (.ob xQ l')) w':=by
 obtain⟨c0,UA,SZ,h1,_,_,_,hnp,_⟩:=h.obs i ob l hi
 rw[hc] at h1;cases h1
 have hp : ∀c' o,g.pure c' o→w'.cell? ⟨c',o,none⟩=w.cell? ⟨c',o,none⟩:=fun c' o p=>dB (hw c' fun e=>hnp o (e▸p))
 have ext:Ext g w g w':=⟨fun _ _ h=>⟨h,rfl,rfl⟩,fun c' o p=>⟨p,hp c' o p⟩⟩
 have ne : ∀j x c',j≠i→m[j]? = some x→x.bX=true→g.aP j=some c'→c'≠c:=fun j x c' hji hj ho dJ e=>hji (h.inj j i x _ c hj hi ho rfl (e▸dJ) hc)
 refine⟨⟨fun j hj=>h.rJ j (by simpa using hj),fun j hj=> ?_,fun j x k hj hk=> ?_,fun j c' hj dJ=> ?_,fun j k x x' c' hj hk ho ho' eI ff=> ?_,fun c' o p=> ?_,fun j kk ll hj=> ?_⟩,ext,⟨by omega,fun k hk hn=> ?_,fun c' o p=>⟨p,hp c' o p⟩,fun _ _ p=> .inl p,fun c' ho'=> ?_,ho,ht,hu⟩⟩
 · rcases aq hj with⟨rfl,e⟩ | ⟨_,e⟩
   · cases e
   · exact h.free j e
 · rcases aq hj with⟨rfl,e⟩ | ⟨hji,e⟩
   · subst e;cases hk
   · obtain⟨c1,cs1,e1,n1,k1,k2,k3,k4,k5⟩:=h.cells j x k e hk
     exact⟨c1,cs1,e1,n1,k1,(hw c1 (ne j x c1 hji e (bY hk) k1)).trans k2,k3,k4.mono ext,k5⟩
 · rcases aq hj with⟨rfl,e⟩ | ⟨hji,e⟩
   · cases e
   · obtain⟨cs1,e1,n1,k2,k3,k4,k5⟩:=h.tok j c' e dJ
     exact⟨cs1,e1,n1,(hw c' (ne j _ c' hji e rfl dJ)).trans k2,k3,k4,k5⟩
 · rcases aq hj with⟨rfl,e⟩ | ⟨hji,e⟩<;>rcases aq hk with⟨rfl,e'⟩ | ⟨hki,e'⟩
   · rfl
   · rw[hc] at eI;cases eI
     exact absurd rfl (ne k x' _ hki e' ho' ff)
   · rw[hc] at ff;cases ff
     exact absurd rfl (ne j x _ hji e ho eI)
   · exact h.inj j k x x' c' e e' ho ho' eI ff
 · obtain⟨v,hv⟩:=h.there c' o p
   exact⟨v,(hp c' o p).trans hv⟩
 · rcases aq hj with⟨rfl,e⟩ | ⟨hji,e⟩
   · cases e
     exact⟨c,_,vs',hc,hh,hv.mono ext,his,hnp,hroom⟩
   · obtain⟨c1,CX,vs1,k1,k2,k3,k6,k7,k8⟩:=h.obs j kk ll e
     exact⟨c1,CX,vs1,k1,(hw c1 (ne j _ c1 hji e rfl k1)).trans k2,k3.mono ext,k6,k7,k8⟩
 · exact hw k fun e=>hn ⟨i,_,hi,rfl,e▸hc⟩
 · rcases oy ho' with⟨_,k⟩ | ⟨j,x,_,k1,k2,k3⟩
   · exact .inl ⟨i,_,hi,rfl,k⟩
   · exact .inl ⟨j,x,k1,k2,k3⟩
def bR (g:Gh) (m:Mem) (w:World) (r:Result Next) (a:AV) (m':Mem):Prop:=
 ∃v w' g',(r = .ok (.value v) w'∨(r = .ok .skip w'∧v=undef))∧VA g' w' a v∧Rel g' m' w'∧Ext g w g' w'∧cr g m w g' m' w'
theorem bR.quiet {g:Gh} {m:Mem} {w:World} {r:Result Next} {a:AV} {v:Value} (h:Rel g m w) (hr:r = .ok (.value v) w) (ha:VA g w a v):bR g m w r a m:=
 ⟨v,w,g,.inl hr,ha,h,Ext.refl g w,cr.refl g m w⟩
theorem aD {P:Program} {t:TypeId} {n:Nat} (h:fj P t=some n) (w:World):(sizeOf t).run P w = .ok n w:=by
 unfold fj at h
 cases hi:P.info? t with
 |none=>simp[hi] at h
 |some i=>simp only[hi,kl,dC] at h;simp[sizeOf,typeInfo,hi,h]
theorem eO {P:Program} {t:TypeId} {i:TypeInfo} (h:P.info? t=some i) (w:World):(typeInfo t).run P w = .ok i w:=by
 simp[typeInfo,h]
theorem l7 {P:Program} {t:TypeId} {b:Bool} (h:Jq P t=some b) (w:World):(isAgg t).run P w = .ok b w:=by
 unfold Jq at h
 cases hu:P.underlying t with
 |none=>simp[hu] at h
 |some d=>cases d<;>simp[hu] at h<;>subst h<;>simp[isAgg,run_underlying hu]
theorem Ju {g:Gh} {w:World} {a:AV} {v cv:Value} (h:Ga a=some v) (ha:VA g w a cv):cv=v:=by
 cases ha with
 |p v' _ hp=>cases hp<;>simp[Ga] at h;exact h
 |_=>simp[Ga] at h
theorem vv {g:Gh} {w:World} : ∀{l:List AV} {vs cs:List Value},u9 l=some vs→bN g w l cs→cs=vs
 |[],vs,cs,h,ha=>by
  cases cs with
  |nil=>simp[u9] at h;exact h.symm
  |cons _ _=>exact ha.elim
 |a::l,vs,cs,h,ha=>by
  cases cs with
  |nil=>exact ha.elim
  |cons c cs=>
   simp only[u9] at h
   cases h1:Ga a with
   |none=>simp[h1] at h
   |some v=>
    cases h2:u9 l with
    |none=>simp[h1,h2] at h
    |some us=>
     simp only[h1,h2,dC] at h
     subst h
     rw[Ju h1 ha.1,vv h2 ha.2]
theorem CY {g:Gh} {w:World} {a:AV} {v cv:Value} (h:CQ a=some v) (ha:VA g w a cv):cv=v:=by
 cases ha with
 |p v' _ hp=>cases hp<;>simp[CQ] at h;exact h
 |agg l cs hl hh=>
  simp only[CQ,kd] at h
  obtain⟨vs,h1,rfl⟩:=h
  rw[←vv h1 (aW.cS hl hh)]
 |bk l cs hl hh=>
  simp only[CQ,kd] at h
  obtain⟨vs,h1,rfl⟩:=h
  rw[←vv h1 (aW.cS hl hh)]
 |_=>simp[CQ] at h
theorem Ae {α:Type} (P:Program) (w:World) : ∀(s:Sem α) (a:α),gR P s=some a→s.run P w = .ok a w:=by
 intro s
 induction s with
 |pure b=>intro a h;simp[gR] at h;subst h;rfl
 |program k ih=>intro a h;simp only[gR] at h;simp only[Sem.run];exact ih P a h
 |mark m k ih=>intro a h;simp only[gR] at h;simp only[Sem.run];exact ih a h
 |_=>intro a h;simp[gR] at h
theorem VA.iC {g:Gh} {w:World} (v:Value):VA g w (iC v) v:=by
 unfold Am.iC
 split
 · exact .os none 0 0 [] none 0 (.mT 0 none 0 (.inr ⟨rfl,rfl⟩)) (.inl rfl)
 · exact .p _ _ (.sc v)
theorem bN.fD {g:Gh} {w:World} : ∀(l:List Value),bN g w (l.map Am.iC) l
 |[]=>trivial
 |v::l=>⟨VA.iC v,bN.fD l⟩
theorem VA.DU {g:Gh} {w:World} (v:Value):VA g w (DU v) v:=by
 unfold Am.DU
 split
 · exact VA.vr.2 (bN.fD _)
 · exact VA.je.2 (bN.fD _)
 · exact VA.iC _
theorem yO {ρ:Operand→AV} : ∀{l:List Operand},tC ρ l=true → ∀x∈l,∃v,CQ (ρ x)=some v
 |[],_,_,hx=>by cases hx
 |y::l,h,x,hx=>by
  simp only[tC,dv] at h
  cases hx with
  |head=>exact km.1 h.1
  |tail _ hx=>exact yO h.2 x hx
theorem getD_some {m:Mem} {b:Nat} {x:aH} (h:m.getD b .dead=x) (hx:x ≠ .dead):m[b]? = some x:=by
 rw[dt] at h
 cases hq:m[b]? with
 |none=>rw[hq] at h;exact absurd h.symm hx
 |some y=>rw[hq] at h;exact congrArg some h
section ops
variable {P:Program} {g:Gh} {m:Mem} {w:World} {ρ:Operand→AV} {bF:Operand→Value} {o:Oper}
theorem eD (hr : ∀x,VA g w (ρ x) (bF x)) (hs : ∀cs b,o.op ≠ .select cs b) {a:AV} (h:scalar P ρ o=some a) :
  ∃v,(execOp bF o).run P w = .ok (.value v) w∧VA g w a v:=by
 unfold scalar at h
 cases hb:tC ρ o.op.operands.toList with
 |false=>simp[hb] at h
 |true=>
  simp only[hb,cond_true] at h
  have hc:execOp bF o=execOp (fun x=>(CQ (ρ x)).getD undef) o:=execOp_congr o hs fun x hx=>by
   obtain⟨v,hv⟩:=yO hb x (Array.mem_toList_iff.2 hx)
   simp[hv,CY hv (hr x)]
  cases he:gR P (execOp (fun x=>(CQ (ρ x)).getD undef) o) with
  |none=>simp[he] at h
  |some nx=>
   cases nx with
   |value v=>
    simp only[he,dC] at h
    subst h
    exact⟨v,by rw[hc];exact Ae P w _ _ he,VA.DU v⟩
   |_=>simp[he] at h
theorem Bv {d:Option TypeDesc} {c:PV} (h:(yz d c).2=true):(yz d c).1=c∧c ≠ .eJ:=by
 unfold yz at h ⊢
 split at h
 · cases c with
   |sc v=>cases v<;>simp_all [isInt,aS]
   |_=>simp[isInt] at h
 · cases c with
   |sc v=>cases v<;>simp_all [isBool,Gb]
   |_=>simp[isBool] at h
 · cases c with
   |sc v=>cases v<;>simp_all [isStr,Lc]
   |_=>simp[isStr] at h
 · cases c<;>simp_all [cW,aJ,cH,aF]
 · cases c<;>simp_all [isOk]
theorem vw {d:Option TypeDesc} {a:AV} (h:(aI d a).2=true):(aI d a).1=a∧a ≠ .p .eJ:=by
 cases a with
 |p c=>simp only[aI] at h ⊢;exact⟨by rw[(Bv h).1],fun e=>(Bv h).2 (AV.p.inj e)⟩
 |_=>exact⟨rfl,fun e=>by cases e⟩
theorem Bw : ∀{ds:List (Option TypeDesc)} {l:List AV},(qj ds l).2=true→(qj ds l).1=l ∧ ∀x∈l,x ≠ .p .eJ
 |[],[],_=>⟨rfl,fun _ h=>by cases h⟩
 |d::ds,a::l,h=>by
  simp only[qj,dv] at h ⊢
  obtain⟨h1,h2⟩:=Bw h.2
  refine⟨by rw[(vw h.1).1,h1],fun x hx=> ?_⟩
  cases hx with
  |head=>exact(vw h.1).2
  |tail _ hx=>exact h2 x hx
 |[],_::_,h=>by simp[qj] at h
 |_::_,[],h=>by simp[qj] at h
theorem dQ {α:Type} (d:α) (l:List α) : ∀(n off:Nat),(mR d l off n).length=n
 |0,_=>rfl
 |n+1,off=>by simp[mR,dQ d l n]
theorem lA {α:Type} (d:α) (l:List α) : ∀(n off j:Nat) (h:j<(mR d l off n).length),(mR d l off n)[j]=l.getD (off+j) d
 |0,_,_,h=>by simp[mR] at h
 |n+1,off,0,_=>by simp[mR]
 |n+1,off,j+1,h=>by
  simp only[mR,List.getElem_cons_succ]
  rw[lA d l n (off+1) j]
  congr 1;omega
theorem Rel.GC (h:Rel g m w) {b c:Nat} {k:List AV} {t:TypeId} {pq:Bool} (hb:m[b]? = some (.ob (.gr t pq) k)) (hc:g.aP b=some c) {j:Nat} (hj:j<k.length) : ∃v,w.cell? ⟨c,j,none⟩=some v∧VA g w k[j] v:=by
 obtain⟨c',ob,vs,h1,h2,h3,h4,_,_⟩:=h.obs b _ _ hb
 rw[hc] at h1;cases h1
 obtain⟨cs,e,n,rfl,_,_,q1,q2,_⟩:=h4
 have hl:=h3.len
 have GD:j<vs.length:=by omega
 have So:j<cs.size:=by omega
 refine⟨cs[j],by rw[aM h2,ja So],?_⟩
 have:=h3.get j hj GD
 have e1:vs[j]? = some cs[j]:=by
  rw[q1,dT,if_pos GD]
  simp[So]
 rw[dp GD] at e1
 rwa [dE e1] at this
theorem Rel.GF {g:Gh} {m:Mem} {w:World} (h:Rel g m w) {i:Nat} {k k':fR} {l l':List AV} (hb:m[i]? = some (.ob k l))
  (hl : ∀ob vs hi,bN g w l vs→k.is ob vs→k.room ob hi → ∃vs',bN g w l' vs'∧k'.is ob vs'∧k'.room ob hi):Rel g (m.set i (.ob k' l')) w∧cr g m w g (m.set i (.ob k' l')) w:=by
 have own : ∀(j:Nat) (x:aH),(m.set i (.ob k' l'))[j]? = some x→x.bX=true → ∃y:aH,m[j]? = some y∧y.bX=true:=fun j x hj ho=>by
  rcases aq hj with⟨rfl,_⟩ | ⟨_,q⟩
  · exact⟨_,hb,rfl⟩
  · exact⟨x,q,ho⟩
 refine⟨⟨fun j hj=>h.rJ j (by simpa using hj),fun j hj=> ?_,fun j x cs hj hx=> ?_,fun j c hj hc=> ?_,fun j q x x' c hj hq ho ho' hc dJ=> ?_,h.there,fun j k1 l1 hj=> ?_⟩,
  ⟨df _,fun _ _ _=>rfl,fun _ _ p=>⟨p,rfl⟩,fun _ _ p=> .inl p,fun c ho=> ?_,rfl,rfl,rfl⟩⟩
 · rcases aq hj with⟨_,q⟩ | ⟨_,q⟩
   · cases q
   · exact h.free j q
 · rcases aq hj with⟨_,rfl⟩ | ⟨_,q⟩
   · cases hx
   · exact h.cells j x cs q hx
 · rcases aq hj with⟨_,q⟩ | ⟨_,q⟩
   · cases q
   · exact h.tok j c q hc
 · obtain⟨y,y1,y2⟩:=own j x hj ho
   obtain⟨z,z1,z2⟩:=own q x' hq ho'
   exact h.inj j q y z c y1 z1 y2 z2 hc dJ
 · rcases aq hj with⟨rfl,q⟩ | ⟨_,q⟩
   · cases q
     obtain⟨c,o,vs,k1,k2,k3,k4,k5,k6⟩:=h.obs _ _ _ hb
     obtain⟨vs',q1,q2,q3⟩:=hl o vs _ k3 k4 k6
     exact⟨c,o,vs',k1,k2,q1,q2,k5,q3⟩
   · exact h.obs j k1 l1 q
 · obtain⟨j,x,hj,hx,hc⟩:=ho
   obtain⟨y,y1,y2⟩:=own j x hj hx
   exact .inl ⟨j,y,y1,y2,hc⟩
def exactly (pre:List Value):List AV:=pre.map fun v=> .p (.sc v)
theorem br (pre:List Value):(exactly pre).length=pre.length:=List.length_map ..
theorem qy {g:Gh} {w:World} : ∀(pre:List Value),bN g w (exactly pre) pre
 |[]=>trivial
 |v::r=>⟨.p _ _ (.sc v),qy r⟩
theorem vA {g:Gh} {w:World} : ∀{pre vs:List Value},bN g w (exactly pre) vs→vs=pre
 |[],[],_=>rfl
 |v::r,x::xs,h=>by
  have h1:VA g w (.p (.sc v)) x:=h.1
  rw[VA.pv] at h1
  cases h1
  rw[vA (pre:=r) h.2]
 |[],_::_,h=>h.elim
 |_::_,[],h=>h.elim
theorem Rel.CZ {g:Gh} {m:Mem} {w:World} (h:Rel g m w) {b:Nat} {t:TypeId} {pre:List Value} {l:List AV} (hb:m[b]? = some (.ob (.stk t pre) l)) :
  Rel g (m.set b (.ob (.gr t false) (exactly pre++l))) w∧cr g m w g (m.set b (.ob (.gr t false) (exactly pre++l))) w:=
 h.GF hb fun ob vs hi hv hk hr=>by
   obtain⟨cs,e,n,rfl,q1,q2,q3,q4,q5⟩:=hk
   exact⟨pre++vs,(qy pre).append hv,⟨cs,e,n,rfl,q1,q2,by rw[ei];exact q3,by rw[ei];exact q4,q5⟩,hr⟩
theorem Rel.C0 {g:Gh} {m:Mem} {w:World} (h:Rel g m w) {b:Nat} {t:TypeId} {q:Bool} {pre:List Value} {l:List AV} (hb:m[b]? = some (.ob (.gr t q) (exactly pre++l))) :
  Rel g (m.set b (.ob (.stk t pre) l)) w∧cr g m w g (m.set b (.ob (.stk t pre) l)) w:=
 h.GF hb fun ob vs hi hv hk hr=>by
   obtain⟨cs,e,n,rfl,q1,q2,q3,q4,q5⟩:=hk
   have e1:vs=vs.take pre.length++vs.drop pre.length:=(List.take_append_drop _ _).symm
   have hlen:=hv.len
   rw[ei,br] at hlen
   have h1:bN g w (exactly pre) (vs.take pre.length):=by
    have:=hv.take pre.length
    rwa [List.take_append_of_le_length (by rw[br];exact df _),fe (by rw[br];exact df _)] at this
   have h2:bN g w l (vs.drop pre.length):=by
    have:=hv.drop pre.length
    rwa [List.drop_append_of_le_length (by rw[br];exact df _),List.drop_of_length_le (by rw[br];exact df _),List.nil_append] at this
   have h3:=vA h1
   rw[h3] at e1
   have e2:pre.length+(vs.drop pre.length).length=vs.length:=by rw[fi];omega
   exact⟨vs.drop pre.length,h2,⟨cs,e,n,rfl,q1,q2,by rw[e2,←e1];exact q3,by rw[e2];exact q4,q5⟩,hr⟩
theorem oU (h:Rel g m w) {a:AV} {ca:Value} (ha:VA g w a ca) {n:Nat} {l:List AV} (he:lU (fun i=>m.getD i .dead) a n=some (l,true)) (hb : ∀x∈l,x ≠ .p .eJ) :
  ∃c o vs,ca = .pointer (some ⟨c,o,none⟩)∧bN g w l vs∧vs.length=n ∧ ∀j v,vs[j]? = some v→w.cell? ⟨c,o+j,none⟩=some v:=by
 have key : ∀(c o:Nat),l.length=n→(∀j (hj:j<l.length),∃v,w.cell? ⟨c,o+j,none⟩=some v∧VA g w l[j] v) →
   ∃vs,bN g w l vs∧vs.length=n ∧ ∀j v,vs[j]? = some v→w.cell? ⟨c,o+j,none⟩=some v:=by
  intro c o hl hh
  refine⟨(gl n).map fun j=>(w.cell? ⟨c,o+j,none⟩).getD undef,aW.cS (by simp[hl]) fun i hi _=> ?_,by simp,fun j v hj=> ?_⟩
  · obtain⟨v,h1,h2⟩:=hh i hi
    simpa[h1] using h2
  · simp only[fv,kd] at hj
    obtain⟨k,hk,rfl⟩:=hj
    have hk':=fb.1 hk
    obtain⟨hlt,hk'⟩:=hk'
    simp at hlt hk'
    subst hk'
    obtain⟨v,h1,_⟩:=hh j (by omega)
    simp[h1]
 unfold lU at he
 split at he
 · rename_i off cs
   simp only[dC,kz,and_true] at he
   subst he
   rw[VA.pv] at ha
   cases ha with
   |pp _ _ b o f hp hv=>
    obtain⟨vs,h1,h2,h3⟩:=key b (o+off) (by simp[dQ]) (fun j hj=>by
     have hj':j<(mR PV.eJ cs off n).length:=by simpa using hj
     have hx:=hb _ (fw hj)
     simp only[eQ,lA] at hx ⊢
     rcases ik (off+j) cs.length with hlt | hge
     · refine⟨f (off+j),by rw[iu];exact(hp (off+j) hlt).2.1,?_⟩
       rw[dt,dp hlt]
       exact .p _ _ (hv (off+j) hlt)
     · exact absurd (by rw[dt,fg hge];rfl) hx)
    exact⟨b,o+off,vs,rfl,h1,h2,h3⟩
 · rename_i b off
   cases ha with
   |mp _ _ c hc=>
    split at he
    · rename_i k hk
      simp only[dC,kz,and_true] at he
      subst he
      have hm:m[b]? = some (.pc k):=getD_some hk (by simp)
      obtain⟨c',cs,e,q,h1,h2,h3,h4,h5⟩:=h.cells b _ _ hm rfl
      rw[hc] at h1;cases h1
      have h4:=h4.1
      have hlen:=h4.len
      obtain⟨vs,k1,k2,k3⟩:=key c off (by simp[dQ]) (fun j hj=>by
       have hx:=hb _ (fw hj)
       simp only[eQ,lA] at hx ⊢
       rcases ik (off+j) k.length with hlt | hge
       · have hlt':off+j<cs.size:=by simp at hlen;omega
         refine⟨cs[off+j],by rw[aM h2,ja hlt'],?_⟩
         rw[dt,dp hlt]
         have:=h4.get (off+j) (by simpa using hlt) (by simpa using hlt')
         simpa using this
       · exact absurd (by rw[dt,fg hge];rfl) hx)
      exact⟨c,off,vs,rfl,k1,k2,k3⟩
    · rename_i k hk
      simp only[dC,kz] at he
      obtain⟨rfl,hle⟩:=he
      have hle':=gv hle
      have hm:m[b]? = some (.ac k):=getD_some hk (by simp)
      obtain⟨c',cs,e,q,h1,h2,h3,h4,h5⟩:=h.cells b _ _ hm rfl
      rw[hc] at h1;cases h1
      have h4:=h4.1
      have hlen:=h4.len
      obtain⟨vs,k1,k2,k3⟩:=key c off (by simp[dQ]) (fun j hj=>by
       simp only[dQ] at hj
       simp only[lA]
       have hlt:off+j<k.length:=by omega
       have hlt':off+j<cs.size:=by simp at hlen;omega
       refine⟨cs[off+j],by rw[aM h2,ja hlt'],?_⟩
       rw[dt,dp hlt]
       have:=h4.get (off+j) hlt (by simpa using hlt')
       simpa using this)
      exact⟨c,off,vs,rfl,k1,k2,k3⟩
    · rename_i k hk
      simp only[dC,kz] at he
      obtain⟨rfl,hle⟩:=he
      have hle':=gv hle
      obtain⟨vs,k1,k2,k3⟩:=key c off (by simp[dQ]) (fun j hj=>by
       simp only[dQ] at hj
       simp only[lA]
       have hlt:off+j<k.length:=by omega
       obtain⟨v,q1,q2⟩:=h.GC (getD_some hk (by simp)) hc hlt
       refine⟨v,q1,?_⟩
       rw[dt,dp hlt]
       exact q2)
      exact⟨c,off,vs,rfl,k1,k2,k3⟩
    · rename_i t0 pre k hk
      simp only[dC,kz,dv] at he
      obtain⟨rfl,Qy,hle⟩:=he
      have Sp:=gv Qy
      have hle':=gv hle
      have hm:m[b]? = some (.ob (.stk t0 pre) k):=getD_some hk (by simp)
      obtain⟨hg,_⟩:=h.CZ hm
      have NK:(m.set b (.ob (.gr t0 false) (exactly pre++k)))[b]? = some (.ob (.gr t0 false) (exactly pre++k)):=by rw[List.getElem?_set_self (aV hm)]
      obtain⟨vs,k1,k2,k3⟩:=key c off (by simp[dQ]) (fun j hj=>by
       simp only[dQ] at hj
       simp only[lA]
       have hlt:off-pre.length+j<k.length:=by omega
       have LJ:off+j<(exactly pre++k).length:=by rw[ei,br];omega
       obtain⟨v,q1,q2⟩:=hg.GC NK hc LJ
       refine⟨v,q1,?_⟩
       rw[dt,dp hlt]
       have e:(exactly pre++k)[off+j]=k[off-pre.length+j]:=by
        rw[List.getElem_append_right (by rw[br];omega)]
        congr 1
        rw[br];omega
       rw[e] at q2
       exact q2)
      exact⟨c,off,vs,rfl,k1,k2,k3⟩
    · cases he
 · cases he
theorem cB (c o j:Nat):(⟨c,o,none⟩:Addr).add j=⟨c,o+j,none⟩:=by unfold Addr.add;split<;>simp_all
theorem qz (h:Rel g m w) {a:AV} {ca:Value} (ha:VA g w a ca) {t:TypeId} {v:AV} (he:kS P (fun i=>m.getD i .dead) t a=some (v,true)) :
  ∃c o cv,ca = .pointer (some ⟨c,o,none⟩)∧(loadVar t ⟨c,o,none⟩).run P w = .ok cv w∧VA g w v cv:=by
 unfold kS at he
 split at he
 · rename_i n hag hsz
   simp only[kd,kz,dv] at he
   obtain⟨⟨l,ok⟩,h1,rfl,hok,h2⟩:=he
   simp only at hok h2
   subst hok
   obtain⟨e1,e2⟩:=Bw h2
   obtain⟨c,o,vs,rfl,k1,k2,k3⟩:=oU h ha h1 e2
   refine⟨c,o,.agg vs.toArray,rfl,?_,?_⟩
   · have:=run_loadCells_list (P:=P) w ⟨c,o,none⟩ vs (fun j v hj=>by rw[cB];exact k3 j v hj)
     simp only[loadVar,la,l7 hag,lj,if_true,aD hsz,←k2,this,lh]
   · simp only[e1];exact VA.vr.2 (by simpa using k1)
 · rename_i n hag hsz
   split at he
   · rename_i x ok hx
     simp only[dC,kz,dv] at he
     obtain⟨rfl,hok,h2⟩:=he
     subst hok
     obtain⟨e1,e2⟩:=vw h2
     obtain⟨c,o,vs,rfl,k1,k2,k3⟩:=oU h ha hx (fun y hy=>by simp at hy;subst hy;exact e2)
     cases vs with
     |nil=>exact k1.elim
     |cons u us=>
      have:=k3 0 u rfl
      simp only[Nat.add_zero] at this
      exact⟨c,o,u,rfl,by simp[loadVar,l7 hag,this],by rw[e1];exact k1.1⟩
   · cases he
 · cases he
end ops
section ops
variable {P:Program} {g:Gh} {m:Mem} {w:World} {ρ:Operand→AV} {bF:Operand→Value} {o:Oper}
theorem oV {x a:AV} {cx:Value} {n:Nat} (h:lW x n=some a) (hx:VA g w x cx) :
  ∃c o,cx = .pointer (some ⟨c,o,none⟩)∧VA g w a (.pointer (some ⟨c,o+n,none⟩)):=by
 cases hx with
 |p v cv hv=>
  cases hv with
  |pp off cells b o f hp hv=>
   simp only[lW,dC] at h;subst h
   exact⟨b,o+off,rfl,.p _ _ (by rw[iu];exact .pp (off+n) cells b o f hp hv)⟩
  |_=>simp[lW] at h
 |mp b off c hc=>
  simp only[lW,dC] at h;subst h
  exact⟨c,off,rfl,.mp b (off+n) c hc⟩
 |_=>simp[lW] at h
theorem vB {c o:Nat} {f:Field} {n:Nat} (h:fj P f.type=some n) (hn:n≠0) :
  (fieldPlace ⟨c,o,none⟩ f).run P w = .ok ⟨c,o+f.offset,none⟩ w:=by
 simp[fieldPlace,aD h,hn,cB]
theorem qA {t:TypeId} {x a:AV} {cx:Value} {f:Nat} (h:kB P t x f=some a) (hx:VA g w x cx) :
  ∃v,(mi t cx f).run P w = .ok v w∧VA g w a v:=by
 unfold kB at h
 split at h
 · rename_i fields hu
   split at h
   · rename_i fd hf
     split at h
     · rename_i n hn
       cases hb:bj 1 n with
       |false=>simp[hb] at h
       |true=>
        simp only[hb,cond_true] at h
        have h1:=gv hb
        obtain⟨c,o,rfl,ha⟩:=oV h hx
        refine⟨_,?_,ha⟩
        simp[mi,run_underlying hu,hf,ma,vB hn (by omega:n≠0)]
     · cases h
   · cases h
 · cases h
theorem oz {i:Int} {n:Nat}:eW i n=true↔0≤i∧i<n:=by simp[eW]
theorem qB {t:TypeId} {x i a:AV} {cx ci:Value} (h:kC P t x i=some (a,true)) (hx:VA g w x cx) (hi:VA g w i ci) :
  ∃v,(lL t cx ci).run P w = .ok v w∧VA g w a v:=by
 unfold kC at h
 split at h
 · rename_i k n len elem hu
   rw[VA.pv] at hi;cases hi
   split at h
   · rename_i size hsz
     simp only[kd,kz] at h
     obtain⟨a',h1,rfl,h2⟩:=h
     obtain⟨c,o,rfl,ha⟩:=oV h1 hx
     rw[oz] at h2
     refine⟨_,?_,ha⟩
     simp[lL,asIntOf,run_underlying hu,ma,h2,aD hsz,cB]
   · cases h
 · rename_i k n elem hu
   rw[VA.pv] at hi;cases hi
   split at h
   · rename_i size len sz cs hsz
     simp only[dC,kz,dv] at h
     obtain⟨rfl,h2,_⟩:=h
     rw[oz] at h2
     rw[VA.pv] at hx
     cases hx with
     |ps _ _ _ b o cap f hl hc hz hp hv=>
      refine⟨_,?_,.p _ _ (.pp (n.toNat*size) cs b o f hp hv)⟩
      simp[lL,asIntOf,run_underlying hu,h2,aD hsz,cB]
     |mT sz a cap=>simp at h2;omega
   · rename_i size tok len sz cs hsz
     simp only[dC,kz,dv] at h
     obtain⟨rfl,h2,_⟩:=h
     rw[oz] at h2
     cases hx with
     |os _ _ _ _ ad cap hx hr=>
      cases hx with
      |ps _ _ _ b o cap f hl hc hz hp hv=>
       refine⟨_,?_,.p _ _ (.pp (n.toNat*size) cs b o f hp hv)⟩
       simp[lL,asIntOf,run_underlying hu,h2,aD hsz,cB]
      |mT sz a cap=>simp at h2;omega
   · rename_i size b off len sz cap hsz
     simp only[dC,kz,dv] at h
     obtain⟨rfl,h2,_⟩:=h
     rw[oz] at h2
     cases hx with
     |ms _ _ _ _ cap c hb hc=>
      refine⟨_,?_,.mp b _ c hb⟩
      simp[lL,asIntOf,run_underlying hu,h2,aD hsz,cB]
     |mg _ _ _ _ cap c hb hc=>
      refine⟨_,?_,.mp b _ c hb⟩
      simp[lL,asIntOf,run_underlying hu,h2,aD hsz,cB]
   · cases h
 · cases h
theorem yQ {α:Type} (d:α) : ∀(n:Nat) (l:List α) (off:Nat),off+n≤l.length→mR d l off n=(l.drop off).take n
 |0,_,_,_=>by simp[mR]
 |n+1,l,off,h=>by
  have hlt:off<l.length:=by omega
  rw[mR,yQ d n l (off+1) (by omega),List.drop_eq_getElem_cons hlt,List.take_succ_cons,dt,dp hlt]
  rfl
theorem qC {t:TypeId} {cs:List AV} {ca:Array Value} {off:Nat} {a:AV} (h:partOf P t cs off=some (a,true)) (hc:bN g w cs ca.toList) :
  ∃v,(part t ca off).run P w = .ok v w∧VA g w a v:=by
 have hlen:=hc.len
 unfold partOf at h
 split at h
 · rename_i n hag hsz
   simp only[dC,kz] at h
   obtain⟨rfl,h2⟩:=h
   have h2:=gv h2
   refine⟨_,by simp[part,l7 hag,aD hsz];rfl,VA.vr.2 ?_⟩
   rw[yQ _ _ _ _ h2]
   have:=(hc.drop off).take n
   simpa[fx] using this
 · rename_i n hag hsz
   simp only[dC,kz] at h
   obtain⟨rfl,h2⟩:=h
   have h2:off<cs.length:=by simpa[ix] using h2
   have h3:off<ca.size:=by simp at hlen;omega
   refine⟨ca[off],by simp[part,l7 hag,ja h3],?_⟩
   rw[dt,dp h2]
   exact hc.get off h2 (by simpa using h3)
 · cases h
theorem xR {t:TypeId} {x a:AV} {cx:Value} {f:Nat} (h:uF P t x f=some (a,true)) (hx:VA g w x cx) :
  ∃v,(ml t cx f).run P w = .ok v w∧VA g w a v:=by
 unfold uF at h
 split at h
 · rename_i fields cs hu
   split at h
   · rename_i fd hf
     cases hx with
     |agg _ ca hl hh=>
      obtain⟨v,h1,h2⟩:=qC h (VA.vr.1 (.agg cs ca hl hh))
      exact⟨v,by simp[ml,run_underlying hu,hf,asAgg,h1],h2⟩
   · cases h
 · cases h
theorem vC (s:ByteArray) (i:Nat):s[i]? = s.data.toList[i]? :=by
 rcases ik i s.size with h | h
 · have h2:i<s.data.toList.length:=by rw[jb];exact h
   rw[getElem?_pos s i h,dp h2]
   rfl
 · have h2:s.data.toList.length≤i:=by rw[jb];exact h
   rw[getElem?_neg s i (Nat.not_lt.2 h),fg h2]
theorem xS {t:TypeId} {x i a:AV} {cx ci:Value} (h:uG P t x i=some (a,true)) (hx:VA g w x cx) (hi:VA g w i ci) :
  ∃v,(mc t cx ci).run P w = .ok v w∧VA g w a v:=by
 unfold uG at h
 split at h
 · rename_i cs k n
   rw[VA.pv] at hi;cases hi
   split at h
   · rename_i len elem hu
     split at h
     · rename_i size v ok hsz hp
       simp only[dC,kz,dv] at h
       obtain⟨rfl,h1,rfl⟩:=h
       rw[oz] at h1
       cases hx with
       |agg _ ca hl hh=>
        simp only[hsz,kp] at hp
        obtain⟨v,h2,h3⟩:=qC hp (VA.vr.1 (.agg cs ca hl hh))
        refine⟨v,?_,h3⟩
        simp[mc,asIntOf,run_underlying hu,h1,aD hsz,h2]
     · cases h
   · cases h
 · rename_i s k n
   rw[VA.pv] at hi hx;cases hi;cases hx
   split at h
   · rename_i hu
     simp only[dC,kz] at h
     obtain⟨rfl,h1⟩:=h
     rw[oz] at h1
     have hlt:n.toNat<s.data.toList.length:=by omega
     refine⟨_,?_,.p _ _ (.sc _)⟩
     simp only[mc,asIntOf,run_underlying hu,la,lh,lj,h1.1,if_true,vC,dp hlt,dt,kp]
   · cases h
 · cases h
theorem iQ (hr : ∀x,VA g w (ρ x) (bF x)) {x:Option Operand} {d n:Nat} (h:bound ρ x d=some (n,true)) :
  (x=none∧n=d)∨(∃y k i,x=some y∧bF y = .int k i∧0≤i∧n=i.toNat):=by
 unfold bound at h
 split at h
 · simp only[dC,kz,and_true] at h;exact .inl ⟨rfl,h.symm⟩
 · rename_i y
   split at h
   · rename_i k i he
     simp only[dC,kz,decide_eq_true_eq] at h
     have:=hr y
     rw[he,VA.pv] at this
     refine .inr ⟨y,k,i,rfl,?_,h.2,h.1.symm⟩
     generalize bF y=cv at this
     cases this;rfl
   · cases h
theorem run_sliceBound {k:IntKind} {i:Int} {y:Nat} {code:BoundsCode} (h0:0≤i) (h1:i.toNat≤y):(mb (.int k i) y code).run P w = .ok i.toNat w:=by
 have:i≤y:=by omega
 simp[mb,asIntOf,h0,this]
theorem bG (hr : ∀x,VA g w (ρ x) (bF x)) {NL:Bool} {len cap l h:Nat} {low high:Option Operand}
  (hl:bound ρ low 0=some (l,true)) (hh:bound ρ high len=some (h,true)) (h1:l≤h) (h2:h≤cap) :
  (lk NL len cap (low.map bF) (high.map bF) none).run P w = .ok (l,h,cap) w:=by
 rcases iQ hr hl with⟨rfl,rfl⟩ | ⟨y,k,i,rfl,hy,hi,rfl⟩<;>rcases iQ hr hh with⟨rfl,rfl⟩ | ⟨y',k',i',rfl,hy',hi',rfl⟩
 · simp[lk]
 · simp[lk,hy',run_sliceBound hi' h2]
 · simp[lk,hy,run_sliceBound hi h1]
 · simp[lk,hy,hy',run_sliceBound hi h1,run_sliceBound hi' h2]
theorem iR (hr : ∀x,VA g w (ρ x) (bF x)) {NL:Bool} {len cap l h:Nat} {low:Option Operand} {hx mx:Operand}
  (hl:bound ρ low 0=some (l,true)) (hh:bound ρ (some hx) len=some (h,true)) (hm:bound ρ (some mx) 0=some (h,true)) (h1:l≤h) (h2:h≤cap) :
  (lk NL len cap (low.map bF) (some (bF hx)) (some (bF mx))).run P w = .ok (l,h,h) w:=by
 rcases iQ hr hh with⟨e,_⟩ | ⟨y',k',i',e,hy',hi',rfl⟩
 · cases e
 cases e
 rcases iQ hr hm with⟨e,_⟩ | ⟨y2,k2,i2,e,Oa,hi2,e2⟩
 · cases e
 cases e
 rw[e2] at h2
 rcases iQ hr hl with⟨rfl,rfl⟩ | ⟨y,k,i,rfl,hy,hi,rfl⟩
 · simp only[lk,la,hy',Oa,run_sliceBound hi2 h2,lj,kh,lh]
   rw[run_sliceBound hi' (by omega)];simp[e2]
 · simp only[lk,la,hy,hy',Oa,run_sliceBound hi2 h2,lj,kl]
   rw[run_sliceBound hi' (by omega)]
   simp only[lj]
   rw[run_sliceBound hi (by omega)];simp[e2]
theorem oN (hr : ∀x,VA g w (ρ x) (bF x)) {NL:Bool} {len cap l h m':Nat} {low:Option Operand} {hx mx:Operand}
  (hl:bound ρ low 0=some (l,true)) (hh:bound ρ (some hx) len=some (h,true)) (hm:bound ρ (some mx) 0=some (m',true)) (h1:l≤h) (h2:h≤m') (h3:m'≤cap) :
  (lk NL len cap (low.map bF) (some (bF hx)) (some (bF mx))).run P w = .ok (l,h,m') w:=by
 rcases iQ hr hh with⟨e,_⟩ | ⟨y',k',i',e,hy',hi',rfl⟩
 · cases e
 cases e
 rcases iQ hr hm with⟨e,_⟩ | ⟨y2,k2,i2,e,Oa,hi2,rfl⟩
 · cases e
 cases e
 rcases iQ hr hl with⟨rfl,rfl⟩ | ⟨y,k,i,rfl,hy,hi,rfl⟩
 · simp only[lk,la,hy',Oa,run_sliceBound hi2 h3,lj,kh,lh]
   rw[run_sliceBound hi' h2];simp
 · simp only[lk,la,hy,hy',Oa,run_sliceBound hi2 h3,lj,kl]
   rw[run_sliceBound hi' h2]
   simp only[lj]
   rw[run_sliceBound hi h1];simp
theorem ng {α:Type} (cs:List α) {len l h size:Nat} {low high:Option Operand} (hl:cs.length=len*size) (h1:l≤h) (h2:h≤len) (e1:low=none→l=0) (e2:high=none→h=len) :
  cut cs (times low l size) (times high h size)=(cs.drop (l*size)).take ((h-l)*size):=by
 have Qe:(h-l)*size=h*size-l*size:=im _ _ _
 have S3:h*size≤len*size:=ie _ h2
 have LK:l*size≤h*size:=ie _ h1
 unfold cut times
 cases low with
 |none=>
  have:=e1 rfl;subst this
  cases high with
  |none=>have:=e2 rfl;subst this;simp[hl,fe]
  |some _=>simp
 |some _=>
  cases high with
  |none=>
   have:=e2 rfl;subst this
   simp only[kl,kh]
   rw[fe]
   simp[hl,Qe]
  |some _=>simp only[kl];rw[fx,Qe]
theorem oA {len sz:Nat} {cs:List PV} {a:Option Addr} {cap l h m':Nat} (hx:VP g w (.ps len sz cs) (.slice a len cap)) (h1:l≤h) (h2:h≤len) (h3:h≤m') (h4:m'≤cap) :
  VP g w (.ps (h-l) sz ((cs.drop (l*sz)).take ((h-l)*sz))) (.slice (if m'=l then a else a.map (·.add (l*sz))) (h-l) (m'-l)):=by
 cases hx with
 |ps _ _ _ b o cap f hl hc hz hp hv=>
  have Qe:(h-l)*sz=h*sz-l*sz:=im _ _ _
  have S3:h*sz≤len*sz:=ie _ h2
  have LK:l*sz≤h*sz:=ie _ h1
  by_cases e:m'=l
  · have:h-l=0:=by omega
    simp only[this,Nat.zero_mul,List.take_zero]
    exact .mT _ _ _ (.inl hz)
  · simp only[if_neg e,kl,cB]
    refine .ps _ _ _ b (o+l*sz) _ (fun k=>f (l*sz+k)) (by simp[hl,Qe];omega) (by omega) hz (fun k hk=> ?_) (fun k hk=> ?_)
    · simp only[fl,fi,hl] at hk
      have:=hp (l*sz+k) (by omega)
      rw[iu];exact this
    · simp only[fl,fi,hl] at hk
      have:=hv (l*sz+k) (by omega)
      simpa using this
 |mT sz a cap hz=>
  have:h-l=0:=by omega
  simp only[this,List.drop_nil,List.take_nil]
  exact .mT _ _ _ (hz.imp id fun⟨e,e2⟩=>by subst e;subst e2;exact⟨by split<;>rfl,by omega⟩)
theorem jq {len sz size:Nat} {cs:List PV} {a:Option Addr} {cap:Nat} (hx:VP g w (.ps len sz cs) (.slice a len cap)) (h:(be sz size||(be len 0&&bj 1 size))=true):VP g w (.ps len size cs) (.slice a len cap):=by
 simp only[kx,dv,ic] at h
 rcases h with rfl | ⟨rfl,h1⟩
 · exact hx
 · have h1:=gv h1
   cases hx with
   |ps _ _ _ b o cap f hl hc hz hp hv=>
    simp at hl;subst hl
    exact .mT _ _ _ (.inl h1)
   |mT=>exact .mT _ _ _ (.inl h1)
theorem l8 {len sz:Nat} {cs:List PV} {cv:Value} (hx:VP g w (.ps len sz cs) cv):cs.length=len*sz ∧ ∃a cap,cv = .slice a len cap∧(len≤cap):=by
 cases hx with
 |ps _ _ _ b o cap f hl hc hz hp hv=>exact⟨hl,_,_,rfl,hc⟩
 |mT=>exact⟨by simp,_,_,rfl,Nat.zero_le _⟩
end ops
theorem gx {ρ:Operand→AV} {d n:Nat} {b:Bool} (h:bound ρ none d=some (n,b)):n=d:=by
 simp only[bound,dC,kz] at h;exact h.1.symm
section ops
variable {P:Program} {g:Gh} {m:Mem} {w:World} {ρ:Operand→AV} {bF:Operand→Value} {o:Oper}
theorem xT (hr : ∀x,VA g w (ρ x) (bF x)) {t:TypeId} {x a:AV} {cx:Value} {low high mx:Option Operand} (h:om P ρ t x low high mx=some (a,true)) (hx:VA g w x cx) :
  ∃v,(lr t cx (low.map bF) (high.map bF) (mx.map bF)).run P w = .ok v w∧VA g w a v:=by
 unfold om at h
 split at h
 · rename_i n elem hu
   split at h
   · rename_i size l a' h' b' i off hsz hl hh
     simp only[dC,kz,dv] at h
     obtain⟨rfl,⟨⟨rfl,rfl⟩,h1⟩,h2⟩:=h
     have h1:=gv h1
     have h2:=gv h2
     cases hx with
     |mp _ _ c hc=>
      have e:(if n=l then(⟨c,off,none⟩:Addr) else(⟨c,off,none⟩:Addr).add (l*size))=⟨c,cond (be n l) off (off+l*size),none⟩:=by
       by_cases e:n=l
       · simp[e]
       · have:be n l=false:=by rw[kv];intro k;exact e (bm k)
         simp[e,this,cB]
      refine⟨_,?_,.ms i (cond (be n l) off (off+l*size)) (h'-l) size (n-l) c hc (by omega)⟩
      simp only[lr,la,run_underlying hu,lj,ma,kh,bG hr hl hh h1 h2,aD hsz,lh,e]
   · cases h
 · rename_i elem hu
   split at h
   · rename_i size l a' len sz cs hsz hl
     rw[VA.pv] at hx
     obtain⟨hlen,ad,cap,rfl,hcap⟩:=l8 hx
     split at h
     · rename_i h' b' hh
       simp only[dC,kz,dv,ic] at h
       obtain⟨rfl,⟨⟨⟨rfl,rfl⟩,h1⟩,h2⟩,rfl⟩:=h
       have h1:=gv h1
       have h2:=gv h2
       refine⟨_,?_,.p _ _ (by rw[ng cs hlen h1 h2 (fun e:low=none=>gx (e▸hl)) (fun e=>gx (e▸hh))];exact oA hx h1 h2 (ch h2 hcap) (df _))⟩
       simp only[lr,lv,la,run_underlying hu,lj,kh,bG hr hl hh h1 (ch h2 hcap),aD hsz,lh]
     · rename_i h' b' mo hh
       split at h
       · rename_i m' c' hm
         simp only[dC,kz,dv,ic] at h
         obtain⟨rfl,⟨⟨⟨⟨⟨rfl,rfl⟩,rfl⟩,h1⟩,h2⟩,rfl⟩,h3,rfl⟩:=h
         have h1:=gv h1
         have h2:=gv h2
         obtain⟨hx',rfl⟩:=km.1 h3
         have hv:=oA (m':=m') hx h1 h2 (df _) (ch h2 hcap)
         refine⟨_,?_,.os none (m'-l) sz _ _ _ (by rw[ng cs hlen h1 h2 (fun e:low=none=>gx (e▸hl)) (fun e=>by cases e)];exact hv) (.inl rfl)⟩
         simp only[lr,lv,la,run_underlying hu,lj,kl,iR hr hl hh hm h1 (ch h2 hcap),aD hsz,lh]
       · cases h
     · cases h
   · rename_i size l a' tok len sz cs hsz hl
     cases hx with
     |os _ _ _ _ ad cap hx xU=>
     obtain⟨hlen,UB,cap',he,hcap⟩:=l8 hx
     cases he
     split at h
     · rename_i h' b' hh
       split at h
       · simp only[dC,kz,dv] at h
         obtain⟨rfl,⟨⟨rfl,rfl⟩,h1⟩,h3⟩:=h
         have h1:=gv h1
         have:=gx hh;subst this
         have hsz':(be sz size||(be h' 0&&bj 1 size))=true:=by
          rw[kx] at h3 ⊢
          refine h3.imp id fun k=> ?_
          simp only[dv] at k ⊢
          exact⟨k.1,k.2.1⟩
         have hx':=jq hx hsz'
         have hlen':=(l8 hx').1
         have hv:=oA (m':=cap) hx' h1 (df _) hcap (df _)
         have hc:=ng (low:=low) (high:=none) cs hlen' h1 (df _) (fun e:low=none=>gx (e▸hl)) (fun _=>rfl)
         simp only[times,kh] at hc
         refine⟨_,?_,.os tok (h'-l) size _ _ _ (by simp only[times];rw[hc];exact hv) ?_⟩
         · have hb:=bG (P:=P) (NL:=true) hr hl hh h1 hcap
           simp only[kh] at hb
           simp only[lr,lv,la,run_underlying hu,lj,kh,hb,aD hsz,lh]
         · rcases xU with rfl | ⟨t,b,o',rfl,rfl,q1,q2,q3,q4⟩
           · exact .inl rfl
           · have:sz=size:=by simpa[ic] using h3
             subst this
             by_cases e:cap=l
             · exact .inl (by omega)
             · refine .inr ⟨t,b,o'+l*sz,rfl,by simp[e,cB],q1,?_,?_,by omega⟩
               · rw[q2,im];have:=ie sz h1;omega
               · rw[q3,im];have:=ie sz (ch h1 hcap);omega
       · rename_i hy
         have Ob : ∀{sz:Nat},VP g w (.ps len sz cs) (.slice ad len cap)→cs.length=len*size→l≤h'→h'≤len→cut cs (times low l size) (some (h'*size))=(cs.drop (l*size)).take ((h'-l)*size):=fun _ hlen' h1 h2=>by
          have hc:=ng (low:=low) (high:=some hy) cs hlen' h1 h2 (fun e:low=none=>gx (e▸hl)) (fun e=>by cases e)
          simpa only[times,kl] using hc
         split at h
         · rename_i heq
           simp only[dC,kz,dv] at h
           obtain⟨rfl,⟨⟨⟨rfl,rfl⟩,h1⟩,h2⟩,h3⟩:=h
           have heq:=bm heq
           have h1:=gv h1
           have h2:=gv h2
           have Sq:cap=len:=by
            rcases xU with e | ⟨t,b,o',e,_⟩
            · exact e
            · cases e
           have hx':=jq hx h3
           have hlen':=(l8 hx').1
           have hv:=oA (m':=cap) hx' h1 h2 (ch h2 hcap) (df _)
           refine⟨_,?_,.os none (h'-l) size _ _ _ (by rw[Ob hx hlen' h1 h2];exact hv) (.inl (by omega))⟩
           simp only[lr,lv,la,run_underlying hu,lj,kh,bG hr hl hh h1 (ch h2 hcap),aD hsz,lh]
         · simp only[dC,kz,dv] at h
           obtain⟨rfl,⟨⟨⟨rfl,rfl⟩,h1⟩,h2⟩,h3⟩:=h
           have h1:=gv h1
           have h2:=gv h2
           have hx':=jq hx h3
           have hlen':=(l8 hx').1
           refine⟨_,?_,.p _ _ (by rw[Ob hx hlen' h1 h2];exact oA hx' h1 h2 (ch h2 hcap) (df _))⟩
           simp only[lr,lv,la,run_underlying hu,lj,kh,bG hr hl hh h1 (ch h2 hcap),aD hsz,lh]
     · rename_i h' b' mo hh
       split at h
       · rename_i m' c' hm
         simp only[dC,kz,dv,ic] at h
         obtain⟨rfl,⟨⟨⟨⟨⟨rfl,rfl⟩,rfl⟩,h1⟩,h2⟩,rfl⟩,h3,h4⟩:=h
         have h1:=gv h1
         have h2:=gv h2
         obtain⟨hx',rfl⟩:=km.1 h3
         have Qf:=jq hx h4
         have hlen':=(l8 Qf).1
         have hv:=oA (m':=m') Qf h1 h2 (df _) (ch h2 hcap)
         refine⟨_,?_,.os none (m'-l) size _ _ _ (by rw[ng cs hlen' h1 h2 (fun e:low=none=>gx (e▸hl)) (fun e=>by cases e)];exact hv) (.inl rfl)⟩
         simp only[lr,lv,la,run_underlying hu,lj,kl,iR hr hl hh hm h1 (ch h2 hcap),aD hsz,lh]
       · cases h
     · cases h
   · rename_i size l a' i off len sz hsz hl
     cases hx with
     |mg _ _ _ _ cap c hc hcap hroom=>
     split at h
     · rename_i h' b' hh
       simp only[dC,kz,dv,kx,ic,ix] at h
       obtain⟨rfl,⟨⟨⟨⟨rfl,rfl⟩,h1⟩,h2⟩,rfl⟩,h3⟩:=h
       have h1:=gv h1
       have h2:=gv h2
       have e:(if cap=l then some (⟨c,off,none⟩:Addr) else(some (⟨c,off,none⟩:Addr)).map (·.add (l*sz)))=some ⟨c,off+l*sz,none⟩:=by
        by_cases e:cap=l
        · have:l=0:=by omega
          simp[e,this]
        · simp[e,cB]
       refine⟨_,?_,.mg i (off+l*sz) (h'-l) sz (cap-l) c hc (by omega) ?_⟩
       · simp only[lr,lv,la,run_underlying hu,lj,kh,bG hr hl hh h1 (ch h2 hcap),aD hsz,lh,e]
       · rw[im]
         have:=ie sz (ch (ch h1 h2) hcap)
         omega
     · rename_i h' b' mo hh
       split at h
       · rename_i m' c' hm
         simp only[dC,kz,dv,ic] at h
         obtain⟨rfl,⟨⟨⟨⟨⟨rfl,rfl⟩,rfl⟩,h1⟩,h2⟩,h4⟩,h3,rfl⟩:=h
         have h1:=gv h1
         have h2:=gv h2
         have h4:=gv h4
         obtain⟨hx',rfl⟩:=km.1 h3
         have e:(if m'=l then some (⟨c,off,none⟩:Addr) else some ((⟨c,off,none⟩:Addr).add (l*sz)))=some ⟨c,cond (be m' l) off (off+l*sz),none⟩:=by
          by_cases e:m'=l
          · simp[e]
          · have:be m' l=false:=by rw[kv];intro k;exact e (bm k)
            simp[e,this,cB]
         refine⟨_,?_,.ms i (cond (be m' l) off (off+l*sz)) (h'-l) sz (m'-l) c hc (by omega)⟩
         simp only[lr,lv,la,run_underlying hu,lj,kl,oN hr hl hh hm h1 h2 (ch h4 hcap),aD hsz,lh,e]
       · cases h
     · cases h
   · rename_i size l a' i off len sz cap hsz hl
     cases hx with
     |ms _ _ _ _ cap c hc hcap=>
     split at h
     · rename_i h' b' hh
       simp only[dC,kz,dv,ic] at h
       obtain⟨rfl,⟨⟨⟨rfl,rfl⟩,h1⟩,h2⟩,rfl⟩:=h
       have h1:=gv h1
       have h2:=gv h2
       have e:(if cap=l then some (⟨c,off,none⟩:Addr) else(some (⟨c,off,none⟩:Addr)).map (·.add (l*sz)))=some ⟨c,cond (be cap l) off (off+l*sz),none⟩:=by
        by_cases e:cap=l
        · simp[e]
        · have:be cap l=false:=by rw[kv];intro k;exact e (bm k)
          simp[e,this,cB]
       refine⟨_,?_,.ms i (cond (be cap l) off (off+l*sz)) (h'-l) sz (cap-l) c hc (by omega)⟩
       simp only[lr,lv,la,run_underlying hu,lj,kh,bG hr hl hh h1 h2,aD hsz,lh,e]
     · cases h
   · cases h
 · rename_i hu
   split at h
   · rename_i l a' s hl
     rw[VA.pv] at hx;cases hx
     split at h
     · rename_i h' b' hh
       simp only[dC,kz,dv] at h
       obtain⟨rfl,⟨⟨rfl,rfl⟩,h1⟩,h2⟩:=h
       have h1:=gv h1
       have h2:=gv h2
       have e:s.data.toList.length=s.size:=jb
       rw[e] at hh h2
       refine⟨_,?_,.p _ _ (.sc _)⟩
       simp only[lr,lv,la,run_underlying hu,lj,kh,Option.isSome_none,Bool.false_eq_true,if_false,lh,bG hr hl hh h1 h2]
     · cases h
   · cases h
 · cases h
theorem um (op:BinOp) (t:TypeId) (x y:Operand) (k k':IntKind) (a b:Int):(eqGuard op t x y (.int k a) (.int k' b)).run P w = .ok () w:=by
 unfold eqGuard;cases op<;>rfl
theorem pI (op:BinOp) (t:TypeId) (x y:Operand) (a b:ByteArray):(eqGuard op t x y (.string a) (.string b)).run P w = .ok () w:=by
 unfold eqGuard;cases op<;>rfl
theorem Af {op:BinOp} {t:TypeId} {k k':IntKind} {a b:Int} {v:Value} (h:CS op k a k' b=some (v,true)):(binOp op t (.int k a) (.int k' b)).run P w = .ok v w:=by
 cases op<;>simp only[CS,dC,kz,dv,beq_iff_eq,ky,beq_eq_false_iff_ne,decide_eq_true_eq] at h
 case quo=>obtain⟨rfl,rfl,hb⟩:=h;simp[binOp,Op.intDiv,hb]
 case rem=>obtain⟨rfl,rfl,hb⟩:=h;simp[binOp,Op.intDiv,hb]
 case shl=>obtain⟨rfl,hb⟩:=h;simp[binOp,Op.shift,Int.not_lt.2 hb]
 case shr=>obtain⟨rfl,hb⟩:=h;simp[binOp,Op.shift,Int.not_lt.2 hb]
 all_goals obtain⟨rfl,rfl⟩:=h
 all_goals simp[binOp,my,Op.intBits,Op.intCmp]
theorem Ag {op:BinOp} {t:TypeId} {a b:ByteArray} {v:Value} (h:CT op a b=some (v,true)):(binOp op t (.string a) (.string b)).run P w = .ok v w:=by
 have e : ∀s:ByteArray,s.data.toList.length=s.size:=fun s=>jb
 cases op<;>simp only[CT,dC,kz,and_true,reduceCtorEq] at h
 case add=>
  obtain⟨rfl,h⟩:=h
  have h:=gv h
  rw[e,e] at h
  rw[binOp_string_add,run_string_add_sum w a b (by unfold b7 at h;omega)]
 all_goals (subst h;simp[binOp,Op.stringOp,ByteArray.toList_eq])
theorem gY (d:Nat) (cx cy:Array Value) : ∀(fs:List Field) (i:Nat) (xs ys:List AV) (b:Bool),gT P i fs xs ys=some b→bN g w xs (cx.toList.drop i)→bN g w ys (cy.toList.drop i) →
  (mv (d+1) cx cy fs).run P w = .ok b w
 |[],i,xs,ys,b,h,hx,hy=>by
  cases xs<;>cases ys<;>simp only[gT,dC,reduceCtorEq] at h
  subst h
  simp[mv]
 |f::fs,i,xs,ys,b,h,hx,hy=>by
  cases xs with
  |nil=>simp[gT] at h
  |cons x xs=>
   cases ys with
   |nil=>simp[gT] at h
   |cons y ys=>
    have Lg : ∀(c:Array Value) (z:AV) (zs:List AV),bN g w (z::zs) (c.toList.drop i) → ∃v,c[i]? = some v∧VA g w z v∧bN g w zs (c.toList.drop (i+1)):=by
     intro c z zs hz
     cases hd:c.toList.drop i with
     |nil=>rw[hd] at hz;exact hz.elim
     |cons v vs=>
      rw[hd] at hz
      have h1:c.toList[i]? = some v:=by rw[←List.head?_drop,hd];rfl
      have h2:c.toList.drop (i+1)=vs:=by rw[←List.tail_drop,hd];rfl
      refine⟨v,by simpa using h1,hz.1,?_⟩
      rw[h2];exact hz.2
    obtain⟨vx,ex,rx,tx⟩:=Lg cx x xs hx
    obtain⟨vy,ey,ry,ty⟩:=Lg cy y ys hy
    simp only[gT] at h
    split at h
    · rename_i _ k a k' a' hu
      cases hc:(k==k'&&be f.offset i&&f.name != "_" && P.plainKey f.type) with
      |false=>rw[hc] at h;cases h
      |true=>
       rw[hc] at h
       simp only[cond_true,kd] at h
       obtain⟨r,h1,rfl⟩:=h
       simp only[dv,beq_iff_eq,bne_iff_ne] at hc
       obtain⟨⟨⟨rfl,ho⟩,hn⟩,hp⟩:=hc
       have ho:=bm ho
       rw[VA.pv] at rx ry
       cases rx
       cases ry
       have ih:=gY d cx cy fs (i+1) xs ys r h1 tx ty
       simp only[mv,if_pos hn,la,ho,run_part_plain w hp ex,run_part_plain w hp ey,lj,run_equalIn_int w d f.type k _ a a' hu]
       cases hab:(a==a') with
       |true=>simp[ih]
       |false=>simp
    · rename_i _ a a' hu
      cases hc:(be f.offset i&&f.name != "_" && P.plainKey f.type) with
      |false=>rw[hc] at h;cases h
      |true=>
       rw[hc] at h
       simp only[cond_true,kd] at h
       obtain⟨r,h1,rfl⟩:=h
       simp only[dv,bne_iff_ne] at hc
       obtain⟨⟨ho,hn⟩,hp⟩:=hc
       have ho:=bm ho
       rw[VA.pv] at rx ry
       cases rx
       cases ry
       have ih:=gY d cx cy fs (i+1) xs ys r h1 tx ty
       simp only[mv,if_pos hn,la,ho,run_part_plain w hp ex,run_part_plain w hp ey,lj,run_equalIn_bool' w d f.type a a' hu]
       cases hab:(a==a') with
       |true=>simp[ih]
       |false=>simp
    · rename_i _ a a' hu
      cases hc:(be f.offset i&&f.name != "_" && P.plainKey f.type) with
      |false=>rw[hc] at h;cases h
      |true=>
       rw[hc] at h
       simp only[cond_true,kd] at h
       obtain⟨r,h1,rfl⟩:=h
       simp only[dv,bne_iff_ne] at hc
       obtain⟨⟨ho,hn⟩,hp⟩:=hc
       have ho:=bm ho
       rw[VA.pv] at rx ry
       cases rx
       cases ry
       have ih:=gY d cx cy fs (i+1) xs ys r h1 tx ty
       simp only[mv,if_pos hn,la,ho,run_part_plain w hp ex,run_part_plain w hp ey,lj,run_equalIn_string w d f.type a a' hu,ByteArray.toList_eq]
       cases hab:(a.data.toList==a'.data.toList) with
       |true=>simp[ih]
       |false=>simp
    · cases h
theorem tH {t:TypeId} {x y:AV} {b:Bool} {vx vy:Value} (h:Bj P t x y=some b) (hx:VA g w x vx) (hy:VA g w y vy) :
  (∀op p q,(eqGuard op t p q vx vy).run P w = .ok () w)∧(binOp .eql t vx vy).run P w = .ok (.bool b) w∧(binOp .neq t vx vy).run P w = .ok (.bool (!b)) w:=by
 unfold Bj at h
 split at h
 · rename_i xs ys
   split at h
   · rename_i fs hu
     cases hc:(!P.stoodInHeld t && !P.eqGuardType P.depth t) with
     |false=>rw[hc] at h;cases h
     |true=>
      rw[hc] at h
      simp only[cond_true] at h
      simp only[dv,ky] at hc
      cases hx with
      |agg _ cx lx hx=>
       cases hy with
       |agg _ cy ly hy=>
        have hfo:P.fieldsOf t=fs:=by unfold Program.fieldsOf;rw[hu]
        have S4:P.underlying t=some (.struct (P.fieldsOf t)):=by rw[hfo,hu]
        have key:=gY (g:=g) (w:=w) 9998 cx cy fs.toList 0 xs ys b h (by simpa using aW.cS lx hx) (by simpa using aW.cS ly hy)
        have e:(Op.equalIn 10000 t (.agg cx) (.agg cy)).run P w = .ok b w:=by
         rw[run_equalIn_agg w 9999 t cx cy S4 hc.1,hfo];exact key
        refine⟨fun op p q=>run_eqGuard_agg w op t p q cx cy hc.2,?_,?_⟩
        · rw[run_eql_struct,e];rfl
        · rw[run_neq_struct,e];rfl
   · cases h
 · cases h
theorem xV (hr : ∀x,VA g w (ρ x) (bF x)) {op:BinOp} {t yt:TypeId} {x y:Operand} (ho:o.op = .binOp op t x y yt) {a:AV} (h:qm P ρ o op (ρ x) (ρ y)=some (a,true)) :
  ∃v,(execOp bF o).run P w = .ok (.value v) w∧VA g w a v:=by
 unfold qm at h
 split at h
 · rename_i k a' k' b' hx hy
   simp only[kd,kz] at h
   obtain⟨⟨v,ok⟩,h1,rfl,h2⟩:=h
   simp only at h2;subst h2
   have cx:bF x = .int k a':=by have:=hr x;rw[hx,VA.pv] at this;generalize bF x=z at this;cases this;rfl
   have cy:bF y = .int k' b':=by have:=hr y;rw[hy,VA.pv] at this;generalize bF y=z at this;cases this;rfl
   exact⟨v,by simp only[execOp,ho,cx,cy,la,um,lj,Af h1,lh],.p _ _ (.sc v)⟩
 · rename_i a' b' hx hy
   simp only[kd,kz] at h
   obtain⟨⟨v,ok⟩,h1,rfl,h2⟩:=h
   simp only at h2;subst h2
   have cx:bF x = .string a':=by have:=hr x;rw[hx,VA.pv] at this;generalize bF x=z at this;cases this;rfl
   have cy:bF y = .string b':=by have:=hr y;rw[hy,VA.pv] at this;generalize bF y=z at this;cases this;rfl
   exact⟨v,by simp only[execOp,ho,cx,cy,la,pI,lj,Ag h1,lh],.p _ _ (.sc v)⟩
 · have hs : ∀cs b,o.op ≠ .select cs b:=fun _ _=>by rw[ho];exact fun e=>by cases e
   split at h
   · split at h
     · rename_i b hb
       simp only[dC,kz,and_true] at h
       subst h
       have hb:Bj P t (ρ x) (ρ y)=some b:=by unfold DV at hb;rw[ho] at hb;exact hb
       obtain⟨k1,k2,k3⟩:=tH hb (hr x) (hr y)
       exact⟨_,by simp only[execOp,ho,la,k1,lj,k2,lh],.p _ _ (.sc _)⟩
     cases hc:(kD (ρ x)&&kE (ρ y)||kE (ρ x)&&kD (ρ y)) with
     |true=>simp[hc] at h
     |false=>
      simp only[hc,cond_false,kd,kz,and_true] at h
      obtain⟨v,h1,rfl⟩:=h
      exact eD hr hs h1
   · split at h
     · rename_i b hb
       simp only[dC,kz,and_true] at h
       subst h
       have hb:Bj P t (ρ x) (ρ y)=some b:=by unfold DV at hb;rw[ho] at hb;exact hb
       obtain⟨k1,k2,k3⟩:=tH hb (hr x) (hr y)
       exact⟨_,by simp only[execOp,ho,la,k1,lj,k3,lh],.p _ _ (.sc _)⟩
     cases hc:(kD (ρ x)&&kE (ρ y)||kE (ρ x)&&kD (ρ y)) with
     |true=>simp[hc] at h
     |false=>
      simp only[hc,cond_false,kd,kz,and_true] at h
      obtain⟨v,h1,rfl⟩:=h
      exact eD hr hs h1
   · cases h
theorem Ah (hr : ∀x,VA g w (ρ x) (bF x)) {op:UnOp} {t:TypeId} {x:Operand} (ho:o.op = .unOp op t x) {a:AV} (h:vc P ρ o op (ρ x)=some (a,true)) :
  ∃v,(execOp bF o).run P w = .ok (.value v) w∧VA g w a v:=by
 unfold vc at h
 split at h
 · rename_i b hx
   simp only[dC,kz,and_true] at h;subst h
   have cx:bF x = .bool b:=by have:=hr x;rw[hx,VA.pv] at this;generalize bF x=z at this;cases this;rfl
   exact⟨_,by simp only[execOp,ho,cx,Op.unary,la,lh,lj],.p _ _ (.sc _)⟩
 · rename_i k n hx
   simp only[dC,kz,and_true] at h;subst h
   have cx:bF x = .int k n:=by have:=hr x;rw[hx,VA.pv] at this;generalize bF x=z at this;cases this;rfl
   exact⟨_,by simp only[execOp,ho,cx,Op.unary,my,la,lh,lj],.p _ _ (.sc _)⟩
 · simp only[kd,kz,and_true] at h
   obtain⟨v,h1,rfl⟩:=h
   exact eD hr (fun _ _=>by rw[ho];exact fun e=>by cases e) h1
theorem qD {t:TypeId} {x a:AV} {cx:Value} (h:mZ P t x=some a) (hx:VA g w x cx) :
  ∃v,(l4 t cx).run P w = .ok v w∧VA g w a v:=by
 unfold mZ at h
 split at h
 · cases h
 · rename_i d hd hu
   have hrun:(l4 t cx).run P w = .ok (.iface t cx) w:=by
    cases d<;>first
     |(exact absurd rfl (hd _))
     |simp[l4,run_underlying hu]
   refine⟨_,hrun,?_⟩
   split at h
   · simp only[dC] at h;subst h
     rw[VA.pv] at hx;cases hx
     exact .p _ _ (.sc _)
   · simp only[dC] at h;subst h
     rw[VA.pv] at hx
     exact .p _ _ (.kA _ _ _ hx)
   · simp only[dC] at h;subst h
     exact .kA _ _ _ hx
 · cases h
theorem rT (hr : ∀x,VA g w (ρ x) (bF x)) {x:Operand} (ho:o.op = .nilCheck x) {a:AV} (h:jF P ρ o (ρ x)=some a) :
  ∃v,(execOp bF o).run P w = .ok (.value v) w∧VA g w a v:=by
 unfold jF at h
 split at h
 · rename_i off cs hx
   simp only[dC] at h;subst h
   have:=hr x;rw[hx] at this
   refine⟨bF x,?_,this⟩
   generalize hz:bF x=z at this
   rw[VA.pv] at this;cases this
   simp[execOp,ho,hz]
 · rename_i b off hx
   simp only[dC] at h;subst h
   have:=hr x;rw[hx] at this
   refine⟨bF x,?_,this⟩
   generalize hz:bF x=z at this
   cases this
   simp[execOp,ho,hz]
 · rename_i f a' b' hx
   simp only[dC] at h;subst h
   have:=hr x;rw[hx] at this
   refine⟨bF x,?_,this⟩
   generalize hz:bF x=z at this
   cases this
   simp[execOp,ho,hz]
 · exact eD hr (fun _ _=>by rw[ho];exact fun e=>by cases e) h
theorem Bx {argTypes:Array TypeId} {ty:TypeId} {x a:AV} {cx:Value} (h:Gg P argTypes x=some a) (hx:VA g w x cx) :
  ∃v,(na argTypes ty #[cx]).run P w = .ok v w∧VA g w a v:=by
 unfold Gg at h
 split at h
 · rename_i t ht
   split at h
   · rename_i len sz cs hu
     simp only[dC] at h;subst h
     rw[VA.pv] at hx
     obtain⟨_,ad,cap,rfl,_⟩:=l8 hx
     exact⟨_,by simp[na,ht,run_underlying hu,goInt],.p _ _ (.sc _)⟩
   · rename_i tok len sz cs hu
     simp only[dC] at h;subst h
     cases hx with
     |os _ _ _ _ ad cap hx _=>exact⟨_,by simp[na,ht,run_underlying hu,goInt],.p _ _ (.sc _)⟩
   · rename_i b off len sz cap hu
     simp only[dC] at h;subst h
     cases hx with
     |ms _ _ _ _ cap c _ _=>exact⟨_,by simp[na,ht,run_underlying hu,goInt],.p _ _ (.sc _)⟩
     |mg _ _ _ _ cap c _ _ _=>exact⟨_,by simp[na,ht,run_underlying hu,goInt],.p _ _ (.sc _)⟩
   · rename_i s hu
     simp only[dC] at h;subst h
     rw[VA.pv] at hx;cases hx
     rw[show s.data.toList.length=s.size from jb]
     exact⟨_,by simp[na,ht,run_underlying hu,goInt],.p _ _ (.sc _)⟩
   · rename_i n e hu
     simp only[dC] at h;subst h
     exact⟨_,by simp[na,ht,run_underlying hu,goInt],.p _ _ (.sc _)⟩
   · cases h
 · cases h
theorem By {argTypes:Array TypeId} {ty:TypeId} {x a:AV} {cx:Value} (h:Gi P argTypes x=some a) (hx:VA g w x cx) :
  ∃v,(np argTypes ty #[cx]).run P w = .ok v w∧VA g w a v:=by
 unfold Gi at h
 split at h
 · rename_i t ht
   split at h
   · rename_i b off len sz cap hu
     simp only[dC] at h;subst h
     cases hx with
     |ms _ _ _ _ cap c _ _=>exact⟨_,by simp[np,ht,run_underlying hu,goInt],.p _ _ (.sc _)⟩
   · rename_i len sz cs hu
     simp only[dC] at h;subst h
     cases hx with
     |os _ _ _ _ ad cap hx hr=>
      have hcap:cap=len:=by
       rcases hr with e | ⟨t,b,o,e,_⟩
       · exact e
       · cases e
      subst hcap
      exact⟨_,by simp[np,ht,run_underlying hu,goInt],.p _ _ (.sc _)⟩
   · rename_i cs hu
     simp only[dC] at h;subst h
     rw[VA.pv] at hx
     cases hx with
     |ps _ _ _ b o cap f hl hc hz hp hv=>omega
     |mT sz a cap hz=>
      obtain⟨rfl,rfl⟩:=hz.resolve_left (by omega)
      exact⟨_,by simp[np,ht,run_underlying hu,goInt],.p _ _ (.sc _)⟩
   · cases h
 · cases h
end ops
section ops
variable {P:Program} {g:Gh} {m:Mem} {w:World}
theorem cU : ∀{l:List AV} {bV:List PV} {vs:List Value},jk l=some bV→bN g w l vs→rI g w bV vs
 |[],bV,vs,h,hv=>by
  simp[jk] at h;subst h
  cases vs with
  |nil=>trivial
  |cons _ _=>exact hv.elim
 |a::l,bV,vs,h,hv=>by
  cases vs with
  |nil=>exact hv.elim
  |cons v vs=>
   simp only[jk] at h
   cases h1:zO a with
   |none=>simp[h1] at h
   |some pv=>
    cases h2:jk l with
    |none=>simp[h1,h2] at h
    |some us=>
     simp only[h1,h2,dC] at h
     subst h
     refine⟨?_,cU h2 hv.2⟩
     have h0:=hv.1
     cases h0 with
     |p UC _ hp=>simp[zO] at h1;subst h1;exact hp
     |os tok len sz cells ad cap hp _=>simp[zO] at h1;subst h1;exact hp
     |_=>simp[zO] at h1
def rU (P:Program) (g:Gh) (w:World) (sz n:Nat) (bV:List PV) (cx:Value):Prop:=
 ∃vs:List Value,rI g w bV vs∧vs.length=n*sz∧(∀v∈vs,v.oneCell'=true)∧(nd cx).run P w = .ok n w ∧ ∀k,k≤n→(nc sz k cx).run P w = .ok (vs.take (k*sz)).toArray w
theorem dR {sz n cap:Nat} {bV:List PV} {b o:Nat} {vs:List Value} (h1:rI g w bV vs) (h2:vs.length=n*sz) (ho : ∀v∈vs,v.oneCell'=true) (h3 : ∀j v,vs[j]? = some v→w.cell? ⟨b,o+j,none⟩=some v) :
  rU P g w sz n bV (.slice (some ⟨b,o,none⟩) n cap):=by
 refine⟨vs,h1,h2,ho,by simp[nd],fun k hk=> ?_⟩
 have hl:(vs.take (k*sz)).length=k*sz:=by
  rw[fl,h2];exact Nat.min_eq_left (ie _ hk)
 have:=run_loadCells_list (P:=P) w ⟨b,o,none⟩ (vs.take (k*sz)) (fun j v hj=>by
  rw[cB];exact h3 j v (by rw[dT] at hj;split at hj<;>simp_all))
 rw[hl] at this
 simpa[nc] using this
theorem lB {sz n:Nat} {bV:List PV} {cx:Value} (h:VP g w (.ps n sz bV) cx):rU P g w sz n bV cx:=by
 cases h with
 |ps _ _ _ b o cap f hl hc hz hp hv=>
  refine dR (vs:=(gl bV.length).map f) (aW.cS (by simp) fun i hi _=> ?_) (by simp[hl]) (fun v hv=> ?_) fun j v hj=> ?_
  · simpa using hv i hi
  · obtain⟨k,hk,rfl⟩:=gg.1 hv
    exact(hp k (by simpa using hk)).2.2
  · simp only[fv,kd] at hj
    obtain⟨k,hk,rfl⟩:=hj
    obtain⟨hlt,hk⟩:=fb.1 hk
    simp at hlt hk;subst hk
    exact(hp j hlt).2.1
 |mT _ a cap=>
  refine⟨[],trivial,by simp,by simp,by simp[nd],fun k hk=> ?_⟩
  have:k=0:=by omega
  subst this
  cases a<;>simp[nc,loadCells,loadCellsFrom]
theorem l9 : ∀{l:List AV},uj l=true→jk l=some (l.map Bg)
 |[],_=>rfl
 |.p v::l,h=>by
  have:=l9 (l:=l) (by simpa[uj] using h)
  simp[jk,zO,this,Bg]
 |.af::_,h | .os .. :: _,h | .mp .. :: _,h | .ms .. :: _,h | .fn .. :: _,h | .agg _::_,h | .bk _::_,h | .kA .. :: _,h | .vm _::_,h | .vy _::_,h=>by simp[uj] at h
theorem ep (h:Rel g m w) {sz n:Nat} {x:AV} {cx:Value} {bV:List PV} (he:contents (fun i=>m.getD i .dead) sz x=some (n,bV,true)) (hx:VA g w x cx) :
  rU P g w sz n bV cx:=by
 unfold contents at he
 split at he
 · simp only[dC,kz] at he
   obtain⟨rfl,rfl,h1⟩:=he
   rw[VA.pv] at hx
   obtain⟨_,ad,cap,rfl,_⟩:=l8 hx
   exact lB (jq hx h1)
 · simp only[dC,kz] at he
   obtain⟨rfl,rfl,h1⟩:=he
   cases hx with
   |os _ _ _ _ ad cap hx _=>exact lB (jq hx h1)
 · rename_i b off len s cap
   cases hx with
   |ms _ _ _ _ cap c hc hcap=>
   split at he
   · rename_i l hl
     simp only[dC,kz,dv,ic] at he
     obtain⟨rfl,rfl,rfl,h1⟩:=he
     have h1:=gv h1
     have hm:=getD_some hl (by simp)
     obtain⟨c',cs,e,q,k1,k2,k3,k4,k5⟩:=h.cells b _ _ hm rfl
     rw[hc] at k1;cases k1
     have hone:=k4.2
     have k4:=k4.1
     have hlen:=k4.len
     simp at hlen
     refine dR (vs:=(cs.toList.drop off).take (len*s)) ?_ (by simp;omega) (fun v hv=>hone v (ee (ed hv))) fun j v hj=> ?_
     · have:=((k4.drop off).take (len*s))
       rw[←List.map_drop,←List.map_take] at this
       exact aW.cS (by simpa using this.len) fun i a b=>by
        have:=this.get i (by simpa using a) b
        rw[eQ,VA.pv] at this
        exact this
     · rw[dT] at hj
       split at hj
       · rw[eh] at hj
         rw[aM k2];simpa using hj
       · cases hj
   · rename_i l hl
     simp only[kd,kz,dv,ic] at he
     obtain⟨us,he,rfl,rfl,rfl,h1⟩:=he
     have h1:=gv h1
     have hm:=getD_some hl (by simp)
     obtain⟨c',cs,e,q,k1,k2,k3,k4,k5⟩:=h.cells b _ _ hm rfl
     rw[hc] at k1;cases k1
     have hone:=k4.2
     have k4:=k4.1
     have hlen:=k4.len
     simp at hlen
     refine dR (vs:=(cs.toList.drop off).take (len*s)) (cU he ((k4.drop off).take (len*s))) (by simp;omega) (fun v hv=>hone v (ee (ed hv))) fun j v hj=> ?_
     rw[dT] at hj
     split at hj
     · rw[eh] at hj
       rw[aM k2];simpa using hj
     · cases hj
   · rename_i l hl
     simp only[dC,kz,dv,ic] at he
     obtain⟨rfl,rfl,hp,rfl,h1⟩:=he
     have he:=l9 hp
     have h1:=gv h1
     obtain⟨c',ob,vs,k1,k2,k3,k4,_,_⟩:=h.obs b _ _ (getD_some hl (by simp))
     rw[hc] at k1;cases k1
     obtain⟨cs,e,q,rfl,_,q0,q1,q2,q3⟩:=k4
     have hlen:=k3.len
     refine dR (vs:=(vs.drop off).take (len*s)) (cU he ((k3.drop off).take (len*s))) (by simp;omega) (fun v hv=> ?_) fun j v hj=> ?_
     · have hv:=ee (ed hv)
       rw[q1] at hv
       exact q3 v (ed hv)
     · rw[dT] at hj
       split at hj
       · rw[eh,q1,dT] at hj
         split at hj
         · rw[aM k2];simpa using hj
         · cases hj
       · cases hj
   · rename_i l hl
     simp only[kd,kz,dv,ic] at he
     obtain⟨us,he,rfl,rfl,rfl,h1⟩:=he
     have h1:=gv h1
     obtain⟨c',ob,vs,k1,k2,k3,k4,_,_⟩:=h.obs b _ _ (getD_some hl (by simp))
     rw[hc] at k1;cases k1
     obtain⟨cs,e,q,rfl,_,q0,q1,q2,q3⟩:=k4
     have hlen:=k3.len
     refine dR (vs:=(vs.drop off).take (len*s)) (cU he ((k3.drop off).take (len*s))) (by simp;omega) (fun v hv=> ?_) fun j v hj=> ?_
     · have hv:=ee (ed hv)
       rw[q1] at hv
       exact q3 v (ed hv)
     · rw[dT] at hj
       split at hj
       · rw[eh,q1,dT] at hj
         split at hj
         · rw[aM k2];simpa using hj
         · cases hj
       · cases hj
   · cases he
 · rename_i b off len s
   cases hx with
   |mg _ _ _ _ cap c hc hcap hroom=>
   split at he
   · rename_i l hl
     simp only[dC,kz,dv,ic] at he
     obtain⟨rfl,rfl,hp,rfl,h1⟩:=he
     have he:=l9 hp
     have h1:=gv h1
     obtain⟨c',ob,vs,k1,k2,k3,k4,_,_⟩:=h.obs b _ _ (getD_some hl (by simp))
     rw[hc] at k1;cases k1
     obtain⟨cs,e,q,rfl,_,q0,q1,q2,q3⟩:=k4
     have hlen:=k3.len
     refine dR (vs:=(vs.drop off).take (len*s)) (cU he ((k3.drop off).take (len*s))) (by simp;omega) (fun v hv=> ?_) fun j v hj=> ?_
     · have hv:=ee (ed hv)
       rw[q1] at hv
       exact q3 v (ed hv)
     · rw[dT] at hj
       split at hj
       · rw[eh,q1,dT] at hj
         split at hj
         · rw[aM k2];simpa using hj
         · cases hj
       · cases hj
   · rename_i l hl
     simp only[kd,kz,dv,ic] at he
     obtain⟨us,he,rfl,rfl,rfl,h1⟩:=he
     have h1:=gv h1
     obtain⟨c',ob,vs,k1,k2,k3,k4,_,_⟩:=h.obs b _ _ (getD_some hl (by simp))
     rw[hc] at k1;cases k1
     obtain⟨cs,e,q,rfl,_,q0,q1,q2,q3⟩:=k4
     have hlen:=k3.len
     refine dR (vs:=(vs.drop off).take (len*s)) (cU he ((k3.drop off).take (len*s))) (by simp;omega) (fun v hv=> ?_) fun j v hj=> ?_
     · have hv:=ee (ed hv)
       rw[q1] at hv
       exact q3 v (ed hv)
     · rw[dT] at hj
       split at hj
       · rw[eh,q1,dT] at hj
         split at hj
         · rw[aM k2];simpa using hj
         · cases hj
       · cases hj
   · rename_i l hl
     simp only[dC,kz,dv,ic] at he
     obtain⟨rfl,rfl,hp,rfl,h1⟩:=he
     have he:=l9 hp
     have h1:=gv h1
     obtain⟨c',ob,vs,k1,k2,k3,k4,_,_⟩:=h.obs b _ _ (getD_some hl (by simp))
     rw[hc] at k1;cases k1
     obtain⟨cs,e,q,rfl,_,q0,q1,q2,q3,_⟩:=k4
     have hlen:=k3.len
     refine dR (vs:=(vs.drop off).take (len*s)) (cU he ((k3.drop off).take (len*s))) (by simp;omega) (fun v hv=> ?_) fun j v hj=> ?_
     · have hv:=ee (ed hv)
       rw[q1] at hv
       obtain⟨k,rfl⟩:=q3 v (ed hv)
       rfl
     · rw[dT] at hj
       split at hj
       · rw[eh,q1,dT] at hj
         split at hj
         · rw[aM k2];simpa using hj
         · cases hj
       · cases hj
   · cases he
 · rename_i s
   simp only[dC,kz,ic] at he
   obtain⟨rfl,rfl,rfl⟩:=he
   rw[VA.pv] at hx;cases hx
   refine⟨s.data.toList.map fun b=> .int .u8 b.toNat,aW.cS (by simp) fun i a b=> ?_,by simp,by simp[nz],?_,fun k hk=> ?_⟩
   · simp only[eQ];exact .sc _
   · rw[show s.data.toList.length=s.size from jb];simp[nd]
   · simp only[nc,lh,Result.ok.injEq,and_true]
     apply Array.ext'
     simp[ByteArray.data_extract]
 · cases he
theorem vD {a:AV} {v:Value} (h:lT a=true) (ha:VA g w a v):v.oneCell'=true:=by
 cases ha with
 |p pv cv hp=>cases hp<;>first | rfl | (simpa[lT] using h)
 |agg=>simp[lT] at h
 |bk=>simp[lT] at h
 |af=>simp[lT] at h
 |_=>rfl
theorem jr : ∀{l:List AV} {vs:List Value},jD l=true→bN g w l vs → ∀u∈vs,u.oneCell'=true
 |[],[],_,_,_,hu=>by cases hu
 |a::l,v::vs,h,hv,u,hu=>by
  simp only[jD,dv] at h
  cases hu with
  |head=>exact vD h.1 hv.1
  |tail _ hu=>exact jr h.2 hv.2 u hu
 |[],_::_,_,hv,_,_=>hv.elim
 |_::_,[],_,hv,_,_=>hv.elim
theorem kT {a:AV} {v:Value} (h:(cellsOf a).2=true) (ha:VA g w a v):bN g w (cellsOf a).1 v.cells.toList ∧ ∀u∈v.cells.toList,u.oneCell'=true:=by
 have LL : ∀{v:Value},v.oneCell'=true→v.cells = #[v]:=by intro v h;cases v<;>first | rfl | (simp[nz] at h)
 cases ha with
 |agg l cs hl hh=>
  have:=VA.vr.1 (.agg l cs hl hh)
  exact⟨this,jr h this⟩
 |p pv cv hp=>
  have h1:=vD (a:= .p pv) (by simpa[cellsOf] using h) (.p pv v hp)
  rw[LL h1]
  exact⟨⟨.p pv v hp,trivial⟩,by simpa using h1⟩
 |os tok len sz cells ad cap hp hr=>
  exact⟨⟨.os tok len sz cells ad cap hp hr,trivial⟩,by simp[od,nz]⟩
 |mp b off c hc=>exact⟨⟨.mp b off c hc,trivial⟩,by simp[od,nz]⟩
 |ms b off len sz cap c hc hcap=>exact⟨⟨.ms b off len sz cap c hc hcap,trivial⟩,by simp[od,nz]⟩
 |mg b off len sz cap c hc hcap hh=>exact⟨⟨.mg b off len sz cap c hc hcap hh,trivial⟩,by simp[od,nz]⟩
 |vm b c hc=>exact⟨⟨.vm b c hc,trivial⟩,by simp[od,nz]⟩
 |vy b c hc=>exact⟨⟨.vy b c hc,trivial⟩,by simp[od,nz]⟩
 |fn f l k fa ca hl hk h1 h2=>exact⟨⟨.fn f l k fa ca hl hk h1 h2,trivial⟩,by simp[od,nz]⟩
 |kA t v cv hv=>exact⟨⟨.kA t v cv hv,trivial⟩,by simp[od,nz]⟩
 |af=>simp[cellsOf,lT] at h
 |bk=>simp[cellsOf,lT] at h
theorem yR (off:Nat) : ∀(l:List Value) (k:Nat) (cs:Array Value),
  ((l.zipIdx k).foldl (fun cs (c,j)=>cs.setIfInBounds (off+j) c) cs).toList=bM cs.toList (off+k) l
 |[],k,cs=>rfl
 |v::l,k,cs=>by
  simp only[List.zipIdx_cons,List.foldl_cons,bM]
  rw[yR off l (k+1)]
  simp[iu]
theorem aW.bM {α β:Type} {r:α→β→Prop} : ∀{new:List α} {new':List β} {l:List α} {l':List β} (off:Nat),aW r l l'→aW r new new'→aW r (bM l off new) (bM l' off new')
 |[],[],_,_,_,h,_=>h
 |_::_,_::_,_,_,off,h,k=>aW.bM (off+1) (h.set off k.1) k.2
 |[],_::_,_,_,_,_,k=>k.elim
 |_::_,[],_,_,_,_,k=>k.elim
theorem iS {α:Type} {p:α→Prop} : ∀(n l:List α) (o:Nat),(∀v∈l,p v)→(∀v∈n,p v) → ∀v∈bM l o n,p v
 |[],_,_,h,_=>h
 |x::n,l,o,h,h'=>iS n _ (o+1) (fun v hv=>by
   rcases List.mem_or_eq_of_mem_set hv with k | k
   · exact h v k
   · exact k▸h' x (.head _)) fun v hv=>h' v (.tail _ hv)
theorem kI {place:Nat→Option (Nat×Nat)} : ∀{parts:List (Nat×AV)} {jM:List (Nat×Value)} {cells cs:List AV} {ca:Array Value},
  aW (fun a b=>a.1=b.1∧VA g w a.2 b.2) parts jM→Bs g w cells ca.toList→tD place cells parts=some (cs,true) →
   ∃Ai,mr place ca jM=some Ai∧Bs g w cs Ai.toList∧Ai.size=ca.size
 |[],[],cells,cs,ca,_,hc,h=>by
  simp[tD] at h;subst h
  exact⟨ca,rfl,hc,rfl⟩
 |(i,a)::parts,(j,v)::jM,cells,cs,ca,hp,hc,h=>by
  obtain⟨⟨rfl,hv⟩,hp⟩:=hp
  simp only[tD] at h
  cases Fa:place i with
  |none=>simp[Fa] at h
  |some q=>
   obtain⟨off,size⟩:=q
   simp only[Fa] at h
   cases hf:tD place (bM cells off (cellsOf a).1) parts with
   |none=>simp[hf] at h
   |some r=>
    obtain⟨cs',ok⟩:=r
    simp only[hf,dC,kz,dv,ic] at h
    obtain⟨rfl,⟨⟨h0,h1⟩,h2⟩,rfl⟩:=h
    have h2:=gv h2
    have hlc:=hc.1.len
    obtain⟨k1,k2⟩:=kT h0 hv
    have tB:=k1.len
    have uo:Bs g w (bM cells off (cellsOf a).1) (bM ca.toList off v.cells.toList):=⟨hc.1.bM off k1,iS _ _ _ hc.2 k2⟩
    have D4:(v.cells.zipIdx.foldl (fun cs (c,j)=>cs.setIfInBounds (off+j) c) ca).toList=bM ca.toList off v.cells.toList:=by
     rw[←Array.foldl_toList,Array.toList_zipIdx,yR];simp
    obtain⟨Ai,q1,q2,q3⟩:=kI (ca:=v.cells.zipIdx.foldl (fun cs (c,j)=>cs.setIfInBounds (off+j) c) ca) hp (by rw[D4];exact uo) hf
    have hsz:v.cells.size=size:=by simp at tB;omega
    have hroom : ¬(off+v.cells.size>ca.size):=by simp at hlc;omega
    refine⟨Ai,?_,q2,?_⟩
    · simp only[mr,Fa]
      rw[if_neg (by simp[hsz,hsz▸hroom]<;>omega)]
      exact q1
    · rw[q3]
      have:=congrArg List.length D4
      have Qz : ∀(n:List Value) (l:List Value) (o:Nat),(bM l o n).length=l.length:=by
       intro n
       induction n with
       |nil=>intro l o;rfl
       |cons x n ih=>intro l o;simp[bM,ih]
      simpa[Qz] using this
 |[],_::_,_,_,_,h,_,_=>h.elim
 |_::_,[],_,_,_,h,_,_=>h.elim
end ops
section ops
variable {P:Program} {g:Gh} {m:Mem} {w:World}
theorem checked_eq {l k:List AV} (h:checked l=some k):k=l∧jD l=true:=by
 unfold checked at h
 cases hb:jD l with
 |false=>simp[hb] at h
 |true=>simp[hb] at h;exact⟨h.symm,rfl⟩
theorem cj {t:TypeId} {l:List AV} (h:zeroCells P t=some l) : ∃z,(∀w,(zeroValue t).run P w = .ok z w)∧Bs g w l z.cells.toList:=by
 unfold zeroCells at h
 cases hi:P.info? t with
 |none=>simp[hi] at h
 |some i=>
  cases hz:i.zero with
  |none=>simp[hi,hz] at h
  |some z=>
   have hrun : ∀w,(zeroValue t).run P w = .ok z w:=fun w=>by simp[zeroValue,typeInfo,hi,hz]
   refine⟨z,hrun,?_⟩
   simp only[hi,Option.bind_some,hz] at h
   cases z<;>(obtain⟨rfl,hc⟩:=checked_eq h)<;>first
    |exact⟨bN.fD _,jr hc (bN.fD (g:=g) (w:=w) _)⟩
    |exact⟨⟨VA.iC _,trivial⟩,jr (vs:=[_]) hc ⟨VA.iC (g:=g) (w:=w) _,trivial⟩⟩
theorem nh : ∀{fs:List Field} {pl:List (Nat×Nat)},placesOf P fs=some pl → ∀w,(fs.mapM fun f=>do pure (f.offset,←sizeOf f.type):Sem (List (Nat×Nat))).run P w = .ok pl w
 |[],pl,h,w=>by simp[placesOf] at h;subst h;simp
 |f::fs,pl,h,w=>by
  simp only[placesOf] at h
  cases h1:fj P f.type with
  |none=>simp[h1] at h
  |some n=>
   cases h2:placesOf P fs with
   |none=>simp[h1,h2] at h
   |some l=>
    simp only[h1,h2,dC] at h
    subst h
    have ih:=nh h2 w
    simp only[List.mapM_cons,la,aD h1,lj,lh,ih]
theorem xW {t:TypeId} {parts:List (Nat×AV)} {jM:Array (Nat×Value)} {a:AV} (h:uE P t parts=some (a,true)) (hp:aW (fun a b=>a.1=b.1∧VA g w a.2 b.2) parts jM.toList) :
  ∃v,(mf t jM).run P w = .ok v w∧VA g w a v:=by
 unfold uE at h
 split at h
 · rename_i z fields hz hu
   split at h
   · rename_i pl Fa
     simp only[kd,kz] at h
     obtain⟨⟨cs,ok⟩,h1,rfl,h2⟩:=h
     simp only at h2;subst h2
     obtain⟨zv,D5,C1⟩:=cj (g:=g) (w:=w) hz
     obtain⟨ca,h3,h4,_⟩:=kI hp C1 h1
     refine⟨.agg ca,?_,VA.vr.2 h4.1⟩
     have QA:(fields.mapM fun f=>do pure (f.offset,←sizeOf f.type):Sem (Array (Nat×Nat))).run P w = .ok pl.toArray w:=by
      rw[Array.mapM_eq_mapM_toList]
      simp only[Sem.run_map,nh Fa w,lj]
     have hfun:(fun i:Nat=>pl.toArray[i]?)=fun i:Nat=>pl[i]? :=by funext i;simp
     simp only[mf,la,D5,lj,run_underlying hu,QA,hfun,h3,lh]
   · cases h
 · rename_i z n elem hz hu
   split at h
   · rename_i size hsz
     simp only[kd,kz] at h
     obtain⟨⟨cs,ok⟩,h1,rfl,h2⟩:=h
     simp only at h2;subst h2
     obtain⟨zv,D5,C1⟩:=cj (g:=g) (w:=w) hz
     obtain⟨ca,h3,h4,_⟩:=kI hp C1 h1
     exact⟨.agg ca,by simp only[mf,la,D5,lj,run_underlying hu,aD hsz,h3,lh],VA.vr.2 h4.1⟩
   · cases h
 · cases h
theorem ni {α:Type} (z:List α) : ∀n,(cg z n).length=n*z.length
 |0=>by simp[cg]
 |n+1=>by simp[cg,ni z n,Nat.succ_mul,Nat.add_comm]
theorem tJ {α:Type} (z:List α) : ∀(n i:Nat) (h:i<(cg z n).length),∃h':i%z.length<z.length,(cg z n)[i]=z[i%z.length]
 |0,i,h=>by simp[cg] at h
 |n+1,i,h=>by
  simp only[cg,ei] at h
  by_cases hlt:i<z.length
  · refine⟨by rw[iv hlt];exact hlt,?_⟩
    simp only[cg,ft,hlt,dite_true,iv hlt]
  · obtain⟨h1,h2⟩:=tJ z n (i-z.length) (by omega)
    have e:(i-z.length)%z.length=i%z.length:=by rw[←Nat.mod_eq_sub_mod (by omega)]
    refine⟨by rw[←e];exact h1,?_⟩
    simp only[cg,ft,hlt,dite_false,h2,e]
theorem rV {α:Type} {r:α→Value→Prop} {z:List α} {zv:Array Value} (hz:aW r z zv.toList) (n:Nat) :
  aW r (cg z n) ((kc (n*zv.size)).map (zv[· % zv.size]!)).toList:=by
 have hl:=hz.len
 simp at hl
 refine aW.cS (by simp[ni,hl]) fun i hi hj=> ?_
 obtain⟨h1,h2⟩:=tJ z n i hi
 rw[h2]
 have h3:i%zv.size<zv.size:=hl▸h1
 simp only[kb,ka,eQ,List.getElem_range]
 rw[getElem!_pos zv _ h3]
 have:=hz.get (i%z.length) h1 (by simpa[←hl] using h1)
 simpa[hl] using this
theorem Aj {zv:Array Value} (h : ∀v∈zv.toList,v.oneCell'=true) (n:Nat) : ∀v∈((kc (n*zv.size)).map (zv[· % zv.size]!)).toList,v.oneCell'=true:=by
 intro v hv
 simp only[kb,ka,gg,List.mem_range] at hv
 obtain⟨i,hi,rfl⟩:=hv
 have h3:i%zv.size<zv.size:=Nat.mod_lt _ (Nat.pos_of_ne_zero fun e=>by simp[e] at hi)
 rw[getElem!_pos zv _ h3]
 exact h _ (by simp)
theorem gZ {α:Type} (v:α) : ∀n,List.replicate n v=cg [v] n
 |0=>rfl
 |n+1=>by rw[List.replicate_succ,gZ v n];rfl
theorem GG {elem:TypeId} {n:Nat} {l:List AV} (h:zeros P elem n=some l) : ∃size z,fj P elem=some size∧zeroCells P elem=some z∧z.length=size∧1≤size∧l=cg z n:=by
 unfold zeros at h
 split at h
 · rename_i size z h1 h2
   cases hb:(be z.length size&&bj 1 size) with
   |false=>simp[hb] at h
   |true=>
    simp only[hb,cond_true] at h
    simp only[dv,ic] at hb
    refine⟨size,z,h1,h2,hb.1,gv hb.2,?_⟩
    split at h
    · simp only[dC] at h;rw[←h,gZ]
    · simp only[dC] at h;exact h.symm
 · cases h
theorem GH {elem:TypeId} {n:Nat} {b:aH} (h:Ge P elem n=some b) : ∃size z,fj P elem=some size∧zeroCells P elem=some z∧z.length=size∧1≤size∧b.cells?=some (cg z n):=by
 have Oc : ∀(vs:List PV) n,(cg vs n).map AV.p=cg (vs.map AV.p) n:=by
  intro vs n
  induction n with
  |zero=>rfl
  |succ n ih=>simp[cg,ih]
 unfold Ge at h
 split at h
 · rename_i size z h1 h2
   cases hb:(be z.length size&&bj 1 size) with
   |false=>simp[hb] at h
   |true=>
    simp only[hb,cond_true] at h
    simp only[dv,ic] at hb
    refine⟨size,z,h1,h2,hb.1,gv hb.2,?_⟩
    split at h
    · rename_i v hv
      simp only[dC] at h;subst h
      have:=qv hv
      simp only[aH.cells?,gZ,Oc,this]
    · rename_i vs _ hv
      simp only[dC] at h;subst h
      have:=qv hv
      simp only[aH.cells?,Oc,this]
    · simp only[dC] at h;subst h;rfl
 · cases h
theorem dX (w:World) (o:Obj):pH w (w.alloc o) o:=⟨rfl,rfl,rfl,rfl⟩
theorem bR.alloc (h:Rel g m w) {aO:Nat} (hn:m[aO]? = some .free) {l:List AV} {cs:Array Value} {e:TypeId} {b:aH} (hb:b.cells?=some l) (hv:Bs g w l cs.toList) {r:Result Next} {v:Value} {a:AV}
  (hr:r = .ok (.value v) (w.alloc (.cells cs e))) (ha : ∀g':Gh,g'.aP aO=some w.heap.size→VA g' (w.alloc (.cells cs e)) a v):bR g m w r a (m.set aO b):=by
 obtain⟨h1,h2,h3⟩:=h.alloc hn hb hv (dX w (.cells cs e))
 exact⟨v,_,_,.inl hr,ha _ (by simp[Gh.put]),h1,h2,h3⟩
end ops
end Go.Am
end
