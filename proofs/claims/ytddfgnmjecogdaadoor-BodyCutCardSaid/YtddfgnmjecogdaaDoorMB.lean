import Derived.Test.YtddfgnmjecogdaaDoorMA
open Option.some renaming injEq→dk,inj→dp
open List renaming getD_eq_getElem?_getD→dd,getElem?_take→dq,getElem?_eq_getElem→da,mem_of_mem_take→dt,mem_of_mem_drop→du,getElem?_drop→dv,length_append→dC,getElem_map→dE,getElem?_eq_some_iff→dT,take_of_length_le→ed,getElem?_eq_none→ee,length_set→eh,length_drop→ei,length_take→eQ,getElem_append→fb,getElem?_map→fe,getElem_mem→fg,drop_take→fh,mem_map→fi,range→fl
open Nat renaming le_of_ble_eq_true→ft,le_refl→ch,lt_irrefl→fv,beq_eq→fw,le_trans→be,mul_le_mul_right→fx,eq_of_beq_eq_true→a8,beq→a6,lt_or_ge→gg,sub_mul→gl,add_assoc→gv,mod_eq_of_lt→ib,ble→a7,blt_eq→ic
open Array renaming getElem?_eq_getElem→ie,length_toList→ik,getElem?_push→im,toList_range→iu,toList_map→iv,range→ix
open Option renaming map_eq_some_iff→ja,map_none→jb,map_some→jn,isSome_iff_exists→ka,getD_some→kb
open Bool renaming and_eq_true→di,eq_false_iff→kc,or_eq_true→kd,not_eq_true'→kh
open Prod.mk renaming injEq→kl
open Go.Sem renaming run_bind→km,run_pure→kp
open Go.Result renaming andThen_ok→kv
open Go.Instr renaming sliceBounds→kx,sliceAt→ky,slice→kz,indexAt→la,makeInterface→lh,sureAddr→lj,sliceBound→lk,index→ln,build→lr,fieldAt→lv,field→lL,fill→l4
open Go.Op renaming eqFields→ma,intArith→mb
open Go.Builtin renaming len_→mc,firstCells→mf,lenOf→mi,cap_→ml
open Go.Value renaming oneCell'→mr,cells→mv
section
namespace Go.Am
open Go.RowKit
theorem Ad : ∀{l:List AV},sD l=true→(l.map zN).map AV.p=l
 |[],_=>rfl
 |.p v::r,h=>by
  simp only[sD] at h
  have:=Ad h
  simp only[List.map_cons,zN]
  rw[this]
 |.af::_,h | .os .. :: _,h | .mp .. :: _,h | .ms .. :: _,h | .fn .. :: _,h | .agg _::_,h | .bn _::_,h | .jF .. :: _,h | .vm _::_,h | .vy _::_,h=>by simp[sD] at h
theorem oZ {l:List AV} {vs:List PV} (h:DD l=some vs):vs.map AV.p=l:=by
 unfold DD at h
 cases hp:sD l with
 |false=>simp[hp] at h
 |true=>
  simp only[hp,cond_true,dk] at h
  subst h
  exact Ad hp
theorem mj (l:List AV):(zO l).cells?=some l:=by
 unfold zO
 cases h:DD l with
 |none=>rfl
 |some vs=>simp[aF.cells?,oZ h]
theorem bV {b:aF} {l:List AV} (h:b.cells?=some l):b.bU=true:=by cases b<;>simp_all [aF.cells?,aF.bU]
def Gh.put (g:Gh) (i c lo hi:Nat):Gh:=
 {g with aN:=fun j=>if j=i then some c else g.aN j,lo:=fun j=>if j=i then lo else g.lo j,hi:=fun j=>if j=i then hi else g.hi j}
def Gh.more (g:Gh) (c lo hi:Nat):Gh:={g with pure:=fun c' o=>g.pure c' o∨(c'=c∧lo≤o∧o<hi)}
theorem getElem?_set' {α:Type} (l:List α) (i j:Nat) (a:α):(l.set i a)[j]? = if i=j∧i<l.length then some a else l[j]? :=by
 rw[List.getElem?_set]
 by_cases h:i=j
 · subst h;by_cases h2:i<l.length<;>simp[h2]
 · simp[h]
theorem aT {α:Type} {l:List α} {i:Nat} {a:α} (h:l[i]? = some a):i<l.length:=(dT.1 h).1
theorem dg {w w':World} {c o:Nat} (h:w'.heap[c]? = w.heap[c]?):w'.cell? ⟨c,o,none⟩=w.cell? ⟨c,o,none⟩:=by
 simp only[World.cell?,h]
theorem aH {w:World} {c o:Nat} {cs:Array Value} {e:TypeId} {n:Nat×Nat} (h:w.heap[c]? = some (.cells cs e n)):w.cell? ⟨c,o,none⟩=cs[o]? :=by
 simp[World.cell?,h]
theorem bw {w:World} {c:Nat} {o:Obj} (h:w.heap[c]? = some o):c<w.heap.size:=by
 rcases gg c w.heap.size with k | k
 · exact k
 · simp[Array.getElem?_eq_none k] at h
theorem nu {g:Gh} {m:Mem} {i:Nat} {b:aF} {c:Nat} (h:cj g (m.set i b) c):(b.bU=true∧g.aN i=some c)∨(∃j b',j≠i∧m[j]? = some b'∧b'.bU=true∧g.aN j=some c):=by
 obtain⟨j,b',hj,ho,hc⟩:=h
 rw[getElem?_set'] at hj
 by_cases e:i=j∧i<m.length
 · rw[if_pos e] at hj;cases hj;exact .inl ⟨ho,e.1▸hc⟩
 · rw[if_neg e] at hj
   refine .inr ⟨j,b',fun h=> ?_,hj,ho,hc⟩
   subst h
   exact e ⟨rfl,aT hj⟩
theorem Rel.kill {g:Gh} {m:Mem} {w:World} (h:Rel g m w) (i:Nat):Rel g (m.set i .dead) w∧b7 g m w g (m.set i .dead) w:=by
 have get : ∀j b,(m.set i .dead)[j]? = some b→b = .dead∨(j≠i∧m[j]? = some b):=by
  intro j b hj
  rw[getElem?_set'] at hj
  by_cases e:i=j∧i<m.length
  · rw[if_pos e] at hj;exact .inl (dp hj).symm
  · rw[if_neg e] at hj
    by_cases e2:i=j
    · subst e2;exact absurd ⟨rfl,aT hj⟩ e
    · exact .inr ⟨fun h=>e2 h.symm,hj⟩
 refine⟨⟨fun j hj=>h.qm j (by simpa using hj),fun j hj=> ?_,fun j b l hj hl=> ?_,fun j c hj hc=> ?_,fun j k b b' c hj hk ho ho' hc dx=> ?_,h.there,fun j kk ll hj=> ?_⟩,b7.less fun c ho=> ?_⟩
 · rcases get j _ hj with e | ⟨_,e⟩
   · cases e
   · exact h.free j e
 · rcases get j _ hj with e | ⟨_,e⟩
   · subst e;cases hl
   · exact h.cells j b l e hl
 · rcases get j _ hj with e | ⟨_,e⟩
   · cases e
   · exact h.tok j c e hc
 · rcases get j _ hj with e | ⟨_,e⟩
   · subst e;simp[aF.bU] at ho
   rcases get k _ hk with e' | ⟨_,e'⟩
   · subst e';simp[aF.bU] at ho'
   exact h.inj j k b b' c e e' ho ho' hc dx
 · rcases get j _ hj with e | ⟨_,e⟩
   · cases e
   · exact h.obs j kk ll e
 · obtain⟨j,b,hj,hb,hc⟩:=ho
   rcases get j _ hj with e | ⟨_,e⟩
   · subst e;simp[aF.bU] at hb
   · exact⟨j,b,e,hb,hc⟩
theorem Rel.write {g:Gh} {m:Mem} {w w':World} (h:Rel g m w) {i c:Nat} {b b':aF} {l l':List AV} {cs':Array Value} {e':TypeId} {n':Nat×Nat}
  (hi:m[i]? = some b) (hl:b.cells?=some l) (hc:g.aN i=some c) (hl':b'.cells?=some l')
  (hw : ∀k,k≠c→w'.heap[k]? = w.heap[k]?) (hs:w'.heap.size=w.heap.size) (ho:w'.os=w.os) (ht:w'.tape=w.tape) (hu:w'.output=w.output)
  (hh:w'.heap[c]? = some (.cells cs' e' n')) (hn:n'.2≤n'.1) (hv:Ac g w l' cs'.toList) :
  Rel g (m.set i b') w'∧Ext g w g w'∧b7 g m w g (m.set i b') w':=by
 obtain⟨c0,cs,e,n,h1,h2,h3,h4,h5⟩:=h.cells i b l hi hl
 rw[hc] at h1;cases h1
 have hp : ∀c' o,g.pure c' o→w'.cell? ⟨c',o,none⟩=w.cell? ⟨c',o,none⟩:=fun c' o p=>dg (hw c' fun e=>h5 o (e▸p))
 have ext:Ext g w g w':=⟨fun _ _ h=>⟨h,rfl,rfl⟩,fun c' o p=>⟨p,hp c' o p⟩⟩
 have get : ∀j x,(m.set i b')[j]? = some x→(j=i∧x=b')∨(j≠i∧m[j]? = some x):=by
  intro j x hj
  rw[getElem?_set'] at hj
  by_cases e:i=j∧i<m.length
  · rw[if_pos e] at hj;exact .inl ⟨e.1.symm,(dp hj).symm⟩
  · rw[if_neg e] at hj
    by_cases e2:i=j
    · subst e2;exact absurd ⟨rfl,aT hj⟩ e
    · exact .inr ⟨fun h=>e2 h.symm,hj⟩
 have ne : ∀j x c',j≠i→m[j]? = some x→x.bU=true→g.aN j=some c'→c'≠c:=fun j x c' hji hj ho dx e=>hji (h.inj j i x b c hj hi ho (bV hl) (e▸dx) hc)
 refine⟨⟨fun j hj=>h.qm j (by simpa using hj),fun j hj=> ?_,fun j x k hj hk=> ?_,fun j c' hj dx=> ?_,fun j k x x' c' hj hk ho ho' eL eS=> ?_,fun c' o p=> ?_,fun j kk ll hj=> ?_⟩,ext,⟨by omega,fun k hk hn=> ?_,fun c' o p=>⟨p,hp c' o p⟩,fun _ _ p=> .inl p,fun c' ho'=> ?_,ho,ht,hu⟩⟩
 · rcases get j _ hj with⟨rfl,e⟩ | ⟨_,e⟩
   · subst e;cases hl'
   · exact h.free j e
 · rcases get j _ hj with⟨rfl,e⟩ | ⟨hji,e⟩
   · subst e
     rw[hl'] at hk;cases hk
     exact⟨c,cs',e',n',hc,hh,hn,hv.mono ext,h5⟩
   · obtain⟨c1,cs1,e1,n1,k1,k2,k3,k4,k5⟩:=h.cells j x k e hk
     exact⟨c1,cs1,e1,n1,k1,(hw c1 (ne j x c1 hji e (bV hk) k1)).trans k2,k3,k4.mono ext,k5⟩
 · rcases get j _ hj with⟨rfl,e⟩ | ⟨hji,e⟩
   · subst e;cases hl'
   · obtain⟨cs1,e1,n1,k2,k3,k4,k5⟩:=h.tok j c' e dx
     exact⟨cs1,e1,n1,(hw c' (ne j _ c' hji e rfl dx)).trans k2,k3,k4,k5⟩
 · rcases get j _ hj with⟨rfl,e⟩ | ⟨hji,e⟩<;>rcases get k _ hk with⟨rfl,e'⟩ | ⟨hki,e'⟩
   · rfl
   · rw[hc] at eL;cases eL
     exact absurd rfl (ne k x' _ hki e' ho' eS)
   · rw[hc] at eS;cases eS
     exact absurd rfl (ne j x _ hji e ho eL)
   · exact h.inj j k x x' c' e e' ho ho' eL eS
 · obtain⟨v,hv⟩:=h.there c' o p
   exact⟨v,(hp c' o p).trans hv⟩
 · rcases get j _ hj with⟨rfl,e⟩ | ⟨hji,e⟩
   · subst e;cases hl'
   · obtain⟨c1,BJ,vs1,k1,k2,k3,k6,k7,k8⟩:=h.obs j kk ll e
     exact⟨c1,BJ,vs1,k1,(hw c1 (ne j _ c1 hji e rfl k1)).trans k2,k3.mono ext,k6,k7,k8⟩
 · exact hw k fun e=>hn ⟨i,b,hi,bV hl,e▸hc⟩
 · rcases nu ho' with⟨_,k⟩ | ⟨j,x,_,k1,k2,k3⟩
   · exact .inl ⟨i,b,hi,bV hl,k⟩
   · exact .inl ⟨j,x,k1,k2,k3⟩
theorem an {m:Mem} {i:Nat} {b':aF} {j:Nat} {x:aF} (hj:(m.set i b')[j]? = some x):(j=i∧x=b')∨(j≠i∧m[j]? = some x):=by
 rw[getElem?_set'] at hj
 by_cases e:i=j∧i<m.length
 · rw[if_pos e] at hj;exact .inl ⟨e.1.symm,(dp hj).symm⟩
 · rw[if_neg e] at hj
   by_cases e2:i=j
   · subst e2;exact absurd ⟨rfl,aT hj⟩ e
   · exact .inr ⟨fun h=>e2 h.symm,hj⟩
structure om (w w':World) (o:Obj):Prop where
 heap:w'.heap=w.heap.push o
 os:w'.os=w.os
 tape:w'.tape=w.tape
 output:w'.output=w.output
theorem om.old {w w':World} {o:Obj} (h:om w w' o) {k:Nat} (hk:k<w.heap.size):w'.heap[k]? = w.heap[k]? :=by
 rw[h.heap,im,if_neg (by omega)]
theorem om.new {w w':World} {o:Obj} (h:om w w' o):w'.heap[w.heap.size]? = some o:=by
 rw[h.heap,im,if_pos rfl]
theorem om.size {w w':World} {o:Obj} (h:om w w' o):w'.heap.size=w.heap.size+1:=by rw[h.heap];simp
theorem Rel.alloc {g:Gh} {m:Mem} {w w':World} (h:Rel g m w) {i:Nat} {b:aF} {l:List AV} {cs:Array Value} {e:TypeId}
  (hi:m[i]? = some .free) (hl:b.cells?=some l) (hv:Ac g w l cs.toList) (hw:om w w' (.cells cs e)) :
  Rel (g.put i w.heap.size 0 0) (m.set i b) w'∧Ext g w (g.put i w.heap.size 0 0) w'∧b7 g m w (g.put i w.heap.size 0 0) (m.set i b) w':=by
 have hf:=h.free i hi
 have Bw:=aT hi
 have hp : ∀c o,g.pure c o→w'.cell? ⟨c,o,none⟩=w.cell? ⟨c,o,none⟩:=fun c o p=>dg (hw.old (h.kW p))
 have bo : ∀j,j≠i→(g.put i w.heap.size 0 0).aN j=g.aN j:=fun j hj=>by simp[Gh.put,hj]
 have bi:(g.put i w.heap.size 0 0).aN i=some w.heap.size:=by simp[Gh.put]
 have ext:Ext g w (g.put i w.heap.size 0 0) w':=⟨fun j c hc=>by
  have:j≠i:=fun e=>by subst e;rw[hf] at hc;cases hc
  simp[Gh.put,this,hc],fun c o p=>⟨p,hp c o p⟩⟩
 have lt : ∀j x c,m[j]? = some x→x.bU=true→g.aN j=some c→c<w.heap.size:=fun j x c hj ho hc=>h.fI ⟨j,x,hj,ho,hc⟩
 refine⟨⟨fun j hj=> ?_,fun j hj=> ?_,fun j x k hj hk=> ?_,fun j c hj hc=> ?_,fun j k x x' c hj hk ho ho' eL eS=> ?_,fun c o p=> ?_,fun j kk ll hj=> ?_⟩,ext,⟨by rw[hw.size];omega,fun k hk _=>hw.old hk,fun c o p=>⟨p,hp c o p⟩,fun _ _ p=> .inl p,fun c ho=> ?_,hw.os,hw.tape,hw.output⟩⟩
 · rw[eh] at hj
   rw[bo j (by omega)];exact h.qm j hj
 · rcases an hj with⟨rfl,e⟩ | ⟨hji,e⟩
   · subst e;cases hl
   · rw[bo j hji];exact h.free j e
 · rcases an hj with⟨rfl,e⟩ | ⟨hji,e⟩
   · subst e;rw[hl] at hk;cases hk
     refine⟨_,cs,_,(0,0),bi,hw.new,ch _,hv.mono ext,fun o p=> ?_⟩
     have:=h.kW p
     omega
   · obtain⟨c1,cs1,e1,n1,k1,k2,k3,k4,k5⟩:=h.cells j x k e hk
     exact⟨c1,cs1,e1,n1,(bo j hji).trans k1,(hw.old (bw k2)).trans k2,k3,k4.mono ext,k5⟩
 · rcases an hj with⟨rfl,e⟩ | ⟨hji,e⟩
   · subst e;cases hl
   · rw[bo j hji] at hc
     obtain⟨cs1,e1,n1,k2,k3,k4,k5⟩:=h.tok j c e hc
     have h1:(g.put i w.heap.size 0 0).hi j=g.hi j:=by simp[Gh.put,hji]
     have h2:(g.put i w.heap.size 0 0).lo j=g.lo j:=by simp[Gh.put,hji]
     rw[h1,h2]
     exact⟨cs1,e1,n1,(hw.old (bw k2)).trans k2,k3,k4,k5⟩
 · rcases an hj with⟨rfl,e⟩ | ⟨hji,e⟩<;>rcases an hk with⟨rfl,e'⟩ | ⟨hki,e'⟩
   · rfl
   · rw[bi] at eL;cases eL
     rw[bo k hki] at eS
     exact absurd (lt k x' _ e' ho' eS) (fv _)
   · rw[bi] at eS;cases eS
     rw[bo j hji] at eL
     exact absurd (lt j x _ e ho eL) (fv _)
   · rw[bo j hji] at eL;rw[bo k hki] at eS
     exact h.inj j k x x' c e e' ho ho' eL eS
 · obtain⟨v,hv⟩:=h.there c o p
   exact⟨v,(hp c o p).trans hv⟩
 · rcases an hj with⟨rfl,e⟩ | ⟨hji,e⟩
   · subst e;cases hl
   · obtain⟨c1,BJ,vs1,k1,k2,k3,k6,k7,k8⟩:=h.obs j kk ll e
     exact⟨c1,BJ,vs1,(bo j hji).trans k1,(hw.old (bw k2)).trans k2,k3.mono ext,k6,k7,by simpa[Gh.put,hji] using k8⟩
 · obtain⟨j,x,hj,hx,hc⟩:=ho
   rcases an hj with⟨rfl,e⟩ | ⟨hji,e⟩
   · rw[bi] at hc;cases hc;exact .inr (ch _)
   · rw[bo j hji] at hc;exact .inl ⟨j,x,e,hx,hc⟩
theorem Rel.fresh {g:Gh} {m:Mem} {w w':World} (h:Rel g m w) {i k:Nat} {cs:Array Value} {e:TypeId} {n:Nat×Nat}
  (hi:m[i]? = some .free) (hw:om w w' (.cells cs e n)) (hk:k≤cs.size) (hn:n.2≤n.1∨cs.size≤n.1) :
  let g':=(g.put i w.heap.size k cs.size).more w.heap.size 0 k
  Rel g' (m.set i .tok) w'∧Ext g w g' w'∧b7 g m w g' (m.set i .tok) w':=by
 intro g'
 have hf:=h.free i hi
 have Bw:=aT hi
 have hp : ∀c o,g.pure c o→w'.cell? ⟨c,o,none⟩=w.cell? ⟨c,o,none⟩:=fun c o p=>dg (hw.old (h.kW p))
 have bo : ∀j,j≠i→g'.aN j=g.aN j:=fun j hj=>by simp[g',Gh.put,Gh.more,hj]
 have bi:g'.aN i=some w.heap.size:=by simp[g',Gh.put,Gh.more]
 have ext:Ext g w g' w':=⟨fun j c hc=>by
  have:j≠i:=fun e=>by subst e;rw[hf] at hc;cases hc
  simp[g',Gh.put,Gh.more,this,hc],fun c o p=>⟨.inl p,hp c o p⟩⟩
 have lt : ∀j x c,m[j]? = some x→x.bU=true→g.aN j=some c→c<w.heap.size:=fun j x c hj ho hc=>h.fI ⟨j,x,hj,ho,hc⟩
 refine⟨⟨fun j hj=> ?_,fun j hj=> ?_,fun j x l hj hl=> ?_,fun j c hj hc=> ?_,fun j k x x' c hj hk ho ho' eL eS=> ?_,fun c o p=> ?_,fun j kk ll hj=> ?_⟩,ext,⟨by rw[hw.size];omega,fun k hk _=>hw.old hk,fun c o p=>⟨.inl p,hp c o p⟩,fun c o p=> ?_,fun c ho=> ?_,hw.os,hw.tape,hw.output⟩⟩
 · rw[eh] at hj
   rw[bo j (by omega)];exact h.qm j hj
 · rcases an hj with⟨rfl,e⟩ | ⟨hji,e⟩
   · cases e
   · rw[bo j hji];exact h.free j e
 · rcases an hj with⟨rfl,e⟩ | ⟨hji,e⟩
   · subst e;cases hl
   · obtain⟨c1,cs1,e1,n1,k1,k2,k3,k4,k5⟩:=h.cells j x l e hl
     refine⟨c1,cs1,e1,n1,(bo j hji).trans k1,(hw.old (bw k2)).trans k2,k3,k4.mono ext,fun o p=> ?_⟩
     rcases p with p | ⟨rfl,_⟩
     · exact k5 o p
     · exact absurd (bw k2) (fv _)
 · rcases an hj with⟨rfl,_⟩ | ⟨hji,e⟩
   · rw[bi] at hc;cases hc
     refine⟨cs,_,n,hw.new,by simp[g',Gh.put,Gh.more],by simpa[g',Gh.put,Gh.more] using hn,fun o h1 _ p=> ?_⟩
     have h1':k≤o:=by simpa[g',Gh.put,Gh.more] using h1
     rcases p with p | ⟨_,_,p⟩
     · exact absurd (h.kW p) (fv _)
     · omega
   · rw[bo j hji] at hc
     obtain⟨cs1,e1,n1,k2,k3,k4,k5⟩:=h.tok j c e hc
     have h1:g'.hi j=g.hi j:=by simp[g',Gh.put,Gh.more,hji]
     have h2:g'.lo j=g.lo j:=by simp[g',Gh.put,Gh.more,hji]
     rw[h1,h2]
     refine⟨cs1,e1,n1,(hw.old (bw k2)).trans k2,k3,k4,fun o a b p=> ?_⟩
     rcases p with p | ⟨rfl,_⟩
     · exact k5 o a b p
     · exact absurd (bw k2) (fv _)
 · rcases an hj with⟨rfl,e⟩ | ⟨hji,e⟩<;>rcases an hk with⟨rfl,e'⟩ | ⟨hki,e'⟩
   · rfl
   · rw[bi] at eL;cases eL
     rw[bo k hki] at eS
     exact absurd (lt k x' _ e' ho' eS) (fv _)
   · rw[bi] at eS;cases eS
     rw[bo j hji] at eL
     exact absurd (lt j x _ e ho eL) (fv _)
   · rw[bo j hji] at eL;rw[bo k hki] at eS
     exact h.inj j k x x' c e e' ho ho' eL eS
 · rcases p with p | ⟨rfl,_,p⟩
   · obtain⟨v,hv⟩:=h.there c o p
     exact⟨v,(hp c o p).trans hv⟩
   · exact⟨cs[o],by rw[aH hw.new,ie (by omega)]⟩
 · rcases an hj with⟨rfl,e⟩ | ⟨hji,e⟩
   · cases e
   · obtain⟨c1,BJ,vs1,k1,k2,k3,k6,k7,k8⟩:=h.obs j kk ll e
     exact⟨c1,BJ,vs1,(bo j hji).trans k1,(hw.old (bw k2)).trans k2,k3.mono ext,k6,fun o p=>p.elim (k7 o) fun q=>absurd (bw k2) (by rw[q.1];exact fv _),by simpa[g',Gh.put,Gh.more,hji] using k8⟩
 · rcases p with p | ⟨rfl,_⟩
   · exact .inl p
   · exact .inr (.inr (ch _))
 · obtain⟨j,x,hj,hx,hc⟩:=ho
   rcases an hj with⟨rfl,e⟩ | ⟨hji,e⟩
   · rw[bi] at hc;cases hc;exact .inr (ch _)
   · rw[bo j hji] at hc;exact .inl ⟨j,x,e,hx,hc⟩
theorem Rel.spare {g:Gh} {m:Mem} {w w':World} (h:Rel g m w) {t i c k:Nat} {cs cs':Array Value} {e e':TypeId} {n:Nat×Nat}
  (ht:m[t]? = some .tok) (hc:g.aN t=some c) (hi:m[i]? = some .free) (hcs:w.heap[c]? = some (.cells cs e n)) (hk:g.lo t+k≤g.hi t)
  (hw : ∀j,j≠c→w'.heap[j]? = w.heap[j]?) (hs:w'.heap.size=w.heap.size) (ho:w'.os=w.os) (QD:w'.tape=w.tape) (hu:w'.output=w.output)
  (hh:w'.heap[c]? = some (.cells cs' e' n)) (hcz:cs'.size=cs.size) (hout : ∀o,o<g.lo t∨g.hi t≤o→cs'[o]? = cs[o]?) :
  let g':=(g.put i c (g.lo t+k) (g.hi t)).more c (g.lo t) (g.lo t+k)
  Rel g' ((m.set t .dead).set i .tok) w'∧Ext g w g' w'∧b7 g m w g' ((m.set t .dead).set i .tok) w':=by
 intro g'
 have hf:=h.free i hi
 have Bw:=aT hi
 have NU:t≠i:=fun e=>by subst e;rw[ht] at hi;cases hi
 obtain⟨cs0,e0,n0,q1,q2,q3,q4⟩:=h.tok t c ht hc
 rw[hcs] at q1;cases q1
 have hp : ∀c' o,g.pure c' o→w'.cell? ⟨c',o,none⟩=w.cell? ⟨c',o,none⟩:=by
  intro c' o p
  by_cases e:c'=c
  · subst e
    rw[aH hh,aH hcs]
    refine hout o ?_
    rcases gg o (g.lo t) with a | a
    · exact .inl a
    · rcases gg o (g.hi t) with b | b
      · exact absurd p (q4 o a b)
      · exact .inr b
  · exact dg (hw c' e)
 have bo : ∀j,j≠i→g'.aN j=g.aN j:=fun j hj=>by simp[g',Gh.put,Gh.more,hj]
 have bi:g'.aN i=some c:=by simp[g',Gh.put,Gh.more]
 have ext:Ext g w g' w':=⟨fun j c hc=>by
  have:j≠i:=fun e=>by subst e;rw[hf] at hc;cases hc
  simp[g',Gh.put,Gh.more,this,hc],fun c o p=>⟨.inl p,hp c o p⟩⟩
 have get : ∀j x,((m.set t .dead).set i .tok)[j]? = some x→(j=i∧x = .tok)∨x = .dead∨(j≠i∧j≠t∧m[j]? = some x):=by
  intro j x hj
  rcases an hj with e | ⟨hji,e⟩
  · exact .inl e
  · rcases an e with⟨_,e'⟩ | ⟨Ae,e'⟩
    · exact .inr (.inl e')
    · exact .inr (.inr ⟨hji,Ae,e'⟩)
 have ne : ∀j x c',j≠t→m[j]? = some x→x.bU=true→g.aN j=some c'→c'≠c:=fun j x c' Ae hj ho dx e=>Ae (h.inj j t x _ c hj ht ho rfl (e▸dx) hc)
 refine⟨⟨fun j hj=> ?_,fun j hj=> ?_,fun j x l hj hl=> ?_,fun j c' hj dx=> ?_,fun j k x x' c' hj hk ho ho' eL eS=> ?_,fun c' o p=> ?_,fun j kk ll hj=> ?_⟩,ext,⟨by omega,fun j _ hn=> ?_,fun c o p=>⟨.inl p,hp c o p⟩,fun c' o p=> ?_,fun c' ho'=> ?_,ho,QD,hu⟩⟩
 · simp only[eh] at hj
   rw[bo j (by omega)];exact h.qm j hj
 · rcases get j _ hj with⟨_,e⟩ | e | ⟨hji,_,e⟩
   · cases e
   · cases e
   · rw[bo j hji];exact h.free j e
 · rcases get j _ hj with⟨_,e⟩ | e | ⟨hji,Ae,e⟩
   · subst e;cases hl
   · subst e;cases hl
   · obtain⟨c1,cs1,e1,n1,k1,k2,k3,k4,k5⟩:=h.cells j x l e hl
     refine⟨c1,cs1,e1,n1,(bo j hji).trans k1,(hw c1 (ne j x c1 Ae e (bV hl) k1)).trans k2,k3,k4.mono ext,fun o p=> ?_⟩
     rcases p with p | ⟨rfl,_⟩
     · exact k5 o p
     · exact ne j x _ Ae e (bV hl) k1 rfl
 · rcases get j _ hj with⟨rfl,_⟩ | e | ⟨hji,Ae,e⟩
   · rw[bi] at dx;cases dx
     refine⟨cs',e',n,hh,by simp only[g',Gh.put,Gh.more,if_true];omega,by simpa[g',Gh.put,Gh.more] using q3,fun o h1 h2 p=> ?_⟩
     have h1':g.lo t+k≤o:=by simpa[g',Gh.put,Gh.more] using h1
     have h2':o<g.hi t:=by simpa[g',Gh.put,Gh.more] using h2
     rcases p with p | ⟨_,_,p⟩
     · exact q4 o (by omega) h2' p
     · omega
   · cases e
   · rw[bo j hji] at dx
     obtain⟨cs1,e1,n1,k2,k3,k4,k5⟩:=h.tok j c' e dx
     have h1:g'.hi j=g.hi j:=by simp[g',Gh.put,Gh.more,hji]
     have h2:g'.lo j=g.lo j:=by simp[g',Gh.put,Gh.more,hji]
     rw[h1,h2]
     refine⟨cs1,e1,n1,(hw c' (ne j _ c' Ae e rfl dx)).trans k2,k3,k4,fun o a b p=> ?_⟩
     rcases p with p | ⟨rfl,_⟩
     · exact k5 o a b p
     · exact ne j _ _ Ae e rfl dx rfl
 · rcases get j _ hj with⟨rfl,e⟩ | e | ⟨hji,Ae,e⟩
   · rcases get k _ hk with⟨rfl,e'⟩ | e' | ⟨hki,P4,e'⟩
     · rfl
     · subst e';simp[aF.bU] at ho'
     · rw[bi] at eL;cases eL
       rw[bo k hki] at eS
       exact absurd rfl (ne k x' _ P4 e' ho' eS)
   · subst e;simp[aF.bU] at ho
   · rcases get k _ hk with⟨rfl,e'⟩ | e' | ⟨hki,P4,e'⟩
     · rw[bi] at eS;cases eS
       rw[bo j hji] at eL
       exact absurd rfl (ne j x _ Ae e ho eL)
     · subst e';simp[aF.bU] at ho'
     · rw[bo j hji] at eL;rw[bo k hki] at eS
       exact h.inj j k x x' c' e e' ho ho' eL eS
 · rcases p with p | ⟨rfl,p1,p2⟩
   · obtain⟨v,hv⟩:=h.there c' o p
     exact⟨v,(hp c' o p).trans hv⟩
   · exact⟨cs'[o],by rw[aH hh,ie (by omega)]⟩
 · rcases get j _ hj with⟨_,e⟩ | e | ⟨hji,Ae,e⟩
   · cases e
   · cases e
   · obtain⟨c1,BJ,vs1,k1,k2,k3,k6,k7,k8⟩:=h.obs j kk ll e
     exact⟨c1,BJ,vs1,(bo j hji).trans k1,(hw c1 (ne j _ c1 Ae e rfl k1)).trans k2,k3.mono ext,k6,fun o p=>p.elim (k7 o) fun q=>ne j _ c1 Ae e rfl k1 q.1,by simpa[g',Gh.put,Gh.more,hji] using k8⟩
 · exact hw j fun e=>hn ⟨t,_,ht,rfl,e▸hc⟩
 · rcases p with p | ⟨rfl,_⟩
   · exact .inl p
   · exact .inr (.inl ⟨t,_,ht,rfl,hc⟩)
 · obtain⟨j,x,hj,hx,qn⟩:=ho'
   rcases get j _ hj with⟨rfl,e⟩ | e | ⟨hji,_,e⟩
   · rw[bi] at qn;cases qn;exact .inl ⟨t,_,ht,rfl,hc⟩
   · subst e;simp[aF.bU] at hx
   · rw[bo j hji] at qn;exact .inl ⟨j,x,e,hx,qn⟩
theorem Rel.m9 {g:Gh} {m:Mem} {w w':World} (h:Rel g m w) {cs:Array Value} {e:TypeId} (hw:om w w' (.cells cs e)) :
  Rel (g.more w.heap.size 0 cs.size) m w'∧Ext g w (g.more w.heap.size 0 cs.size) w'∧b7 g m w (g.more w.heap.size 0 cs.size) m w':=by
 have hp : ∀c o,g.pure c o→w'.cell? ⟨c,o,none⟩=w.cell? ⟨c,o,none⟩:=fun c o p=>dg (hw.old (h.kW p))
 have ext:Ext g w (g.more w.heap.size 0 cs.size) w':=⟨fun j c hc=>⟨hc,rfl,rfl⟩,fun c o p=>⟨.inl p,hp c o p⟩⟩
 refine⟨⟨h.qm,h.free,fun j x l hj hl=> ?_,fun j c hj hc=> ?_,h.inj,fun c o p=> ?_,fun j kk ll hj=> ?_⟩,ext,⟨by rw[hw.size];omega,fun k hk _=>hw.old hk,fun c o p=>⟨.inl p,hp c o p⟩,fun c o p=> ?_,fun c ho=> .inl ho,hw.os,hw.tape,hw.output⟩⟩
 · obtain⟨c1,cs1,e1,n1,k1,k2,k3,k4,k5⟩:=h.cells j x l hj hl
   refine⟨c1,cs1,e1,n1,k1,(hw.old (bw k2)).trans k2,k3,k4.mono ext,fun o p=> ?_⟩
   rcases p with p | ⟨rfl,_⟩
   · exact k5 o p
   · exact absurd (bw k2) (fv _)
 · obtain⟨cs1,e1,n1,k2,k3,k4,k5⟩:=h.tok j c hj hc
   refine⟨cs1,e1,n1,(hw.old (bw k2)).trans k2,k3,k4,fun o a b p=> ?_⟩
   rcases p with p | ⟨rfl,_⟩
   · exact k5 o a b p
   · exact absurd (bw k2) (fv _)
 · rcases p with p | ⟨rfl,_,p⟩
   · obtain⟨v,hv⟩:=h.there c o p
     exact⟨v,(hp c o p).trans hv⟩
   · exact⟨cs[o],by rw[aH hw.new,ie (by omega)]⟩
 · obtain⟨c1,BJ,vs1,k1,k2,k3,k6,k7,k8⟩:=h.obs j kk ll hj
   exact⟨c1,BJ,vs1,k1,(hw.old (bw k2)).trans k2,k3.mono ext,k6,fun o p=>p.elim (k7 o) fun q=>absurd (bw k2) (by rw[q.1];exact fv _),k8⟩
 · rcases p with p | ⟨rfl,_⟩
   · exact .inl p
   · exact .inr (.inr (ch _))
theorem Rel.o7 {g:Gh} {m:Mem} {w:World} (h:Rel g m w) {i:Nat} (hi:m[i]? = some .free):Rel g (m.set i .tok) w∧b7 g m w g (m.set i .tok) w:=by
 have hf:=h.free i hi
 refine⟨⟨fun j hj=>h.qm j (by simpa using hj),fun j hj=> ?_,fun j x l hj hl=> ?_,fun j c hj hc=> ?_,fun j k x x' c hj hk ho ho' eL eS=> ?_,h.there,fun j kk ll hj=> ?_⟩,b7.less fun c ho=> ?_⟩
 · rcases an hj with⟨_,e⟩ | ⟨_,e⟩
   · cases e
   · exact h.free j e
 · rcases an hj with⟨_,e⟩ | ⟨_,e⟩
   · subst e;cases hl
   · exact h.cells j x l e hl
 · rcases an hj with⟨rfl,_⟩ | ⟨_,e⟩
   · rw[hf] at hc;cases hc
   · exact h.tok j c e hc
 · rcases an hj with⟨rfl,_⟩ | ⟨_,e⟩
   · rw[hf] at eL;cases eL
   · rcases an hk with⟨rfl,_⟩ | ⟨_,e'⟩
     · rw[hf] at eS;cases eS
     · exact h.inj j k x x' c e e' ho ho' eL eS
 · rcases an hj with⟨_,e⟩ | ⟨_,e⟩
   · cases e
   · exact h.obs j kk ll e
 · obtain⟨j,x,hj,hx,hc⟩:=ho
   rcases an hj with⟨rfl,_⟩ | ⟨_,e⟩
   · rw[hf] at hc;cases hc
   · exact⟨j,x,e,hx,hc⟩
theorem Rel.jl {g:Gh} {m:Mem} {w w':World} (h:Rel g m w) (hh:w'.heap=w.heap) (ho:w'.os=w.os) (ht:w'.tape=w.tape) (hu:w'.output=w.output) :
  Rel g m w'∧Ext g w g w'∧b7 g m w g m w':=by
 have hc : ∀a:Addr,w'.cell? a=w.cell? a:=fun a=>by simp[World.cell?,hh]
 have ext:Ext g w g w':=⟨fun _ _ h=>⟨h,rfl,rfl⟩,fun _ _ p=>⟨p,hc _⟩⟩
 refine⟨⟨h.qm,h.free,fun j x l hj hl=> ?_,fun j c hj QE=> ?_,h.inj,fun c o p=> ?_,fun j kk ll hj=> ?_⟩,ext,⟨by rw[hh];exact ch _,fun k _ _=>by rw[hh],fun c o p=>⟨p,hc _⟩,fun _ _ p=> .inl p,fun _ ho=> .inl ho,ho,ht,hu⟩⟩
 · obtain⟨c1,cs1,e1,n1,k1,k2,k3,k4,k5⟩:=h.cells j x l hj hl
   exact⟨c1,cs1,e1,n1,k1,by rw[hh];exact k2,k3,k4.mono ext,k5⟩
 · obtain⟨cs1,e1,n1,k2,k3⟩:=h.tok j c hj QE
   exact⟨cs1,e1,n1,by rw[hh];exact k2,k3⟩
 · obtain⟨v,hv⟩:=h.there c o p
   exact⟨v,(hc _).trans hv⟩
 · obtain⟨c1,BJ,vs1,k1,k2,k3,k6,k7,k8⟩:=h.obs j kk ll hj
   exact⟨c1,BJ,vs1,k1,by rw[hh];exact k2,k3.mono ext,k6,k7,k8⟩
theorem Rel.reserve {g:Gh} {m:Mem} {w:World} (h:Rel g m w):Rel g (m++[.free]) w∧b7 g m w g (m++[.free]) w:=by
 have get : ∀j x,(m++[aF.free])[j]? = some x→m[j]? = some x∨(j=m.length∧x = .free):=by
  intro j x hj
  rw[List.getElem?_append] at hj
  by_cases e:j<m.length
  · rw[if_pos e] at hj;exact .inl hj
  · rw[if_neg e] at hj
    have:=aT hj
    simp at this
    have e2:j=m.length:=by omega
    subst e2
    simp at hj
    exact .inr ⟨rfl,hj.symm⟩
 refine⟨⟨fun j hj=>h.qm j (by simp at hj;omega),fun j hj=> ?_,fun j x l hj hl=> ?_,fun j c hj hc=> ?_,fun j k x x' c hj hk ho ho' eL eS=> ?_,h.there,fun j kk ll hj=> ?_⟩,b7.less fun c ho=> ?_⟩
 · rcases get j _ hj with e | ⟨rfl,_⟩
   · exact h.free j e
   · exact h.qm _ (ch _)
 · rcases get j _ hj with e | ⟨_,e⟩
   · exact h.cells j x l e hl
   · subst e;cases hl
 · rcases get j _ hj with e | ⟨_,e⟩
   · exact h.tok j c e hc
   · cases e
 · rcases get j _ hj with e | ⟨_,e⟩
   · rcases get k _ hk with e' | ⟨_,e'⟩
     · exact h.inj j k x x' c e e' ho ho' eL eS
     · subst e';simp[aF.bU] at ho'
   · subst e;simp[aF.bU] at ho
 · rcases get j _ hj with e | ⟨_,e⟩
   · exact h.obs j kk ll e
   · cases e
 · obtain⟨j,x,hj,hx,hc⟩:=ho
   rcases get j _ hj with e | ⟨_,e⟩
   · exact⟨j,x,e,hx,hc⟩
   · subst e;simp[aF.bU] at hx
theorem Rel.o8 (xm:Nat) {g:Gh} {m:Mem} {w w':World} (h:Rel g m w) {i:Nat} {ob:fF} {l:List AV} {vs:List Value} {o:Obj}
  (hi:m[i]? = some .free) (hv:bO g w l vs) (hw:om w w' o) (his:ob.is o vs) (hroom:ob.room o xm) :
  Rel (g.put i w.heap.size 0 xm) (m.set i (.ob ob l)) w'∧Ext g w (g.put i w.heap.size 0 xm) w'∧b7 g m w (g.put i w.heap.size 0 xm) (m.set i (.ob ob l)) w':=by
 have hf:=h.free i hi
 have hp : ∀c o,g.pure c o→w'.cell? ⟨c,o,none⟩=w.cell? ⟨c,o,none⟩:=fun c o p=>dg (hw.old (h.kW p))
 have bo : ∀j,j≠i→(g.put i w.heap.size 0 xm).aN j=g.aN j:=fun j hj=>by simp[Gh.put,hj]
 have bi:(g.put i w.heap.size 0 xm).aN i=some w.heap.size:=by simp[Gh.put]
 have ext:Ext g w (g.put i w.heap.size 0 xm) w':=⟨fun j c hc=>by
  have:j≠i:=fun e=>by subst e;rw[hf] at hc;cases hc
  simp[Gh.put,this,hc],fun c o p=>⟨p,hp c o p⟩⟩
 have lt : ∀j x c,m[j]? = some x→x.bU=true→g.aN j=some c→c<w.heap.size:=fun j x c hj ho hc=>h.fI ⟨j,x,hj,ho,hc⟩
 have Bw:=aT hi
 refine⟨⟨fun j hj=> ?_,fun j hj=> ?_,fun j x k hj hk=> ?_,fun j c hj hc=> ?_,fun j k x x' c hj hk ho ho' eL eS=> ?_,fun c o p=> ?_,fun j kk ll hj=> ?_⟩,ext,⟨by rw[hw.size];omega,fun k hk _=>hw.old hk,fun c o p=>⟨p,hp c o p⟩,fun _ _ p=> .inl p,fun c ho=> ?_,hw.os,hw.tape,hw.output⟩⟩
 · rw[eh] at hj
   rw[bo j (by omega)];exact h.qm j hj
 · rcases an hj with⟨rfl,e⟩ | ⟨hji,e⟩
   · cases e
   · rw[bo j hji];exact h.free j e
 · rcases an hj with⟨rfl,e⟩ | ⟨hji,e⟩
   · subst e;cases hk
   · obtain⟨c1,cs1,e1,n1,k1,k2,k3,k4,k5⟩:=h.cells j x k e hk
     exact⟨c1,cs1,e1,n1,(bo j hji).trans k1,(hw.old (bw k2)).trans k2,k3,k4.mono ext,k5⟩
 · rcases an hj with⟨rfl,e⟩ | ⟨hji,e⟩
   · cases e
   · rw[bo j hji] at hc
     obtain⟨cs1,e1,n1,k2,k3,k4,k5⟩:=h.tok j c e hc
     have h1:(g.put i w.heap.size 0 xm).hi j=g.hi j:=by simp[Gh.put,hji]
     have h2:(g.put i w.heap.size 0 xm).lo j=g.lo j:=by simp[Gh.put,hji]
     rw[h1,h2]
     exact⟨cs1,e1,n1,(hw.old (bw k2)).trans k2,k3,k4,k5⟩
 · rcases an hj with⟨rfl,e⟩ | ⟨hji,e⟩<;>rcases an hk with⟨rfl,e'⟩ | ⟨hki,e'⟩
   · rfl
   · rw[bi] at eL;cases eL
     rw[bo k hki] at eS
     exact absurd (lt k x' _ e' ho' eS) (fv _)
   · rw[bi] at eS;cases eS
     rw[bo j hji] at eL
     exact absurd (lt j x _ e ho eL) (fv _)
   · rw[bo j hji] at eL;rw[bo k hki] at eS
     exact h.inj j k x x' c e e' ho ho' eL eS
 · obtain⟨v,hv⟩:=h.there c o p
   exact⟨v,(hp c o p).trans hv⟩
 · rcases an hj with⟨rfl,e⟩ | ⟨hji,e⟩
   · cases e
     exact⟨_,_,vs,bi,hw.new,hv.mono ext,his,fun o p=>absurd (h.kW p) (fv _),by simpa[Gh.put] using hroom⟩
   · obtain⟨c1,BJ,vs1,k1,k2,k3,k6,k7,k8⟩:=h.obs j kk ll e
     exact⟨c1,BJ,vs1,(bo j hji).trans k1,(hw.old (bw k2)).trans k2,k3.mono ext,k6,k7,by simpa[Gh.put,hji] using k8⟩
 · obtain⟨j,x,hj,hx,hc⟩:=ho
   rcases an hj with⟨rfl,e⟩ | ⟨hji,e⟩
   · rw[bi] at hc;cases hc;exact .inr (ch _)
   · rw[bo j hji] at hc;exact .inl ⟨j,x,e,hx,hc⟩
theorem Rel.tJ {g:Gh} {m:Mem} {w w':World} (h:Rel g m w) {i:Nat} {ob:fF} {l:List AV} {vs:List Value} {o:Obj}
  (hi:m[i]? = some .free) (hv:bO g w l vs) (hw:om w w' o) (his:ob.is o vs) (hroom:ob.room o 0:=by trivial) :
  Rel (g.put i w.heap.size 0 0) (m.set i (.ob ob l)) w'∧Ext g w (g.put i w.heap.size 0 0) w'∧b7 g m w (g.put i w.heap.size 0 0) (m.set i (.ob ob l)) w':=
 Rel.o8 0 h hi hv hw his hroom
theorem Rel.eM {g:Gh} {m:Mem} {w w':World} (h:Rel g m w) {i c:Nat} {ob wh:fF} {l l':List AV} {vs':List Value} {o':Obj}
  (hi:m[i]? = some (.ob ob l)) (hc:g.aN i=some c)
  (hw : ∀k,k≠c→w'.heap[k]? = w.heap[k]?) (hs:w'.heap.size=w.heap.size) (ho:w'.os=w.os) (ht:w'.tape=w.tape) (hu:w'.output=w.output)
  (hh:w'.heap[c]? = some o') (his:wh.is o' vs') (hv:bO g w l' vs') (hroom:wh.room o' (g.hi i):=by trivial) :
  Rel g (m.set i (.ob wh l')) w'∧Ext g w g w'∧b7 g m w g (m.set i (.ob wh l')) w':=by
 obtain⟨c0,Sg,QB,h1,_,_,_,hnp,_⟩:=h.obs i ob l hi
 rw[hc] at h1;cases h1
 have hp : ∀c' o,g.pure c' o→w'.cell? ⟨c',o,none⟩=w.cell? ⟨c',o,none⟩:=fun c' o p=>dg (hw c' fun e=>hnp o (e▸p))
 have ext:Ext g w g w':=⟨fun _ _ h=>⟨h,rfl,rfl⟩,fun c' o p=>⟨p,hp c' o p⟩⟩
 have ne : ∀j x c',j≠i→m[j]? = some x→x.bU=true→g.aN j=some c'→c'≠c:=fun j x c' hji hj ho dx e=>hji (h.inj j i x _ c hj hi ho rfl (e▸dx) hc)
 refine⟨⟨fun j hj=>h.qm j (by simpa using hj),fun j hj=> ?_,fun j x k hj hk=> ?_,fun j c' hj dx=> ?_,fun j k x x' c' hj hk ho ho' eL eS=> ?_,fun c' o p=> ?_,fun j kk ll hj=> ?_⟩,ext,⟨by omega,fun k hk hn=> ?_,fun c' o p=>⟨p,hp c' o p⟩,fun _ _ p=> .inl p,fun c' ho'=> ?_,ho,ht,hu⟩⟩
 · rcases an hj with⟨rfl,e⟩ | ⟨_,e⟩
   · cases e
   · exact h.free j e
 · rcases an hj with⟨rfl,e⟩ | ⟨hji,e⟩
   · subst e;cases hk
   · obtain⟨c1,cs1,e1,n1,k1,k2,k3,k4,k5⟩:=h.cells j x k e hk
     exact⟨c1,cs1,e1,n1,k1,(hw c1 (ne j x c1 hji e (bV hk) k1)).trans k2,k3,k4.mono ext,k5⟩
 · rcases an hj with⟨rfl,e⟩ | ⟨hji,e⟩
   · cases e
   · obtain⟨cs1,e1,n1,k2,k3,k4,k5⟩:=h.tok j c' e dx
     exact⟨cs1,e1,n1,(hw c' (ne j _ c' hji e rfl dx)).trans k2,k3,k4,k5⟩
 · rcases an hj with⟨rfl,e⟩ | ⟨hji,e⟩<;>rcases an hk with⟨rfl,e'⟩ | ⟨hki,e'⟩
   · rfl
   · rw[hc] at eL;cases eL
     exact absurd rfl (ne k x' _ hki e' ho' eS)
   · rw[hc] at eS;cases eS
     exact absurd rfl (ne j x _ hji e ho eL)
   · exact h.inj j k x x' c' e e' ho ho' eL eS
 · obtain⟨v,hv⟩:=h.there c' o p
   exact⟨v,(hp c' o p).trans hv⟩
 · rcases an hj with⟨rfl,e⟩ | ⟨hji,e⟩
   · cases e
     exact⟨c,_,vs',hc,hh,hv.mono ext,his,hnp,hroom⟩
   · obtain⟨c1,BJ,vs1,k1,k2,k3,k6,k7,k8⟩:=h.obs j kk ll e
     exact⟨c1,BJ,vs1,k1,(hw c1 (ne j _ c1 hji e rfl k1)).trans k2,k3.mono ext,k6,k7,k8⟩
 · exact hw k fun e=>hn ⟨i,_,hi,rfl,e▸hc⟩
 · rcases nu ho' with⟨_,k⟩ | ⟨j,x,_,k1,k2,k3⟩
   · exact .inl ⟨i,_,hi,rfl,k⟩
   · exact .inl ⟨j,x,k1,k2,k3⟩
def bQ (g:Gh) (m:Mem) (w:World) (r:Result Next) (a:AV) (m':Mem):Prop:=
 ∃v w' g',(r = .ok (.value v) w'∨(r = .ok .skip w'∧v=undef))∧VA g' w' a v∧Rel g' m' w'∧Ext g w g' w'∧b7 g m w g' m' w'
theorem bQ.quiet {g:Gh} {m:Mem} {w:World} {r:Result Next} {a:AV} {v:Value} (h:Rel g m w) (hr:r = .ok (.value v) w) (ha:VA g w a v):bQ g m w r a m:=
 ⟨v,w,g,.inl hr,ha,h,Ext.refl g w,b7.refl g m w⟩
theorem aB {P:Program} {t:TypeId} {n:Nat} (h:eV P t=some n) (w:World):(sizeOf t).run P w = .ok n w:=by
 unfold eV at h
 cases hi:P.info? t with
 |none=>simp[hi] at h
 |some i=>simp only[hi,jn,dk] at h;simp[sizeOf,typeInfo,hi,h]
theorem eE {P:Program} {t:TypeId} {i:TypeInfo} (h:P.info? t=some i) (w:World):(typeInfo t).run P w = .ok i w:=by
 simp[typeInfo,h]
theorem kY {P:Program} {t:TypeId} {b:Bool} (h:Ht P t=some b) (w:World):(isAgg t).run P w = .ok b w:=by
 unfold Ht at h
 cases hu:P.underlying t with
 |none=>simp[hu] at h
 |some d=>cases d<;>simp[hu] at h<;>subst h<;>simp[isAgg,run_underlying hu]
theorem Hx {g:Gh} {w:World} {a:AV} {v cv:Value} (h:EA a=some v) (ha:VA g w a cv):cv=v:=by
 cases ha with
 |p v' _ hp=>cases hp<;>simp[EA] at h;exact h
 |_=>simp[EA] at h
theorem uo {g:Gh} {w:World} : ∀{l:List AV} {vs cs:List Value},tU l=some vs→bO g w l cs→cs=vs
 |[],vs,cs,h,ha=>by
  cases cs with
  |nil=>simp[tU] at h;exact h.symm
  |cons _ _=>exact ha.elim
 |a::l,vs,cs,h,ha=>by
  cases cs with
  |nil=>exact ha.elim
  |cons c cs=>
   simp only[tU] at h
   cases h1:EA a with
   |none=>simp[h1] at h
   |some v=>
    cases h2:tU l with
    |none=>simp[h1,h2] at h
    |some us=>
     simp only[h1,h2,dk] at h
     subst h
     rw[Hx h1 ha.1,uo h2 ha.2]
theorem BK {g:Gh} {w:World} {a:AV} {v cv:Value} (h:BC a=some v) (ha:VA g w a cv):cv=v:=by
 cases ha with
 |p v' _ hp=>cases hp<;>simp[BC] at h;exact h
 |agg l cs hl hh=>
  simp only[BC,ja] at h
  obtain⟨vs,h1,rfl⟩:=h
  rw[←uo h1 (aV.cP hl hh)]
 |bn l cs hl hh=>
  simp only[BC,ja] at h
  obtain⟨vs,h1,rfl⟩:=h
  rw[←uo h1 (aV.cP hl hh)]
 |_=>simp[BC] at h
theorem yG {α:Type} (P:Program) (w:World) : ∀(s:Sem α) (a:α),gx P s=some a→s.run P w = .ok a w:=by
 intro s
 induction s with
 |pure b=>intro a h;simp[gx] at h;subst h;rfl
 |program k ih=>intro a h;simp only[gx] at h;simp only[Sem.run];exact ih P a h
 |mark m k ih=>intro a h;simp only[gx] at h;simp only[Sem.run];exact ih a h
 |_=>intro a h;simp[gx] at h
theorem VA.gM {g:Gh} {w:World} (v:Value):VA g w (gM v) v:=by
 unfold Am.gM
 split
 · exact .os none 0 0 [] none 0 (.lU 0 none 0 (.inr ⟨rfl,rfl⟩)) (.inl rfl)
 · exact .p _ _ (.sc v)
theorem bO.gX {g:Gh} {w:World} : ∀(l:List Value),bO g w (l.map Am.gM) l
 |[]=>trivial
 |v::l=>⟨VA.gM v,bO.gX l⟩
theorem VA.CA {g:Gh} {w:World} (v:Value):VA g w (CA v) v:=by
 unfold Am.CA
 split
 · exact VA.Ab.2 (bO.gX _)
 · exact VA.iR.2 (bO.gX _)
 · exact VA.gM _
theorem xp {ρ:Operand→AV} : ∀{l:List Operand},rE ρ l=true → ∀x∈l,∃v,BC (ρ x)=some v
 |[],_,_,hx=>by cases hx
 |y::l,h,x,hx=>by
  simp only[rE,di] at h
  cases hx with
  |head=>exact ka.1 h.1
  |tail _ hx=>exact xp h.2 x hx
theorem getD_some {m:Mem} {b:Nat} {x:aF} (h:m.getD b .dead=x) (hx:x ≠ .dead):m[b]? = some x:=by
 rw[dd] at h
 cases hq:m[b]? with
 |none=>rw[hq] at h;exact absurd h.symm hx
 |some y=>rw[hq] at h;exact congrArg some h
section ops
variable {P:Program} {g:Gh} {m:Mem} {w:World} {ρ:Operand→AV} {bD:Operand→Value} {o:Oper}
theorem ej (hr : ∀x,VA g w (ρ x) (bD x)) (hs : ∀cs b,o.op ≠ .select cs b) {a:AV} (h:scalar P ρ o=some a) :
  ∃v,(execOp bD o).run P w = .ok (.value v) w∧VA g w a v:=by
 unfold scalar at h
 cases hb:rE ρ o.op.operands.toList with
 |false=>simp[hb] at h
 |true=>
  simp only[hb,cond_true] at h
  have hc:execOp bD o=execOp (fun x=>(BC (ρ x)).getD undef) o:=execOp_congr o hs fun x hx=>by
   obtain⟨v,hv⟩:=xp hb x (Array.mem_toList_iff.2 hx)
   simp[hv,BK hv (hr x)]
  cases he:gx P (execOp (fun x=>(BC (ρ x)).getD undef) o) with
  |none=>simp[he] at h
  |some nx=>
   cases nx with
   |value v=>
    simp only[he,dk] at h
    subst h
    exact⟨v,by rw[hc];exact yG P w _ _ he,VA.CA v⟩
   |_=>simp[he] at h
theorem Af {d:Option TypeDesc} {c:PV} (h:(wZ d c).2=true):(wZ d c).1=c∧c ≠ .eR:=by
 unfold wZ at h ⊢
 split at h
 · cases c with
   |sc v=>cases v<;>simp_all [isInt,bp]
   |_=>simp[isInt] at h
 · cases c with
   |sc v=>cases v<;>simp_all [isBool,EB]
   |_=>simp[isBool] at h
 · cases c with
   |sc v=>cases v<;>simp_all [isStr,Ji]
   |_=>simp[isStr] at h
 · cases c<;>simp_all [dA,aJ,cO,aI]
 · cases c<;>simp_all [isOk]
theorem uq {d:Option TypeDesc} {a:AV} (h:(aE d a).2=true):(aE d a).1=a∧a ≠ .p .eR:=by
 cases a with
 |p c=>simp only[aE] at h ⊢;exact⟨by rw[(Af h).1],fun e=>(Af h).2 (AV.p.inj e)⟩
 |_=>exact⟨rfl,fun e=>by cases e⟩
theorem Ag : ∀{ds:List (Option TypeDesc)} {l:List AV},(oO ds l).2=true→(oO ds l).1=l ∧ ∀x∈l,x ≠ .p .eR
 |[],[],_=>⟨rfl,fun _ h=>by cases h⟩
 |d::ds,a::l,h=>by
  simp only[oO,di] at h ⊢
  obtain⟨h1,h2⟩:=Ag h.2
  refine⟨by rw[(uq h.1).1,h1],fun x hx=> ?_⟩
  cases hx with
  |head=>exact(uq h.1).2
  |tail _ hx=>exact h2 x hx
 |[],_::_,h=>by simp[oO] at h
 |_::_,[],h=>by simp[oO] at h
theorem dF {α:Type} (d:α) (l:List α) : ∀(n off:Nat),(lS d l off n).length=n
 |0,_=>rfl
 |n+1,off=>by simp[lS,dF d l n]
theorem kA {α:Type} (d:α) (l:List α) : ∀(n off j:Nat) (h:j<(lS d l off n).length),(lS d l off n)[j]=l.getD (off+j) d
 |0,_,_,h=>by simp[lS] at h
 |n+1,off,0,_=>by simp[lS]
 |n+1,off,j+1,h=>by
  simp only[lS,List.getElem_cons_succ]
  rw[kA d l n (off+1) j]
  congr 1;omega
theorem Rel.E1 (h:Rel g m w) {b c:Nat} {k:List AV} {t:TypeId} {pq:Bool} (hb:m[b]? = some (.ob (.gr t pq) k)) (hc:g.aN b=some c) {j:Nat} (hj:j<k.length) : ∃v,w.cell? ⟨c,j,none⟩=some v∧VA g w k[j] v:=by
 obtain⟨c',ob,vs,h1,h2,h3,h4,_,_⟩:=h.obs b _ _ hb
 rw[hc] at h1;cases h1
 obtain⟨cs,e,n,rfl,_,_,q1,q2,_⟩:=h4
 have hl:=h3.len
 have E2:j<vs.length:=by omega
 have P5:j<cs.size:=by omega
 refine⟨cs[j],by rw[aH h2,ie P5],?_⟩
 have:=h3.get j hj E2
 have e1:vs[j]? = some cs[j]:=by
  rw[q1,dq,if_pos E2]
  simp[P5]
 rw[da E2] at e1
 rwa [dp e1] at this
theorem Rel.E3 {g:Gh} {m:Mem} {w:World} (h:Rel g m w) {i:Nat} {k k':fF} {l l':List AV} (hb:m[i]? = some (.ob k l))
  (hl : ∀ob vs hi,bO g w l vs→k.is ob vs→k.room ob hi → ∃vs',bO g w l' vs'∧k'.is ob vs'∧k'.room ob hi):Rel g (m.set i (.ob k' l')) w∧b7 g m w g (m.set i (.ob k' l')) w:=by
 have own : ∀(j:Nat) (x:aF),(m.set i (.ob k' l'))[j]? = some x→x.bU=true → ∃y:aF,m[j]? = some y∧y.bU=true:=fun j x hj ho=>by
  rcases an hj with⟨rfl,_⟩ | ⟨_,q⟩
  · exact⟨_,hb,rfl⟩
  · exact⟨x,q,ho⟩
 refine⟨⟨fun j hj=>h.qm j (by simpa using hj),fun j hj=> ?_,fun j x cs hj hx=> ?_,fun j c hj hc=> ?_,fun j q x x' c hj hq ho ho' hc dx=> ?_,h.there,fun j k1 l1 hj=> ?_⟩,
  ⟨ch _,fun _ _ _=>rfl,fun _ _ p=>⟨p,rfl⟩,fun _ _ p=> .inl p,fun c ho=> ?_,rfl,rfl,rfl⟩⟩
 · rcases an hj with⟨_,q⟩ | ⟨_,q⟩
   · cases q
   · exact h.free j q
 · rcases an hj with⟨_,rfl⟩ | ⟨_,q⟩
   · cases hx
   · exact h.cells j x cs q hx
 · rcases an hj with⟨_,q⟩ | ⟨_,q⟩
   · cases q
   · exact h.tok j c q hc
 · obtain⟨y,y1,y2⟩:=own j x hj ho
   obtain⟨z,z1,z2⟩:=own q x' hq ho'
   exact h.inj j q y z c y1 z1 y2 z2 hc dx
 · rcases an hj with⟨rfl,q⟩ | ⟨_,q⟩
   · cases q
     obtain⟨c,o,vs,k1,k2,k3,k4,k5,k6⟩:=h.obs _ _ _ hb
     obtain⟨vs',q1,q2,q3⟩:=hl o vs _ k3 k4 k6
     exact⟨c,o,vs',k1,k2,q1,q2,k5,q3⟩
   · exact h.obs j k1 l1 q
 · obtain⟨j,x,hj,hx,hc⟩:=ho
   obtain⟨y,y1,y2⟩:=own j x hj hx
   exact .inl ⟨j,y,y1,y2,hc⟩
def exactly (pre:List Value):List AV:=pre.map fun v=> .p (.sc v)
theorem bq (pre:List Value):(exactly pre).length=pre.length:=List.length_map ..
theorem o9 {g:Gh} {w:World} : ∀(pre:List Value),bO g w (exactly pre) pre
 |[]=>trivial
 |v::r=>⟨.p _ _ (.sc v),o9 r⟩
theorem ur {g:Gh} {w:World} : ∀{pre vs:List Value},bO g w (exactly pre) vs→vs=pre
 |[],[],_=>rfl
 |v::r,x::xs,h=>by
  have h1:VA g w (.p (.sc v)) x:=h.1
  rw[VA.pv] at h1
  cases h1
  rw[ur (pre:=r) h.2]
 |[],_::_,h=>h.elim
 |_::_,[],h=>h.elim
theorem Rel.BL {g:Gh} {m:Mem} {w:World} (h:Rel g m w) {b:Nat} {t:TypeId} {pre:List Value} {l:List AV} (hb:m[b]? = some (.ob (.stk t pre) l)) :
  Rel g (m.set b (.ob (.gr t false) (exactly pre++l))) w∧b7 g m w g (m.set b (.ob (.gr t false) (exactly pre++l))) w:=
 h.E3 hb fun ob vs hi hv hk hr=>by
   obtain⟨cs,e,n,rfl,q1,q2,q3,q4,q5⟩:=hk
   exact⟨pre++vs,(o9 pre).append hv,⟨cs,e,n,rfl,q1,q2,by rw[dC];exact q3,by rw[dC];exact q4,q5⟩,hr⟩
theorem Rel.BM {g:Gh} {m:Mem} {w:World} (h:Rel g m w) {b:Nat} {t:TypeId} {q:Bool} {pre:List Value} {l:List AV} (hb:m[b]? = some (.ob (.gr t q) (exactly pre++l))) :
  Rel g (m.set b (.ob (.stk t pre) l)) w∧b7 g m w g (m.set b (.ob (.stk t pre) l)) w:=
 h.E3 hb fun ob vs hi hv hk hr=>by
   obtain⟨cs,e,n,rfl,q1,q2,q3,q4,q5⟩:=hk
   have e1:vs=vs.take pre.length++vs.drop pre.length:=(List.take_append_drop _ _).symm
   have hlen:=hv.len
   rw[dC,bq] at hlen
   have h1:bO g w (exactly pre) (vs.take pre.length):=by
    have:=hv.take pre.length
    rwa [List.take_append_of_le_length (by rw[bq];exact ch _),ed (by rw[bq];exact ch _)] at this
   have h2:bO g w l (vs.drop pre.length):=by
    have:=hv.drop pre.length
    rwa [List.drop_append_of_le_length (by rw[bq];exact ch _),List.drop_of_length_le (by rw[bq];exact ch _),List.nil_append] at this
   have h3:=ur h1
   rw[h3] at e1
   have e2:pre.length+(vs.drop pre.length).length=vs.length:=by rw[ei];omega
   exact⟨vs.drop pre.length,h2,⟨cs,e,n,rfl,q1,q2,by rw[e2,←e1];exact q3,by rw[e2];exact q4,q5⟩,hr⟩
theorem nR (h:Rel g m w) {a:AV} {ca:Value} (ha:VA g w a ca) {n:Nat} {l:List AV} (he:kQ (fun i=>m.getD i .dead) a n=some (l,true)) (hb : ∀x∈l,x ≠ .p .eR) :
  ∃c o vs,ca = .pointer (some ⟨c,o,none⟩)∧bO g w l vs∧vs.length=n ∧ ∀j v,vs[j]? = some v→w.cell? ⟨c,o+j,none⟩=some v:=by
 have key : ∀(c o:Nat),l.length=n→(∀j (hj:j<l.length),∃v,w.cell? ⟨c,o+j,none⟩=some v∧VA g w l[j] v) →
   ∃vs,bO g w l vs∧vs.length=n ∧ ∀j v,vs[j]? = some v→w.cell? ⟨c,o+j,none⟩=some v:=by
  intro c o hl hh
  refine⟨(fl n).map fun j=>(w.cell? ⟨c,o+j,none⟩).getD undef,aV.cP (by simp[hl]) fun i hi _=> ?_,by simp,fun j v hj=> ?_⟩
  · obtain⟨v,h1,h2⟩:=hh i hi
    simpa[h1] using h2
  · simp only[fe,ja] at hj
    obtain⟨k,hk,rfl⟩:=hj
    have hk':=dT.1 hk
    obtain⟨hlt,hk'⟩:=hk'
    simp at hlt hk'
    subst hk'
    obtain⟨v,h1,_⟩:=hh j (by omega)
    simp[h1]
 unfold kQ at he
 split at he
 · rename_i off cs
   simp only[dk,kl,and_true] at he
   subst he
   rw[VA.pv] at ha
   cases ha with
   |pp _ _ b o f hp hv=>
    obtain⟨vs,h1,h2,h3⟩:=key b (o+off) (by simp[dF]) (fun j hj=>by
     have hj':j<(lS PV.eR cs off n).length:=by simpa using hj
     have hx:=hb _ (fg hj)
     simp only[dE,kA] at hx ⊢
     rcases gg (off+j) cs.length with hlt | hge
     · refine⟨f (off+j),by rw[gv];exact(hp (off+j) hlt).2.1,?_⟩
       rw[dd,da hlt]
       exact .p _ _ (hv (off+j) hlt)
     · exact absurd (by rw[dd,ee hge];rfl) hx)
    exact⟨b,o+off,vs,rfl,h1,h2,h3⟩
 · rename_i b off
   cases ha with
   |mp _ _ c hc=>
    split at he
    · rename_i k hk
      simp only[dk,kl,and_true] at he
      subst he
      have hm:m[b]? = some (.pc k):=getD_some hk (by simp)
      obtain⟨c',cs,e,q,h1,h2,h3,h4,h5⟩:=h.cells b _ _ hm rfl
      rw[hc] at h1;cases h1
      have h4:=h4.1
      have hlen:=h4.len
      obtain⟨vs,k1,k2,k3⟩:=key c off (by simp[dF]) (fun j hj=>by
       have hx:=hb _ (fg hj)
       simp only[dE,kA] at hx ⊢
       rcases gg (off+j) k.length with hlt | hge
       · have hlt':off+j<cs.size:=by simp at hlen;omega
         refine⟨cs[off+j],by rw[aH h2,ie hlt'],?_⟩
         rw[dd,da hlt]
         have:=h4.get (off+j) (by simpa using hlt) (by simpa using hlt')
         simpa using this
       · exact absurd (by rw[dd,ee hge];rfl) hx)
      exact⟨c,off,vs,rfl,k1,k2,k3⟩
    · rename_i k hk
      simp only[dk,kl] at he
      obtain⟨rfl,hle⟩:=he
      have hle':=ft hle
      have hm:m[b]? = some (.ac k):=getD_some hk (by simp)
      obtain⟨c',cs,e,q,h1,h2,h3,h4,h5⟩:=h.cells b _ _ hm rfl
      rw[hc] at h1;cases h1
      have h4:=h4.1
      have hlen:=h4.len
      obtain⟨vs,k1,k2,k3⟩:=key c off (by simp[dF]) (fun j hj=>by
       simp only[dF] at hj
       simp only[kA]
       have hlt:off+j<k.length:=by omega
       have hlt':off+j<cs.size:=by simp at hlen;omega
       refine⟨cs[off+j],by rw[aH h2,ie hlt'],?_⟩
       rw[dd,da hlt]
       have:=h4.get (off+j) hlt (by simpa using hlt')
       simpa using this)
      exact⟨c,off,vs,rfl,k1,k2,k3⟩
    · rename_i k hk
      simp only[dk,kl] at he
      obtain⟨rfl,hle⟩:=he
      have hle':=ft hle
      obtain⟨vs,k1,k2,k3⟩:=key c off (by simp[dF]) (fun j hj=>by
       simp only[dF] at hj
       simp only[kA]
       have hlt:off+j<k.length:=by omega
       obtain⟨v,q1,q2⟩:=h.E1 (getD_some hk (by simp)) hc hlt
       refine⟨v,q1,?_⟩
       rw[dd,da hlt]
       exact q2)
      exact⟨c,off,vs,rfl,k1,k2,k3⟩
    · rename_i t0 pre k hk
      simp only[dk,kl,di] at he
      obtain⟨rfl,Of,hle⟩:=he
      have P6:=ft Of
      have hle':=ft hle
      have hm:m[b]? = some (.ob (.stk t0 pre) k):=getD_some hk (by simp)
      obtain⟨hg,_⟩:=h.BL hm
      have Lv:(m.set b (.ob (.gr t0 false) (exactly pre++k)))[b]? = some (.ob (.gr t0 false) (exactly pre++k)):=by rw[List.getElem?_set_self (aT hm)]
      obtain⟨vs,k1,k2,k3⟩:=key c off (by simp[dF]) (fun j hj=>by
       simp only[dF] at hj
       simp only[kA]
       have hlt:off-pre.length+j<k.length:=by omega
       have JK:off+j<(exactly pre++k).length:=by rw[dC,bq];omega
       obtain⟨v,q1,q2⟩:=hg.E1 Lv hc JK
       refine⟨v,q1,?_⟩
       rw[dd,da hlt]
       have e:(exactly pre++k)[off+j]=k[off-pre.length+j]:=by
        rw[List.getElem_append_right (by rw[bq];omega)]
        congr 1
        rw[bq];omega
       rw[e] at q2
       exact q2)
      exact⟨c,off,vs,rfl,k1,k2,k3⟩
    · cases he
 · cases he
theorem cm (c o j:Nat):(⟨c,o,none⟩:Addr).add j=⟨c,o+j,none⟩:=by unfold Addr.add;split<;>simp_all
theorem pe (h:Rel g m w) {a:AV} {ca:Value} (ha:VA g w a ca) {t:TypeId} {v:AV} (he:j5 P (fun i=>m.getD i .dead) t a=some (v,true)) :
  ∃c o cv,ca = .pointer (some ⟨c,o,none⟩)∧(loadVar t ⟨c,o,none⟩).run P w = .ok cv w∧VA g w v cv:=by
 unfold j5 at he
 split at he
 · rename_i n hag hsz
   simp only[ja,kl,di] at he
   obtain⟨⟨l,ok⟩,h1,rfl,hok,h2⟩:=he
   simp only at hok h2
   subst hok
   obtain⟨e1,e2⟩:=Ag h2
   obtain⟨c,o,vs,rfl,k1,k2,k3⟩:=nR h ha h1 e2
   refine⟨c,o,.agg vs.toArray,rfl,?_,?_⟩
   · have:=run_loadCells_list (P:=P) w ⟨c,o,none⟩ vs (fun j v hj=>by rw[cm];exact k3 j v hj)
     simp only[loadVar,km,kY hag,kv,if_true,aB hsz,←k2,this,kp]
   · simp only[e1];exact VA.Ab.2 (by simpa using k1)
 · rename_i n hag hsz
   split at he
   · rename_i x ok hx
     simp only[dk,kl,di] at he
     obtain⟨rfl,hok,h2⟩:=he
     subst hok
     obtain⟨e1,e2⟩:=uq h2
     obtain⟨c,o,vs,rfl,k1,k2,k3⟩:=nR h ha hx (fun y hy=>by simp at hy;subst hy;exact e2)
     cases vs with
     |nil=>exact k1.elim
     |cons u us=>
      have:=k3 0 u rfl
      simp only[Nat.add_zero] at this
      exact⟨c,o,u,rfl,by simp[loadVar,kY hag,this],by rw[e1];exact k1.1⟩
   · cases he
 · cases he
end ops
section ops
variable {P:Program} {g:Gh} {m:Mem} {w:World} {ρ:Operand→AV} {bD:Operand→Value} {o:Oper}
theorem nS {x a:AV} {cx:Value} {n:Nat} (h:kS x n=some a) (hx:VA g w x cx) :
  ∃c o,cx = .pointer (some ⟨c,o,none⟩)∧VA g w a (.pointer (some ⟨c,o+n,none⟩)):=by
 cases hx with
 |p v cv hv=>
  cases hv with
  |pp off cells b o f hp hv=>
   simp only[kS,dk] at h;subst h
   exact⟨b,o+off,rfl,.p _ _ (by rw[gv];exact .pp (off+n) cells b o f hp hv)⟩
  |_=>simp[kS] at h
 |mp b off c hc=>
  simp only[kS,dk] at h;subst h
  exact⟨c,off,rfl,.mp b (off+n) c hc⟩
 |_=>simp[kS] at h
theorem uu {c o:Nat} {f:Field} {n:Nat} (h:eV P f.type=some n) (hn:n≠0) :
  (fieldPlace ⟨c,o,none⟩ f).run P w = .ok ⟨c,o+f.offset,none⟩ w:=by
 simp[fieldPlace,aB h,hn,cm]
theorem pg {t:TypeId} {x a:AV} {cx:Value} {f:Nat} (h:jG P t x f=some a) (hx:VA g w x cx) :
  ∃v,(lv t cx f).run P w = .ok v w∧VA g w a v:=by
 unfold jG at h
 split at h
 · rename_i fields hu
   split at h
   · rename_i fd hf
     split at h
     · rename_i n hn
       cases hb:a7 1 n with
       |false=>simp[hb] at h
       |true=>
        simp only[hb,cond_true] at h
        have h1:=ft hb
        obtain⟨c,o,rfl,ha⟩:=nS h hx
        refine⟨_,?_,ha⟩
        simp[lv,run_underlying hu,hf,lj,uu hn (by omega:n≠0)]
     · cases h
   · cases h
 · cases h
theorem nv {i:Int} {n:Nat}:fG i n=true↔0≤i∧i<n:=by simp[fG]
theorem pz {t:TypeId} {x i a:AV} {cx ci:Value} (h:jH P t x i=some (a,true)) (hx:VA g w x cx) (hi:VA g w i ci) :
  ∃v,(la t cx ci).run P w = .ok v w∧VA g w a v:=by
 unfold jH at h
 split at h
 · rename_i k n len elem hu
   rw[VA.pv] at hi;cases hi
   split at h
   · rename_i size hsz
     simp only[ja,kl] at h
     obtain⟨a',h1,rfl,h2⟩:=h
     obtain⟨c,o,rfl,ha⟩:=nS h1 hx
     rw[nv] at h2
     refine⟨_,?_,ha⟩
     simp[la,asIntOf,run_underlying hu,lj,h2,aB hsz,cm]
   · cases h
 · rename_i k n elem hu
   rw[VA.pv] at hi;cases hi
   split at h
   · rename_i size len sz cs hsz
     simp only[dk,kl,di] at h
     obtain⟨rfl,h2,_⟩:=h
     rw[nv] at h2
     rw[VA.pv] at hx
     cases hx with
     |ps _ _ _ b o cap f hl hc hz hp hv=>
      refine⟨_,?_,.p _ _ (.pp (n.toNat*size) cs b o f hp hv)⟩
      simp[la,asIntOf,run_underlying hu,h2,aB hsz,cm]
     |lU sz a cap=>simp at h2;omega
   · rename_i size tok len sz cs hsz
     simp only[dk,kl,di] at h
     obtain⟨rfl,h2,_⟩:=h
     rw[nv] at h2
     cases hx with
     |os _ _ _ _ ad cap hx hr=>
      cases hx with
      |ps _ _ _ b o cap f hl hc hz hp hv=>
       refine⟨_,?_,.p _ _ (.pp (n.toNat*size) cs b o f hp hv)⟩
       simp[la,asIntOf,run_underlying hu,h2,aB hsz,cm]
      |lU sz a cap=>simp at h2;omega
   · rename_i size b off len sz cap hsz
     simp only[dk,kl,di] at h
     obtain⟨rfl,h2,_⟩:=h
     rw[nv] at h2
     cases hx with
     |ms _ _ _ _ cap c hb hc=>
      refine⟨_,?_,.mp b _ c hb⟩
      simp[la,asIntOf,run_underlying hu,h2,aB hsz,cm]
     |mg _ _ _ _ cap c hb hc=>
      refine⟨_,?_,.mp b _ c hb⟩
      simp[la,asIntOf,run_underlying hu,h2,aB hsz,cm]
   · cases h
 · cases h
theorem xq {α:Type} (d:α) : ∀(n:Nat) (l:List α) (off:Nat),off+n≤l.length→lS d l off n=(l.drop off).take n
 |0,_,_,_=>by simp[lS]
 |n+1,l,off,h=>by
  have hlt:off<l.length:=by omega
  rw[lS,xq d n l (off+1) (by omega),List.drop_eq_getElem_cons hlt,List.take_succ_cons,dd,da hlt]
  rfl
theorem pE {t:TypeId} {cs:List AV} {ca:Array Value} {off:Nat} {a:AV} (h:partOf P t cs off=some (a,true)) (hc:bO g w cs ca.toList) :
  ∃v,(part t ca off).run P w = .ok v w∧VA g w a v:=by
 have hlen:=hc.len
 unfold partOf at h
 split at h
 · rename_i n hag hsz
   simp only[dk,kl] at h
   obtain⟨rfl,h2⟩:=h
   have h2:=ft h2
   refine⟨_,by simp[part,kY hag,aB hsz];rfl,VA.Ab.2 ?_⟩
   rw[xq _ _ _ _ h2]
   have:=(hc.drop off).take n
   simpa[fh] using this
 · rename_i n hag hsz
   simp only[dk,kl] at h
   obtain⟨rfl,h2⟩:=h
   have h2:off<cs.length:=by simpa[ic] using h2
   have h3:off<ca.size:=by simp at hlen;omega
   refine⟨ca[off],by simp[part,kY hag,ie h3],?_⟩
   rw[dd,da h2]
   exact hc.get off h2 (by simpa using h3)
 · cases h
theorem wj {t:TypeId} {x a:AV} {cx:Value} {f:Nat} (h:tv P t x f=some (a,true)) (hx:VA g w x cx) :
  ∃v,(lL t cx f).run P w = .ok v w∧VA g w a v:=by
 unfold tv at h
 split at h
 · rename_i fields cs hu
   split at h
   · rename_i fd hf
     cases hx with
     |agg _ ca hl hh=>
      obtain⟨v,h1,h2⟩:=pE h (VA.Ab.1 (.agg cs ca hl hh))
      exact⟨v,by simp[lL,run_underlying hu,hf,asAgg,h1],h2⟩
   · cases h
 · cases h
theorem uw (s:ByteArray) (i:Nat):s[i]? = s.data.toList[i]? :=by
 rcases gg i s.size with h | h
 · have h2:i<s.data.toList.length:=by rw[ik];exact h
   rw[getElem?_pos s i h,da h2]
   rfl
 · have h2:s.data.toList.length≤i:=by rw[ik];exact h
   rw[getElem?_neg s i (Nat.not_lt.2 h),ee h2]
theorem wk {t:TypeId} {x i a:AV} {cx ci:Value} (h:tw P t x i=some (a,true)) (hx:VA g w x cx) (hi:VA g w i ci) :
  ∃v,(ln t cx ci).run P w = .ok v w∧VA g w a v:=by
 unfold tw at h
 split at h
 · rename_i cs k n
   rw[VA.pv] at hi;cases hi
   split at h
   · rename_i len elem hu
     split at h
     · rename_i size v ok hsz hp
       simp only[dk,kl,di] at h
       obtain⟨rfl,h1,rfl⟩:=h
       rw[nv] at h1
       cases hx with
       |agg _ ca hl hh=>
        simp only[hsz,kb] at hp
        obtain⟨v,h2,h3⟩:=pE hp (VA.Ab.1 (.agg cs ca hl hh))
        refine⟨v,?_,h3⟩
        simp[ln,asIntOf,run_underlying hu,h1,aB hsz,h2]
     · cases h
   · cases h
 · rename_i s k n
   rw[VA.pv] at hi hx;cases hi;cases hx
   split at h
   · rename_i hu
     simp only[dk,kl] at h
     obtain⟨rfl,h1⟩:=h
     rw[nv] at h1
     have hlt:n.toNat<s.data.toList.length:=by omega
     refine⟨_,?_,.p _ _ (.sc _)⟩
     simp only[ln,asIntOf,run_underlying hu,km,kp,kv,h1.1,if_true,uw,da hlt,dd,kb]
   · cases h
 · cases h
theorem iq (hr : ∀x,VA g w (ρ x) (bD x)) {x:Option Operand} {d n:Nat} (h:bound ρ x d=some (n,true)) :
  (x=none∧n=d)∨(∃y k i,x=some y∧bD y = .int k i∧0≤i∧n=i.toNat):=by
 unfold bound at h
 split at h
 · simp only[dk,kl,and_true] at h;exact .inl ⟨rfl,h.symm⟩
 · rename_i y
   split at h
   · rename_i k i he
     simp only[dk,kl,decide_eq_true_eq] at h
     have:=hr y
     rw[he,VA.pv] at this
     refine .inr ⟨y,k,i,rfl,?_,h.2,h.1.symm⟩
     generalize bD y=cv at this
     cases this;rfl
   · cases h
theorem run_sliceBound {k:IntKind} {i:Int} {y:Nat} {code:BoundsCode} (h0:0≤i) (h1:i.toNat≤y):(lk (.int k i) y code).run P w = .ok i.toNat w:=by
 have:i≤y:=by omega
 simp[lk,asIntOf,h0,this]
theorem bE (hr : ∀x,VA g w (ρ x) (bD x)) {Lw:Bool} {len cap l h:Nat} {low high:Option Operand}
  (hl:bound ρ low 0=some (l,true)) (hh:bound ρ high len=some (h,true)) (h1:l≤h) (h2:h≤cap) :
  (kx Lw len cap (low.map bD) (high.map bD) none).run P w = .ok (l,h,cap) w:=by
 rcases iq hr hl with⟨rfl,rfl⟩ | ⟨y,k,i,rfl,hy,hi,rfl⟩<;>rcases iq hr hh with⟨rfl,rfl⟩ | ⟨y',k',i',rfl,hy',hi',rfl⟩
 · simp[kx]
 · simp[kx,hy',run_sliceBound hi' h2]
 · simp[kx,hy,run_sliceBound hi h1]
 · simp[kx,hy,hy',run_sliceBound hi h1,run_sliceBound hi' h2]
theorem ir (hr : ∀x,VA g w (ρ x) (bD x)) {Lw:Bool} {len cap l h:Nat} {low:Option Operand} {hx mx:Operand}
  (hl:bound ρ low 0=some (l,true)) (hh:bound ρ (some hx) len=some (h,true)) (hm:bound ρ (some mx) 0=some (h,true)) (h1:l≤h) (h2:h≤cap) :
  (kx Lw len cap (low.map bD) (some (bD hx)) (some (bD mx))).run P w = .ok (l,h,h) w:=by
 rcases iq hr hh with⟨e,_⟩ | ⟨y',k',i',e,hy',hi',rfl⟩
 · cases e
 cases e
 rcases iq hr hm with⟨e,_⟩ | ⟨y2,k2,i2,e,LY,hi2,e2⟩
 · cases e
 cases e
 rw[e2] at h2
 rcases iq hr hl with⟨rfl,rfl⟩ | ⟨y,k,i,rfl,hy,hi,rfl⟩
 · simp only[kx,km,hy',LY,run_sliceBound hi2 h2,kv,jb,kp]
   rw[run_sliceBound hi' (by omega)];simp[e2]
 · simp only[kx,km,hy,hy',LY,run_sliceBound hi2 h2,kv,jn]
   rw[run_sliceBound hi' (by omega)]
   simp only[kv]
   rw[run_sliceBound hi (by omega)];simp[e2]
theorem nM (hr : ∀x,VA g w (ρ x) (bD x)) {Lw:Bool} {len cap l h m':Nat} {low:Option Operand} {hx mx:Operand}
  (hl:bound ρ low 0=some (l,true)) (hh:bound ρ (some hx) len=some (h,true)) (hm:bound ρ (some mx) 0=some (m',true)) (h1:l≤h) (h2:h≤m') (h3:m'≤cap) :
  (kx Lw len cap (low.map bD) (some (bD hx)) (some (bD mx))).run P w = .ok (l,h,m') w:=by
 rcases iq hr hh with⟨e,_⟩ | ⟨y',k',i',e,hy',hi',rfl⟩
 · cases e
 cases e
 rcases iq hr hm with⟨e,_⟩ | ⟨y2,k2,i2,e,LY,hi2,rfl⟩
 · cases e
 cases e
 rcases iq hr hl with⟨rfl,rfl⟩ | ⟨y,k,i,rfl,hy,hi,rfl⟩
 · simp only[kx,km,hy',LY,run_sliceBound hi2 h3,kv,jb,kp]
   rw[run_sliceBound hi' h2];simp
 · simp only[kx,km,hy,hy',LY,run_sliceBound hi2 h3,kv,jn]
   rw[run_sliceBound hi' h2]
   simp only[kv]
   rw[run_sliceBound hi h1];simp
theorem mq {α:Type} (cs:List α) {len l h size:Nat} {low high:Option Operand} (hl:cs.length=len*size) (h1:l≤h) (h2:h≤len) (e1:low=none→l=0) (e2:high=none→h=len) :
  cut cs (times low l size) (times high h size)=(cs.drop (l*size)).take ((h-l)*size):=by
 have NV:(h-l)*size=h*size-l*size:=gl _ _ _
 have QF:h*size≤len*size:=fx _ h2
 have Lx:l*size≤h*size:=fx _ h1
 unfold cut times
 cases low with
 |none=>
  have:=e1 rfl;subst this
  cases high with
  |none=>have:=e2 rfl;subst this;simp[hl,ed]
  |some _=>simp
 |some _=>
  cases high with
  |none=>
   have:=e2 rfl;subst this
   simp only[jn,jb]
   rw[ed]
   simp[hl,NV]
  |some _=>simp only[jn];rw[fh,NV]
theorem nw {len sz:Nat} {cs:List PV} {a:Option Addr} {cap l h m':Nat} (hx:VP g w (.ps len sz cs) (.slice a len cap)) (h1:l≤h) (h2:h≤len) (h3:h≤m') (h4:m'≤cap) :
  VP g w (.ps (h-l) sz ((cs.drop (l*sz)).take ((h-l)*sz))) (.slice (if m'=l then a else a.map (·.add (l*sz))) (h-l) (m'-l)):=by
 cases hx with
 |ps _ _ _ b o cap f hl hc hz hp hv=>
  have NV:(h-l)*sz=h*sz-l*sz:=gl _ _ _
  have QF:h*sz≤len*sz:=fx _ h2
  have Lx:l*sz≤h*sz:=fx _ h1
  by_cases e:m'=l
  · have:h-l=0:=by omega
    simp only[this,Nat.zero_mul,List.take_zero]
    exact .lU _ _ _ (.inl hz)
  · simp only[if_neg e,jn,cm]
    refine .ps _ _ _ b (o+l*sz) _ (fun k=>f (l*sz+k)) (by simp[hl,NV];omega) (by omega) hz (fun k hk=> ?_) (fun k hk=> ?_)
    · simp only[eQ,ei,hl] at hk
      have:=hp (l*sz+k) (by omega)
      rw[gv];exact this
    · simp only[eQ,ei,hl] at hk
      have:=hv (l*sz+k) (by omega)
      simpa using this
 |lU sz a cap hz=>
  have:h-l=0:=by omega
  simp only[this,List.drop_nil,List.take_nil]
  exact .lU _ _ _ (hz.imp id fun⟨e,e2⟩=>by subst e;subst e2;exact⟨by split<;>rfl,by omega⟩)
theorem iS {len sz size:Nat} {cs:List PV} {a:Option Addr} {cap:Nat} (hx:VP g w (.ps len sz cs) (.slice a len cap)) (h:(a6 sz size||(a6 len 0&&a7 1 size))=true):VP g w (.ps len size cs) (.slice a len cap):=by
 simp only[kd,di,fw] at h
 rcases h with rfl | ⟨rfl,h1⟩
 · exact hx
 · have h1:=ft h1
   cases hx with
   |ps _ _ _ b o cap f hl hc hz hp hv=>
    simp at hl;subst hl
    exact .lU _ _ _ (.inl h1)
   |lU=>exact .lU _ _ _ (.inl h1)
theorem kZ {len sz:Nat} {cs:List PV} {cv:Value} (hx:VP g w (.ps len sz cs) cv):cs.length=len*sz ∧ ∃a cap,cv = .slice a len cap∧(len≤cap):=by
 cases hx with
 |ps _ _ _ b o cap f hl hc hz hp hv=>exact⟨hl,_,_,rfl,hc⟩
 |lU=>exact⟨by simp,_,_,rfl,Nat.zero_le _⟩
end ops
theorem fR {ρ:Operand→AV} {d n:Nat} {b:Bool} (h:bound ρ none d=some (n,b)):n=d:=by
 simp only[bound,dk,kl] at h;exact h.1.symm
section ops
variable {P:Program} {g:Gh} {m:Mem} {w:World} {ρ:Operand→AV} {bD:Operand→Value} {o:Oper}
theorem wm (hr : ∀x,VA g w (ρ x) (bD x)) {t:TypeId} {x a:AV} {cx:Value} {low high mx:Option Operand} (h:nh P ρ t x low high mx=some (a,true)) (hx:VA g w x cx) :
  ∃v,(ky t cx (low.map bD) (high.map bD) (mx.map bD)).run P w = .ok v w∧VA g w a v:=by
 unfold nh at h
 split at h
 · rename_i n elem hu
   split at h
   · rename_i size l a' h' b' i off hsz hl hh
     simp only[dk,kl,di] at h
     obtain⟨rfl,⟨⟨rfl,rfl⟩,h1⟩,h2⟩:=h
     have h1:=ft h1
     have h2:=ft h2
     cases hx with
     |mp _ _ c hc=>
      have e:(if n=l then(⟨c,off,none⟩:Addr) else(⟨c,off,none⟩:Addr).add (l*size))=⟨c,cond (a6 n l) off (off+l*size),none⟩:=by
       by_cases e:n=l
       · simp[e]
       · have:a6 n l=false:=by rw[kc];intro k;exact e (a8 k)
         simp[e,this,cm]
      refine⟨_,?_,.ms i (cond (a6 n l) off (off+l*size)) (h'-l) size (n-l) c hc (by omega)⟩
      simp only[ky,km,run_underlying hu,kv,lj,jb,bE hr hl hh h1 h2,aB hsz,kp,e]
   · cases h
 · rename_i elem hu
   split at h
   · rename_i size l a' len sz cs hsz hl
     rw[VA.pv] at hx
     obtain⟨hlen,ad,cap,rfl,hcap⟩:=kZ hx
     split at h
     · rename_i h' b' hh
       simp only[dk,kl,di,fw] at h
       obtain⟨rfl,⟨⟨⟨rfl,rfl⟩,h1⟩,h2⟩,rfl⟩:=h
       have h1:=ft h1
       have h2:=ft h2
       refine⟨_,?_,.p _ _ (by rw[mq cs hlen h1 h2 (fun e:low=none=>fR (e▸hl)) (fun e=>fR (e▸hh))];exact nw hx h1 h2 (be h2 hcap) (ch _))⟩
       simp only[ky,kz,km,run_underlying hu,kv,jb,bE hr hl hh h1 (be h2 hcap),aB hsz,kp]
     · rename_i h' b' mo hh
       split at h
       · rename_i m' c' hm
         simp only[dk,kl,di,fw] at h
         obtain⟨rfl,⟨⟨⟨⟨⟨rfl,rfl⟩,rfl⟩,h1⟩,h2⟩,rfl⟩,h3,rfl⟩:=h
         have h1:=ft h1
         have h2:=ft h2
         obtain⟨hx',rfl⟩:=ka.1 h3
         have hv:=nw (m':=m') hx h1 h2 (ch _) (be h2 hcap)
         refine⟨_,?_,.os none (m'-l) sz _ _ _ (by rw[mq cs hlen h1 h2 (fun e:low=none=>fR (e▸hl)) (fun e=>by cases e)];exact hv) (.inl rfl)⟩
         simp only[ky,kz,km,run_underlying hu,kv,jn,ir hr hl hh hm h1 (be h2 hcap),aB hsz,kp]
       · cases h
     · cases h
   · rename_i size l a' tok len sz cs hsz hl
     cases hx with
     |os _ _ _ _ ad cap hx wo=>
     obtain⟨hlen,Sh,cap',he,hcap⟩:=kZ hx
     cases he
     split at h
     · rename_i h' b' hh
       split at h
       · simp only[dk,kl,di] at h
         obtain⟨rfl,⟨⟨rfl,rfl⟩,h1⟩,h3⟩:=h
         have h1:=ft h1
         have:=fR hh;subst this
         have hsz':(a6 sz size||(a6 h' 0&&a7 1 size))=true:=by
          rw[kd] at h3 ⊢
          refine h3.imp id fun k=> ?_
          simp only[di] at k ⊢
          exact⟨k.1,k.2.1⟩
         have hx':=iS hx hsz'
         have hlen':=(kZ hx').1
         have hv:=nw (m':=cap) hx' h1 (ch _) hcap (ch _)
         have hc:=mq (low:=low) (high:=none) cs hlen' h1 (ch _) (fun e:low=none=>fR (e▸hl)) (fun _=>rfl)
         simp only[times,jb] at hc
         refine⟨_,?_,.os tok (h'-l) size _ _ _ (by simp only[times];rw[hc];exact hv) ?_⟩
         · have hb:=bE (P:=P) (Lw:=true) hr hl hh h1 hcap
           simp only[jb] at hb
           simp only[ky,kz,km,run_underlying hu,kv,jb,hb,aB hsz,kp]
         · rcases wo with rfl | ⟨t,b,o',rfl,rfl,q1,q2,q3,q4⟩
           · exact .inl rfl
           · have:sz=size:=by simpa[fw] using h3
             subst this
             by_cases e:cap=l
             · exact .inl (by omega)
             · refine .inr ⟨t,b,o'+l*sz,rfl,by simp[e,cm],q1,?_,?_,by omega⟩
               · rw[q2,gl];have:=fx sz h1;omega
               · rw[q3,gl];have:=fx sz (be h1 hcap);omega
       · rename_i hy
         have LZ : ∀{sz:Nat},VP g w (.ps len sz cs) (.slice ad len cap)→cs.length=len*size→l≤h'→h'≤len→cut cs (times low l size) (some (h'*size))=(cs.drop (l*size)).take ((h'-l)*size):=fun _ hlen' h1 h2=>by
          have hc:=mq (low:=low) (high:=some hy) cs hlen' h1 h2 (fun e:low=none=>fR (e▸hl)) (fun e=>by cases e)
          simpa only[times,jn] using hc
         split at h
         · rename_i heq
           simp only[dk,kl,di] at h
           obtain⟨rfl,⟨⟨⟨rfl,rfl⟩,h1⟩,h2⟩,h3⟩:=h
           have heq:=a8 heq
           have h1:=ft h1
           have h2:=ft h2
           have P7:cap=len:=by
            rcases wo with e | ⟨t,b,o',e,_⟩
            · exact e
            · cases e
           have hx':=iS hx h3
           have hlen':=(kZ hx').1
           have hv:=nw (m':=cap) hx' h1 h2 (be h2 hcap) (ch _)
           refine⟨_,?_,.os none (h'-l) size _ _ _ (by rw[LZ hx hlen' h1 h2];exact hv) (.inl (by omega))⟩
           simp only[ky,kz,km,run_underlying hu,kv,jb,bE hr hl hh h1 (be h2 hcap),aB hsz,kp]
         · simp only[dk,kl,di] at h
           obtain⟨rfl,⟨⟨⟨rfl,rfl⟩,h1⟩,h2⟩,h3⟩:=h
           have h1:=ft h1
           have h2:=ft h2
           have hx':=iS hx h3
           have hlen':=(kZ hx').1
           refine⟨_,?_,.p _ _ (by rw[LZ hx hlen' h1 h2];exact nw hx' h1 h2 (be h2 hcap) (ch _))⟩
           simp only[ky,kz,km,run_underlying hu,kv,jb,bE hr hl hh h1 (be h2 hcap),aB hsz,kp]
     · rename_i h' b' mo hh
       split at h
       · rename_i m' c' hm
         simp only[dk,kl,di,fw] at h
         obtain⟨rfl,⟨⟨⟨⟨⟨rfl,rfl⟩,rfl⟩,h1⟩,h2⟩,rfl⟩,h3,h4⟩:=h
         have h1:=ft h1
         have h2:=ft h2
         obtain⟨hx',rfl⟩:=ka.1 h3
         have NW:=iS hx h4
         have hlen':=(kZ NW).1
         have hv:=nw (m':=m') NW h1 h2 (ch _) (be h2 hcap)
         refine⟨_,?_,.os none (m'-l) size _ _ _ (by rw[mq cs hlen' h1 h2 (fun e:low=none=>fR (e▸hl)) (fun e=>by cases e)];exact hv) (.inl rfl)⟩
         simp only[ky,kz,km,run_underlying hu,kv,jn,ir hr hl hh hm h1 (be h2 hcap),aB hsz,kp]
       · cases h
     · cases h
   · rename_i size l a' i off len sz hsz hl
     cases hx with
     |mg _ _ _ _ cap c hc hcap hroom=>
     split at h
     · rename_i h' b' hh
       simp only[dk,kl,di,kd,fw,ic] at h
       obtain⟨rfl,⟨⟨⟨⟨rfl,rfl⟩,h1⟩,h2⟩,rfl⟩,h3⟩:=h
       have h1:=ft h1
       have h2:=ft h2
       have e:(if cap=l then some (⟨c,off,none⟩:Addr) else(some (⟨c,off,none⟩:Addr)).map (·.add (l*sz)))=some ⟨c,off+l*sz,none⟩:=by
        by_cases e:cap=l
        · have:l=0:=by omega
          simp[e,this]
        · simp[e,cm]
       refine⟨_,?_,.mg i (off+l*sz) (h'-l) sz (cap-l) c hc (by omega) ?_⟩
       · simp only[ky,kz,km,run_underlying hu,kv,jb,bE hr hl hh h1 (be h2 hcap),aB hsz,kp,e]
       · rw[gl]
         have:=fx sz (be (be h1 h2) hcap)
         omega
     · rename_i h' b' mo hh
       split at h
       · rename_i m' c' hm
         simp only[dk,kl,di,fw] at h
         obtain⟨rfl,⟨⟨⟨⟨⟨rfl,rfl⟩,rfl⟩,h1⟩,h2⟩,h4⟩,h3,rfl⟩:=h
         have h1:=ft h1
         have h2:=ft h2
         have h4:=ft h4
         obtain⟨hx',rfl⟩:=ka.1 h3
         have e:(if m'=l then some (⟨c,off,none⟩:Addr) else some ((⟨c,off,none⟩:Addr).add (l*sz)))=some ⟨c,cond (a6 m' l) off (off+l*sz),none⟩:=by
          by_cases e:m'=l
          · simp[e]
          · have:a6 m' l=false:=by rw[kc];intro k;exact e (a8 k)
            simp[e,this,cm]
         refine⟨_,?_,.ms i (cond (a6 m' l) off (off+l*sz)) (h'-l) sz (m'-l) c hc (by omega)⟩
         simp only[ky,kz,km,run_underlying hu,kv,jn,nM hr hl hh hm h1 h2 (be h4 hcap),aB hsz,kp,e]
       · cases h
     · cases h
   · rename_i size l a' i off len sz cap hsz hl
     cases hx with
     |ms _ _ _ _ cap c hc hcap=>
     split at h
     · rename_i h' b' hh
       simp only[dk,kl,di,fw] at h
       obtain⟨rfl,⟨⟨⟨rfl,rfl⟩,h1⟩,h2⟩,rfl⟩:=h
       have h1:=ft h1
       have h2:=ft h2
       have e:(if cap=l then some (⟨c,off,none⟩:Addr) else(some (⟨c,off,none⟩:Addr)).map (·.add (l*sz)))=some ⟨c,cond (a6 cap l) off (off+l*sz),none⟩:=by
        by_cases e:cap=l
        · simp[e]
        · have:a6 cap l=false:=by rw[kc];intro k;exact e (a8 k)
          simp[e,this,cm]
       refine⟨_,?_,.ms i (cond (a6 cap l) off (off+l*sz)) (h'-l) sz (cap-l) c hc (by omega)⟩
       simp only[ky,kz,km,run_underlying hu,kv,jb,bE hr hl hh h1 h2,aB hsz,kp,e]
     · cases h
   · cases h
 · rename_i hu
   split at h
   · rename_i l a' s hl
     rw[VA.pv] at hx;cases hx
     split at h
     · rename_i h' b' hh
       simp only[dk,kl,di] at h
       obtain⟨rfl,⟨⟨rfl,rfl⟩,h1⟩,h2⟩:=h
       have h1:=ft h1
       have h2:=ft h2
       have e:s.data.toList.length=s.size:=ik
       rw[e] at hh h2
       refine⟨_,?_,.p _ _ (.sc _)⟩
       simp only[ky,kz,km,run_underlying hu,kv,jb,Option.isSome_none,Bool.false_eq_true,if_false,kp,bE hr hl hh h1 h2]
     · cases h
   · cases h
 · cases h
theorem sH (op:BinOp) (t:TypeId) (x y:Operand) (k k':IntKind) (a b:Int):(eqGuard op t x y (.int k a) (.int k' b)).run P w = .ok () w:=by
 unfold eqGuard;cases op<;>rfl
theorem oo (op:BinOp) (t:TypeId) (x y:Operand) (a b:ByteArray):(eqGuard op t x y (.string a) (.string b)).run P w = .ok () w:=by
 unfold eqGuard;cases op<;>rfl
theorem yH {op:BinOp} {t:TypeId} {k k':IntKind} {a b:Int} {v:Value} (h:BE op k a k' b=some (v,true)):(binOp op t (.int k a) (.int k' b)).run P w = .ok v w:=by
 cases op<;>simp only[BE,dk,kl,di,beq_iff_eq,kh,beq_eq_false_iff_ne,decide_eq_true_eq] at h
 case quo=>obtain⟨rfl,rfl,hb⟩:=h;simp[binOp,Op.intDiv,hb]
 case rem=>obtain⟨rfl,rfl,hb⟩:=h;simp[binOp,Op.intDiv,hb]
 case shl=>obtain⟨rfl,hb⟩:=h;simp[binOp,Op.shift,Int.not_lt.2 hb]
 case shr=>obtain⟨rfl,hb⟩:=h;simp[binOp,Op.shift,Int.not_lt.2 hb]
 all_goals obtain⟨rfl,rfl⟩:=h
 all_goals simp[binOp,mb,Op.intBits,Op.intCmp]
theorem yI {op:BinOp} {t:TypeId} {a b:ByteArray} {v:Value} (h:BF op a b=some (v,true)):(binOp op t (.string a) (.string b)).run P w = .ok v w:=by
 have e : ∀s:ByteArray,s.data.toList.length=s.size:=fun s=>ik
 cases op<;>simp only[BF,dk,kl,and_true,reduceCtorEq] at h
 case add=>
  obtain⟨rfl,h⟩:=h
  have h:=ft h
  rw[e,e] at h
  rw[binOp_string_add,run_string_add_sum w a b (by unfold cE at h;omega)]
 all_goals (subst h;simp[binOp,Op.stringOp,ByteArray.toList_eq])
theorem gB (d:Nat) (cx cy:Array Value) : ∀(fs:List Field) (i:Nat) (xs ys:List AV) (b:Bool),gy P i fs xs ys=some b→bO g w xs (cx.toList.drop i)→bO g w ys (cy.toList.drop i) →
  (ma (d+1) cx cy fs).run P w = .ok b w
 |[],i,xs,ys,b,h,hx,hy=>by
  cases xs<;>cases ys<;>simp only[gy,dk,reduceCtorEq] at h
  subst h
  simp[ma]
 |f::fs,i,xs,ys,b,h,hx,hy=>by
  cases xs with
  |nil=>simp[gy] at h
  |cons x xs=>
   cases ys with
   |nil=>simp[gy] at h
   |cons y ys=>
    have Jm : ∀(c:Array Value) (z:AV) (zs:List AV),bO g w (z::zs) (c.toList.drop i) → ∃v,c[i]? = some v∧VA g w z v∧bO g w zs (c.toList.drop (i+1)):=by
     intro c z zs hz
     cases hd:c.toList.drop i with
     |nil=>rw[hd] at hz;exact hz.elim
     |cons v vs=>
      rw[hd] at hz
      have h1:c.toList[i]? = some v:=by rw[←List.head?_drop,hd];rfl
      have h2:c.toList.drop (i+1)=vs:=by rw[←List.tail_drop,hd];rfl
      refine⟨v,by simpa using h1,hz.1,?_⟩
      rw[h2];exact hz.2
    obtain⟨vx,ex,rx,tx⟩:=Jm cx x xs hx
    obtain⟨vy,ey,ry,ty⟩:=Jm cy y ys hy
    simp only[gy] at h
    split at h
    · rename_i _ k a k' a' hu
      cases hc:(k==k'&&a6 f.offset i&&f.name != "_" && P.plainKey f.type) with
      |false=>rw[hc] at h;cases h
      |true=>
       rw[hc] at h
       simp only[cond_true,ja] at h
       obtain⟨r,h1,rfl⟩:=h
       simp only[di,beq_iff_eq,bne_iff_ne] at hc
       obtain⟨⟨⟨rfl,ho⟩,hn⟩,hp⟩:=hc
       have ho:=a8 ho
       rw[VA.pv] at rx ry
       cases rx
       cases ry
       have ih:=gB d cx cy fs (i+1) xs ys r h1 tx ty
       simp only[ma,if_pos hn,km,ho,run_part_plain w hp ex,run_part_plain w hp ey,kv,run_equalIn_int w d f.type k _ a a' hu]
       cases hab:(a==a') with
       |true=>simp[ih]
       |false=>simp
    · rename_i _ a a' hu
      cases hc:(a6 f.offset i&&f.name != "_" && P.plainKey f.type) with
      |false=>rw[hc] at h;cases h
      |true=>
       rw[hc] at h
       simp only[cond_true,ja] at h
       obtain⟨r,h1,rfl⟩:=h
       simp only[di,bne_iff_ne] at hc
       obtain⟨⟨ho,hn⟩,hp⟩:=hc
       have ho:=a8 ho
       rw[VA.pv] at rx ry
       cases rx
       cases ry
       have ih:=gB d cx cy fs (i+1) xs ys r h1 tx ty
       simp only[ma,if_pos hn,km,ho,run_part_plain w hp ex,run_part_plain w hp ey,kv,run_equalIn_bool' w d f.type a a' hu]
       cases hab:(a==a') with
       |true=>simp[ih]
       |false=>simp
    · rename_i _ a a' hu
      cases hc:(a6 f.offset i&&f.name != "_" && P.plainKey f.type) with
      |false=>rw[hc] at h;cases h
      |true=>
       rw[hc] at h
       simp only[cond_true,ja] at h
       obtain⟨r,h1,rfl⟩:=h
       simp only[di,bne_iff_ne] at hc
       obtain⟨⟨ho,hn⟩,hp⟩:=hc
       have ho:=a8 ho
       rw[VA.pv] at rx ry
       cases rx
       cases ry
       have ih:=gB d cx cy fs (i+1) xs ys r h1 tx ty
       simp only[ma,if_pos hn,km,ho,run_part_plain w hp ex,run_part_plain w hp ey,kv,run_equalIn_string w d f.type a a' hu,ByteArray.toList_eq]
       cases hab:(a.data.toList==a'.data.toList) with
       |true=>simp[ih]
       |false=>simp
    · cases h
theorem rK {t:TypeId} {x y:AV} {b:Bool} {vx vy:Value} (h:zR P t x y=some b) (hx:VA g w x vx) (hy:VA g w y vy) :
  (∀op p q,(eqGuard op t p q vx vy).run P w = .ok () w)∧(binOp .eql t vx vy).run P w = .ok (.bool b) w∧(binOp .neq t vx vy).run P w = .ok (.bool (!b)) w:=by
 unfold zR at h
 split at h
 · rename_i xs ys
   split at h
   · rename_i fs hu
     cases hc:(!P.stoodInHeld t && !P.eqGuardType P.depth t) with
     |false=>rw[hc] at h;cases h
     |true=>
      rw[hc] at h
      simp only[cond_true] at h
      simp only[di,kh] at hc
      cases hx with
      |agg _ cx lx hx=>
       cases hy with
       |agg _ cy ly hy=>
        have hfo:P.fieldsOf t=fs:=by unfold Program.fieldsOf;rw[hu]
        have QG:P.underlying t=some (.struct (P.fieldsOf t)):=by rw[hfo,hu]
        have key:=gB (g:=g) (w:=w) 9998 cx cy fs.toList 0 xs ys b h (by simpa using aV.cP lx hx) (by simpa using aV.cP ly hy)
        have e:(Op.equalIn 10000 t (.agg cx) (.agg cy)).run P w = .ok b w:=by
         rw[run_equalIn_agg w 9999 t cx cy QG hc.1,hfo];exact key
        refine⟨fun op p q=>run_eqGuard_agg w op t p q cx cy hc.2,?_,?_⟩
        · rw[run_eql_struct,e];rfl
        · rw[run_neq_struct,e];rfl
   · cases h
 · cases h
theorem wq (hr : ∀x,VA g w (ρ x) (bD x)) {op:BinOp} {t yt:TypeId} {x y:Operand} (ho:o.op = .binOp op t x y yt) {a:AV} (h:oS P ρ o op (ρ x) (ρ y)=some (a,true)) :
  ∃v,(execOp bD o).run P w = .ok (.value v) w∧VA g w a v:=by
 unfold oS at h
 split at h
 · rename_i k a' k' b' hx hy
   simp only[ja,kl] at h
   obtain⟨⟨v,ok⟩,h1,rfl,h2⟩:=h
   simp only at h2;subst h2
   have cx:bD x = .int k a':=by have:=hr x;rw[hx,VA.pv] at this;generalize bD x=z at this;cases this;rfl
   have cy:bD y = .int k' b':=by have:=hr y;rw[hy,VA.pv] at this;generalize bD y=z at this;cases this;rfl
   exact⟨v,by simp only[execOp,ho,cx,cy,km,sH,kv,yH h1,kp],.p _ _ (.sc v)⟩
 · rename_i a' b' hx hy
   simp only[ja,kl] at h
   obtain⟨⟨v,ok⟩,h1,rfl,h2⟩:=h
   simp only at h2;subst h2
   have cx:bD x = .string a':=by have:=hr x;rw[hx,VA.pv] at this;generalize bD x=z at this;cases this;rfl
   have cy:bD y = .string b':=by have:=hr y;rw[hy,VA.pv] at this;generalize bD y=z at this;cases this;rfl
   exact⟨v,by simp only[execOp,ho,cx,cy,km,oo,kv,yI h1,kp],.p _ _ (.sc v)⟩
 · have hs : ∀cs b,o.op ≠ .select cs b:=fun _ _=>by rw[ho];exact fun e=>by cases e
   split at h
   · split at h
     · rename_i b hb
       simp only[dk,kl,and_true] at h
       subst h
       have hb:zR P t (ρ x) (ρ y)=some b:=by unfold CB at hb;rw[ho] at hb;exact hb
       obtain⟨k1,k2,k3⟩:=rK hb (hr x) (hr y)
       exact⟨_,by simp only[execOp,ho,km,k1,kv,k2,kp],.p _ _ (.sc _)⟩
     cases hc:(jI (ρ x)&&jJ (ρ y)||jJ (ρ x)&&jI (ρ y)) with
     |true=>simp[hc] at h
     |false=>
      simp only[hc,cond_false,ja,kl,and_true] at h
      obtain⟨v,h1,rfl⟩:=h
      exact ej hr hs h1
   · split at h
     · rename_i b hb
       simp only[dk,kl,and_true] at h
       subst h
       have hb:zR P t (ρ x) (ρ y)=some b:=by unfold CB at hb;rw[ho] at hb;exact hb
       obtain⟨k1,k2,k3⟩:=rK hb (hr x) (hr y)
       exact⟨_,by simp only[execOp,ho,km,k1,kv,k3,kp],.p _ _ (.sc _)⟩
     cases hc:(jI (ρ x)&&jJ (ρ y)||jJ (ρ x)&&jI (ρ y)) with
     |true=>simp[hc] at h
     |false=>
      simp only[hc,cond_false,ja,kl,and_true] at h
      obtain⟨v,h1,rfl⟩:=h
      exact ej hr hs h1
   · cases h
theorem yJ (hr : ∀x,VA g w (ρ x) (bD x)) {op:UnOp} {t:TypeId} {x:Operand} (ho:o.op = .unOp op t x) {a:AV} (h:tW P ρ o op (ρ x)=some (a,true)) :
  ∃v,(execOp bD o).run P w = .ok (.value v) w∧VA g w a v:=by
 unfold tW at h
 split at h
 · rename_i b hx
   simp only[dk,kl,and_true] at h;subst h
   have cx:bD x = .bool b:=by have:=hr x;rw[hx,VA.pv] at this;generalize bD x=z at this;cases this;rfl
   exact⟨_,by simp only[execOp,ho,cx,Op.unary,km,kp,kv],.p _ _ (.sc _)⟩
 · rename_i k n hx
   simp only[dk,kl,and_true] at h;subst h
   have cx:bD x = .int k n:=by have:=hr x;rw[hx,VA.pv] at this;generalize bD x=z at this;cases this;rfl
   exact⟨_,by simp only[execOp,ho,cx,Op.unary,mb,km,kp,kv],.p _ _ (.sc _)⟩
 · simp only[ja,kl,and_true] at h
   obtain⟨v,h1,rfl⟩:=h
   exact ej hr (fun _ _=>by rw[ho];exact fun e=>by cases e) h1
theorem pF {t:TypeId} {x a:AV} {cx:Value} (h:l6 P t x=some a) (hx:VA g w x cx) :
  ∃v,(lh t cx).run P w = .ok v w∧VA g w a v:=by
 unfold l6 at h
 split at h
 · cases h
 · rename_i d hd hu
   have hrun:(lh t cx).run P w = .ok (.iface t cx) w:=by
    cases d<;>first
     |(exact absurd rfl (hd _))
     |simp[lh,run_underlying hu]
   refine⟨_,hrun,?_⟩
   split at h
   · simp only[dk] at h;subst h
     rw[VA.pv] at hx;cases hx
     exact .p _ _ (.sc _)
   · simp only[dk] at h;subst h
     rw[VA.pv] at hx
     exact .p _ _ (.jF _ _ _ hx)
   · simp only[dk] at h;subst h
     exact .jF _ _ _ hx
 · cases h
theorem qx (hr : ∀x,VA g w (ρ x) (bD x)) {x:Operand} (ho:o.op = .nilCheck x) {a:AV} (h:jf P ρ o (ρ x)=some a) :
  ∃v,(execOp bD o).run P w = .ok (.value v) w∧VA g w a v:=by
 unfold jf at h
 split at h
 · rename_i off cs hx
   simp only[dk] at h;subst h
   have:=hr x;rw[hx] at this
   refine⟨bD x,?_,this⟩
   generalize hz:bD x=z at this
   rw[VA.pv] at this;cases this
   simp[execOp,ho,hz]
 · rename_i b off hx
   simp only[dk] at h;subst h
   have:=hr x;rw[hx] at this
   refine⟨bD x,?_,this⟩
   generalize hz:bD x=z at this
   cases this
   simp[execOp,ho,hz]
 · rename_i f a' b' hx
   simp only[dk] at h;subst h
   have:=hr x;rw[hx] at this
   refine⟨bD x,?_,this⟩
   generalize hz:bD x=z at this
   cases this
   simp[execOp,ho,hz]
 · exact ej hr (fun _ _=>by rw[ho];exact fun e=>by cases e) h
theorem Ah {argTypes:Array TypeId} {ty:TypeId} {x a:AV} {cx:Value} (h:EG P argTypes x=some a) (hx:VA g w x cx) :
  ∃v,(mc argTypes ty #[cx]).run P w = .ok v w∧VA g w a v:=by
 unfold EG at h
 split at h
 · rename_i t ht
   split at h
   · rename_i len sz cs hu
     simp only[dk] at h;subst h
     rw[VA.pv] at hx
     obtain⟨_,ad,cap,rfl,_⟩:=kZ hx
     exact⟨_,by simp[mc,ht,run_underlying hu,goInt],.p _ _ (.sc _)⟩
   · rename_i tok len sz cs hu
     simp only[dk] at h;subst h
     cases hx with
     |os _ _ _ _ ad cap hx _=>exact⟨_,by simp[mc,ht,run_underlying hu,goInt],.p _ _ (.sc _)⟩
   · rename_i b off len sz cap hu
     simp only[dk] at h;subst h
     cases hx with
     |ms _ _ _ _ cap c _ _=>exact⟨_,by simp[mc,ht,run_underlying hu,goInt],.p _ _ (.sc _)⟩
     |mg _ _ _ _ cap c _ _ _=>exact⟨_,by simp[mc,ht,run_underlying hu,goInt],.p _ _ (.sc _)⟩
   · rename_i s hu
     simp only[dk] at h;subst h
     rw[VA.pv] at hx;cases hx
     rw[show s.data.toList.length=s.size from ik]
     exact⟨_,by simp[mc,ht,run_underlying hu,goInt],.p _ _ (.sc _)⟩
   · rename_i n e hu
     simp only[dk] at h;subst h
     exact⟨_,by simp[mc,ht,run_underlying hu,goInt],.p _ _ (.sc _)⟩
   · cases h
 · cases h
theorem Ai {argTypes:Array TypeId} {ty:TypeId} {x a:AV} {cx:Value} (h:EH P argTypes x=some a) (hx:VA g w x cx) :
  ∃v,(ml argTypes ty #[cx]).run P w = .ok v w∧VA g w a v:=by
 unfold EH at h
 split at h
 · rename_i t ht
   split at h
   · rename_i b off len sz cap hu
     simp only[dk] at h;subst h
     cases hx with
     |ms _ _ _ _ cap c _ _=>exact⟨_,by simp[ml,ht,run_underlying hu,goInt],.p _ _ (.sc _)⟩
   · rename_i len sz cs hu
     simp only[dk] at h;subst h
     cases hx with
     |os _ _ _ _ ad cap hx hr=>
      have hcap:cap=len:=by
       rcases hr with e | ⟨t,b,o,e,_⟩
       · exact e
       · cases e
      subst hcap
      exact⟨_,by simp[ml,ht,run_underlying hu,goInt],.p _ _ (.sc _)⟩
   · rename_i cs hu
     simp only[dk] at h;subst h
     rw[VA.pv] at hx
     cases hx with
     |ps _ _ _ b o cap f hl hc hz hp hv=>omega
     |lU sz a cap hz=>
      obtain⟨rfl,rfl⟩:=hz.resolve_left (by omega)
      exact⟨_,by simp[ml,ht,run_underlying hu,goInt],.p _ _ (.sc _)⟩
   · cases h
 · cases h
end ops
section ops
variable {P:Program} {g:Gh} {m:Mem} {w:World}
theorem cQ : ∀{l:List AV} {bT:List PV} {vs:List Value},iN l=some bT→bO g w l vs→rJ g w bT vs
 |[],bT,vs,h,hv=>by
  simp[iN] at h;subst h
  cases vs with
  |nil=>trivial
  |cons _ _=>exact hv.elim
 |a::l,bT,vs,h,hv=>by
  cases vs with
  |nil=>exact hv.elim
  |cons v vs=>
   simp only[iN] at h
   cases h1:yl a with
   |none=>simp[h1] at h
   |some pv=>
    cases h2:iN l with
    |none=>simp[h1,h2] at h
    |some us=>
     simp only[h1,h2,dk] at h
     subst h
     refine⟨?_,cQ h2 hv.2⟩
     have h0:=hv.1
     cases h0 with
     |p Si _ hp=>simp[yl] at h1;subst h1;exact hp
     |os tok len sz cells ad cap hp _=>simp[yl] at h1;subst h1;exact hp
     |_=>simp[yl] at h1
def qy (P:Program) (g:Gh) (w:World) (sz n:Nat) (bT:List PV) (cx:Value):Prop:=
 ∃vs:List Value,rJ g w bT vs∧vs.length=n*sz∧(∀v∈vs,v.oneCell'=true)∧(mi cx).run P w = .ok n w ∧ ∀k,k≤n→(mf sz k cx).run P w = .ok (vs.take (k*sz)).toArray w
theorem dG {sz n cap:Nat} {bT:List PV} {b o:Nat} {vs:List Value} (h1:rJ g w bT vs) (h2:vs.length=n*sz) (ho : ∀v∈vs,v.oneCell'=true) (h3 : ∀j v,vs[j]? = some v→w.cell? ⟨b,o+j,none⟩=some v) :
  qy P g w sz n bT (.slice (some ⟨b,o,none⟩) n cap):=by
 refine⟨vs,h1,h2,ho,by simp[mi],fun k hk=> ?_⟩
 have hl:(vs.take (k*sz)).length=k*sz:=by
  rw[eQ,h2];exact Nat.min_eq_left (fx _ hk)
 have:=run_loadCells_list (P:=P) w ⟨b,o,none⟩ (vs.take (k*sz)) (fun j v hj=>by
  rw[cm];exact h3 j v (by rw[dq] at hj;split at hj<;>simp_all))
 rw[hl] at this
 simpa[mf] using this
theorem kB {sz n:Nat} {bT:List PV} {cx:Value} (h:VP g w (.ps n sz bT) cx):qy P g w sz n bT cx:=by
 cases h with
 |ps _ _ _ b o cap f hl hc hz hp hv=>
  refine dG (vs:=(fl bT.length).map f) (aV.cP (by simp) fun i hi _=> ?_) (by simp[hl]) (fun v hv=> ?_) fun j v hj=> ?_
  · simpa using hv i hi
  · obtain⟨k,hk,rfl⟩:=fi.1 hv
    exact(hp k (by simpa using hk)).2.2
  · simp only[fe,ja] at hj
    obtain⟨k,hk,rfl⟩:=hj
    obtain⟨hlt,hk⟩:=dT.1 hk
    simp at hlt hk;subst hk
    exact(hp j hlt).2.1
 |lU _ a cap=>
  refine⟨[],trivial,by simp,by simp,by simp[mi],fun k hk=> ?_⟩
  have:k=0:=by omega
  subst this
  cases a<;>simp[mf,loadCells,loadCellsFrom]
theorem lg : ∀{l:List AV},sD l=true→iN l=some (l.map zN)
 |[],_=>rfl
 |.p v::l,h=>by
  have:=lg (l:=l) (by simpa[sD] using h)
  simp[iN,yl,this,zN]
 |.af::_,h | .os .. :: _,h | .mp .. :: _,h | .ms .. :: _,h | .fn .. :: _,h | .agg _::_,h | .bn _::_,h | .jF .. :: _,h | .vm _::_,h | .vy _::_,h=>by simp[sD] at h
theorem dV (h:Rel g m w) {sz n:Nat} {x:AV} {cx:Value} {bT:List PV} (he:contents (fun i=>m.getD i .dead) sz x=some (n,bT,true)) (hx:VA g w x cx) :
  qy P g w sz n bT cx:=by
 unfold contents at he
 split at he
 · simp only[dk,kl] at he
   obtain⟨rfl,rfl,h1⟩:=he
   rw[VA.pv] at hx
   obtain⟨_,ad,cap,rfl,_⟩:=kZ hx
   exact kB (iS hx h1)
 · simp only[dk,kl] at he
   obtain⟨rfl,rfl,h1⟩:=he
   cases hx with
   |os _ _ _ _ ad cap hx _=>exact kB (iS hx h1)
 · rename_i b off len s cap
   cases hx with
   |ms _ _ _ _ cap c hc hcap=>
   split at he
   · rename_i l hl
     simp only[dk,kl,di,fw] at he
     obtain⟨rfl,rfl,rfl,h1⟩:=he
     have h1:=ft h1
     have hm:=getD_some hl (by simp)
     obtain⟨c',cs,e,q,k1,k2,k3,k4,k5⟩:=h.cells b _ _ hm rfl
     rw[hc] at k1;cases k1
     have hone:=k4.2
     have k4:=k4.1
     have hlen:=k4.len
     simp at hlen
     refine dG (vs:=(cs.toList.drop off).take (len*s)) ?_ (by simp;omega) (fun v hv=>hone v (du (dt hv))) fun j v hj=> ?_
     · have:=((k4.drop off).take (len*s))
       rw[←List.map_drop,←List.map_take] at this
       exact aV.cP (by simpa using this.len) fun i a b=>by
        have:=this.get i (by simpa using a) b
        rw[dE,VA.pv] at this
        exact this
     · rw[dq] at hj
       split at hj
       · rw[dv] at hj
         rw[aH k2];simpa using hj
       · cases hj
   · rename_i l hl
     simp only[ja,kl,di,fw] at he
     obtain⟨us,he,rfl,rfl,rfl,h1⟩:=he
     have h1:=ft h1
     have hm:=getD_some hl (by simp)
     obtain⟨c',cs,e,q,k1,k2,k3,k4,k5⟩:=h.cells b _ _ hm rfl
     rw[hc] at k1;cases k1
     have hone:=k4.2
     have k4:=k4.1
     have hlen:=k4.len
     simp at hlen
     refine dG (vs:=(cs.toList.drop off).take (len*s)) (cQ he ((k4.drop off).take (len*s))) (by simp;omega) (fun v hv=>hone v (du (dt hv))) fun j v hj=> ?_
     rw[dq] at hj
     split at hj
     · rw[dv] at hj
       rw[aH k2];simpa using hj
     · cases hj
   · rename_i l hl
     simp only[dk,kl,di,fw] at he
     obtain⟨rfl,rfl,hp,rfl,h1⟩:=he
     have he:=lg hp
     have h1:=ft h1
     obtain⟨c',ob,vs,k1,k2,k3,k4,_,_⟩:=h.obs b _ _ (getD_some hl (by simp))
     rw[hc] at k1;cases k1
     obtain⟨cs,e,q,rfl,_,q0,q1,q2,q3⟩:=k4
     have hlen:=k3.len
     refine dG (vs:=(vs.drop off).take (len*s)) (cQ he ((k3.drop off).take (len*s))) (by simp;omega) (fun v hv=> ?_) fun j v hj=> ?_
     · have hv:=du (dt hv)
       rw[q1] at hv
       exact q3 v (dt hv)
     · rw[dq] at hj
       split at hj
       · rw[dv,q1,dq] at hj
         split at hj
         · rw[aH k2];simpa using hj
         · cases hj
       · cases hj
   · rename_i l hl
     simp only[ja,kl,di,fw] at he
     obtain⟨us,he,rfl,rfl,rfl,h1⟩:=he
     have h1:=ft h1
     obtain⟨c',ob,vs,k1,k2,k3,k4,_,_⟩:=h.obs b _ _ (getD_some hl (by simp))
     rw[hc] at k1;cases k1
     obtain⟨cs,e,q,rfl,_,q0,q1,q2,q3⟩:=k4
     have hlen:=k3.len
     refine dG (vs:=(vs.drop off).take (len*s)) (cQ he ((k3.drop off).take (len*s))) (by simp;omega) (fun v hv=> ?_) fun j v hj=> ?_
     · have hv:=du (dt hv)
       rw[q1] at hv
       exact q3 v (dt hv)
     · rw[dq] at hj
       split at hj
       · rw[dv,q1,dq] at hj
         split at hj
         · rw[aH k2];simpa using hj
         · cases hj
       · cases hj
   · cases he
 · rename_i b off len s
   cases hx with
   |mg _ _ _ _ cap c hc hcap hroom=>
   split at he
   · rename_i l hl
     simp only[dk,kl,di,fw] at he
     obtain⟨rfl,rfl,hp,rfl,h1⟩:=he
     have he:=lg hp
     have h1:=ft h1
     obtain⟨c',ob,vs,k1,k2,k3,k4,_,_⟩:=h.obs b _ _ (getD_some hl (by simp))
     rw[hc] at k1;cases k1
     obtain⟨cs,e,q,rfl,_,q0,q1,q2,q3⟩:=k4
     have hlen:=k3.len
     refine dG (vs:=(vs.drop off).take (len*s)) (cQ he ((k3.drop off).take (len*s))) (by simp;omega) (fun v hv=> ?_) fun j v hj=> ?_
     · have hv:=du (dt hv)
       rw[q1] at hv
       exact q3 v (dt hv)
     · rw[dq] at hj
       split at hj
       · rw[dv,q1,dq] at hj
         split at hj
         · rw[aH k2];simpa using hj
         · cases hj
       · cases hj
   · rename_i l hl
     simp only[ja,kl,di,fw] at he
     obtain⟨us,he,rfl,rfl,rfl,h1⟩:=he
     have h1:=ft h1
     obtain⟨c',ob,vs,k1,k2,k3,k4,_,_⟩:=h.obs b _ _ (getD_some hl (by simp))
     rw[hc] at k1;cases k1
     obtain⟨cs,e,q,rfl,_,q0,q1,q2,q3⟩:=k4
     have hlen:=k3.len
     refine dG (vs:=(vs.drop off).take (len*s)) (cQ he ((k3.drop off).take (len*s))) (by simp;omega) (fun v hv=> ?_) fun j v hj=> ?_
     · have hv:=du (dt hv)
       rw[q1] at hv
       exact q3 v (dt hv)
     · rw[dq] at hj
       split at hj
       · rw[dv,q1,dq] at hj
         split at hj
         · rw[aH k2];simpa using hj
         · cases hj
       · cases hj
   · rename_i l hl
     simp only[dk,kl,di,fw] at he
     obtain⟨rfl,rfl,hp,rfl,h1⟩:=he
     have he:=lg hp
     have h1:=ft h1
     obtain⟨c',ob,vs,k1,k2,k3,k4,_,_⟩:=h.obs b _ _ (getD_some hl (by simp))
     rw[hc] at k1;cases k1
     obtain⟨cs,e,q,rfl,_,q0,q1,q2,q3,_⟩:=k4
     have hlen:=k3.len
     refine dG (vs:=(vs.drop off).take (len*s)) (cQ he ((k3.drop off).take (len*s))) (by simp;omega) (fun v hv=> ?_) fun j v hj=> ?_
     · have hv:=du (dt hv)
       rw[q1] at hv
       obtain⟨k,rfl⟩:=q3 v (dt hv)
       rfl
     · rw[dq] at hj
       split at hj
       · rw[dv,q1,dq] at hj
         split at hj
         · rw[aH k2];simpa using hj
         · cases hj
       · cases hj
   · cases he
 · rename_i s
   simp only[dk,kl,fw] at he
   obtain⟨rfl,rfl,rfl⟩:=he
   rw[VA.pv] at hx;cases hx
   refine⟨s.data.toList.map fun b=> .int .u8 b.toNat,aV.cP (by simp) fun i a b=> ?_,by simp,by simp[mr],?_,fun k hk=> ?_⟩
   · simp only[dE];exact .sc _
   · rw[show s.data.toList.length=s.size from ik];simp[mi]
   · simp only[mf,kp,Result.ok.injEq,and_true]
     apply Array.ext'
     simp[ByteArray.data_extract]
 · cases he
theorem ux {a:AV} {v:Value} (h:kP a=true) (ha:VA g w a v):v.oneCell'=true:=by
 cases ha with
 |p pv cv hp=>cases hp<;>first | rfl | (simpa[kP] using h)
 |agg=>simp[kP] at h
 |bn=>simp[kP] at h
 |af=>simp[kP] at h
 |_=>rfl
theorem iT : ∀{l:List AV} {vs:List Value},jd l=true→bO g w l vs → ∀u∈vs,u.oneCell'=true
 |[],[],_,_,_,hu=>by cases hu
 |a::l,v::vs,h,hv,u,hu=>by
  simp only[jd,di] at h
  cases hu with
  |head=>exact ux h.1 hv.1
  |tail _ hu=>exact iT h.2 hv.2 u hu
 |[],_::_,_,hv,_,_=>hv.elim
 |_::_,[],_,hv,_,_=>hv.elim
theorem j6 {a:AV} {v:Value} (h:(cellsOf a).2=true) (ha:VA g w a v):bO g w (cellsOf a).1 v.cells.toList ∧ ∀u∈v.cells.toList,u.oneCell'=true:=by
 have JL : ∀{v:Value},v.oneCell'=true→v.cells = #[v]:=by intro v h;cases v<;>first | rfl | (simp[mr] at h)
 cases ha with
 |agg l cs hl hh=>
  have:=VA.Ab.1 (.agg l cs hl hh)
  exact⟨this,iT h this⟩
 |p pv cv hp=>
  have h1:=ux (a:= .p pv) (by simpa[cellsOf] using h) (.p pv v hp)
  rw[JL h1]
  exact⟨⟨.p pv v hp,trivial⟩,by simpa using h1⟩
 |os tok len sz cells ad cap hp hr=>
  exact⟨⟨.os tok len sz cells ad cap hp hr,trivial⟩,by simp[mv,mr]⟩
 |mp b off c hc=>exact⟨⟨.mp b off c hc,trivial⟩,by simp[mv,mr]⟩
 |ms b off len sz cap c hc hcap=>exact⟨⟨.ms b off len sz cap c hc hcap,trivial⟩,by simp[mv,mr]⟩
 |mg b off len sz cap c hc hcap hh=>exact⟨⟨.mg b off len sz cap c hc hcap hh,trivial⟩,by simp[mv,mr]⟩
 |vm b c hc=>exact⟨⟨.vm b c hc,trivial⟩,by simp[mv,mr]⟩
 |vy b c hc=>exact⟨⟨.vy b c hc,trivial⟩,by simp[mv,mr]⟩
 |fn f l k fa ca hl hk h1 h2=>exact⟨⟨.fn f l k fa ca hl hk h1 h2,trivial⟩,by simp[mv,mr]⟩
 |jF t v cv hv=>exact⟨⟨.jF t v cv hv,trivial⟩,by simp[mv,mr]⟩
 |af=>simp[cellsOf,kP] at h
 |bn=>simp[cellsOf,kP] at h
theorem xu (off:Nat) : ∀(l:List Value) (k:Nat) (cs:Array Value),
  ((l.zipIdx k).foldl (fun cs (c,j)=>cs.setIfInBounds (off+j) c) cs).toList=bK cs.toList (off+k) l
 |[],k,cs=>rfl
 |v::l,k,cs=>by
  simp only[List.zipIdx_cons,List.foldl_cons,bK]
  rw[xu off l (k+1)]
  simp[gv]
theorem aV.bK {α β:Type} {r:α→β→Prop} : ∀{new:List α} {new':List β} {l:List α} {l':List β} (off:Nat),aV r l l'→aV r new new'→aV r (bK l off new) (bK l' off new')
 |[],[],_,_,_,h,_=>h
 |_::_,_::_,_,_,off,h,k=>aV.bK (off+1) (h.set off k.1) k.2
 |[],_::_,_,_,_,_,k=>k.elim
 |_::_,[],_,_,_,_,k=>k.elim
theorem iw {α:Type} {p:α→Prop} : ∀(n l:List α) (o:Nat),(∀v∈l,p v)→(∀v∈n,p v) → ∀v∈bK l o n,p v
 |[],_,_,h,_=>h
 |x::n,l,o,h,h'=>iw n _ (o+1) (fun v hv=>by
   rcases List.mem_or_eq_of_mem_set hv with k | k
   · exact h v k
   · exact k▸h' x (.head _)) fun v hv=>h' v (.tail _ hv)
theorem jO {place:Nat→Option (Nat×Nat)} : ∀{parts:List (Nat×AV)} {jm:List (Nat×Value)} {cells cs:List AV} {ca:Array Value},
  aV (fun a b=>a.1=b.1∧VA g w a.2 b.2) parts jm→Ac g w cells ca.toList→rF place cells parts=some (cs,true) →
   ∃yK,l4 place ca jm=some yK∧Ac g w cs yK.toList∧yK.size=ca.size
 |[],[],cells,cs,ca,_,hc,h=>by
  simp[rF] at h;subst h
  exact⟨ca,rfl,hc,rfl⟩
 |(i,a)::parts,(j,v)::jm,cells,cs,ca,hp,hc,h=>by
  obtain⟨⟨rfl,hv⟩,hp⟩:=hp
  simp only[rF] at h
  cases Eu:place i with
  |none=>simp[Eu] at h
  |some q=>
   obtain⟨off,size⟩:=q
   simp only[Eu] at h
   cases hf:rF place (bK cells off (cellsOf a).1) parts with
   |none=>simp[hf] at h
   |some r=>
    obtain⟨cs',ok⟩:=r
    simp only[hf,dk,kl,di,fw] at h
    obtain⟨rfl,⟨⟨h0,h1⟩,h2⟩,rfl⟩:=h
    have h2:=ft h2
    have hlc:=hc.1.len
    obtain⟨k1,k2⟩:=j6 h0 hv
    have sJ:=k1.len
    have sK:Ac g w (bK cells off (cellsOf a).1) (bK ca.toList off v.cells.toList):=⟨hc.1.bK off k1,iw _ _ _ hc.2 k2⟩
    have CK:(v.cells.zipIdx.foldl (fun cs (c,j)=>cs.setIfInBounds (off+j) c) ca).toList=bK ca.toList off v.cells.toList:=by
     rw[←Array.foldl_toList,Array.toList_zipIdx,xu];simp
    obtain⟨yK,q1,q2,q3⟩:=jO (ca:=v.cells.zipIdx.foldl (fun cs (c,j)=>cs.setIfInBounds (off+j) c) ca) hp (by rw[CK];exact sK) hf
    have hsz:v.cells.size=size:=by simp at sJ;omega
    have hroom : ¬(off+v.cells.size>ca.size):=by simp at hlc;omega
    refine⟨yK,?_,q2,?_⟩
    · simp only[l4,Eu]
      rw[if_neg (by simp[hsz,hsz▸hroom]<;>omega)]
      exact q1
    · rw[q3]
      have:=congrArg List.length CK
      have Og : ∀(n:List Value) (l:List Value) (o:Nat),(bK l o n).length=l.length:=by
       intro n
       induction n with
       |nil=>intro l o;rfl
       |cons x n ih=>intro l o;simp[bK,ih]
      simpa[Og] using this
 |[],_::_,_,_,_,h,_,_=>h.elim
 |_::_,[],_,_,_,h,_,_=>h.elim
end ops
section ops
variable {P:Program} {g:Gh} {m:Mem} {w:World}
theorem checked_eq {l k:List AV} (h:checked l=some k):k=l∧jd l=true:=by
 unfold checked at h
 cases hb:jd l with
 |false=>simp[hb] at h
 |true=>simp[hb] at h;exact⟨h.symm,rfl⟩
theorem bY {t:TypeId} {l:List AV} (h:zeroCells P t=some l) : ∃z,(∀w,(zeroValue t).run P w = .ok z w)∧Ac g w l z.cells.toList:=by
 unfold zeroCells at h
 cases hi:P.info? t with
 |none=>simp[hi] at h
 |some i=>
  cases hz:i.zero with
  |none=>simp[hi,hz] at h
  |some z=>
   have hrun : ∀w,(zeroValue t).run P w = .ok z w:=fun w=>by simp[zeroValue,typeInfo,hi,hz]
   refine⟨z,hrun,?_⟩
   simp only[hi,Option.bind_some,hz] at h
   cases z<;>(obtain⟨rfl,hc⟩:=checked_eq h)<;>first
    |exact⟨bO.gX _,iT hc (bO.gX (g:=g) (w:=w) _)⟩
    |exact⟨⟨VA.gM _,trivial⟩,iT (vs:=[_]) hc ⟨VA.gM (g:=g) (w:=w) _,trivial⟩⟩
theorem mw : ∀{fs:List Field} {pl:List (Nat×Nat)},placesOf P fs=some pl → ∀w,(fs.mapM fun f=>do pure (f.offset,←sizeOf f.type):Sem (List (Nat×Nat))).run P w = .ok pl w
 |[],pl,h,w=>by simp[placesOf] at h;subst h;simp
 |f::fs,pl,h,w=>by
  simp only[placesOf] at h
  cases h1:eV P f.type with
  |none=>simp[h1] at h
  |some n=>
   cases h2:placesOf P fs with
   |none=>simp[h1,h2] at h
   |some l=>
    simp only[h1,h2,dk] at h
    subst h
    have ih:=mw h2 w
    simp only[List.mapM_cons,km,aB h1,kv,kp,ih]
theorem wu {t:TypeId} {parts:List (Nat×AV)} {jm:Array (Nat×Value)} {a:AV} (h:tr P t parts=some (a,true)) (hp:aV (fun a b=>a.1=b.1∧VA g w a.2 b.2) parts jm.toList) :
  ∃v,(lr t jm).run P w = .ok v w∧VA g w a v:=by
 unfold tr at h
 split at h
 · rename_i z fields hz hu
   split at h
   · rename_i pl Eu
     simp only[ja,kl] at h
     obtain⟨⟨cs,ok⟩,h1,rfl,h2⟩:=h
     simp only at h2;subst h2
     obtain⟨zv,CL,BN⟩:=bY (g:=g) (w:=w) hz
     obtain⟨ca,h3,h4,_⟩:=jO hp BN h1
     refine⟨.agg ca,?_,VA.Ab.2 h4.1⟩
     have Oh:(fields.mapM fun f=>do pure (f.offset,←sizeOf f.type):Sem (Array (Nat×Nat))).run P w = .ok pl.toArray w:=by
      rw[Array.mapM_eq_mapM_toList]
      simp only[Sem.run_map,mw Eu w,kv]
     have hfun:(fun i:Nat=>pl.toArray[i]?)=fun i:Nat=>pl[i]? :=by funext i;simp
     simp only[lr,km,CL,kv,run_underlying hu,Oh,hfun,h3,kp]
   · cases h
 · rename_i z n elem hz hu
   split at h
   · rename_i size hsz
     simp only[ja,kl] at h
     obtain⟨⟨cs,ok⟩,h1,rfl,h2⟩:=h
     simp only at h2;subst h2
     obtain⟨zv,CL,BN⟩:=bY (g:=g) (w:=w) hz
     obtain⟨ca,h3,h4,_⟩:=jO hp BN h1
     exact⟨.agg ca,by simp only[lr,km,CL,kv,run_underlying hu,aB hsz,h3,kp],VA.Ab.2 h4.1⟩
   · cases h
 · cases h
theorem mz {α:Type} (z:List α) : ∀n,(bX z n).length=n*z.length
 |0=>by simp[bX]
 |n+1=>by simp[bX,mz z n,Nat.succ_mul,Nat.add_comm]
theorem rL {α:Type} (z:List α) : ∀(n i:Nat) (h:i<(bX z n).length),∃h':i%z.length<z.length,(bX z n)[i]=z[i%z.length]
 |0,i,h=>by simp[bX] at h
 |n+1,i,h=>by
  simp only[bX,dC] at h
  by_cases hlt:i<z.length
  · refine⟨by rw[ib hlt];exact hlt,?_⟩
    simp only[bX,fb,hlt,dite_true,ib hlt]
  · obtain⟨h1,h2⟩:=rL z n (i-z.length) (by omega)
    have e:(i-z.length)%z.length=i%z.length:=by rw[←Nat.mod_eq_sub_mod (by omega)]
    refine⟨by rw[←e];exact h1,?_⟩
    simp only[bX,fb,hlt,dite_false,h2,e]
theorem qz {α:Type} {r:α→Value→Prop} {z:List α} {zv:Array Value} (hz:aV r z zv.toList) (n:Nat) :
  aV r (bX z n) ((ix (n*zv.size)).map (zv[· % zv.size]!)).toList:=by
 have hl:=hz.len
 simp at hl
 refine aV.cP (by simp[mz,hl]) fun i hi hj=> ?_
 obtain⟨h1,h2⟩:=rL z n i hi
 rw[h2]
 have h3:i%zv.size<zv.size:=hl▸h1
 simp only[iv,iu,dE,List.getElem_range]
 rw[getElem!_pos zv _ h3]
 have:=hz.get (i%z.length) h1 (by simpa[←hl] using h1)
 simpa[hl] using this
theorem yL {zv:Array Value} (h : ∀v∈zv.toList,v.oneCell'=true) (n:Nat) : ∀v∈((ix (n*zv.size)).map (zv[· % zv.size]!)).toList,v.oneCell'=true:=by
 intro v hv
 simp only[iv,iu,fi,List.mem_range] at hv
 obtain⟨i,hi,rfl⟩:=hv
 have h3:i%zv.size<zv.size:=Nat.mod_lt _ (Nat.pos_of_ne_zero fun e=>by simp[e] at hi)
 rw[getElem!_pos zv _ h3]
 exact h _ (by simp)
theorem gC {α:Type} (v:α) : ∀n,List.replicate n v=bX [v] n
 |0=>rfl
 |n+1=>by rw[List.replicate_succ,gC v n];rfl
theorem E4 {elem:TypeId} {n:Nat} {l:List AV} (h:zeros P elem n=some l) : ∃size z,eV P elem=some size∧zeroCells P elem=some z∧z.length=size∧1≤size∧l=bX z n:=by
 unfold zeros at h
 split at h
 · rename_i size z h1 h2
   cases hb:(a6 z.length size&&a7 1 size) with
   |false=>simp[hb] at h
   |true=>
    simp only[hb,cond_true] at h
    simp only[di,fw] at hb
    refine⟨size,z,h1,h2,hb.1,ft hb.2,?_⟩
    split at h
    · simp only[dk] at h;rw[←h,gC]
    · simp only[dk] at h;exact h.symm
 · cases h
theorem E5 {elem:TypeId} {n:Nat} {b:aF} (h:EE P elem n=some b) : ∃size z,eV P elem=some size∧zeroCells P elem=some z∧z.length=size∧1≤size∧b.cells?=some (bX z n):=by
 have L0 : ∀(vs:List PV) n,(bX vs n).map AV.p=bX (vs.map AV.p) n:=by
  intro vs n
  induction n with
  |zero=>rfl
  |succ n ih=>simp[bX,ih]
 unfold EE at h
 split at h
 · rename_i size z h1 h2
   cases hb:(a6 z.length size&&a7 1 size) with
   |false=>simp[hb] at h
   |true=>
    simp only[hb,cond_true] at h
    simp only[di,fw] at hb
    refine⟨size,z,h1,h2,hb.1,ft hb.2,?_⟩
    split at h
    · rename_i v hv
      simp only[dk] at h;subst h
      have:=oZ hv
      simp only[aF.cells?,gC,L0,this]
    · rename_i vs _ hv
      simp only[dk] at h;subst h
      have:=oZ hv
      simp only[aF.cells?,L0,this]
    · simp only[dk] at h;subst h;rfl
 · cases h
theorem dM (w:World) (o:Obj):om w (w.alloc o) o:=⟨rfl,rfl,rfl,rfl⟩
theorem bQ.alloc (h:Rel g m w) {aK:Nat} (hn:m[aK]? = some .free) {l:List AV} {cs:Array Value} {e:TypeId} {b:aF} (hb:b.cells?=some l) (hv:Ac g w l cs.toList) {r:Result Next} {v:Value} {a:AV}
  (hr:r = .ok (.value v) (w.alloc (.cells cs e))) (ha : ∀g':Gh,g'.aN aK=some w.heap.size→VA g' (w.alloc (.cells cs e)) a v):bQ g m w r a (m.set aK b):=by
 obtain⟨h1,h2,h3⟩:=h.alloc hn hb hv (dM w (.cells cs e))
 exact⟨v,_,_,.inl hr,ha _ (by simp[Gh.put]),h1,h2,h3⟩
end ops
end Go.Am
end
