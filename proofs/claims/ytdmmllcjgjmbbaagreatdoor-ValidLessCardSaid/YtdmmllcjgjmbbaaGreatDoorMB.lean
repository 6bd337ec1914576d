import Derived.Test.YtdmmllcjgjmbbaaGreatDoorMA
open Option.some renaming injEq→c9,inj→da
open List renaming getD_eq_getElem?_getD→ch,getElem?_take→db,getElem?_eq_getElem→cb,mem_of_mem_take→dd,mem_of_mem_drop→de,getElem?_drop→df,length_append→di,getElem_map→dk,getElem?_eq_some_iff→dp,take_of_length_le→dq,getElem?_eq_none→dt,length_set→du,length_drop→dv,length_take→dC,getElem_append→dE,getElem?_map→dT,getElem_mem→ed,drop_take→ee,mem_map→eh,range→ei
open Nat renaming le_of_ble_eq_true→en,le_refl→bx,lt_irrefl→eQ,beq_eq→fb,le_trans→ba,mul_le_mul_right→fe,eq_of_beq_eq_true→ai,beq→ae,lt_or_ge→fg,sub_mul→fh,add_assoc→fi,mod_eq_of_lt→fl,ble→ag,blt_eq→ft
open Array renaming getElem?_eq_getElem→fv,length_toList→fw,getElem?_push→fx,toList_range→gg,toList_map→gn,range→gv
open Option renaming map_eq_some_iff→hC,map_none→hP,map_some→hZ,isSome_iff_exists→ib,getD_some→ic
open Bool renaming and_eq_true→c8,eq_false_iff→ie,or_eq_true→il,not_eq_true'→im
open Prod.mk renaming injEq→iu
open Go.Sem renaming run_bind→iv,run_pure→ja
open Go.Result renaming andThen_ok→jb
open Go.Instr renaming sliceBounds→jn,sliceAt→j1,slice→j2,indexAt→ka,sureAddr→kb,sliceBound→kc,index→kd,build→kh,fieldAt→kl,field→km,fill→kp
open Go.Op renaming eqFields→kv,intArith→kx
open Go.Builtin renaming len_→ky,firstCells→kz,lenOf→la,cap_→lh
open Go.Value renaming oneCell'→lj,cells→lk
section
namespace Go.Am
open Go.RowKit
theorem nH : ∀{l:List AV},qE l=true→(l.map zg).map AV.p=l
 |[],_=>rfl
 |.p v::r,h=>by
  simp only[qE] at h
  have:=nH h
  simp only[List.map_cons,zg]
  rw[this]
 |.ah::_,h | .os .. :: _,h | .mp .. :: _,h | .ms .. :: _,h | .fn .. :: _,h | .agg _::_,h | .au _::_,h | .nu .. :: _,h | .vm _::_,h | .vy _::_,h=>by simp[qE] at h
theorem qQ {l:List AV} {vs:List PV} (h:Jd l=some vs):vs.map AV.p=l:=by
 unfold Jd at h
 cases hp:qE l with
 |false=>simp[hp] at h
 |true=>
  simp only[hp,cond_true,c9] at h
  subst h
  exact nH hp
theorem nI (l:List AV):(C6 l).cells?=some l:=by
 unfold C6
 cases h:Jd l with
 |none=>rfl
 |some vs=>simp[aU.cells?,qQ h]
theorem cR {b:aU} {l:List AV} (h:b.cells?=some l):b.dB=true:=by cases b<;>simp_all [aU.cells?,aU.dB]
def Gh.put (g:Gh) (i c lo hi:Nat):Gh:=
 {g with bP:=fun j=>if j=i then some c else g.bP j,lo:=fun j=>if j=i then lo else g.lo j,hi:=fun j=>if j=i then hi else g.hi j}
def Gh.more (g:Gh) (c lo hi:Nat):Gh:={g with pure:=fun c' o=>g.pure c' o∨(c'=c∧lo≤o∧o<hi)}
theorem getElem?_set' {α:Type} (l:List α) (i j:Nat) (a:α):(l.set i a)[j]? = if i=j∧i<l.length then some a else l[j]? :=by
 rw[List.getElem?_set]
 by_cases h:i=j
 · subst h;by_cases h2:i<l.length<;>simp[h2]
 · simp[h]
theorem bq {α:Type} {l:List α} {i:Nat} {a:α} (h:l[i]? = some a):i<l.length:=(dp.1 h).1
theorem dR {w w':World} {c o:Nat} (h:w'.heap[c]? = w.heap[c]?):w'.cell? ⟨c,o,none⟩=w.cell? ⟨c,o,none⟩:=by
 simp only[World.cell?,h]
theorem aX {w:World} {c o:Nat} {cs:Array Value} {e:TypeId} {n:Nat×Nat} (h:w.heap[c]? = some (.cells cs e n)):w.cell? ⟨c,o,none⟩=cs[o]? :=by
 simp[World.cell?,h]
theorem bI {w:World} {c:Nat} {o:Obj} (h:w.heap[c]? = some o):c<w.heap.size:=by
 rcases fg c w.heap.size with k | k
 · exact k
 · simp[Array.getElem?_eq_none k] at h
theorem sU {g:Gh} {m:Mem} {i:Nat} {b:aU} {c:Nat} (h:gp g (m.set i b) c):(b.dB=true∧g.bP i=some c)∨(∃j b',j≠i∧m[j]? = some b'∧b'.dB=true∧g.bP j=some c):=by
 obtain⟨j,b',hj,ho,hc⟩:=h
 rw[getElem?_set'] at hj
 by_cases e:i=j∧i<m.length
 · rw[if_pos e] at hj;cases hj;exact .inl ⟨ho,e.1▸hc⟩
 · rw[if_neg e] at hj
   refine .inr ⟨j,b',fun h=> ?_,hj,ho,hc⟩
   subst h
   exact e ⟨rfl,bq hj⟩
theorem Rel.kill {g:Gh} {m:Mem} {w:World} (h:Rel g m w) (i:Nat):Rel g (m.set i .dead) w∧dm g m w g (m.set i .dead) w:=by
 have get : ∀j b,(m.set i .dead)[j]? = some b→b = .dead∨(j≠i∧m[j]? = some b):=by
  intro j b hj
  rw[getElem?_set'] at hj
  by_cases e:i=j∧i<m.length
  · rw[if_pos e] at hj;exact .inl (da hj).symm
  · rw[if_neg e] at hj
    by_cases e2:i=j
    · subst e2;exact absurd ⟨rfl,bq hj⟩ e
    · exact .inr ⟨fun h=>e2 h.symm,hj⟩
 refine⟨⟨fun j hj=>h.zb j (by simpa using hj),fun j hj=> ?_,fun j b l hj hl=> ?_,fun j c hj hc=> ?_,fun j k b b' c hj hk ho ho' hc fO=> ?_,h.there,fun j kk ll hj=> ?_⟩,dm.less fun c ho=> ?_⟩
 · rcases get j _ hj with e | ⟨_,e⟩
   · cases e
   · exact h.free j e
 · rcases get j _ hj with e | ⟨_,e⟩
   · subst e;cases hl
   · exact h.cells j b l e hl
 · rcases get j _ hj with e | ⟨_,e⟩
   · cases e
   · exact h.tok j c e hc
 · rcases get j _ hj with e | ⟨_,e⟩
   · subst e;simp[aU.dB] at ho
   rcases get k _ hk with e' | ⟨_,e'⟩
   · subst e';simp[aU.dB] at ho'
   exact h.inj j k b b' c e e' ho ho' hc fO
 · rcases get j _ hj with e | ⟨_,e⟩
   · cases e
   · exact h.obs j kk ll e
 · obtain⟨j,b,hj,hb,hc⟩:=ho
   rcases get j _ hj with e | ⟨_,e⟩
   · subst e;simp[aU.dB] at hb
   · exact⟨j,b,e,hb,hc⟩
theorem Rel.write {g:Gh} {m:Mem} {w w':World} (h:Rel g m w) {i c:Nat} {b b':aU} {l l':List AV} {cs':Array Value} {e':TypeId} {n':Nat×Nat}
  (hi:m[i]? = some b) (hl:b.cells?=some l) (hc:g.bP i=some c) (hl':b'.cells?=some l')
  (hw : ∀k,k≠c→w'.heap[k]? = w.heap[k]?) (hs:w'.heap.size=w.heap.size) (ho:w'.os=w.os) (ht:w'.tape=w.tape) (hu:w'.output=w.output)
  (hh:w'.heap[c]? = some (.cells cs' e' n')) (hn:n'.2≤n'.1) (hv:Fc g w l' cs'.toList) :
  Rel g (m.set i b') w'∧Ext g w g w'∧dm g m w g (m.set i b') w':=by
 obtain⟨c0,cs,e,n,h1,h2,h3,h4,h5⟩:=h.cells i b l hi hl
 rw[hc] at h1;cases h1
 have hp : ∀c' o,g.pure c' o→w'.cell? ⟨c',o,none⟩=w.cell? ⟨c',o,none⟩:=fun c' o p=>dR (hw c' fun e=>h5 o (e▸p))
 have ext:Ext g w g w':=⟨fun _ _ h=>⟨h,rfl,rfl⟩,fun c' o p=>⟨p,hp c' o p⟩⟩
 have get : ∀j x,(m.set i b')[j]? = some x→(j=i∧x=b')∨(j≠i∧m[j]? = some x):=by
  intro j x hj
  rw[getElem?_set'] at hj
  by_cases e:i=j∧i<m.length
  · rw[if_pos e] at hj;exact .inl ⟨e.1.symm,(da hj).symm⟩
  · rw[if_neg e] at hj
    by_cases e2:i=j
    · subst e2;exact absurd ⟨rfl,bq hj⟩ e
    · exact .inr ⟨fun h=>e2 h.symm,hj⟩
 have ne : ∀j x c',j≠i→m[j]? = some x→x.dB=true→g.bP j=some c'→c'≠c:=fun j x c' hji hj ho fO e=>hji (h.inj j i x b c hj hi ho (cR hl) (e▸fO) hc)
 refine⟨⟨fun j hj=>h.zb j (by simpa using hj),fun j hj=> ?_,fun j x k hj hk=> ?_,fun j c' hj fO=> ?_,fun j k x x' c' hj hk ho ho' gP iO=> ?_,fun c' o p=> ?_,fun j kk ll hj=> ?_⟩,ext,⟨by omega,fun k hk hn=> ?_,fun c' o p=>⟨p,hp c' o p⟩,fun _ _ p=> .inl p,fun c' ho'=> ?_,ho,ht,hu⟩⟩
 · rcases get j _ hj with⟨rfl,e⟩ | ⟨_,e⟩
   · subst e;cases hl'
   · exact h.free j e
 · rcases get j _ hj with⟨rfl,e⟩ | ⟨hji,e⟩
   · subst e
     rw[hl'] at hk;cases hk
     exact⟨c,cs',e',n',hc,hh,hn,hv.mono ext,h5⟩
   · obtain⟨c1,cs1,e1,n1,k1,k2,k3,k4,k5⟩:=h.cells j x k e hk
     exact⟨c1,cs1,e1,n1,k1,(hw c1 (ne j x c1 hji e (cR hk) k1)).trans k2,k3,k4.mono ext,k5⟩
 · rcases get j _ hj with⟨rfl,e⟩ | ⟨hji,e⟩
   · subst e;cases hl'
   · obtain⟨cs1,e1,n1,k2,k3,k4,k5⟩:=h.tok j c' e fO
     exact⟨cs1,e1,n1,(hw c' (ne j _ c' hji e rfl fO)).trans k2,k3,k4,k5⟩
 · rcases get j _ hj with⟨rfl,e⟩ | ⟨hji,e⟩<;>rcases get k _ hk with⟨rfl,e'⟩ | ⟨hki,e'⟩
   · rfl
   · rw[hc] at gP;cases gP
     exact absurd rfl (ne k x' _ hki e' ho' iO)
   · rw[hc] at iO;cases iO
     exact absurd rfl (ne j x _ hji e ho gP)
   · exact h.inj j k x x' c' e e' ho ho' gP iO
 · obtain⟨v,hv⟩:=h.there c' o p
   exact⟨v,(hp c' o p).trans hv⟩
 · rcases get j _ hj with⟨rfl,e⟩ | ⟨hji,e⟩
   · subst e;cases hl'
   · obtain⟨c1,Fm,vs1,k1,k2,k3,k6,k7,k8⟩:=h.obs j kk ll e
     exact⟨c1,Fm,vs1,k1,(hw c1 (ne j _ c1 hji e rfl k1)).trans k2,k3.mono ext,k6,k7,k8⟩
 · exact hw k fun e=>hn ⟨i,b,hi,cR hl,e▸hc⟩
 · rcases sU ho' with⟨_,k⟩ | ⟨j,x,_,k1,k2,k3⟩
   · exact .inl ⟨i,b,hi,cR hl,k⟩
   · exact .inl ⟨j,x,k1,k2,k3⟩
theorem aP {m:Mem} {i:Nat} {b':aU} {j:Nat} {x:aU} (hj:(m.set i b')[j]? = some x):(j=i∧x=b')∨(j≠i∧m[j]? = some x):=by
 rw[getElem?_set'] at hj
 by_cases e:i=j∧i<m.length
 · rw[if_pos e] at hj;exact .inl ⟨e.1.symm,(da hj).symm⟩
 · rw[if_neg e] at hj
   by_cases e2:i=j
   · subst e2;exact absurd ⟨rfl,bq hj⟩ e
   · exact .inr ⟨fun h=>e2 h.symm,hj⟩
structure qc (w w':World) (o:Obj):Prop where
 heap:w'.heap=w.heap.push o
 os:w'.os=w.os
 tape:w'.tape=w.tape
 output:w'.output=w.output
theorem qc.old {w w':World} {o:Obj} (h:qc w w' o) {k:Nat} (hk:k<w.heap.size):w'.heap[k]? = w.heap[k]? :=by
 rw[h.heap,fx,if_neg (by omega)]
theorem qc.new {w w':World} {o:Obj} (h:qc w w' o):w'.heap[w.heap.size]? = some o:=by
 rw[h.heap,fx,if_pos rfl]
theorem qc.size {w w':World} {o:Obj} (h:qc w w' o):w'.heap.size=w.heap.size+1:=by rw[h.heap];simp
theorem Rel.alloc {g:Gh} {m:Mem} {w w':World} (h:Rel g m w) {i:Nat} {b:aU} {l:List AV} {cs:Array Value} {e:TypeId}
  (hi:m[i]? = some .free) (hl:b.cells?=some l) (hv:Fc g w l cs.toList) (hw:qc w w' (.cells cs e)) :
  Rel (g.put i w.heap.size 0 0) (m.set i b) w'∧Ext g w (g.put i w.heap.size 0 0) w'∧dm g m w (g.put i w.heap.size 0 0) (m.set i b) w':=by
 have hf:=h.free i hi
 have BP:=bq hi
 have hp : ∀c o,g.pure c o→w'.cell? ⟨c,o,none⟩=w.cell? ⟨c,o,none⟩:=fun c o p=>dR (hw.old (h.mA p))
 have bo : ∀j,j≠i→(g.put i w.heap.size 0 0).bP j=g.bP j:=fun j hj=>by simp[Gh.put,hj]
 have bi:(g.put i w.heap.size 0 0).bP i=some w.heap.size:=by simp[Gh.put]
 have ext:Ext g w (g.put i w.heap.size 0 0) w':=⟨fun j c hc=>by
  have:j≠i:=fun e=>by subst e;rw[hf] at hc;cases hc
  simp[Gh.put,this,hc],fun c o p=>⟨p,hp c o p⟩⟩
 have lt : ∀j x c,m[j]? = some x→x.dB=true→g.bP j=some c→c<w.heap.size:=fun j x c hj ho hc=>h.lG ⟨j,x,hj,ho,hc⟩
 refine⟨⟨fun j hj=> ?_,fun j hj=> ?_,fun j x k hj hk=> ?_,fun j c hj hc=> ?_,fun j k x x' c hj hk ho ho' gP iO=> ?_,fun c o p=> ?_,fun j kk ll hj=> ?_⟩,ext,⟨by rw[hw.size];omega,fun k hk _=>hw.old hk,fun c o p=>⟨p,hp c o p⟩,fun _ _ p=> .inl p,fun c ho=> ?_,hw.os,hw.tape,hw.output⟩⟩
 · rw[du] at hj
   rw[bo j (by omega)];exact h.zb j hj
 · rcases aP hj with⟨rfl,e⟩ | ⟨hji,e⟩
   · subst e;cases hl
   · rw[bo j hji];exact h.free j e
 · rcases aP hj with⟨rfl,e⟩ | ⟨hji,e⟩
   · subst e;rw[hl] at hk;cases hk
     refine⟨_,cs,_,(0,0),bi,hw.new,bx _,hv.mono ext,fun o p=> ?_⟩
     have:=h.mA p
     omega
   · obtain⟨c1,cs1,e1,n1,k1,k2,k3,k4,k5⟩:=h.cells j x k e hk
     exact⟨c1,cs1,e1,n1,(bo j hji).trans k1,(hw.old (bI k2)).trans k2,k3,k4.mono ext,k5⟩
 · rcases aP hj with⟨rfl,e⟩ | ⟨hji,e⟩
   · subst e;cases hl
   · rw[bo j hji] at hc
     obtain⟨cs1,e1,n1,k2,k3,k4,k5⟩:=h.tok j c e hc
     have h1:(g.put i w.heap.size 0 0).hi j=g.hi j:=by simp[Gh.put,hji]
     have h2:(g.put i w.heap.size 0 0).lo j=g.lo j:=by simp[Gh.put,hji]
     rw[h1,h2]
     exact⟨cs1,e1,n1,(hw.old (bI k2)).trans k2,k3,k4,k5⟩
 · rcases aP hj with⟨rfl,e⟩ | ⟨hji,e⟩<;>rcases aP hk with⟨rfl,e'⟩ | ⟨hki,e'⟩
   · rfl
   · rw[bi] at gP;cases gP
     rw[bo k hki] at iO
     exact absurd (lt k x' _ e' ho' iO) (eQ _)
   · rw[bi] at iO;cases iO
     rw[bo j hji] at gP
     exact absurd (lt j x _ e ho gP) (eQ _)
   · rw[bo j hji] at gP;rw[bo k hki] at iO
     exact h.inj j k x x' c e e' ho ho' gP iO
 · obtain⟨v,hv⟩:=h.there c o p
   exact⟨v,(hp c o p).trans hv⟩
 · rcases aP hj with⟨rfl,e⟩ | ⟨hji,e⟩
   · subst e;cases hl
   · obtain⟨c1,Fm,vs1,k1,k2,k3,k6,k7,k8⟩:=h.obs j kk ll e
     exact⟨c1,Fm,vs1,(bo j hji).trans k1,(hw.old (bI k2)).trans k2,k3.mono ext,k6,k7,by simpa[Gh.put,hji] using k8⟩
 · obtain⟨j,x,hj,hx,hc⟩:=ho
   rcases aP hj with⟨rfl,e⟩ | ⟨hji,e⟩
   · rw[bi] at hc;cases hc;exact .inr (bx _)
   · rw[bo j hji] at hc;exact .inl ⟨j,x,e,hx,hc⟩
theorem Rel.fresh {g:Gh} {m:Mem} {w w':World} (h:Rel g m w) {i k:Nat} {cs:Array Value} {e:TypeId} {n:Nat×Nat}
  (hi:m[i]? = some .free) (hw:qc w w' (.cells cs e n)) (hk:k≤cs.size) (hn:n.2≤n.1∨cs.size≤n.1) :
  let g':=(g.put i w.heap.size k cs.size).more w.heap.size 0 k
  Rel g' (m.set i .tok) w'∧Ext g w g' w'∧dm g m w g' (m.set i .tok) w':=by
 intro g'
 have hf:=h.free i hi
 have BP:=bq hi
 have hp : ∀c o,g.pure c o→w'.cell? ⟨c,o,none⟩=w.cell? ⟨c,o,none⟩:=fun c o p=>dR (hw.old (h.mA p))
 have bo : ∀j,j≠i→g'.bP j=g.bP j:=fun j hj=>by simp[g',Gh.put,Gh.more,hj]
 have bi:g'.bP i=some w.heap.size:=by simp[g',Gh.put,Gh.more]
 have ext:Ext g w g' w':=⟨fun j c hc=>by
  have:j≠i:=fun e=>by subst e;rw[hf] at hc;cases hc
  simp[g',Gh.put,Gh.more,this,hc],fun c o p=>⟨.inl p,hp c o p⟩⟩
 have lt : ∀j x c,m[j]? = some x→x.dB=true→g.bP j=some c→c<w.heap.size:=fun j x c hj ho hc=>h.lG ⟨j,x,hj,ho,hc⟩
 refine⟨⟨fun j hj=> ?_,fun j hj=> ?_,fun j x l hj hl=> ?_,fun j c hj hc=> ?_,fun j k x x' c hj hk ho ho' gP iO=> ?_,fun c o p=> ?_,fun j kk ll hj=> ?_⟩,ext,⟨by rw[hw.size];omega,fun k hk _=>hw.old hk,fun c o p=>⟨.inl p,hp c o p⟩,fun c o p=> ?_,fun c ho=> ?_,hw.os,hw.tape,hw.output⟩⟩
 · rw[du] at hj
   rw[bo j (by omega)];exact h.zb j hj
 · rcases aP hj with⟨rfl,e⟩ | ⟨hji,e⟩
   · cases e
   · rw[bo j hji];exact h.free j e
 · rcases aP hj with⟨rfl,e⟩ | ⟨hji,e⟩
   · subst e;cases hl
   · obtain⟨c1,cs1,e1,n1,k1,k2,k3,k4,k5⟩:=h.cells j x l e hl
     refine⟨c1,cs1,e1,n1,(bo j hji).trans k1,(hw.old (bI k2)).trans k2,k3,k4.mono ext,fun o p=> ?_⟩
     rcases p with p | ⟨rfl,_⟩
     · exact k5 o p
     · exact absurd (bI k2) (eQ _)
 · rcases aP hj with⟨rfl,_⟩ | ⟨hji,e⟩
   · rw[bi] at hc;cases hc
     refine⟨cs,_,n,hw.new,by simp[g',Gh.put,Gh.more],by simpa[g',Gh.put,Gh.more] using hn,fun o h1 _ p=> ?_⟩
     have h1':k≤o:=by simpa[g',Gh.put,Gh.more] using h1
     rcases p with p | ⟨_,_,p⟩
     · exact absurd (h.mA p) (eQ _)
     · omega
   · rw[bo j hji] at hc
     obtain⟨cs1,e1,n1,k2,k3,k4,k5⟩:=h.tok j c e hc
     have h1:g'.hi j=g.hi j:=by simp[g',Gh.put,Gh.more,hji]
     have h2:g'.lo j=g.lo j:=by simp[g',Gh.put,Gh.more,hji]
     rw[h1,h2]
     refine⟨cs1,e1,n1,(hw.old (bI k2)).trans k2,k3,k4,fun o a b p=> ?_⟩
     rcases p with p | ⟨rfl,_⟩
     · exact k5 o a b p
     · exact absurd (bI k2) (eQ _)
 · rcases aP hj with⟨rfl,e⟩ | ⟨hji,e⟩<;>rcases aP hk with⟨rfl,e'⟩ | ⟨hki,e'⟩
   · rfl
   · rw[bi] at gP;cases gP
     rw[bo k hki] at iO
     exact absurd (lt k x' _ e' ho' iO) (eQ _)
   · rw[bi] at iO;cases iO
     rw[bo j hji] at gP
     exact absurd (lt j x _ e ho gP) (eQ _)
   · rw[bo j hji] at gP;rw[bo k hki] at iO
     exact h.inj j k x x' c e e' ho ho' gP iO
 · rcases p with p | ⟨rfl,_,p⟩
   · obtain⟨v,hv⟩:=h.there c o p
     exact⟨v,(hp c o p).trans hv⟩
   · exact⟨cs[o],by rw[aX hw.new,fv (by omega)]⟩
 · rcases aP hj with⟨rfl,e⟩ | ⟨hji,e⟩
   · cases e
   · obtain⟨c1,Fm,vs1,k1,k2,k3,k6,k7,k8⟩:=h.obs j kk ll e
     exact⟨c1,Fm,vs1,(bo j hji).trans k1,(hw.old (bI k2)).trans k2,k3.mono ext,k6,fun o p=>p.elim (k7 o) fun q=>absurd (bI k2) (by rw[q.1];exact eQ _),by simpa[g',Gh.put,Gh.more,hji] using k8⟩
 · rcases p with p | ⟨rfl,_⟩
   · exact .inl p
   · exact .inr (.inr (bx _))
 · obtain⟨j,x,hj,hx,hc⟩:=ho
   rcases aP hj with⟨rfl,e⟩ | ⟨hji,e⟩
   · rw[bi] at hc;cases hc;exact .inr (bx _)
   · rw[bo j hji] at hc;exact .inl ⟨j,x,e,hx,hc⟩
theorem Rel.spare {g:Gh} {m:Mem} {w w':World} (h:Rel g m w) {t i c k:Nat} {cs cs':Array Value} {e e':TypeId} {n:Nat×Nat}
  (ht:m[t]? = some .tok) (hc:g.bP t=some c) (hi:m[i]? = some .free) (hcs:w.heap[c]? = some (.cells cs e n)) (hk:g.lo t+k≤g.hi t)
  (hw : ∀j,j≠c→w'.heap[j]? = w.heap[j]?) (hs:w'.heap.size=w.heap.size) (ho:w'.os=w.os) (htp:w'.tape=w.tape) (hu:w'.output=w.output)
  (hh:w'.heap[c]? = some (.cells cs' e' n)) (hcz:cs'.size=cs.size) (hout : ∀o,o<g.lo t∨g.hi t≤o→cs'[o]? = cs[o]?) :
  let g':=(g.put i c (g.lo t+k) (g.hi t)).more c (g.lo t) (g.lo t+k)
  Rel g' ((m.set t .dead).set i .tok) w'∧Ext g w g' w'∧dm g m w g' ((m.set t .dead).set i .tok) w':=by
 intro g'
 have hf:=h.free i hi
 have BP:=bq hi
 have Tu:t≠i:=fun e=>by subst e;rw[ht] at hi;cases hi
 obtain⟨cs0,e0,n0,q1,q2,q3,q4⟩:=h.tok t c ht hc
 rw[hcs] at q1;cases q1
 have hp : ∀c' o,g.pure c' o→w'.cell? ⟨c',o,none⟩=w.cell? ⟨c',o,none⟩:=by
  intro c' o p
  by_cases e:c'=c
  · subst e
    rw[aX hh,aX hcs]
    refine hout o ?_
    rcases fg o (g.lo t) with a | a
    · exact .inl a
    · rcases fg o (g.hi t) with b | b
      · exact absurd p (q4 o a b)
      · exact .inr b
  · exact dR (hw c' e)
 have bo : ∀j,j≠i→g'.bP j=g.bP j:=fun j hj=>by simp[g',Gh.put,Gh.more,hj]
 have bi:g'.bP i=some c:=by simp[g',Gh.put,Gh.more]
 have ext:Ext g w g' w':=⟨fun j c hc=>by
  have:j≠i:=fun e=>by subst e;rw[hf] at hc;cases hc
  simp[g',Gh.put,Gh.more,this,hc],fun c o p=>⟨.inl p,hp c o p⟩⟩
 have get : ∀j x,((m.set t .dead).set i .tok)[j]? = some x→(j=i∧x = .tok)∨x = .dead∨(j≠i∧j≠t∧m[j]? = some x):=by
  intro j x hj
  rcases aP hj with e | ⟨hji,e⟩
  · exact .inl e
  · rcases aP e with⟨_,e'⟩ | ⟨Hp,e'⟩
    · exact .inr (.inl e')
    · exact .inr (.inr ⟨hji,Hp,e'⟩)
 have ne : ∀j x c',j≠t→m[j]? = some x→x.dB=true→g.bP j=some c'→c'≠c:=fun j x c' Hp hj ho fO e=>Hp (h.inj j t x _ c hj ht ho rfl (e▸fO) hc)
 refine⟨⟨fun j hj=> ?_,fun j hj=> ?_,fun j x l hj hl=> ?_,fun j c' hj fO=> ?_,fun j k x x' c' hj hk ho ho' gP iO=> ?_,fun c' o p=> ?_,fun j kk ll hj=> ?_⟩,ext,⟨by omega,fun j _ hn=> ?_,fun c o p=>⟨.inl p,hp c o p⟩,fun c' o p=> ?_,fun c' ho'=> ?_,ho,htp,hu⟩⟩
 · simp only[du] at hj
   rw[bo j (by omega)];exact h.zb j hj
 · rcases get j _ hj with⟨_,e⟩ | e | ⟨hji,_,e⟩
   · cases e
   · cases e
   · rw[bo j hji];exact h.free j e
 · rcases get j _ hj with⟨_,e⟩ | e | ⟨hji,Hp,e⟩
   · subst e;cases hl
   · subst e;cases hl
   · obtain⟨c1,cs1,e1,n1,k1,k2,k3,k4,k5⟩:=h.cells j x l e hl
     refine⟨c1,cs1,e1,n1,(bo j hji).trans k1,(hw c1 (ne j x c1 Hp e (cR hl) k1)).trans k2,k3,k4.mono ext,fun o p=> ?_⟩
     rcases p with p | ⟨rfl,_⟩
     · exact k5 o p
     · exact ne j x _ Hp e (cR hl) k1 rfl
 · rcases get j _ hj with⟨rfl,_⟩ | e | ⟨hji,Hp,e⟩
   · rw[bi] at fO;cases fO
     refine⟨cs',e',n,hh,by simp only[g',Gh.put,Gh.more,if_true];omega,by simpa[g',Gh.put,Gh.more] using q3,fun o h1 h2 p=> ?_⟩
     have h1':g.lo t+k≤o:=by simpa[g',Gh.put,Gh.more] using h1
     have h2':o<g.hi t:=by simpa[g',Gh.put,Gh.more] using h2
     rcases p with p | ⟨_,_,p⟩
     · exact q4 o (by omega) h2' p
     · omega
   · cases e
   · rw[bo j hji] at fO
     obtain⟨cs1,e1,n1,k2,k3,k4,k5⟩:=h.tok j c' e fO
     have h1:g'.hi j=g.hi j:=by simp[g',Gh.put,Gh.more,hji]
     have h2:g'.lo j=g.lo j:=by simp[g',Gh.put,Gh.more,hji]
     rw[h1,h2]
     refine⟨cs1,e1,n1,(hw c' (ne j _ c' Hp e rfl fO)).trans k2,k3,k4,fun o a b p=> ?_⟩
     rcases p with p | ⟨rfl,_⟩
     · exact k5 o a b p
     · exact ne j _ _ Hp e rfl fO rfl
 · rcases get j _ hj with⟨rfl,e⟩ | e | ⟨hji,Hp,e⟩
   · rcases get k _ hk with⟨rfl,e'⟩ | e' | ⟨hki,hkt,e'⟩
     · rfl
     · subst e';simp[aU.dB] at ho'
     · rw[bi] at gP;cases gP
       rw[bo k hki] at iO
       exact absurd rfl (ne k x' _ hkt e' ho' iO)
   · subst e;simp[aU.dB] at ho
   · rcases get k _ hk with⟨rfl,e'⟩ | e' | ⟨hki,hkt,e'⟩
     · rw[bi] at iO;cases iO
       rw[bo j hji] at gP
       exact absurd rfl (ne j x _ Hp e ho gP)
     · subst e';simp[aU.dB] at ho'
     · rw[bo j hji] at gP;rw[bo k hki] at iO
       exact h.inj j k x x' c' e e' ho ho' gP iO
 · rcases p with p | ⟨rfl,p1,p2⟩
   · obtain⟨v,hv⟩:=h.there c' o p
     exact⟨v,(hp c' o p).trans hv⟩
   · exact⟨cs'[o],by rw[aX hh,fv (by omega)]⟩
 · rcases get j _ hj with⟨_,e⟩ | e | ⟨hji,Hp,e⟩
   · cases e
   · cases e
   · obtain⟨c1,Fm,vs1,k1,k2,k3,k6,k7,k8⟩:=h.obs j kk ll e
     exact⟨c1,Fm,vs1,(bo j hji).trans k1,(hw c1 (ne j _ c1 Hp e rfl k1)).trans k2,k3.mono ext,k6,fun o p=>p.elim (k7 o) fun q=>ne j _ c1 Hp e rfl k1 q.1,by simpa[g',Gh.put,Gh.more,hji] using k8⟩
 · exact hw j fun e=>hn ⟨t,_,ht,rfl,e▸hc⟩
 · rcases p with p | ⟨rfl,_⟩
   · exact .inl p
   · exact .inr (.inl ⟨t,_,ht,rfl,hc⟩)
 · obtain⟨j,x,hj,hx,Ld⟩:=ho'
   rcases get j _ hj with⟨rfl,e⟩ | e | ⟨hji,_,e⟩
   · rw[bi] at Ld;cases Ld;exact .inl ⟨t,_,ht,rfl,hc⟩
   · subst e;simp[aU.dB] at hx
   · rw[bo j hji] at Ld;exact .inl ⟨j,x,e,hx,Ld⟩
theorem Rel.qR {g:Gh} {m:Mem} {w w':World} (h:Rel g m w) {cs:Array Value} {e:TypeId} (hw:qc w w' (.cells cs e)) :
  Rel (g.more w.heap.size 0 cs.size) m w'∧Ext g w (g.more w.heap.size 0 cs.size) w'∧dm g m w (g.more w.heap.size 0 cs.size) m w':=by
 have hp : ∀c o,g.pure c o→w'.cell? ⟨c,o,none⟩=w.cell? ⟨c,o,none⟩:=fun c o p=>dR (hw.old (h.mA p))
 have ext:Ext g w (g.more w.heap.size 0 cs.size) w':=⟨fun j c hc=>⟨hc,rfl,rfl⟩,fun c o p=>⟨.inl p,hp c o p⟩⟩
 refine⟨⟨h.zb,h.free,fun j x l hj hl=> ?_,fun j c hj hc=> ?_,h.inj,fun c o p=> ?_,fun j kk ll hj=> ?_⟩,ext,⟨by rw[hw.size];omega,fun k hk _=>hw.old hk,fun c o p=>⟨.inl p,hp c o p⟩,fun c o p=> ?_,fun c ho=> .inl ho,hw.os,hw.tape,hw.output⟩⟩
 · obtain⟨c1,cs1,e1,n1,k1,k2,k3,k4,k5⟩:=h.cells j x l hj hl
   refine⟨c1,cs1,e1,n1,k1,(hw.old (bI k2)).trans k2,k3,k4.mono ext,fun o p=> ?_⟩
   rcases p with p | ⟨rfl,_⟩
   · exact k5 o p
   · exact absurd (bI k2) (eQ _)
 · obtain⟨cs1,e1,n1,k2,k3,k4,k5⟩:=h.tok j c hj hc
   refine⟨cs1,e1,n1,(hw.old (bI k2)).trans k2,k3,k4,fun o a b p=> ?_⟩
   rcases p with p | ⟨rfl,_⟩
   · exact k5 o a b p
   · exact absurd (bI k2) (eQ _)
 · rcases p with p | ⟨rfl,_,p⟩
   · obtain⟨v,hv⟩:=h.there c o p
     exact⟨v,(hp c o p).trans hv⟩
   · exact⟨cs[o],by rw[aX hw.new,fv (by omega)]⟩
 · obtain⟨c1,Fm,vs1,k1,k2,k3,k6,k7,k8⟩:=h.obs j kk ll hj
   exact⟨c1,Fm,vs1,k1,(hw.old (bI k2)).trans k2,k3.mono ext,k6,fun o p=>p.elim (k7 o) fun q=>absurd (bI k2) (by rw[q.1];exact eQ _),k8⟩
 · rcases p with p | ⟨rfl,_⟩
   · exact .inl p
   · exact .inr (.inr (bx _))
theorem Rel.Qa {g:Gh} {m:Mem} {w:World} (h:Rel g m w) {i:Nat} (hi:m[i]? = some .free):Rel g (m.set i .tok) w∧dm g m w g (m.set i .tok) w:=by
 have hf:=h.free i hi
 refine⟨⟨fun j hj=>h.zb j (by simpa using hj),fun j hj=> ?_,fun j x l hj hl=> ?_,fun j c hj hc=> ?_,fun j k x x' c hj hk ho ho' gP iO=> ?_,h.there,fun j kk ll hj=> ?_⟩,dm.less fun c ho=> ?_⟩
 · rcases aP hj with⟨_,e⟩ | ⟨_,e⟩
   · cases e
   · exact h.free j e
 · rcases aP hj with⟨_,e⟩ | ⟨_,e⟩
   · subst e;cases hl
   · exact h.cells j x l e hl
 · rcases aP hj with⟨rfl,_⟩ | ⟨_,e⟩
   · rw[hf] at hc;cases hc
   · exact h.tok j c e hc
 · rcases aP hj with⟨rfl,_⟩ | ⟨_,e⟩
   · rw[hf] at gP;cases gP
   · rcases aP hk with⟨rfl,_⟩ | ⟨_,e'⟩
     · rw[hf] at iO;cases iO
     · exact h.inj j k x x' c e e' ho ho' gP iO
 · rcases aP hj with⟨_,e⟩ | ⟨_,e⟩
   · cases e
   · exact h.obs j kk ll e
 · obtain⟨j,x,hj,hx,hc⟩:=ho
   rcases aP hj with⟨rfl,_⟩ | ⟨_,e⟩
   · rw[hf] at hc;cases hc
   · exact⟨j,x,e,hx,hc⟩
theorem Rel.jX {g:Gh} {m:Mem} {w w':World} (h:Rel g m w) (hh:w'.heap=w.heap) (ho:w'.os=w.os) (ht:w'.tape=w.tape) (hu:w'.output=w.output) :
  Rel g m w'∧Ext g w g w'∧dm g m w g m w':=by
 have hc : ∀a:Addr,w'.cell? a=w.cell? a:=fun a=>by simp[World.cell?,hh]
 have ext:Ext g w g w':=⟨fun _ _ h=>⟨h,rfl,rfl⟩,fun _ _ p=>⟨p,hc _⟩⟩
 refine⟨⟨h.zb,h.free,fun j x l hj hl=> ?_,fun j c hj T2=> ?_,h.inj,fun c o p=> ?_,fun j kk ll hj=> ?_⟩,ext,⟨by rw[hh];exact bx _,fun k _ _=>by rw[hh],fun c o p=>⟨p,hc _⟩,fun _ _ p=> .inl p,fun _ ho=> .inl ho,ho,ht,hu⟩⟩
 · obtain⟨c1,cs1,e1,n1,k1,k2,k3,k4,k5⟩:=h.cells j x l hj hl
   exact⟨c1,cs1,e1,n1,k1,by rw[hh];exact k2,k3,k4.mono ext,k5⟩
 · obtain⟨cs1,e1,n1,k2,k3⟩:=h.tok j c hj T2
   exact⟨cs1,e1,n1,by rw[hh];exact k2,k3⟩
 · obtain⟨v,hv⟩:=h.there c o p
   exact⟨v,(hc _).trans hv⟩
 · obtain⟨c1,Fm,vs1,k1,k2,k3,k6,k7,k8⟩:=h.obs j kk ll hj
   exact⟨c1,Fm,vs1,k1,by rw[hh];exact k2,k3.mono ext,k6,k7,k8⟩
theorem Rel.reserve {g:Gh} {m:Mem} {w:World} (h:Rel g m w):Rel g (m++[.free]) w∧dm g m w g (m++[.free]) w:=by
 have get : ∀j x,(m++[aU.free])[j]? = some x→m[j]? = some x∨(j=m.length∧x = .free):=by
  intro j x hj
  rw[List.getElem?_append] at hj
  by_cases e:j<m.length
  · rw[if_pos e] at hj;exact .inl hj
  · rw[if_neg e] at hj
    have:=bq hj
    simp at this
    have e2:j=m.length:=by omega
    subst e2
    simp at hj
    exact .inr ⟨rfl,hj.symm⟩
 refine⟨⟨fun j hj=>h.zb j (by simp at hj;omega),fun j hj=> ?_,fun j x l hj hl=> ?_,fun j c hj hc=> ?_,fun j k x x' c hj hk ho ho' gP iO=> ?_,h.there,fun j kk ll hj=> ?_⟩,dm.less fun c ho=> ?_⟩
 · rcases get j _ hj with e | ⟨rfl,_⟩
   · exact h.free j e
   · exact h.zb _ (bx _)
 · rcases get j _ hj with e | ⟨_,e⟩
   · exact h.cells j x l e hl
   · subst e;cases hl
 · rcases get j _ hj with e | ⟨_,e⟩
   · exact h.tok j c e hc
   · cases e
 · rcases get j _ hj with e | ⟨_,e⟩
   · rcases get k _ hk with e' | ⟨_,e'⟩
     · exact h.inj j k x x' c e e' ho ho' gP iO
     · subst e';simp[aU.dB] at ho'
   · subst e;simp[aU.dB] at ho
 · rcases get j _ hj with e | ⟨_,e⟩
   · exact h.obs j kk ll e
   · cases e
 · obtain⟨j,x,hj,hx,hc⟩:=ho
   rcases get j _ hj with e | ⟨_,e⟩
   · exact⟨j,x,e,hx,hc⟩
   · subst e;simp[aU.dB] at hx
theorem Rel.qS (fj:Nat) {g:Gh} {m:Mem} {w w':World} (h:Rel g m w) {i:Nat} {ob:aD} {l:List AV} {vs:List Value} {o:Obj}
  (hi:m[i]? = some .free) (hv:cL g w l vs) (hw:qc w w' o) (his:ob.is o vs) (hroom:ob.room o fj) :
  Rel (g.put i w.heap.size 0 fj) (m.set i (.ob ob l)) w'∧Ext g w (g.put i w.heap.size 0 fj) w'∧dm g m w (g.put i w.heap.size 0 fj) (m.set i (.ob ob l)) w':=by
 have hf:=h.free i hi
 have hp : ∀c o,g.pure c o→w'.cell? ⟨c,o,none⟩=w.cell? ⟨c,o,none⟩:=fun c o p=>dR (hw.old (h.mA p))
 have bo : ∀j,j≠i→(g.put i w.heap.size 0 fj).bP j=g.bP j:=fun j hj=>by simp[Gh.put,hj]
 have bi:(g.put i w.heap.size 0 fj).bP i=some w.heap.size:=by simp[Gh.put]
 have ext:Ext g w (g.put i w.heap.size 0 fj) w':=⟨fun j c hc=>by
  have:j≠i:=fun e=>by subst e;rw[hf] at hc;cases hc
  simp[Gh.put,this,hc],fun c o p=>⟨p,hp c o p⟩⟩
 have lt : ∀j x c,m[j]? = some x→x.dB=true→g.bP j=some c→c<w.heap.size:=fun j x c hj ho hc=>h.lG ⟨j,x,hj,ho,hc⟩
 have BP:=bq hi
 refine⟨⟨fun j hj=> ?_,fun j hj=> ?_,fun j x k hj hk=> ?_,fun j c hj hc=> ?_,fun j k x x' c hj hk ho ho' gP iO=> ?_,fun c o p=> ?_,fun j kk ll hj=> ?_⟩,ext,⟨by rw[hw.size];omega,fun k hk _=>hw.old hk,fun c o p=>⟨p,hp c o p⟩,fun _ _ p=> .inl p,fun c ho=> ?_,hw.os,hw.tape,hw.output⟩⟩
 · rw[du] at hj
   rw[bo j (by omega)];exact h.zb j hj
 · rcases aP hj with⟨rfl,e⟩ | ⟨hji,e⟩
   · cases e
   · rw[bo j hji];exact h.free j e
 · rcases aP hj with⟨rfl,e⟩ | ⟨hji,e⟩
   · subst e;cases hk
   · obtain⟨c1,cs1,e1,n1,k1,k2,k3,k4,k5⟩:=h.cells j x k e hk
     exact⟨c1,cs1,e1,n1,(bo j hji).trans k1,(hw.old (bI k2)).trans k2,k3,k4.mono ext,k5⟩
 · rcases aP hj with⟨rfl,e⟩ | ⟨hji,e⟩
   · cases e
   · rw[bo j hji] at hc
     obtain⟨cs1,e1,n1,k2,k3,k4,k5⟩:=h.tok j c e hc
     have h1:(g.put i w.heap.size 0 fj).hi j=g.hi j:=by simp[Gh.put,hji]
     have h2:(g.put i w.heap.size 0 fj).lo j=g.lo j:=by simp[Gh.put,hji]
     rw[h1,h2]
     exact⟨cs1,e1,n1,(hw.old (bI k2)).trans k2,k3,k4,k5⟩
 · rcases aP hj with⟨rfl,e⟩ | ⟨hji,e⟩<;>rcases aP hk with⟨rfl,e'⟩ | ⟨hki,e'⟩
   · rfl
   · rw[bi] at gP;cases gP
     rw[bo k hki] at iO
     exact absurd (lt k x' _ e' ho' iO) (eQ _)
   · rw[bi] at iO;cases iO
     rw[bo j hji] at gP
     exact absurd (lt j x _ e ho gP) (eQ _)
   · rw[bo j hji] at gP;rw[bo k hki] at iO
     exact h.inj j k x x' c e e' ho ho' gP iO
 · obtain⟨v,hv⟩:=h.there c o p
   exact⟨v,(hp c o p).trans hv⟩
 · rcases aP hj with⟨rfl,e⟩ | ⟨hji,e⟩
   · cases e
     exact⟨_,_,vs,bi,hw.new,hv.mono ext,his,fun o p=>absurd (h.mA p) (eQ _),by simpa[Gh.put] using hroom⟩
   · obtain⟨c1,Fm,vs1,k1,k2,k3,k6,k7,k8⟩:=h.obs j kk ll e
     exact⟨c1,Fm,vs1,(bo j hji).trans k1,(hw.old (bI k2)).trans k2,k3.mono ext,k6,k7,by simpa[Gh.put,hji] using k8⟩
 · obtain⟨j,x,hj,hx,hc⟩:=ho
   rcases aP hj with⟨rfl,e⟩ | ⟨hji,e⟩
   · rw[bi] at hc;cases hc;exact .inr (bx _)
   · rw[bo j hji] at hc;exact .inl ⟨j,x,e,hx,hc⟩
theorem Rel.vG {g:Gh} {m:Mem} {w w':World} (h:Rel g m w) {i:Nat} {ob:aD} {l:List AV} {vs:List Value} {o:Obj}
  (hi:m[i]? = some .free) (hv:cL g w l vs) (hw:qc w w' o) (his:ob.is o vs) (hroom:ob.room o 0:=by trivial) :
  Rel (g.put i w.heap.size 0 0) (m.set i (.ob ob l)) w'∧Ext g w (g.put i w.heap.size 0 0) w'∧dm g m w (g.put i w.heap.size 0 0) (m.set i (.ob ob l)) w':=
 Rel.qS 0 h hi hv hw his hroom
theorem Rel.fP {g:Gh} {m:Mem} {w w':World} (h:Rel g m w) {i c:Nat} {ob Df:aD} {l l':List AV} {vs':List Value} {o':Obj}
  (hi:m[i]? = some (.ob ob l)) (hc:g.bP i=some c)
  (hw : ∀k,k≠c→w'.heap[k]? = w.heap[k]?) (hs:w'.heap.size=w.heap.size) (ho:w'.os=w.os) (ht:w'.tape=w.tape) (hu:w'.output=w.output)
  (hh:w'.heap[c]? = some o') (his:Df.is o' vs') (hv:cL g w l' vs') (hroom:Df.room o' (g.hi i):=by trivial) :
  Rel g (m.set i (.ob Df l')) w'∧Ext g w g w'∧dm g m w g (m.set i (.ob Df l')) w':=by
 obtain⟨c0,ob0,vs0,h1,_,_,_,hnp,_⟩:=h.obs i ob l hi
 rw[hc] at h1;cases h1
 have hp : ∀c' o,g.pure c' o→w'.cell? ⟨c',o,none⟩=w.cell? ⟨c',o,none⟩:=fun c' o p=>dR (hw c' fun e=>hnp o (e▸p))
 have ext:Ext g w g w':=⟨fun _ _ h=>⟨h,rfl,rfl⟩,fun c' o p=>⟨p,hp c' o p⟩⟩
 have ne : ∀j x c',j≠i→m[j]? = some x→x.dB=true→g.bP j=some c'→c'≠c:=fun j x c' hji hj ho fO e=>hji (h.inj j i x _ c hj hi ho rfl (e▸fO) hc)
 refine⟨⟨fun j hj=>h.zb j (by simpa using hj),fun j hj=> ?_,fun j x k hj hk=> ?_,fun j c' hj fO=> ?_,fun j k x x' c' hj hk ho ho' gP iO=> ?_,fun c' o p=> ?_,fun j kk ll hj=> ?_⟩,ext,⟨by omega,fun k hk hn=> ?_,fun c' o p=>⟨p,hp c' o p⟩,fun _ _ p=> .inl p,fun c' ho'=> ?_,ho,ht,hu⟩⟩
 · rcases aP hj with⟨rfl,e⟩ | ⟨_,e⟩
   · cases e
   · exact h.free j e
 · rcases aP hj with⟨rfl,e⟩ | ⟨hji,e⟩
   · subst e;cases hk
   · obtain⟨c1,cs1,e1,n1,k1,k2,k3,k4,k5⟩:=h.cells j x k e hk
     exact⟨c1,cs1,e1,n1,k1,(hw c1 (ne j x c1 hji e (cR hk) k1)).trans k2,k3,k4.mono ext,k5⟩
 · rcases aP hj with⟨rfl,e⟩ | ⟨hji,e⟩
   · cases e
   · obtain⟨cs1,e1,n1,k2,k3,k4,k5⟩:=h.tok j c' e fO
     exact⟨cs1,e1,n1,(hw c' (ne j _ c' hji e rfl fO)).trans k2,k3,k4,k5⟩
 · rcases aP hj with⟨rfl,e⟩ | ⟨hji,e⟩<;>rcases aP hk with⟨rfl,e'⟩ | ⟨hki,e'⟩
   · rfl
   · rw[hc] at gP;cases gP
     exact absurd rfl (ne k x' _ hki e' ho' iO)
   · rw[hc] at iO;cases iO
     exact absurd rfl (ne j x _ hji e ho gP)
   · exact h.inj j k x x' c' e e' ho ho' gP iO
 · obtain⟨v,hv⟩:=h.there c' o p
   exact⟨v,(hp c' o p).trans hv⟩
 · rcases aP hj with⟨rfl,e⟩ | ⟨hji,e⟩
   · cases e
     exact⟨c,_,vs',hc,hh,hv.mono ext,his,hnp,hroom⟩
   · obtain⟨c1,Fm,vs1,k1,k2,k3,k6,k7,k8⟩:=h.obs j kk ll e
     exact⟨c1,Fm,vs1,k1,(hw c1 (ne j _ c1 hji e rfl k1)).trans k2,k3.mono ext,k6,k7,k8⟩
 · exact hw k fun e=>hn ⟨i,_,hi,rfl,e▸hc⟩
 · rcases sU ho' with⟨_,k⟩ | ⟨j,x,_,k1,k2,k3⟩
   · exact .inl ⟨i,_,hi,rfl,k⟩
   · exact .inl ⟨j,x,k1,k2,k3⟩
end Go.Am
end
section
namespace Go.Am
open Go.RowKit
def b8 (g:Gh) (m:Mem) (w:World) (r:Result Next) (a:AV) (m':Mem):Prop:=
 ∃v w' g',(r = .ok (.value v) w'∨(r = .ok .skip w'∧v=undef))∧VA g' w' a v∧Rel g' m' w'∧Ext g w g' w'∧dm g m w g' m' w'
theorem b8.quiet {g:Gh} {m:Mem} {w:World} {r:Result Next} {a:AV} {v:Value} (h:Rel g m w) (hr:r = .ok (.value v) w) (ha:VA g w a v):b8 g m w r a m:=
 ⟨v,w,g,.inl hr,ha,h,Ext.refl g w,dm.refl g m w⟩
theorem aK {P:Program} {t:TypeId} {n:Nat} (h:fN P t=some n) (w:World):(sizeOf t).run P w = .ok n w:=by
 unfold fN at h
 cases hi:P.info? t with
 |none=>simp[hi] at h
 |some i=>simp only[hi,hZ,c9] at h;simp[sizeOf,typeInfo,hi,h]
theorem fo {P:Program} {t:TypeId} {i:TypeInfo} (h:P.info? t=some i) (w:World):(typeInfo t).run P w = .ok i w:=by
 simp[typeInfo,h]
theorem mB {P:Program} {t:TypeId} {b:Bool} (h:P7 P t=some b) (w:World):(isAgg t).run P w = .ok b w:=by
 unfold P7 at h
 cases hu:P.underlying t with
 |none=>simp[hu] at h
 |some d=>cases d<;>simp[hu] at h<;>subst h<;>simp[isAgg,run_underlying hu]
theorem Qb {g:Gh} {w:World} {a:AV} {v cv:Value} (h:KU a=some v) (ha:VA g w a cv):cv=v:=by
 cases ha with
 |p v' _ hp=>cases hp<;>simp[KU] at h;exact h
 |_=>simp[KU] at h
theorem wv {g:Gh} {w:World} : ∀{l:List AV} {vs cs:List Value},vR l=some vs→cL g w l cs→cs=vs
 |[],vs,cs,h,ha=>by
  cases cs with
  |nil=>simp[vR] at h;exact h.symm
  |cons _ _=>exact ha.elim
 |a::l,vs,cs,h,ha=>by
  cases cs with
  |nil=>exact ha.elim
  |cons c cs=>
   simp only[vR] at h
   cases h1:KU a with
   |none=>simp[h1] at h
   |some v=>
    cases h2:vR l with
    |none=>simp[h1,h2] at h
    |some us=>
     simp only[h1,h2,c9] at h
     subst h
     rw[Qb h1 ha.1,wv h2 ha.2]
theorem Fo {g:Gh} {w:World} {a:AV} {v cv:Value} (h:Fg a=some v) (ha:VA g w a cv):cv=v:=by
 cases ha with
 |p v' _ hp=>cases hp<;>simp[Fg] at h;exact h
 |agg l cs hl hh=>
  simp only[Fg,hC] at h
  obtain⟨vs,h1,rfl⟩:=h
  rw[←wv h1 (bu.dA hl hh)]
 |au l cs hl hh=>
  simp only[Fg,hC] at h
  obtain⟨vs,h1,rfl⟩:=h
  rw[←wv h1 (bu.dA hl hh)]
 |_=>simp[Fg] at h
theorem BQ {α:Type} (P:Program) (w:World) : ∀(s:Sem α) (a:α),gY P s=some a→s.run P w = .ok a w:=by
 intro s
 induction s with
 |pure b=>intro a h;simp[gY] at h;subst h;rfl
 |program k ih=>intro a h;simp only[gY] at h;simp only[Sem.run];exact ih P a h
 |mark m k ih=>intro a h;simp only[gY] at h;simp only[Sem.run];exact ih a h
 |_=>intro a h;simp[gY] at h
theorem VA.iD {g:Gh} {w:World} (v:Value):VA g w (iD v) v:=by
 unfold Am.iD
 split
 · exact .os none 0 0 [] none 0 (.sS 0 none 0 (.inr ⟨rfl,rfl⟩)) (.inl rfl)
 · exact .p _ _ (.sc v)
theorem cL.oN {g:Gh} {w:World} : ∀(l:List Value),cL g w (l.map Am.iD) l
 |[]=>trivial
 |v::l=>⟨VA.iD v,cL.oN l⟩
theorem VA.KT {g:Gh} {w:World} (v:Value):VA g w (KT v) v:=by
 unfold Am.KT
 split
 · exact VA.zk.2 (cL.oN _)
 · exact VA.lF.2 (cL.oN _)
 · exact VA.iD _
theorem Af {ρ:Operand→AV} : ∀{l:List Operand},ud ρ l=true → ∀x∈l,∃v,Fg (ρ x)=some v
 |[],_,_,hx=>by cases hx
 |y::l,h,x,hx=>by
  simp only[ud,c8] at h
  cases hx with
  |head=>exact ib.1 h.1
  |tail _ hx=>exact Af h.2 x hx
theorem getD_some {m:Mem} {b:Nat} {x:aU} (h:m.getD b .dead=x) (hx:x ≠ .dead):m[b]? = some x:=by
 rw[ch] at h
 cases hq:m[b]? with
 |none=>rw[hq] at h;exact absurd h.symm hx
 |some y=>rw[hq] at h;exact congrArg some h
section ops
variable {P:Program} {g:Gh} {m:Mem} {w:World} {ρ:Operand→AV} {cg:Operand→Value} {o:Oper}
theorem eZ (hr : ∀x,VA g w (ρ x) (cg x)) (hs : ∀cs b,o.op ≠ .select cs b) {a:AV} (h:scalar P ρ o=some a) :
  ∃v,(execOp cg o).run P w = .ok (.value v) w∧VA g w a v:=by
 unfold scalar at h
 cases hb:ud ρ o.op.operands.toList with
 |false=>simp[hb] at h
 |true=>
  simp only[hb,cond_true] at h
  have hc:execOp cg o=execOp (fun x=>(Fg (ρ x)).getD undef) o:=execOp_congr o hs fun x hx=>by
   obtain⟨v,hv⟩:=Af hb x (Array.mem_toList_iff.2 hx)
   simp[hv,Fo hv (hr x)]
  cases he:gY P (execOp (fun x=>(Fg (ρ x)).getD undef) o) with
  |none=>simp[he] at h
  |some nx=>
   cases nx with
   |value v=>
    simp only[he,c9] at h
    subst h
    exact⟨v,by rw[hc];exact BQ P w _ _ he,VA.KT v⟩
   |_=>simp[he] at h
theorem Dg {d:Option TypeDesc} {c:PV} (h:(iA d c).2=true):(iA d c).1=c∧c ≠ .bw:=by
 unfold iA at h ⊢
 split at h
 · cases c with
   |sc v=>cases v<;>simp_all [isInt,av]
   |_=>simp[isInt] at h
 · cases c with
   |sc v=>cases v<;>simp_all [isBool,bD]
   |_=>simp[isBool] at h
 · cases c with
   |sc v=>cases v<;>simp_all [isStr,br]
   |_=>simp[isStr] at h
 · cases c<;>simp_all [bB,aE,bC,aB]
 · cases c<;>simp_all [isOk]
theorem wz {d:Option TypeDesc} {a:AV} (h:(bh d a).2=true):(bh d a).1=a∧a ≠ .p .bw:=by
 cases a with
 |p c=>simp only[bh] at h ⊢;exact⟨by rw[(Dg h).1],fun e=>(Dg h).2 (AV.p.inj e)⟩
 |_=>exact⟨rfl,fun e=>by cases e⟩
theorem Dh : ∀{ds:List (Option TypeDesc)} {l:List AV},(qF ds l).2=true→(qF ds l).1=l ∧ ∀x∈l,x ≠ .p .bw
 |[],[],_=>⟨rfl,fun _ h=>by cases h⟩
 |d::ds,a::l,h=>by
  simp only[qF,c8] at h ⊢
  obtain⟨h1,h2⟩:=Dh h.2
  refine⟨by rw[(wz h.1).1,h1],fun x hx=> ?_⟩
  cases hx with
  |head=>exact(wz h.1).2
  |tail _ hx=>exact h2 x hx
 |[],_::_,h=>by simp[qF] at h
 |_::_,[],h=>by simp[qF] at h
theorem ew {α:Type} (d:α) (l:List α) : ∀(n off:Nat),(nh d l off n).length=n
 |0,_=>rfl
 |n+1,off=>by simp[nh,ew d l n]
theorem lI {α:Type} (d:α) (l:List α) : ∀(n off j:Nat) (h:j<(nh d l off n).length),(nh d l off n)[j]=l.getD (off+j) d
 |0,_,_,h=>by simp[nh] at h
 |n+1,off,0,_=>by simp[nh]
 |n+1,off,j+1,h=>by
  simp only[nh,List.getElem_cons_succ]
  rw[lI d l n (off+1) j]
  congr 1;omega
theorem Rel.Le (h:Rel g m w) {b c:Nat} {k:List AV} {t:TypeId} {pq:Bool} (hb:m[b]? = some (.ob (.gr t pq) k)) (hc:g.bP b=some c) {j:Nat} (hj:j<k.length) : ∃v,w.cell? ⟨c,j,none⟩=some v∧VA g w k[j] v:=by
 obtain⟨c',ob,vs,h1,h2,h3,h4,_,_⟩:=h.obs b _ _ hb
 rw[hc] at h1;cases h1
 obtain⟨cs,e,n,rfl,_,_,q1,q2,_⟩:=h4
 have hl:=h3.len
 have Lf:j<vs.length:=by omega
 have hjc:j<cs.size:=by omega
 refine⟨cs[j],by rw[aX h2,fv hjc],?_⟩
 have:=h3.get j hj Lf
 have e1:vs[j]? = some cs[j]:=by
  rw[q1,db,if_pos Lf]
  simp[hjc]
 rw[cb Lf] at e1
 rwa [da e1] at this
theorem Rel.Lg {g:Gh} {m:Mem} {w:World} (h:Rel g m w) {i:Nat} {k k':aD} {l l':List AV} (hb:m[i]? = some (.ob k l))
  (hl : ∀ob vs hi,cL g w l vs→k.is ob vs→k.room ob hi → ∃vs',cL g w l' vs'∧k'.is ob vs'∧k'.room ob hi):Rel g (m.set i (.ob k' l')) w∧dm g m w g (m.set i (.ob k' l')) w:=by
 have own : ∀(j:Nat) (x:aU),(m.set i (.ob k' l'))[j]? = some x→x.dB=true → ∃y:aU,m[j]? = some y∧y.dB=true:=fun j x hj ho=>by
  rcases aP hj with⟨rfl,_⟩ | ⟨_,q⟩
  · exact⟨_,hb,rfl⟩
  · exact⟨x,q,ho⟩
 refine⟨⟨fun j hj=>h.zb j (by simpa using hj),fun j hj=> ?_,fun j x cs hj hx=> ?_,fun j c hj hc=> ?_,fun j q x x' c hj hq ho ho' hc fO=> ?_,h.there,fun j k1 l1 hj=> ?_⟩,
  ⟨bx _,fun _ _ _=>rfl,fun _ _ p=>⟨p,rfl⟩,fun _ _ p=> .inl p,fun c ho=> ?_,rfl,rfl,rfl⟩⟩
 · rcases aP hj with⟨_,q⟩ | ⟨_,q⟩
   · cases q
   · exact h.free j q
 · rcases aP hj with⟨_,rfl⟩ | ⟨_,q⟩
   · cases hx
   · exact h.cells j x cs q hx
 · rcases aP hj with⟨_,q⟩ | ⟨_,q⟩
   · cases q
   · exact h.tok j c q hc
 · obtain⟨y,y1,y2⟩:=own j x hj ho
   obtain⟨z,z1,z2⟩:=own q x' hq ho'
   exact h.inj j q y z c y1 z1 y2 z2 hc fO
 · rcases aP hj with⟨rfl,q⟩ | ⟨_,q⟩
   · cases q
     obtain⟨c,o,vs,k1,k2,k3,k4,k5,k6⟩:=h.obs _ _ _ hb
     obtain⟨vs',q1,q2,q3⟩:=hl o vs _ k3 k4 k6
     exact⟨c,o,vs',k1,k2,q1,q2,k5,q3⟩
   · exact h.obs j k1 l1 q
 · obtain⟨j,x,hj,hx,hc⟩:=ho
   obtain⟨y,y1,y2⟩:=own j x hj hx
   exact .inl ⟨j,y,y1,y2,hc⟩
def exactly (pre:List Value):List AV:=pre.map fun v=> .p (.sc v)
theorem bz (pre:List Value):(exactly pre).length=pre.length:=List.length_map ..
theorem qT {g:Gh} {w:World} : ∀(pre:List Value),cL g w (exactly pre) pre
 |[]=>trivial
 |v::r=>⟨.p _ _ (.sc v),qT r⟩
theorem wA {g:Gh} {w:World} : ∀{pre vs:List Value},cL g w (exactly pre) vs→vs=pre
 |[],[],_=>rfl
 |v::r,x::xs,h=>by
  have h1:VA g w (.p (.sc v)) x:=h.1
  rw[VA.pv] at h1
  cases h1
  rw[wA (pre:=r) h.2]
 |[],_::_,h=>h.elim
 |_::_,[],h=>h.elim
theorem Rel.Fp {g:Gh} {m:Mem} {w:World} (h:Rel g m w) {b:Nat} {t:TypeId} {pre:List Value} {l:List AV} (hb:m[b]? = some (.ob (.stk t pre) l)) :
  Rel g (m.set b (.ob (.gr t false) (exactly pre++l))) w∧dm g m w g (m.set b (.ob (.gr t false) (exactly pre++l))) w:=
 h.Lg hb fun ob vs hi hv hk hr=>by
   obtain⟨cs,e,n,rfl,q1,q2,q3,q4,q5⟩:=hk
   exact⟨pre++vs,(qT pre).append hv,⟨cs,e,n,rfl,q1,q2,by rw[di];exact q3,by rw[di];exact q4,q5⟩,hr⟩
theorem Rel.Lh {g:Gh} {m:Mem} {w:World} (h:Rel g m w) {b:Nat} {t:TypeId} {q:Bool} {pre:List Value} {l:List AV} (hb:m[b]? = some (.ob (.gr t q) (exactly pre++l))) :
  Rel g (m.set b (.ob (.stk t pre) l)) w∧dm g m w g (m.set b (.ob (.stk t pre) l)) w:=
 h.Lg hb fun ob vs hi hv hk hr=>by
   obtain⟨cs,e,n,rfl,q1,q2,q3,q4,q5⟩:=hk
   have e1:vs=vs.take pre.length++vs.drop pre.length:=(List.take_append_drop _ _).symm
   have hlen:=hv.len
   rw[di,bz] at hlen
   have h1:cL g w (exactly pre) (vs.take pre.length):=by
    have:=hv.take pre.length
    rwa [List.take_append_of_le_length (by rw[bz];exact bx _),dq (by rw[bz];exact bx _)] at this
   have h2:cL g w l (vs.drop pre.length):=by
    have:=hv.drop pre.length
    rwa [List.drop_append_of_le_length (by rw[bz];exact bx _),List.drop_of_length_le (by rw[bz];exact bx _),List.nil_append] at this
   have h3:=wA h1
   rw[h3] at e1
   have e2:pre.length+(vs.drop pre.length).length=vs.length:=by rw[dv];omega
   exact⟨vs.drop pre.length,h2,⟨cs,e,n,rfl,q1,q2,by rw[e2,←e1];exact q3,by rw[e2];exact q4,q5⟩,hr⟩
theorem pH (h:Rel g m w) {a:AV} {ca:Value} (ha:VA g w a ca) {n:Nat} {l:List AV} (he:l9 (fun i=>m.getD i .dead) a n=some (l,true)) (hb : ∀x∈l,x ≠ .p .bw) :
  ∃c o vs,ca = .pointer (some ⟨c,o,none⟩)∧cL g w l vs∧vs.length=n ∧ ∀j v,vs[j]? = some v→w.cell? ⟨c,o+j,none⟩=some v:=by
 have key : ∀(c o:Nat),l.length=n→(∀j (hj:j<l.length),∃v,w.cell? ⟨c,o+j,none⟩=some v∧VA g w l[j] v) →
   ∃vs,cL g w l vs∧vs.length=n ∧ ∀j v,vs[j]? = some v→w.cell? ⟨c,o+j,none⟩=some v:=by
  intro c o hl hh
  refine⟨(ei n).map fun j=>(w.cell? ⟨c,o+j,none⟩).getD undef,bu.dA (by simp[hl]) fun i hi _=> ?_,by simp,fun j v hj=> ?_⟩
  · obtain⟨v,h1,h2⟩:=hh i hi
    simpa[h1] using h2
  · simp only[dT,hC] at hj
    obtain⟨k,hk,rfl⟩:=hj
    have hk':=dp.1 hk
    obtain⟨hlt,hk'⟩:=hk'
    simp at hlt hk'
    subst hk'
    obtain⟨v,h1,_⟩:=hh j (by omega)
    simp[h1]
 unfold l9 at he
 split at he
 · rename_i off cs
   simp only[c9,iu,and_true] at he
   subst he
   rw[VA.pv] at ha
   cases ha with
   |pp _ _ b o f hp hv=>
    obtain⟨vs,h1,h2,h3⟩:=key b (o+off) (by simp[ew]) (fun j hj=>by
     have hj':j<(nh PV.bw cs off n).length:=by simpa using hj
     have hx:=hb _ (ed hj)
     simp only[dk,lI] at hx ⊢
     rcases fg (off+j) cs.length with hlt | hge
     · refine⟨f (off+j),by rw[fi];exact(hp (off+j) hlt).2.1,?_⟩
       rw[ch,cb hlt]
       exact .p _ _ (hv (off+j) hlt)
     · exact absurd (by rw[ch,dt hge];rfl) hx)
    exact⟨b,o+off,vs,rfl,h1,h2,h3⟩
 · rename_i b off
   cases ha with
   |mp _ _ c hc=>
    split at he
    · rename_i k hk
      simp only[c9,iu,and_true] at he
      subst he
      have hm:m[b]? = some (.pc k):=getD_some hk (by simp)
      obtain⟨c',cs,e,q,h1,h2,h3,h4,h5⟩:=h.cells b _ _ hm rfl
      rw[hc] at h1;cases h1
      have h4:=h4.1
      have hlen:=h4.len
      obtain⟨vs,k1,k2,k3⟩:=key c off (by simp[ew]) (fun j hj=>by
       have hx:=hb _ (ed hj)
       simp only[dk,lI] at hx ⊢
       rcases fg (off+j) k.length with hlt | hge
       · have hlt':off+j<cs.size:=by simp at hlen;omega
         refine⟨cs[off+j],by rw[aX h2,fv hlt'],?_⟩
         rw[ch,cb hlt]
         have:=h4.get (off+j) (by simpa using hlt) (by simpa using hlt')
         simpa using this
       · exact absurd (by rw[ch,dt hge];rfl) hx)
      exact⟨c,off,vs,rfl,k1,k2,k3⟩
    · rename_i k hk
      simp only[c9,iu] at he
      obtain⟨rfl,hle⟩:=he
      have hle':=en hle
      have hm:m[b]? = some (.ac k):=getD_some hk (by simp)
      obtain⟨c',cs,e,q,h1,h2,h3,h4,h5⟩:=h.cells b _ _ hm rfl
      rw[hc] at h1;cases h1
      have h4:=h4.1
      have hlen:=h4.len
      obtain⟨vs,k1,k2,k3⟩:=key c off (by simp[ew]) (fun j hj=>by
       simp only[ew] at hj
       simp only[lI]
       have hlt:off+j<k.length:=by omega
       have hlt':off+j<cs.size:=by simp at hlen;omega
       refine⟨cs[off+j],by rw[aX h2,fv hlt'],?_⟩
       rw[ch,cb hlt]
       have:=h4.get (off+j) hlt (by simpa using hlt')
       simpa using this)
      exact⟨c,off,vs,rfl,k1,k2,k3⟩
    · rename_i k hk
      simp only[c9,iu] at he
      obtain⟨rfl,hle⟩:=he
      have hle':=en hle
      obtain⟨vs,k1,k2,k3⟩:=key c off (by simp[ew]) (fun j hj=>by
       simp only[ew] at hj
       simp only[lI]
       have hlt:off+j<k.length:=by omega
       obtain⟨v,q1,q2⟩:=h.Le (getD_some hk (by simp)) hc hlt
       refine⟨v,q1,?_⟩
       rw[ch,cb hlt]
       exact q2)
      exact⟨c,off,vs,rfl,k1,k2,k3⟩
    · rename_i t0 pre k hk
      simp only[c9,iu,c8] at he
      obtain⟨rfl,abW,hle⟩:=he
      have aeP:=en abW
      have hle':=en hle
      have hm:m[b]? = some (.ob (.stk t0 pre) k):=getD_some hk (by simp)
      obtain⟨hg,_⟩:=h.Fp hm
      have Yi:(m.set b (.ob (.gr t0 false) (exactly pre++k)))[b]? = some (.ob (.gr t0 false) (exactly pre++k)):=by rw[List.getElem?_set_self (bq hm)]
      obtain⟨vs,k1,k2,k3⟩:=key c off (by simp[ew]) (fun j hj=>by
       simp only[ew] at hj
       simp only[lI]
       have hlt:off-pre.length+j<k.length:=by omega
       have T3:off+j<(exactly pre++k).length:=by rw[di,bz];omega
       obtain⟨v,q1,q2⟩:=hg.Le Yi hc T3
       refine⟨v,q1,?_⟩
       rw[ch,cb hlt]
       have e:(exactly pre++k)[off+j]=k[off-pre.length+j]:=by
        rw[List.getElem_append_right (by rw[bz];omega)]
        congr 1
        rw[bz];omega
       rw[e] at q2
       exact q2)
      exact⟨c,off,vs,rfl,k1,k2,k3⟩
    · cases he
 · cases he
theorem cK (c o j:Nat):(⟨c,o,none⟩:Addr).add j=⟨c,o+j,none⟩:=by unfold Addr.add;split<;>simp_all
theorem qU (h:Rel g m w) {a:AV} {ca:Value} (ha:VA g w a ca) {t:TypeId} {v:AV} (he:kY P (fun i=>m.getD i .dead) t a=some (v,true)) :
  ∃c o cv,ca = .pointer (some ⟨c,o,none⟩)∧(loadVar t ⟨c,o,none⟩).run P w = .ok cv w∧VA g w v cv:=by
 unfold kY at he
 split at he
 · rename_i n hag hsz
   simp only[hC,iu,c8] at he
   obtain⟨⟨l,ok⟩,h1,rfl,hok,h2⟩:=he
   simp only at hok h2
   subst hok
   obtain⟨e1,e2⟩:=Dh h2
   obtain⟨c,o,vs,rfl,k1,k2,k3⟩:=pH h ha h1 e2
   refine⟨c,o,.agg vs.toArray,rfl,?_,?_⟩
   · have:=run_loadCells_list (P:=P) w ⟨c,o,none⟩ vs (fun j v hj=>by rw[cK];exact k3 j v hj)
     simp only[loadVar,iv,mB hag,jb,if_true,aK hsz,←k2,this,ja]
   · simp only[e1];exact VA.zk.2 (by simpa using k1)
 · rename_i n hag hsz
   split at he
   · rename_i x ok hx
     simp only[c9,iu,c8] at he
     obtain⟨rfl,hok,h2⟩:=he
     subst hok
     obtain⟨e1,e2⟩:=wz h2
     obtain⟨c,o,vs,rfl,k1,k2,k3⟩:=pH h ha hx (fun y hy=>by simp at hy;subst hy;exact e2)
     cases vs with
     |nil=>exact k1.elim
     |cons u us=>
      have:=k3 0 u rfl
      simp only[Nat.add_zero] at this
      exact⟨c,o,u,rfl,by simp[loadVar,mB hag,this],by rw[e1];exact k1.1⟩
   · cases he
 · cases he
end ops
end Go.Am
end
section
namespace Go.Am
open Go.RowKit
section ops
variable {P:Program} {g:Gh} {m:Mem} {w:World} {ρ:Operand→AV} {cg:Operand→Value} {o:Oper}
theorem pI {x a:AV} {cx:Value} {n:Nat} (h:mj x n=some a) (hx:VA g w x cx) :
  ∃c o,cx = .pointer (some ⟨c,o,none⟩)∧VA g w a (.pointer (some ⟨c,o+n,none⟩)):=by
 cases hx with
 |p v cv hv=>
  cases hv with
  |pp off cells b o f hp hv=>
   simp only[mj,c9] at h;subst h
   exact⟨b,o+off,rfl,.p _ _ (by rw[fi];exact .pp (off+n) cells b o f hp hv)⟩
  |_=>simp[mj] at h
 |mp b off c hc=>
  simp only[mj,c9] at h;subst h
  exact⟨c,off,rfl,.mp b (off+n) c hc⟩
 |_=>simp[mj] at h
theorem wB {c o:Nat} {f:Field} {n:Nat} (h:fN P f.type=some n) (hn:n≠0) :
  (fieldPlace ⟨c,o,none⟩ f).run P w = .ok ⟨c,o+f.offset,none⟩ w:=by
 simp[fieldPlace,aK h,hn,cK]
theorem qV {t:TypeId} {x a:AV} {cx:Value} {f:Nat} (h:kI P t x f=some a) (hx:VA g w x cx) :
  ∃v,(kl t cx f).run P w = .ok v w∧VA g w a v:=by
 unfold kI at h
 split at h
 · rename_i fields hu
   split at h
   · rename_i fd hf
     split at h
     · rename_i n hn
       cases hb:ag 1 n with
       |false=>simp[hb] at h
       |true=>
        simp only[hb,cond_true] at h
        have h1:=en hb
        obtain⟨c,o,rfl,ha⟩:=pI h hx
        refine⟨_,?_,ha⟩
        simp[kl,run_underlying hu,hf,kb,wB hn (by omega:n≠0)]
     · cases h
   · cases h
 · cases h
theorem oO {i:Int} {n:Nat}:aW i n=true↔0≤i∧i<n:=by simp[aW]
theorem qW {t:TypeId} {x i a:AV} {cx ci:Value} (h:kJ P t x i=some (a,true)) (hx:VA g w x cx) (hi:VA g w i ci) :
  ∃v,(ka t cx ci).run P w = .ok v w∧VA g w a v:=by
 unfold kJ at h
 split at h
 · rename_i k n len elem hu
   rw[VA.pv] at hi;cases hi
   split at h
   · rename_i size hsz
     simp only[hC,iu] at h
     obtain⟨a',h1,rfl,h2⟩:=h
     obtain⟨c,o,rfl,ha⟩:=pI h1 hx
     rw[oO] at h2
     refine⟨_,?_,ha⟩
     simp[ka,asIntOf,run_underlying hu,kb,h2,aK hsz,cK]
   · cases h
 · rename_i k n elem hu
   rw[VA.pv] at hi;cases hi
   split at h
   · rename_i size len sz cs hsz
     simp only[c9,iu,c8] at h
     obtain⟨rfl,h2,_⟩:=h
     rw[oO] at h2
     rw[VA.pv] at hx
     cases hx with
     |ps _ _ _ b o cap f hl hc hz hp hv=>
      refine⟨_,?_,.p _ _ (.pp (n.toNat*size) cs b o f hp hv)⟩
      simp[ka,asIntOf,run_underlying hu,h2,aK hsz,cK]
     |sS sz a cap=>simp at h2;omega
   · rename_i size tok len sz cs hsz
     simp only[c9,iu,c8] at h
     obtain⟨rfl,h2,_⟩:=h
     rw[oO] at h2
     cases hx with
     |os _ _ _ _ ad cap hx hr=>
      cases hx with
      |ps _ _ _ b o cap f hl hc hz hp hv=>
       refine⟨_,?_,.p _ _ (.pp (n.toNat*size) cs b o f hp hv)⟩
       simp[ka,asIntOf,run_underlying hu,h2,aK hsz,cK]
      |sS sz a cap=>simp at h2;omega
   · rename_i size b off len sz cap hsz
     simp only[c9,iu,c8] at h
     obtain⟨rfl,h2,_⟩:=h
     rw[oO] at h2
     cases hx with
     |ms _ _ _ _ cap c hb hc=>
      refine⟨_,?_,.mp b _ c hb⟩
      simp[ka,asIntOf,run_underlying hu,h2,aK hsz,cK]
     |mg _ _ _ _ cap c hb hc=>
      refine⟨_,?_,.mp b _ c hb⟩
      simp[ka,asIntOf,run_underlying hu,h2,aK hsz,cK]
   · cases h
 · cases h
theorem Ag {α:Type} (d:α) : ∀(n:Nat) (l:List α) (off:Nat),off+n≤l.length→nh d l off n=(l.drop off).take n
 |0,_,_,_=>by simp[nh]
 |n+1,l,off,h=>by
  have hlt:off<l.length:=by omega
  rw[nh,Ag d n l (off+1) (by omega),List.drop_eq_getElem_cons hlt,List.take_succ_cons,ch,cb hlt]
  rfl
theorem qX {t:TypeId} {cs:List AV} {ca:Array Value} {off:Nat} {a:AV} (h:partOf P t cs off=some (a,true)) (hc:cL g w cs ca.toList) :
  ∃v,(part t ca off).run P w = .ok v w∧VA g w a v:=by
 have hlen:=hc.len
 unfold partOf at h
 split at h
 · rename_i n hag hsz
   simp only[c9,iu] at h
   obtain⟨rfl,h2⟩:=h
   have h2:=en h2
   refine⟨_,by simp[part,mB hag,aK hsz];rfl,VA.zk.2 ?_⟩
   rw[Ag _ _ _ _ h2]
   have:=(hc.drop off).take n
   simpa[ee] using this
 · rename_i n hag hsz
   simp only[c9,iu] at h
   obtain⟨rfl,h2⟩:=h
   have h2:off<cs.length:=by simpa[ft] using h2
   have h3:off<ca.size:=by simp at hlen;omega
   refine⟨ca[off],by simp[part,mB hag,fv h3],?_⟩
   rw[ch,cb h2]
   exact hc.get off h2 (by simpa using h3)
 · cases h
theorem zl {t:TypeId} {x a:AV} {cx:Value} {f:Nat} (h:vu P t x f=some (a,true)) (hx:VA g w x cx) :
  ∃v,(km t cx f).run P w = .ok v w∧VA g w a v:=by
 unfold vu at h
 split at h
 · rename_i fields cs hu
   split at h
   · rename_i fd hf
     cases hx with
     |agg _ ca hl hh=>
      obtain⟨v,h1,h2⟩:=qX h (VA.zk.1 (.agg cs ca hl hh))
      exact⟨v,by simp[km,run_underlying hu,hf,asAgg,h1],h2⟩
   · cases h
 · cases h
theorem wC (s:ByteArray) (i:Nat):s[i]? = s.data.toList[i]? :=by
 rcases fg i s.size with h | h
 · have h2:i<s.data.toList.length:=by rw[fw];exact h
   rw[getElem?_pos s i h,cb h2]
   rfl
 · have h2:s.data.toList.length≤i:=by rw[fw];exact h
   rw[getElem?_neg s i (Nat.not_lt.2 h),dt h2]
theorem zm {t:TypeId} {x i a:AV} {cx ci:Value} (h:vv P t x i=some (a,true)) (hx:VA g w x cx) (hi:VA g w i ci) :
  ∃v,(kd t cx ci).run P w = .ok v w∧VA g w a v:=by
 unfold vv at h
 split at h
 · rename_i cs k n
   rw[VA.pv] at hi;cases hi
   split at h
   · rename_i len elem hu
     split at h
     · rename_i size v ok hsz hp
       simp only[c9,iu,c8] at h
       obtain⟨rfl,h1,rfl⟩:=h
       rw[oO] at h1
       cases hx with
       |agg _ ca hl hh=>
        simp only[hsz,ic] at hp
        obtain⟨v,h2,h3⟩:=qX hp (VA.zk.1 (.agg cs ca hl hh))
        refine⟨v,?_,h3⟩
        simp[kd,asIntOf,run_underlying hu,h1,aK hsz,h2]
     · cases h
   · cases h
 · rename_i s k n
   rw[VA.pv] at hi hx;cases hi;cases hx
   split at h
   · rename_i hu
     simp only[c9,iu] at h
     obtain⟨rfl,h1⟩:=h
     rw[oO] at h1
     have hlt:n.toNat<s.data.toList.length:=by omega
     refine⟨_,?_,.p _ _ (.sc _)⟩
     simp only[kd,asIntOf,run_underlying hu,iv,ja,jb,h1.1,if_true,wC,cb hlt,ch,ic]
   · cases h
 · cases h
theorem iU (hr : ∀x,VA g w (ρ x) (cg x)) {x:Option Operand} {d n:Nat} (h:bound ρ x d=some (n,true)) :
  (x=none∧n=d)∨(∃y k i,x=some y∧cg y = .int k i∧0≤i∧n=i.toNat):=by
 unfold bound at h
 split at h
 · simp only[c9,iu,and_true] at h;exact .inl ⟨rfl,h.symm⟩
 · rename_i y
   split at h
   · rename_i k i he
     simp only[c9,iu,decide_eq_true_eq] at h
     have:=hr y
     rw[he,VA.pv] at this
     refine .inr ⟨y,k,i,rfl,?_,h.2,h.1.symm⟩
     generalize cg y=cv at this
     cases this;rfl
   · cases h
theorem run_sliceBound {k:IntKind} {i:Int} {y:Nat} {code:BoundsCode} (h0:0≤i) (h1:i.toNat≤y):(kc (.int k i) y code).run P w = .ok i.toNat w:=by
 have:i≤y:=by omega
 simp[kc,asIntOf,h0,this]
theorem bR (hr : ∀x,VA g w (ρ x) (cg x)) {Yj:Bool} {len cap l h:Nat} {low high:Option Operand}
  (hl:bound ρ low 0=some (l,true)) (hh:bound ρ high len=some (h,true)) (h1:l≤h) (h2:h≤cap) :
  (jn Yj len cap (low.map cg) (high.map cg) none).run P w = .ok (l,h,cap) w:=by
 rcases iU hr hl with⟨rfl,rfl⟩ | ⟨y,k,i,rfl,hy,hi,rfl⟩<;>rcases iU hr hh with⟨rfl,rfl⟩ | ⟨y',k',i',rfl,hy',hi',rfl⟩
 · simp[jn]
 · simp[jn,hy',run_sliceBound hi' h2]
 · simp[jn,hy,run_sliceBound hi h1]
 · simp[jn,hy,hy',run_sliceBound hi h1,run_sliceBound hi' h2]
theorem iV (hr : ∀x,VA g w (ρ x) (cg x)) {Yj:Bool} {len cap l h:Nat} {low:Option Operand} {hx mx:Operand}
  (hl:bound ρ low 0=some (l,true)) (hh:bound ρ (some hx) len=some (h,true)) (hm:bound ρ (some mx) 0=some (h,true)) (h1:l≤h) (h2:h≤cap) :
  (jn Yj len cap (low.map cg) (some (cg hx)) (some (cg mx))).run P w = .ok (l,h,h) w:=by
 rcases iU hr hh with⟨e,_⟩ | ⟨y',k',i',e,hy',hi',rfl⟩
 · cases e
 cases e
 rcases iU hr hm with⟨e,_⟩ | ⟨y2,k2,i2,e,Yz,hi2,e2⟩
 · cases e
 cases e
 rw[e2] at h2
 rcases iU hr hl with⟨rfl,rfl⟩ | ⟨y,k,i,rfl,hy,hi,rfl⟩
 · simp only[jn,iv,hy',Yz,run_sliceBound hi2 h2,jb,hP,ja]
   rw[run_sliceBound hi' (by omega)];simp[e2]
 · simp only[jn,iv,hy,hy',Yz,run_sliceBound hi2 h2,jb,hZ]
   rw[run_sliceBound hi' (by omega)]
   simp only[jb]
   rw[run_sliceBound hi (by omega)];simp[e2]
theorem pE (hr : ∀x,VA g w (ρ x) (cg x)) {Yj:Bool} {len cap l h m':Nat} {low:Option Operand} {hx mx:Operand}
  (hl:bound ρ low 0=some (l,true)) (hh:bound ρ (some hx) len=some (h,true)) (hm:bound ρ (some mx) 0=some (m',true)) (h1:l≤h) (h2:h≤m') (h3:m'≤cap) :
  (jn Yj len cap (low.map cg) (some (cg hx)) (some (cg mx))).run P w = .ok (l,h,m') w:=by
 rcases iU hr hh with⟨e,_⟩ | ⟨y',k',i',e,hy',hi',rfl⟩
 · cases e
 cases e
 rcases iU hr hm with⟨e,_⟩ | ⟨y2,k2,i2,e,Yz,hi2,rfl⟩
 · cases e
 cases e
 rcases iU hr hl with⟨rfl,rfl⟩ | ⟨y,k,i,rfl,hy,hi,rfl⟩
 · simp only[jn,iv,hy',Yz,run_sliceBound hi2 h3,jb,hP,ja]
   rw[run_sliceBound hi' h2];simp
 · simp only[jn,iv,hy,hy',Yz,run_sliceBound hi2 h3,jb,hZ]
   rw[run_sliceBound hi' h2]
   simp only[jb]
   rw[run_sliceBound hi h1];simp
theorem nJ {α:Type} (cs:List α) {len l h size:Nat} {low high:Option Operand} (hl:cs.length=len*size) (h1:l≤h) (h2:h≤len) (e1:low=none→l=0) (e2:high=none→h=len) :
  cut cs (times low l size) (times high h size)=(cs.drop (l*size)).take ((h-l)*size):=by
 have hlh:(h-l)*size=h*size-l*size:=fh _ _ _
 have hhl:h*size≤len*size:=fe _ h2
 have Qc:l*size≤h*size:=fe _ h1
 unfold cut times
 cases low with
 |none=>
  have:=e1 rfl;subst this
  cases high with
  |none=>have:=e2 rfl;subst this;simp[hl,dq]
  |some _=>simp
 |some _=>
  cases high with
  |none=>
   have:=e2 rfl;subst this
   simp only[hZ,hP]
   rw[dq]
   simp[hl,hlh]
  |some _=>simp only[hZ];rw[ee,hlh]
theorem oP {len sz:Nat} {cs:List PV} {a:Option Addr} {cap l h m':Nat} (hx:VP g w (.ps len sz cs) (.slice a len cap)) (h1:l≤h) (h2:h≤len) (h3:h≤m') (h4:m'≤cap) :
  VP g w (.ps (h-l) sz ((cs.drop (l*sz)).take ((h-l)*sz))) (.slice (if m'=l then a else a.map (·.add (l*sz))) (h-l) (m'-l)):=by
 cases hx with
 |ps _ _ _ b o cap f hl hc hz hp hv=>
  have hlh:(h-l)*sz=h*sz-l*sz:=fh _ _ _
  have hhl:h*sz≤len*sz:=fe _ h2
  have Qc:l*sz≤h*sz:=fe _ h1
  by_cases e:m'=l
  · have:h-l=0:=by omega
    simp only[this,Nat.zero_mul,List.take_zero]
    exact .sS _ _ _ (.inl hz)
  · simp only[if_neg e,hZ,cK]
    refine .ps _ _ _ b (o+l*sz) _ (fun k=>f (l*sz+k)) (by simp[hl,hlh];omega) (by omega) hz (fun k hk=> ?_) (fun k hk=> ?_)
    · simp only[dC,dv,hl] at hk
      have:=hp (l*sz+k) (by omega)
      rw[fi];exact this
    · simp only[dC,dv,hl] at hk
      have:=hv (l*sz+k) (by omega)
      simpa using this
 |sS sz a cap hz=>
  have:h-l=0:=by omega
  simp only[this,List.drop_nil,List.take_nil]
  exact .sS _ _ _ (hz.imp id fun⟨e,e2⟩=>by subst e;subst e2;exact⟨by split<;>rfl,by omega⟩)
theorem jy {len sz size:Nat} {cs:List PV} {a:Option Addr} {cap:Nat} (hx:VP g w (.ps len sz cs) (.slice a len cap)) (h:(ae sz size||(ae len 0&&ag 1 size))=true):VP g w (.ps len size cs) (.slice a len cap):=by
 simp only[il,c8,fb] at h
 rcases h with rfl | ⟨rfl,h1⟩
 · exact hx
 · have h1:=en h1
   cases hx with
   |ps _ _ _ b o cap f hl hc hz hp hv=>
    simp at hl;subst hl
    exact .sS _ _ _ (.inl h1)
   |sS=>exact .sS _ _ _ (.inl h1)
theorem mC {len sz:Nat} {cs:List PV} {cv:Value} (hx:VP g w (.ps len sz cs) cv):cs.length=len*sz ∧ ∃a cap,cv = .slice a len cap∧(len≤cap):=by
 cases hx with
 |ps _ _ _ b o cap f hl hc hz hp hv=>exact⟨hl,_,_,rfl,hc⟩
 |sS=>exact⟨by simp,_,_,rfl,Nat.zero_le _⟩
end ops
end Go.Am
end
section
namespace Go.Am
open Go.RowKit
theorem gK {ρ:Operand→AV} {d n:Nat} {b:Bool} (h:bound ρ none d=some (n,b)):n=d:=by
 simp only[bound,c9,iu] at h;exact h.1.symm
section ops
variable {P:Program} {g:Gh} {m:Mem} {w:World} {ρ:Operand→AV} {cg:Operand→Value} {o:Oper}
theorem zn (hr : ∀x,VA g w (ρ x) (cg x)) {t:TypeId} {x a:AV} {cx:Value} {low high mx:Option Operand} (h:oI P ρ t x low high mx=some (a,true)) (hx:VA g w x cx) :
  ∃v,(j1 t cx (low.map cg) (high.map cg) (mx.map cg)).run P w = .ok v w∧VA g w a v:=by
 unfold oI at h
 split at h
 · rename_i n elem hu
   split at h
   · rename_i size l a' h' b' i off hsz hl hh
     simp only[c9,iu,c8] at h
     obtain⟨rfl,⟨⟨rfl,rfl⟩,h1⟩,h2⟩:=h
     have h1:=en h1
     have h2:=en h2
     cases hx with
     |mp _ _ c hc=>
      have e:(if n=l then(⟨c,off,none⟩:Addr) else(⟨c,off,none⟩:Addr).add (l*size))=⟨c,cond (ae n l) off (off+l*size),none⟩:=by
       by_cases e:n=l
       · simp[e]
       · have:ae n l=false:=by rw[ie];intro k;exact e (ai k)
         simp[e,this,cK]
      refine⟨_,?_,.ms i (cond (ae n l) off (off+l*size)) (h'-l) size (n-l) c hc (by omega)⟩
      simp only[j1,iv,run_underlying hu,jb,kb,hP,bR hr hl hh h1 h2,aK hsz,ja,e]
   · cases h
 · rename_i elem hu
   split at h
   · rename_i size l a' len sz cs hsz hl
     rw[VA.pv] at hx
     obtain⟨hlen,ad,cap,rfl,hcap⟩:=mC hx
     split at h
     · rename_i h' b' hh
       simp only[c9,iu,c8,fb] at h
       obtain⟨rfl,⟨⟨⟨rfl,rfl⟩,h1⟩,h2⟩,rfl⟩:=h
       have h1:=en h1
       have h2:=en h2
       refine⟨_,?_,.p _ _ (by rw[nJ cs hlen h1 h2 (fun e:low=none=>gK (e▸hl)) (fun e=>gK (e▸hh))];exact oP hx h1 h2 (ba h2 hcap) (bx _))⟩
       simp only[j1,j2,iv,run_underlying hu,jb,hP,bR hr hl hh h1 (ba h2 hcap),aK hsz,ja]
     · rename_i h' b' mo hh
       split at h
       · rename_i m' c' hm
         simp only[c9,iu,c8,fb] at h
         obtain⟨rfl,⟨⟨⟨⟨⟨rfl,rfl⟩,rfl⟩,h1⟩,h2⟩,rfl⟩,h3,rfl⟩:=h
         have h1:=en h1
         have h2:=en h2
         obtain⟨hx',rfl⟩:=ib.1 h3
         have hv:=oP (m':=m') hx h1 h2 (bx _) (ba h2 hcap)
         refine⟨_,?_,.os none (m'-l) sz _ _ _ (by rw[nJ cs hlen h1 h2 (fun e:low=none=>gK (e▸hl)) (fun e=>by cases e)];exact hv) (.inl rfl)⟩
         simp only[j1,j2,iv,run_underlying hu,jb,hZ,iV hr hl hh hm h1 (ba h2 hcap),aK hsz,ja]
       · cases h
     · cases h
   · rename_i size l a' tok len sz cs hsz hl
     cases hx with
     |os _ _ _ _ ad cap hx zp=>
     obtain⟨hlen,ad',cap',he,hcap⟩:=mC hx
     cases he
     split at h
     · rename_i h' b' hh
       split at h
       · simp only[c9,iu,c8] at h
         obtain⟨rfl,⟨⟨rfl,rfl⟩,h1⟩,h3⟩:=h
         have h1:=en h1
         have:=gK hh;subst this
         have hsz':(ae sz size||(ae h' 0&&ag 1 size))=true:=by
          rw[il] at h3 ⊢
          refine h3.imp id fun k=> ?_
          simp only[c8] at k ⊢
          exact⟨k.1,k.2.1⟩
         have hx':=jy hx hsz'
         have hlen':=(mC hx').1
         have hv:=oP (m':=cap) hx' h1 (bx _) hcap (bx _)
         have hc:=nJ (low:=low) (high:=none) cs hlen' h1 (bx _) (fun e:low=none=>gK (e▸hl)) (fun _=>rfl)
         simp only[times,hP] at hc
         refine⟨_,?_,.os tok (h'-l) size _ _ _ (by simp only[times];rw[hc];exact hv) ?_⟩
         · have hb:=bR (P:=P) (Yj:=true) hr hl hh h1 hcap
           simp only[hP] at hb
           simp only[j1,j2,iv,run_underlying hu,jb,hP,hb,aK hsz,ja]
         · rcases zp with rfl | ⟨t,b,o',rfl,rfl,q1,q2,q3,q4⟩
           · exact .inl rfl
           · have:sz=size:=by simpa[fb] using h3
             subst this
             by_cases e:cap=l
             · exact .inl (by omega)
             · refine .inr ⟨t,b,o'+l*sz,rfl,by simp[e,cK],q1,?_,?_,by omega⟩
               · rw[q2,fh];have:=fe sz h1;omega
               · rw[q3,fh];have:=fe sz (ba h1 hcap);omega
       · rename_i hy
         have YA : ∀{sz:Nat},VP g w (.ps len sz cs) (.slice ad len cap)→cs.length=len*size→l≤h'→h'≤len→cut cs (times low l size) (some (h'*size))=(cs.drop (l*size)).take ((h'-l)*size):=fun _ hlen' h1 h2=>by
          have hc:=nJ (low:=low) (high:=some hy) cs hlen' h1 h2 (fun e:low=none=>gK (e▸hl)) (fun e=>by cases e)
          simpa only[times,hZ] using hc
         split at h
         · rename_i heq
           simp only[c9,iu,c8] at h
           obtain⟨rfl,⟨⟨⟨rfl,rfl⟩,h1⟩,h2⟩,h3⟩:=h
           have heq:=ai heq
           have h1:=en h1
           have h2:=en h2
           have aeQ:cap=len:=by
            rcases zp with e | ⟨t,b,o',e,_⟩
            · exact e
            · cases e
           have hx':=jy hx h3
           have hlen':=(mC hx').1
           have hv:=oP (m':=cap) hx' h1 h2 (ba h2 hcap) (bx _)
           refine⟨_,?_,.os none (h'-l) size _ _ _ (by rw[YA hx hlen' h1 h2];exact hv) (.inl (by omega))⟩
           simp only[j1,j2,iv,run_underlying hu,jb,hP,bR hr hl hh h1 (ba h2 hcap),aK hsz,ja]
         · simp only[c9,iu,c8] at h
           obtain⟨rfl,⟨⟨⟨rfl,rfl⟩,h1⟩,h2⟩,h3⟩:=h
           have h1:=en h1
           have h2:=en h2
           have hx':=jy hx h3
           have hlen':=(mC hx').1
           refine⟨_,?_,.p _ _ (by rw[YA hx hlen' h1 h2];exact oP hx' h1 h2 (ba h2 hcap) (bx _))⟩
           simp only[j1,j2,iv,run_underlying hu,jb,hP,bR hr hl hh h1 (ba h2 hcap),aK hsz,ja]
     · rename_i h' b' mo hh
       split at h
       · rename_i m' c' hm
         simp only[c9,iu,c8,fb] at h
         obtain⟨rfl,⟨⟨⟨⟨⟨rfl,rfl⟩,rfl⟩,h1⟩,h2⟩,rfl⟩,h3,h4⟩:=h
         have h1:=en h1
         have h2:=en h2
         obtain⟨hx',rfl⟩:=ib.1 h3
         have hx2:=jy hx h4
         have hlen':=(mC hx2).1
         have hv:=oP (m':=m') hx2 h1 h2 (bx _) (ba h2 hcap)
         refine⟨_,?_,.os none (m'-l) size _ _ _ (by rw[nJ cs hlen' h1 h2 (fun e:low=none=>gK (e▸hl)) (fun e=>by cases e)];exact hv) (.inl rfl)⟩
         simp only[j1,j2,iv,run_underlying hu,jb,hZ,iV hr hl hh hm h1 (ba h2 hcap),aK hsz,ja]
       · cases h
     · cases h
   · rename_i size l a' i off len sz hsz hl
     cases hx with
     |mg _ _ _ _ cap c hc hcap hroom=>
     split at h
     · rename_i h' b' hh
       simp only[c9,iu,c8,il,fb,ft] at h
       obtain⟨rfl,⟨⟨⟨⟨rfl,rfl⟩,h1⟩,h2⟩,rfl⟩,h3⟩:=h
       have h1:=en h1
       have h2:=en h2
       have e:(if cap=l then some (⟨c,off,none⟩:Addr) else(some (⟨c,off,none⟩:Addr)).map (·.add (l*sz)))=some ⟨c,off+l*sz,none⟩:=by
        by_cases e:cap=l
        · have:l=0:=by omega
          simp[e,this]
        · simp[e,cK]
       refine⟨_,?_,.mg i (off+l*sz) (h'-l) sz (cap-l) c hc (by omega) ?_⟩
       · simp only[j1,j2,iv,run_underlying hu,jb,hP,bR hr hl hh h1 (ba h2 hcap),aK hsz,ja,e]
       · rw[fh]
         have:=fe sz (ba (ba h1 h2) hcap)
         omega
     · rename_i h' b' mo hh
       split at h
       · rename_i m' c' hm
         simp only[c9,iu,c8,fb] at h
         obtain⟨rfl,⟨⟨⟨⟨⟨rfl,rfl⟩,rfl⟩,h1⟩,h2⟩,h4⟩,h3,rfl⟩:=h
         have h1:=en h1
         have h2:=en h2
         have h4:=en h4
         obtain⟨hx',rfl⟩:=ib.1 h3
         have e:(if m'=l then some (⟨c,off,none⟩:Addr) else some ((⟨c,off,none⟩:Addr).add (l*sz)))=some ⟨c,cond (ae m' l) off (off+l*sz),none⟩:=by
          by_cases e:m'=l
          · simp[e]
          · have:ae m' l=false:=by rw[ie];intro k;exact e (ai k)
            simp[e,this,cK]
         refine⟨_,?_,.ms i (cond (ae m' l) off (off+l*sz)) (h'-l) sz (m'-l) c hc (by omega)⟩
         simp only[j1,j2,iv,run_underlying hu,jb,hZ,pE hr hl hh hm h1 h2 (ba h4 hcap),aK hsz,ja,e]
       · cases h
     · cases h
   · rename_i size l a' i off len sz cap hsz hl
     cases hx with
     |ms _ _ _ _ cap c hc hcap=>
     split at h
     · rename_i h' b' hh
       simp only[c9,iu,c8,fb] at h
       obtain⟨rfl,⟨⟨⟨rfl,rfl⟩,h1⟩,h2⟩,rfl⟩:=h
       have h1:=en h1
       have h2:=en h2
       have e:(if cap=l then some (⟨c,off,none⟩:Addr) else(some (⟨c,off,none⟩:Addr)).map (·.add (l*sz)))=some ⟨c,cond (ae cap l) off (off+l*sz),none⟩:=by
        by_cases e:cap=l
        · simp[e]
        · have:ae cap l=false:=by rw[ie];intro k;exact e (ai k)
          simp[e,this,cK]
       refine⟨_,?_,.ms i (cond (ae cap l) off (off+l*sz)) (h'-l) sz (cap-l) c hc (by omega)⟩
       simp only[j1,j2,iv,run_underlying hu,jb,hP,bR hr hl hh h1 h2,aK hsz,ja,e]
     · cases h
   · cases h
 · rename_i hu
   split at h
   · rename_i l a' s hl
     rw[VA.pv] at hx;cases hx
     split at h
     · rename_i h' b' hh
       simp only[c9,iu,c8] at h
       obtain⟨rfl,⟨⟨rfl,rfl⟩,h1⟩,h2⟩:=h
       have h1:=en h1
       have h2:=en h2
       have e:s.data.toList.length=s.size:=fw
       rw[e] at hh h2
       refine⟨_,?_,.p _ _ (.sc _)⟩
       simp only[j1,j2,iv,run_underlying hu,jb,hP,Option.isSome_none,Bool.false_eq_true,if_false,ja,bR hr hl hh h1 h2]
     · cases h
   · cases h
 · cases h
theorem va (op:BinOp) (t:TypeId) (x y:Operand) (k k':IntKind) (a b:Int):(eqGuard op t x y (.int k a) (.int k' b)).run P w = .ok () w:=by
 unfold eqGuard;cases op<;>rfl
theorem qd (op:BinOp) (t:TypeId) (x y:Operand) (a b:ByteArray):(eqGuard op t x y (.string a) (.string b)).run P w = .ok () w:=by
 unfold eqGuard;cases op<;>rfl
theorem BR {op:BinOp} {t:TypeId} {k k':IntKind} {a b:Int} {v:Value} (h:Fi op k a k' b=some (v,true)):(binOp op t (.int k a) (.int k' b)).run P w = .ok v w:=by
 cases op<;>simp only[Fi,c9,iu,c8,beq_iff_eq,im,beq_eq_false_iff_ne,decide_eq_true_eq] at h
 case quo=>obtain⟨rfl,rfl,hb⟩:=h;simp[binOp,Op.intDiv,hb]
 case rem=>obtain⟨rfl,rfl,hb⟩:=h;simp[binOp,Op.intDiv,hb]
 case shl=>obtain⟨rfl,hb⟩:=h;simp[binOp,Op.shift,Int.not_lt.2 hb]
 case shr=>obtain⟨rfl,hb⟩:=h;simp[binOp,Op.shift,Int.not_lt.2 hb]
 all_goals obtain⟨rfl,rfl⟩:=h
 all_goals simp[binOp,kx,Op.intBits,Op.intCmp]
theorem BS {op:BinOp} {t:TypeId} {a b:ByteArray} {v:Value} (h:Fj op a b=some (v,true)):(binOp op t (.string a) (.string b)).run P w = .ok v w:=by
 have e : ∀s:ByteArray,s.data.toList.length=s.size:=fun s=>fw
 cases op<;>simp only[Fj,c9,iu,and_true,reduceCtorEq] at h
 case add=>
  obtain⟨rfl,h⟩:=h
  have h:=en h
  rw[e,e] at h
  rw[binOp_string_add,run_string_add_sum w a b (by unfold gi at h;omega)]
 all_goals (subst h;simp[binOp,Op.stringOp,ByteArray.toList_eq])
theorem hU (d:Nat) (cx cy:Array Value) : ∀(fs:List Field) (i:Nat) (xs ys:List AV) (b:Bool),gZ P i fs xs ys=some b→cL g w xs (cx.toList.drop i)→cL g w ys (cy.toList.drop i) →
  (kv (d+1) cx cy fs).run P w = .ok b w
 |[],i,xs,ys,b,h,hx,hy=>by
  cases xs<;>cases ys<;>simp only[gZ,c9,reduceCtorEq] at h
  subst h
  simp[kv]
 |f::fs,i,xs,ys,b,h,hx,hy=>by
  cases xs with
  |nil=>simp[gZ] at h
  |cons x xs=>
   cases ys with
   |nil=>simp[gZ] at h
   |cons y ys=>
    have Tv : ∀(c:Array Value) (z:AV) (zs:List AV),cL g w (z::zs) (c.toList.drop i) → ∃v,c[i]? = some v∧VA g w z v∧cL g w zs (c.toList.drop (i+1)):=by
     intro c z zs hz
     cases hd:c.toList.drop i with
     |nil=>rw[hd] at hz;exact hz.elim
     |cons v vs=>
      rw[hd] at hz
      have h1:c.toList[i]? = some v:=by rw[←List.head?_drop,hd];rfl
      have h2:c.toList.drop (i+1)=vs:=by rw[←List.tail_drop,hd];rfl
      refine⟨v,by simpa using h1,hz.1,?_⟩
      rw[h2];exact hz.2
    obtain⟨vx,ex,rx,tx⟩:=Tv cx x xs hx
    obtain⟨vy,ey,ry,ty⟩:=Tv cy y ys hy
    simp only[gZ] at h
    split at h
    · rename_i _ k a k' a' hu
      cases hc:(k==k'&&ae f.offset i&&f.name != "_" && P.plainKey f.type) with
      |false=>rw[hc] at h;cases h
      |true=>
       rw[hc] at h
       simp only[cond_true,hC] at h
       obtain⟨r,h1,rfl⟩:=h
       simp only[c8,beq_iff_eq,bne_iff_ne] at hc
       obtain⟨⟨⟨rfl,ho⟩,hn⟩,hp⟩:=hc
       have ho:=ai ho
       rw[VA.pv] at rx ry
       cases rx
       cases ry
       have ih:=hU d cx cy fs (i+1) xs ys r h1 tx ty
       simp only[kv,if_pos hn,iv,ho,run_part_plain w hp ex,run_part_plain w hp ey,jb,run_equalIn_int w d f.type k _ a a' hu]
       cases hab:(a==a') with
       |true=>simp[ih]
       |false=>simp
    · rename_i _ a a' hu
      cases hc:(ae f.offset i&&f.name != "_" && P.plainKey f.type) with
      |false=>rw[hc] at h;cases h
      |true=>
       rw[hc] at h
       simp only[cond_true,hC] at h
       obtain⟨r,h1,rfl⟩:=h
       simp only[c8,bne_iff_ne] at hc
       obtain⟨⟨ho,hn⟩,hp⟩:=hc
       have ho:=ai ho
       rw[VA.pv] at rx ry
       cases rx
       cases ry
       have ih:=hU d cx cy fs (i+1) xs ys r h1 tx ty
       simp only[kv,if_pos hn,iv,ho,run_part_plain w hp ex,run_part_plain w hp ey,jb,run_equalIn_bool' w d f.type a a' hu]
       cases hab:(a==a') with
       |true=>simp[ih]
       |false=>simp
    · rename_i _ a a' hu
      cases hc:(ae f.offset i&&f.name != "_" && P.plainKey f.type) with
      |false=>rw[hc] at h;cases h
      |true=>
       rw[hc] at h
       simp only[cond_true,hC] at h
       obtain⟨r,h1,rfl⟩:=h
       simp only[c8,bne_iff_ne] at hc
       obtain⟨⟨ho,hn⟩,hp⟩:=hc
       have ho:=ai ho
       rw[VA.pv] at rx ry
       cases rx
       cases ry
       have ih:=hU d cx cy fs (i+1) xs ys r h1 tx ty
       simp only[kv,if_pos hn,iv,ho,run_part_plain w hp ex,run_part_plain w hp ey,jb,run_equalIn_string w d f.type a a' hu,ByteArray.toList_eq]
       cases hab:(a.data.toList==a'.data.toList) with
       |true=>simp[ih]
       |false=>simp
    · cases h
theorem uh {t:TypeId} {x y:AV} {b:Bool} {vx vy:Value} (h:C8 P t x y=some b) (hx:VA g w x vx) (hy:VA g w y vy) :
  (∀op p q,(eqGuard op t p q vx vy).run P w = .ok () w)∧(binOp .eql t vx vy).run P w = .ok (.bool b) w∧(binOp .neq t vx vy).run P w = .ok (.bool (!b)) w:=by
 unfold C8 at h
 split at h
 · rename_i xs ys
   split at h
   · rename_i fs hu
     cases hc:(!P.stoodInHeld t && !P.eqGuardType P.depth t) with
     |false=>rw[hc] at h;cases h
     |true=>
      rw[hc] at h
      simp only[cond_true] at h
      simp only[c8,im] at hc
      cases hx with
      |agg _ cx lx hx=>
       cases hy with
       |agg _ cy ly hy=>
        have hfo:P.fieldsOf t=fs:=by unfold Program.fieldsOf;rw[hu]
        have hu2:P.underlying t=some (.struct (P.fieldsOf t)):=by rw[hfo,hu]
        have key:=hU (g:=g) (w:=w) 9998 cx cy fs.toList 0 xs ys b h (by simpa using bu.dA lx hx) (by simpa using bu.dA ly hy)
        have e:(Op.equalIn 10000 t (.agg cx) (.agg cy)).run P w = .ok b w:=by
         rw[run_equalIn_agg w 9999 t cx cy hu2 hc.1,hfo];exact key
        refine⟨fun op p q=>run_eqGuard_agg w op t p q cx cy hc.2,?_,?_⟩
        · rw[run_eql_struct,e];rfl
        · rw[run_neq_struct,e];rfl
   · cases h
 · cases h
theorem zq (hr : ∀x,VA g w (ρ x) (cg x)) {op:BinOp} {t yt:TypeId} {x y:Operand} (ho:o.op = .binOp op t x y yt) {a:AV} (h:qI P ρ o op (ρ x) (ρ y)=some (a,true)) :
  ∃v,(execOp cg o).run P w = .ok (.value v) w∧VA g w a v:=by
 unfold qI at h
 split at h
 · rename_i k a' k' b' hx hy
   simp only[hC,iu] at h
   obtain⟨⟨v,ok⟩,h1,rfl,h2⟩:=h
   simp only at h2;subst h2
   have cx:cg x = .int k a':=by have:=hr x;rw[hx,VA.pv] at this;generalize cg x=z at this;cases this;rfl
   have cy:cg y = .int k' b':=by have:=hr y;rw[hy,VA.pv] at this;generalize cg y=z at this;cases this;rfl
   exact⟨v,by simp only[execOp,ho,cx,cy,iv,va,jb,BR h1,ja],.p _ _ (.sc v)⟩
 · rename_i a' b' hx hy
   simp only[hC,iu] at h
   obtain⟨⟨v,ok⟩,h1,rfl,h2⟩:=h
   simp only at h2;subst h2
   have cx:cg x = .string a':=by have:=hr x;rw[hx,VA.pv] at this;generalize cg x=z at this;cases this;rfl
   have cy:cg y = .string b':=by have:=hr y;rw[hy,VA.pv] at this;generalize cg y=z at this;cases this;rfl
   exact⟨v,by simp only[execOp,ho,cx,cy,iv,qd,jb,BS h1,ja],.p _ _ (.sc v)⟩
 · have hs : ∀cs b,o.op ≠ .select cs b:=fun _ _=>by rw[ho];exact fun e=>by cases e
   split at h
   · split at h
     · rename_i b hb
       simp only[c9,iu,and_true] at h
       subst h
       have hb:C8 P t (ρ x) (ρ y)=some b:=by unfold G7 at hb;rw[ho] at hb;exact hb
       obtain⟨k1,k2,k3⟩:=uh hb (hr x) (hr y)
       exact⟨_,by simp only[execOp,ho,iv,k1,jb,k2,ja],.p _ _ (.sc _)⟩
     cases hc:(kK (ρ x)&&kL (ρ y)||kL (ρ x)&&kK (ρ y)) with
     |true=>simp[hc] at h
     |false=>
      simp only[hc,cond_false,hC,iu,and_true] at h
      obtain⟨v,h1,rfl⟩:=h
      exact eZ hr hs h1
   · split at h
     · rename_i b hb
       simp only[c9,iu,and_true] at h
       subst h
       have hb:C8 P t (ρ x) (ρ y)=some b:=by unfold G7 at hb;rw[ho] at hb;exact hb
       obtain⟨k1,k2,k3⟩:=uh hb (hr x) (hr y)
       exact⟨_,by simp only[execOp,ho,iv,k1,jb,k3,ja],.p _ _ (.sc _)⟩
     cases hc:(kK (ρ x)&&kL (ρ y)||kL (ρ x)&&kK (ρ y)) with
     |true=>simp[hc] at h
     |false=>
      simp only[hc,cond_false,hC,iu,and_true] at h
      obtain⟨v,h1,rfl⟩:=h
      exact eZ hr hs h1
   · cases h
theorem BT (hr : ∀x,VA g w (ρ x) (cg x)) {op:UnOp} {t:TypeId} {x:Operand} (ho:o.op = .unOp op t x) {a:AV} (h:vT P ρ o op (ρ x)=some (a,true)) :
  ∃v,(execOp cg o).run P w = .ok (.value v) w∧VA g w a v:=by
 unfold vT at h
 split at h
 · rename_i b hx
   simp only[c9,iu,and_true] at h;subst h
   have cx:cg x = .bool b:=by have:=hr x;rw[hx,VA.pv] at this;generalize cg x=z at this;cases this;rfl
   exact⟨_,by simp only[execOp,ho,cx,Op.unary,iv,ja,jb],.p _ _ (.sc _)⟩
 · rename_i k n hx
   simp only[c9,iu,and_true] at h;subst h
   have cx:cg x = .int k n:=by have:=hr x;rw[hx,VA.pv] at this;generalize cg x=z at this;cases this;rfl
   exact⟨_,by simp only[execOp,ho,cx,Op.unary,kx,iv,ja,jb],.p _ _ (.sc _)⟩
 · simp only[hC,iu,and_true] at h
   obtain⟨v,h1,rfl⟩:=h
   exact eZ hr (fun _ _=>by rw[ho];exact fun e=>by cases e) h1
set_option linter.unusedVariables false in
theorem qY {t:TypeId} {x a:AV} {cx:Value} (h:nC P t x=some a) (hx:VA g w x cx) :
  ∃v,(Instr.makeInterface t cx).run P w = .ok v w∧VA g w a v:=by
 unfold nC at h
 cases h
theorem sV (hr : ∀x,VA g w (ρ x) (cg x)) {x:Operand} (ho:o.op = .nilCheck x) {a:AV} (h:jR P ρ o (ρ x)=some a) :
  ∃v,(execOp cg o).run P w = .ok (.value v) w∧VA g w a v:=by
 unfold jR at h
 split at h
 · rename_i off cs hx
   simp only[c9] at h;subst h
   have:=hr x;rw[hx] at this
   refine⟨cg x,?_,this⟩
   generalize hz:cg x=z at this
   rw[VA.pv] at this;cases this
   simp[execOp,ho,hz]
 · rename_i b off hx
   simp only[c9] at h;subst h
   have:=hr x;rw[hx] at this
   refine⟨cg x,?_,this⟩
   generalize hz:cg x=z at this
   cases this
   simp[execOp,ho,hz]
 · rename_i f a' b' hx
   simp only[c9] at h;subst h
   have:=hr x;rw[hx] at this
   refine⟨cg x,?_,this⟩
   generalize hz:cg x=z at this
   cases this
   simp[execOp,ho,hz]
 · exact eZ hr (fun _ _=>by rw[ho];exact fun e=>by cases e) h
theorem Di {argTypes:Array TypeId} {ty:TypeId} {x a:AV} {cx:Value} (h:KY P argTypes x=some a) (hx:VA g w x cx) :
  ∃v,(ky argTypes ty #[cx]).run P w = .ok v w∧VA g w a v:=by
 unfold KY at h
 split at h
 · rename_i t ht
   split at h
   · rename_i len sz cs hu
     simp only[c9] at h;subst h
     rw[VA.pv] at hx
     obtain⟨_,ad,cap,rfl,_⟩:=mC hx
     exact⟨_,by simp[ky,ht,run_underlying hu,goInt],.p _ _ (.sc _)⟩
   · rename_i tok len sz cs hu
     simp only[c9] at h;subst h
     cases hx with
     |os _ _ _ _ ad cap hx _=>exact⟨_,by simp[ky,ht,run_underlying hu,goInt],.p _ _ (.sc _)⟩
   · rename_i b off len sz cap hu
     simp only[c9] at h;subst h
     cases hx with
     |ms _ _ _ _ cap c _ _=>exact⟨_,by simp[ky,ht,run_underlying hu,goInt],.p _ _ (.sc _)⟩
     |mg _ _ _ _ cap c _ _ _=>exact⟨_,by simp[ky,ht,run_underlying hu,goInt],.p _ _ (.sc _)⟩
   · rename_i s hu
     simp only[c9] at h;subst h
     rw[VA.pv] at hx;cases hx
     rw[show s.data.toList.length=s.size from fw]
     exact⟨_,by simp[ky,ht,run_underlying hu,goInt],.p _ _ (.sc _)⟩
   · rename_i n e hu
     simp only[c9] at h;subst h
     exact⟨_,by simp[ky,ht,run_underlying hu,goInt],.p _ _ (.sc _)⟩
   · cases h
 · cases h
theorem Dj {argTypes:Array TypeId} {ty:TypeId} {x a:AV} {cx:Value} (h:KZ P argTypes x=some a) (hx:VA g w x cx) :
  ∃v,(lh argTypes ty #[cx]).run P w = .ok v w∧VA g w a v:=by
 unfold KZ at h
 split at h
 · rename_i t ht
   split at h
   · rename_i b off len sz cap hu
     simp only[c9] at h;subst h
     cases hx with
     |ms _ _ _ _ cap c _ _=>exact⟨_,by simp[lh,ht,run_underlying hu,goInt],.p _ _ (.sc _)⟩
   · rename_i len sz cs hu
     simp only[c9] at h;subst h
     cases hx with
     |os _ _ _ _ ad cap hx hr=>
      have hcap:cap=len:=by
       rcases hr with e | ⟨t,b,o,e,_⟩
       · exact e
       · cases e
      subst hcap
      exact⟨_,by simp[lh,ht,run_underlying hu,goInt],.p _ _ (.sc _)⟩
   · rename_i cs hu
     simp only[c9] at h;subst h
     rw[VA.pv] at hx
     cases hx with
     |ps _ _ _ b o cap f hl hc hz hp hv=>omega
     |sS sz a cap hz=>
      obtain⟨rfl,rfl⟩:=hz.resolve_left (by omega)
      exact⟨_,by simp[lh,ht,run_underlying hu,goInt],.p _ _ (.sc _)⟩
   · cases h
 · cases h
end ops
end Go.Am
end
section
namespace Go.Am
open Go.RowKit
section ops
variable {P:Program} {g:Gh} {m:Mem} {w:World}
theorem dS : ∀{l:List AV} {aI:List PV} {vs:List Value},kH l=some aI→cL g w l vs→Ho g w aI vs
 |[],aI,vs,h,hv=>by
  simp[kH] at h;subst h
  cases vs with
  |nil=>trivial
  |cons _ _=>exact hv.elim
 |a::l,aI,vs,h,hv=>by
  cases vs with
  |nil=>exact hv.elim
  |cons v vs=>
   simp only[kH] at h
   cases h1:C5 a with
   |none=>simp[h1] at h
   |some pv=>
    cases h2:kH l with
    |none=>simp[h1,h2] at h
    |some us=>
     simp only[h1,h2,c9] at h
     subst h
     refine⟨?_,dS h2 hv.2⟩
     have h0:=hv.1
     cases h0 with
     |p pv' _ hp=>simp[C5] at h1;subst h1;exact hp
     |os tok len sz cells ad cap hp _=>simp[C5] at h1;subst h1;exact hp
     |_=>simp[C5] at h1
def sW (P:Program) (g:Gh) (w:World) (sz n:Nat) (aI:List PV) (cx:Value):Prop:=
 ∃vs:List Value,Ho g w aI vs∧vs.length=n*sz∧(∀v∈vs,v.oneCell'=true)∧(la cx).run P w = .ok n w ∧ ∀k,k≤n→(kz sz k cx).run P w = .ok (vs.take (k*sz)).toArray w
theorem ez {sz n cap:Nat} {aI:List PV} {b o:Nat} {vs:List Value} (h1:Ho g w aI vs) (h2:vs.length=n*sz) (ho : ∀v∈vs,v.oneCell'=true) (h3 : ∀j v,vs[j]? = some v→w.cell? ⟨b,o+j,none⟩=some v) :
  sW P g w sz n aI (.slice (some ⟨b,o,none⟩) n cap):=by
 refine⟨vs,h1,h2,ho,by simp[la],fun k hk=> ?_⟩
 have hl:(vs.take (k*sz)).length=k*sz:=by
  rw[dC,h2];exact Nat.min_eq_left (fe _ hk)
 have:=run_loadCells_list (P:=P) w ⟨b,o,none⟩ (vs.take (k*sz)) (fun j v hj=>by
  rw[cK];exact h3 j v (by rw[db] at hj;split at hj<;>simp_all))
 rw[hl] at this
 simpa[kz] using this
theorem lJ {sz n:Nat} {aI:List PV} {cx:Value} (h:VP g w (.ps n sz aI) cx):sW P g w sz n aI cx:=by
 cases h with
 |ps _ _ _ b o cap f hl hc hz hp hv=>
  refine ez (vs:=(ei aI.length).map f) (bu.dA (by simp) fun i hi _=> ?_) (by simp[hl]) (fun v hv=> ?_) fun j v hj=> ?_
  · simpa using hv i hi
  · obtain⟨k,hk,rfl⟩:=eh.1 hv
    exact(hp k (by simpa using hk)).2.2
  · simp only[dT,hC] at hj
    obtain⟨k,hk,rfl⟩:=hj
    obtain⟨hlt,hk⟩:=dp.1 hk
    simp at hlt hk;subst hk
    exact(hp j hlt).2.1
 |sS _ a cap=>
  refine⟨[],trivial,by simp,by simp,by simp[la],fun k hk=> ?_⟩
  have:k=0:=by omega
  subst this
  cases a<;>simp[kz,loadCells,loadCellsFrom]
theorem mD : ∀{l:List AV},qE l=true→kH l=some (l.map zg)
 |[],_=>rfl
 |.p v::l,h=>by
  have:=mD (l:=l) (by simpa[qE] using h)
  simp[kH,C5,this,zg]
 |.ah::_,h | .os .. :: _,h | .mp .. :: _,h | .ms .. :: _,h | .fn .. :: _,h | .agg _::_,h | .au _::_,h | .nu .. :: _,h | .vm _::_,h | .vy _::_,h=>by simp[qE] at h
theorem fJ (h:Rel g m w) {sz n:Nat} {x:AV} {cx:Value} {aI:List PV} (he:contents (fun i=>m.getD i .dead) sz x=some (n,aI,true)) (hx:VA g w x cx) :
  sW P g w sz n aI cx:=by
 unfold contents at he
 split at he
 · simp only[c9,iu] at he
   obtain⟨rfl,rfl,h1⟩:=he
   rw[VA.pv] at hx
   obtain⟨_,ad,cap,rfl,_⟩:=mC hx
   exact lJ (jy hx h1)
 · simp only[c9,iu] at he
   obtain⟨rfl,rfl,h1⟩:=he
   cases hx with
   |os _ _ _ _ ad cap hx _=>exact lJ (jy hx h1)
 · rename_i b off len s cap
   cases hx with
   |ms _ _ _ _ cap c hc hcap=>
   split at he
   · rename_i l hl
     simp only[c9,iu,c8,fb] at he
     obtain⟨rfl,rfl,rfl,h1⟩:=he
     have h1:=en h1
     have hm:=getD_some hl (by simp)
     obtain⟨c',cs,e,q,k1,k2,k3,k4,k5⟩:=h.cells b _ _ hm rfl
     rw[hc] at k1;cases k1
     have hone:=k4.2
     have k4:=k4.1
     have hlen:=k4.len
     simp at hlen
     refine ez (vs:=(cs.toList.drop off).take (len*s)) ?_ (by simp;omega) (fun v hv=>hone v (de (dd hv))) fun j v hj=> ?_
     · have:=((k4.drop off).take (len*s))
       rw[←List.map_drop,←List.map_take] at this
       exact bu.dA (by simpa using this.len) fun i a b=>by
        have:=this.get i (by simpa using a) b
        rw[dk,VA.pv] at this
        exact this
     · rw[db] at hj
       split at hj
       · rw[df] at hj
         rw[aX k2];simpa using hj
       · cases hj
   · rename_i l hl
     simp only[hC,iu,c8,fb] at he
     obtain⟨us,he,rfl,rfl,rfl,h1⟩:=he
     have h1:=en h1
     have hm:=getD_some hl (by simp)
     obtain⟨c',cs,e,q,k1,k2,k3,k4,k5⟩:=h.cells b _ _ hm rfl
     rw[hc] at k1;cases k1
     have hone:=k4.2
     have k4:=k4.1
     have hlen:=k4.len
     simp at hlen
     refine ez (vs:=(cs.toList.drop off).take (len*s)) (dS he ((k4.drop off).take (len*s))) (by simp;omega) (fun v hv=>hone v (de (dd hv))) fun j v hj=> ?_
     rw[db] at hj
     split at hj
     · rw[df] at hj
       rw[aX k2];simpa using hj
     · cases hj
   · rename_i l hl
     simp only[c9,iu,c8,fb] at he
     obtain⟨rfl,rfl,hp,rfl,h1⟩:=he
     have he:=mD hp
     have h1:=en h1
     obtain⟨c',ob,vs,k1,k2,k3,k4,_,_⟩:=h.obs b _ _ (getD_some hl (by simp))
     rw[hc] at k1;cases k1
     obtain⟨cs,e,q,rfl,_,q0,q1,q2,q3⟩:=k4
     have hlen:=k3.len
     refine ez (vs:=(vs.drop off).take (len*s)) (dS he ((k3.drop off).take (len*s))) (by simp;omega) (fun v hv=> ?_) fun j v hj=> ?_
     · have hv:=de (dd hv)
       rw[q1] at hv
       exact q3 v (dd hv)
     · rw[db] at hj
       split at hj
       · rw[df,q1,db] at hj
         split at hj
         · rw[aX k2];simpa using hj
         · cases hj
       · cases hj
   · rename_i l hl
     simp only[hC,iu,c8,fb] at he
     obtain⟨us,he,rfl,rfl,rfl,h1⟩:=he
     have h1:=en h1
     obtain⟨c',ob,vs,k1,k2,k3,k4,_,_⟩:=h.obs b _ _ (getD_some hl (by simp))
     rw[hc] at k1;cases k1
     obtain⟨cs,e,q,rfl,_,q0,q1,q2,q3⟩:=k4
     have hlen:=k3.len
     refine ez (vs:=(vs.drop off).take (len*s)) (dS he ((k3.drop off).take (len*s))) (by simp;omega) (fun v hv=> ?_) fun j v hj=> ?_
     · have hv:=de (dd hv)
       rw[q1] at hv
       exact q3 v (dd hv)
     · rw[db] at hj
       split at hj
       · rw[df,q1,db] at hj
         split at hj
         · rw[aX k2];simpa using hj
         · cases hj
       · cases hj
   · cases he
 · rename_i b off len s
   cases hx with
   |mg _ _ _ _ cap c hc hcap hroom=>
   split at he
   · rename_i l hl
     simp only[c9,iu,c8,fb] at he
     obtain⟨rfl,rfl,hp,rfl,h1⟩:=he
     have he:=mD hp
     have h1:=en h1
     obtain⟨c',ob,vs,k1,k2,k3,k4,_,_⟩:=h.obs b _ _ (getD_some hl (by simp))
     rw[hc] at k1;cases k1
     obtain⟨cs,e,q,rfl,_,q0,q1,q2,q3⟩:=k4
     have hlen:=k3.len
     refine ez (vs:=(vs.drop off).take (len*s)) (dS he ((k3.drop off).take (len*s))) (by simp;omega) (fun v hv=> ?_) fun j v hj=> ?_
     · have hv:=de (dd hv)
       rw[q1] at hv
       exact q3 v (dd hv)
     · rw[db] at hj
       split at hj
       · rw[df,q1,db] at hj
         split at hj
         · rw[aX k2];simpa using hj
         · cases hj
       · cases hj
   · rename_i l hl
     simp only[hC,iu,c8,fb] at he
     obtain⟨us,he,rfl,rfl,rfl,h1⟩:=he
     have h1:=en h1
     obtain⟨c',ob,vs,k1,k2,k3,k4,_,_⟩:=h.obs b _ _ (getD_some hl (by simp))
     rw[hc] at k1;cases k1
     obtain⟨cs,e,q,rfl,_,q0,q1,q2,q3⟩:=k4
     have hlen:=k3.len
     refine ez (vs:=(vs.drop off).take (len*s)) (dS he ((k3.drop off).take (len*s))) (by simp;omega) (fun v hv=> ?_) fun j v hj=> ?_
     · have hv:=de (dd hv)
       rw[q1] at hv
       exact q3 v (dd hv)
     · rw[db] at hj
       split at hj
       · rw[df,q1,db] at hj
         split at hj
         · rw[aX k2];simpa using hj
         · cases hj
       · cases hj
   · rename_i l hl
     simp only[c9,iu,c8,fb] at he
     obtain⟨rfl,rfl,hp,rfl,h1⟩:=he
     have he:=mD hp
     have h1:=en h1
     obtain⟨c',ob,vs,k1,k2,k3,k4,_,_⟩:=h.obs b _ _ (getD_some hl (by simp))
     rw[hc] at k1;cases k1
     obtain⟨cs,e,q,rfl,_,q0,q1,q2,q3,_⟩:=k4
     have hlen:=k3.len
     refine ez (vs:=(vs.drop off).take (len*s)) (dS he ((k3.drop off).take (len*s))) (by simp;omega) (fun v hv=> ?_) fun j v hj=> ?_
     · have hv:=de (dd hv)
       rw[q1] at hv
       obtain⟨k,rfl⟩:=q3 v (dd hv)
       rfl
     · rw[db] at hj
       split at hj
       · rw[df,q1,db] at hj
         split at hj
         · rw[aX k2];simpa using hj
         · cases hj
       · cases hj
   · cases he
 · rename_i s
   simp only[c9,iu,fb] at he
   obtain⟨rfl,rfl,rfl⟩:=he
   rw[VA.pv] at hx;cases hx
   refine⟨s.data.toList.map fun b=> .int .u8 b.toNat,bu.dA (by simp) fun i a b=> ?_,by simp,by simp[lj],?_,fun k hk=> ?_⟩
   · simp only[dk];exact .sc _
   · rw[show s.data.toList.length=s.size from fw];simp[la]
   · simp only[kz,ja,Result.ok.injEq,and_true]
     apply Array.ext'
     simp[ByteArray.data_extract]
 · cases he
theorem wD {a:AV} {v:Value} (h:l8 a=true) (ha:VA g w a v):v.oneCell'=true:=by
 cases ha with
 |p pv cv hp=>cases hp<;>first | rfl | (simpa[l8] using h)
 |agg=>simp[l8] at h
 |au=>simp[l8] at h
 |ah=>simp[l8] at h
 |_=>rfl
theorem jz : ∀{l:List AV} {vs:List Value},jP l=true→cL g w l vs → ∀u∈vs,u.oneCell'=true
 |[],[],_,_,_,hu=>by cases hu
 |a::l,v::vs,h,hv,u,hu=>by
  simp only[jP,c8] at h
  cases hu with
  |head=>exact wD h.1 hv.1
  |tail _ hu=>exact jz h.2 hv.2 u hu
 |[],_::_,_,hv,_,_=>hv.elim
 |_::_,[],_,hv,_,_=>hv.elim
theorem kZ {a:AV} {v:Value} (h:(cellsOf a).2=true) (ha:VA g w a v):cL g w (cellsOf a).1 v.cells.toList ∧ ∀u∈v.cells.toList,u.oneCell'=true:=by
 have T4 : ∀{v:Value},v.oneCell'=true→v.cells = #[v]:=by intro v h;cases v<;>first | rfl | (simp[lj] at h)
 cases ha with
 |agg l cs hl hh=>
  have:=VA.zk.1 (.agg l cs hl hh)
  exact⟨this,jz h this⟩
 |p pv cv hp=>
  have h1:=wD (a:= .p pv) (by simpa[cellsOf] using h) (.p pv v hp)
  rw[T4 h1]
  exact⟨⟨.p pv v hp,trivial⟩,by simpa using h1⟩
 |os tok len sz cells ad cap hp hr=>
  exact⟨⟨.os tok len sz cells ad cap hp hr,trivial⟩,by simp[lk,lj]⟩
 |mp b off c hc=>exact⟨⟨.mp b off c hc,trivial⟩,by simp[lk,lj]⟩
 |ms b off len sz cap c hc hcap=>exact⟨⟨.ms b off len sz cap c hc hcap,trivial⟩,by simp[lk,lj]⟩
 |mg b off len sz cap c hc hcap hh=>exact⟨⟨.mg b off len sz cap c hc hcap hh,trivial⟩,by simp[lk,lj]⟩
 |vm b c hc=>exact⟨⟨.vm b c hc,trivial⟩,by simp[lk,lj]⟩
 |vy b c hc=>exact⟨⟨.vy b c hc,trivial⟩,by simp[lk,lj]⟩
 |fn f l k fa ca hl hk h1 h2=>exact⟨⟨.fn f l k fa ca hl hk h1 h2,trivial⟩,by simp[lk,lj]⟩
 |nu t v cv hv=>exact⟨⟨.nu t v cv hv,trivial⟩,by simp[lk,lj]⟩
 |ah=>simp[cellsOf,l8] at h
 |au=>simp[cellsOf,l8] at h
theorem Ah (off:Nat) : ∀(l:List Value) (k:Nat) (cs:Array Value),
  ((l.zipIdx k).foldl (fun cs (c,j)=>cs.setIfInBounds (off+j) c) cs).toList=cW cs.toList (off+k) l
 |[],k,cs=>rfl
 |v::l,k,cs=>by
  simp only[List.zipIdx_cons,List.foldl_cons,cW]
  rw[Ah off l (k+1)]
  simp[fi]
theorem bu.cW {α β:Type} {r:α→β→Prop} : ∀{new:List α} {new':List β} {l:List α} {l':List β} (off:Nat),bu r l l'→bu r new new'→bu r (cW l off new) (cW l' off new')
 |[],[],_,_,_,h,_=>h
 |_::_,_::_,_,_,off,h,k=>bu.cW (off+1) (h.set off k.1) k.2
 |[],_::_,_,_,_,_,k=>k.elim
 |_::_,[],_,_,_,_,k=>k.elim
theorem jY {α:Type} {p:α→Prop} : ∀(n l:List α) (o:Nat),(∀v∈l,p v)→(∀v∈n,p v) → ∀v∈cW l o n,p v
 |[],_,_,h,_=>h
 |x::n,l,o,h,h'=>jY n _ (o+1) (fun v hv=>by
   rcases List.mem_or_eq_of_mem_set hv with k | k
   · exact h v k
   · exact k▸h' x (.head _)) fun v hv=>h' v (.tail _ hv)
theorem kP {place:Nat→Option (Nat×Nat)} : ∀{parts:List (Nat×AV)} {jZ:List (Nat×Value)} {cells cs:List AV} {ca:Array Value},
  bu (fun a b=>a.1=b.1∧VA g w a.2 b.2) parts jZ→Fc g w cells ca.toList→ue place cells parts=some (cs,true) →
   ∃BU,kp place ca jZ=some BU∧Fc g w cs BU.toList∧BU.size=ca.size
 |[],[],cells,cs,ca,_,hc,h=>by
  simp[ue] at h;subst h
  exact⟨ca,rfl,hc,rfl⟩
 |(i,a)::parts,(j,v)::jZ,cells,cs,ca,hp,hc,h=>by
  obtain⟨⟨rfl,hv⟩,hp⟩:=hp
  simp only[ue] at h
  cases KP:place i with
  |none=>simp[KP] at h
  |some q=>
   obtain⟨off,size⟩:=q
   simp only[KP] at h
   cases hf:ue place (cW cells off (cellsOf a).1) parts with
   |none=>simp[hf] at h
   |some r=>
    obtain⟨cs',ok⟩:=r
    simp only[hf,c9,iu,c8,fb] at h
    obtain⟨rfl,⟨⟨h0,h1⟩,h2⟩,rfl⟩:=h
    have h2:=en h2
    have hlc:=hc.1.len
    obtain⟨k1,k2⟩:=kZ h0 hv
    have qe:=k1.len
    have zu:Fc g w (cW cells off (cellsOf a).1) (cW ca.toList off v.cells.toList):=⟨hc.1.cW off k1,jY _ _ _ hc.2 k2⟩
    have Hq:(v.cells.zipIdx.foldl (fun cs (c,j)=>cs.setIfInBounds (off+j) c) ca).toList=cW ca.toList off v.cells.toList:=by
     rw[←Array.foldl_toList,Array.toList_zipIdx,Ah];simp
    obtain⟨BU,q1,q2,q3⟩:=kP (ca:=v.cells.zipIdx.foldl (fun cs (c,j)=>cs.setIfInBounds (off+j) c) ca) hp (by rw[Hq];exact zu) hf
    have hsz:v.cells.size=size:=by simp at qe;omega
    have hroom : ¬(off+v.cells.size>ca.size):=by simp at hlc;omega
    refine⟨BU,?_,q2,?_⟩
    · simp only[kp,KP]
      rw[if_neg (by simp[hsz,hsz▸hroom]<;>omega)]
      exact q1
    · rw[q3]
      have:=congrArg List.length Hq
      have Qd : ∀(n:List Value) (l:List Value) (o:Nat),(cW l o n).length=l.length:=by
       intro n
       induction n with
       |nil=>intro l o;rfl
       |cons x n ih=>intro l o;simp[cW,ih]
      simpa[Qd] using this
 |[],_::_,_,_,_,h,_,_=>h.elim
 |_::_,[],_,_,_,h,_,_=>h.elim
end ops
end Go.Am
end
section
namespace Go.Am
open Go.RowKit
section ops
variable {P:Program} {g:Gh} {m:Mem} {w:World}
theorem checked_eq {l k:List AV} (h:checked l=some k):k=l∧jP l=true:=by
 unfold checked at h
 cases hb:jP l with
 |false=>simp[hb] at h
 |true=>simp[hb] at h;exact⟨h.symm,rfl⟩
theorem ct {t:TypeId} {l:List AV} (h:zeroCells P t=some l) : ∃z,(∀w,(zeroValue t).run P w = .ok z w)∧Fc g w l z.cells.toList:=by
 unfold zeroCells at h
 cases hi:P.info? t with
 |none=>simp[hi] at h
 |some i=>
  cases hz:i.zero with
  |none=>simp[hi,hz] at h
  |some z=>
   have hrun : ∀w,(zeroValue t).run P w = .ok z w:=fun w=>by simp[zeroValue,typeInfo,hi,hz]
   refine⟨z,hrun,?_⟩
   simp only[hi,Option.bind_some,hz] at h
   cases z<;>(obtain⟨rfl,hc⟩:=checked_eq h)<;>first
    |exact⟨cL.oN _,jz hc (cL.oN (g:=g) (w:=w) _)⟩
    |exact⟨⟨VA.iD _,trivial⟩,jz (vs:=[_]) hc ⟨VA.iD (g:=g) (w:=w) _,trivial⟩⟩
theorem nK : ∀{fs:List Field} {pl:List (Nat×Nat)},placesOf P fs=some pl → ∀w,(fs.mapM fun f=>do pure (f.offset,←sizeOf f.type):Sem (List (Nat×Nat))).run P w = .ok pl w
 |[],pl,h,w=>by simp[placesOf] at h;subst h;simp
 |f::fs,pl,h,w=>by
  simp only[placesOf] at h
  cases h1:fN P f.type with
  |none=>simp[h1] at h
  |some n=>
   cases h2:placesOf P fs with
   |none=>simp[h1,h2] at h
   |some l=>
    simp only[h1,h2,c9] at h
    subst h
    have ih:=nK h2 w
    simp only[List.mapM_cons,iv,aK h1,jb,ja,ih]
theorem zw {t:TypeId} {parts:List (Nat×AV)} {jZ:Array (Nat×Value)} {a:AV} (h:vr P t parts=some (a,true)) (hp:bu (fun a b=>a.1=b.1∧VA g w a.2 b.2) parts jZ.toList) :
  ∃v,(kh t jZ).run P w = .ok v w∧VA g w a v:=by
 unfold vr at h
 split at h
 · rename_i z fields hz hu
   split at h
   · rename_i pl KP
     simp only[hC,iu] at h
     obtain⟨⟨cs,ok⟩,h1,rfl,h2⟩:=h
     simp only at h2;subst h2
     obtain⟨zv,Hr,Fq⟩:=ct (g:=g) (w:=w) hz
     obtain⟨ca,h3,h4,_⟩:=kP hp Fq h1
     refine⟨.agg ca,?_,VA.zk.2 h4.1⟩
     have abX:(fields.mapM fun f=>do pure (f.offset,←sizeOf f.type):Sem (Array (Nat×Nat))).run P w = .ok pl.toArray w:=by
      rw[Array.mapM_eq_mapM_toList]
      simp only[Sem.run_map,nK KP w,jb]
     have hfun:(fun i:Nat=>pl.toArray[i]?)=fun i:Nat=>pl[i]? :=by funext i;simp
     simp only[kh,iv,Hr,jb,run_underlying hu,abX,hfun,h3,ja]
   · cases h
 · rename_i z n elem hz hu
   split at h
   · rename_i size hsz
     simp only[hC,iu] at h
     obtain⟨⟨cs,ok⟩,h1,rfl,h2⟩:=h
     simp only at h2;subst h2
     obtain⟨zv,Hr,Fq⟩:=ct (g:=g) (w:=w) hz
     obtain⟨ca,h3,h4,_⟩:=kP hp Fq h1
     exact⟨.agg ca,by simp only[kh,iv,Hr,jb,run_underlying hu,aK hsz,h3,ja],VA.zk.2 h4.1⟩
   · cases h
 · cases h
theorem nL {α:Type} (z:List α) : ∀n,(cr z n).length=n*z.length
 |0=>by simp[cr]
 |n+1=>by simp[cr,nL z n,Nat.succ_mul,Nat.add_comm]
theorem uj {α:Type} (z:List α) : ∀(n i:Nat) (h:i<(cr z n).length),∃h':i%z.length<z.length,(cr z n)[i]=z[i%z.length]
 |0,i,h=>by simp[cr] at h
 |n+1,i,h=>by
  simp only[cr,di] at h
  by_cases hlt:i<z.length
  · refine⟨by rw[fl hlt];exact hlt,?_⟩
    simp only[cr,dE,hlt,dite_true,fl hlt]
  · obtain⟨h1,h2⟩:=uj z n (i-z.length) (by omega)
    have e:(i-z.length)%z.length=i%z.length:=by rw[←Nat.mod_eq_sub_mod (by omega)]
    refine⟨by rw[←e];exact h1,?_⟩
    simp only[cr,dE,hlt,dite_false,h2,e]
theorem sX {α:Type} {r:α→Value→Prop} {z:List α} {zv:Array Value} (hz:bu r z zv.toList) (n:Nat) :
  bu r (cr z n) ((gv (n*zv.size)).map (zv[· % zv.size]!)).toList:=by
 have hl:=hz.len
 simp at hl
 refine bu.dA (by simp[nL,hl]) fun i hi hj=> ?_
 obtain⟨h1,h2⟩:=uj z n i hi
 rw[h2]
 have h3:i%zv.size<zv.size:=hl▸h1
 simp only[gn,gg,dk,List.getElem_range]
 rw[getElem!_pos zv _ h3]
 have:=hz.get (i%z.length) h1 (by simpa[←hl] using h1)
 simpa[hl] using this
theorem BV {zv:Array Value} (h : ∀v∈zv.toList,v.oneCell'=true) (n:Nat) : ∀v∈((gv (n*zv.size)).map (zv[· % zv.size]!)).toList,v.oneCell'=true:=by
 intro v hv
 simp only[gn,gg,eh,List.mem_range] at hv
 obtain⟨i,hi,rfl⟩:=hv
 have h3:i%zv.size<zv.size:=Nat.mod_lt _ (Nat.pos_of_ne_zero fun e=>by simp[e] at hi)
 rw[getElem!_pos zv _ h3]
 exact h _ (by simp)
theorem hY {α:Type} (v:α) : ∀n,List.replicate n v=cr [v] n
 |0=>rfl
 |n+1=>by rw[List.replicate_succ,hY v n];rfl
theorem Lj {elem:TypeId} {n:Nat} {l:List AV} (h:zeros P elem n=some l) : ∃size z,fN P elem=some size∧zeroCells P elem=some z∧z.length=size∧1≤size∧l=cr z n:=by
 unfold zeros at h
 split at h
 · rename_i size z h1 h2
   cases hb:(ae z.length size&&ag 1 size) with
   |false=>simp[hb] at h
   |true=>
    simp only[hb,cond_true] at h
    simp only[c8,fb] at hb
    refine⟨size,z,h1,h2,hb.1,en hb.2,?_⟩
    split at h
    · simp only[c9] at h;rw[←h,hY]
    · simp only[c9] at h;exact h.symm
 · cases h
theorem Ll {elem:TypeId} {n:Nat} {b:aU} (h:KX P elem n=some b) : ∃size z,fN P elem=some size∧zeroCells P elem=some z∧z.length=size∧1≤size∧b.cells?=some (cr z n):=by
 have YB : ∀(vs:List PV) n,(cr vs n).map AV.p=cr (vs.map AV.p) n:=by
  intro vs n
  induction n with
  |zero=>rfl
  |succ n ih=>simp[cr,ih]
 unfold KX at h
 split at h
 · rename_i size z h1 h2
   cases hb:(ae z.length size&&ag 1 size) with
   |false=>simp[hb] at h
   |true=>
    simp only[hb,cond_true] at h
    simp only[c8,fb] at hb
    refine⟨size,z,h1,h2,hb.1,en hb.2,?_⟩
    split at h
    · rename_i v hv
      simp only[c9] at h;subst h
      have:=qQ hv
      simp only[aU.cells?,hY,YB,this]
    · rename_i vs _ hv
      simp only[c9] at h;subst h
      have:=qQ hv
      simp only[aU.cells?,YB,this]
    · simp only[c9] at h;subst h;rfl
 · cases h
theorem eI (w:World) (o:Obj):qc w (w.alloc o) o:=⟨rfl,rfl,rfl,rfl⟩
theorem b8.alloc (h:Rel g m w) {aZ:Nat} (hn:m[aZ]? = some .free) {l:List AV} {cs:Array Value} {e:TypeId} {b:aU} (hb:b.cells?=some l) (hv:Fc g w l cs.toList) {r:Result Next} {v:Value} {a:AV}
  (hr:r = .ok (.value v) (w.alloc (.cells cs e))) (ha : ∀g':Gh,g'.bP aZ=some w.heap.size→VA g' (w.alloc (.cells cs e)) a v):b8 g m w r a (m.set aZ b):=by
 obtain⟨h1,h2,h3⟩:=h.alloc hn hb hv (eI w (.cells cs e))
 exact⟨v,_,_,.inl hr,ha _ (by simp[Gh.put]),h1,h2,h3⟩
end ops
end Go.Am
end
