import Derived.Test.YtjfgfhaoeicpdaaGreatDoorMA
open Option.some renaming injEq→cp,inj→c8
open List renaming getD_eq_getElem?_getD→cb,getElem?_take→c9,getElem?_eq_getElem→bm,mem_of_mem_take→da,mem_of_mem_drop→db,getElem?_drop→dd,length_append→de,getElem_map→df,getElem?_eq_some_iff→di,take_of_length_le→dk,getElem?_eq_none→dp,length_set→dq,length_drop→dt,length_take→du,getElem_append→dv,getElem?_map→dC,getElem_mem→dE,drop_take→dT,mem_map→ed,range→ee
open Nat renaming le_of_ble_eq_true→eh,le_refl→bj,lt_irrefl→ei,beq_eq→en,le_trans→a6,mul_le_mul_right→eQ,eq_of_beq_eq_true→ag,beq→ae,lt_or_ge→fb,sub_mul→fe,add_assoc→fg,mod_eq_of_lt→fh,ble→ai,blt_eq→fi
open Array renaming getElem?_eq_getElem→fl,length_toList→ft,getElem?_push→fv,toList_range→fw,toList_map→fx,range→gg
open Option renaming map_eq_some_iff→gn,map_none→gv,map_some→hC,isSome_iff_exists→hP,getD_some→hX
open Bool renaming and_eq_true→ch,eq_false_iff→hZ,or_eq_true→ib,not_eq_true'→ic
open Prod.mk renaming injEq→ie
open Go.Sem renaming run_bind→il,run_pure→im
open Go.Result renaming andThen_ok→iu
open Go.Instr renaming sliceBounds→iv,sliceAt→ja,slice→jb,indexAt→jn,sureAddr→j1,sliceBound→j2,index→ka,build→kb,fieldAt→kc,field→kd,fill→kh
open Go.Op renaming eqFields→kl,intArith→km
open Go.Builtin renaming len_→kp,firstCells→kv,lenOf→kx,cap_→ky
open Go.Value renaming oneCell'→kz,cells→la
section
namespace Go.Am
open Go.RowKit
theorem nh : ∀{l:List AV},qw l=true→(l.map mO).map AV.p=l
 |[],_=>rfl
 |.p v::r,h=>by
  simp only[qw] at h
  have:=nh h
  simp only[List.map_cons,mO]
  rw[this]
 |.aj::_,h | .os .. :: _,h | .mp .. :: _,h | .ms .. :: _,h | .fn .. :: _,h | .agg _::_,h | .aA _::_,h | .mW .. :: _,h | .vm _::_,h | .vy _::_,h=>by simp[qw] at h
theorem qH {l:List AV} {vs:List PV} (h:J8 l=some vs):vs.map AV.p=l:=by
 unfold J8 at h
 cases hp:qw l with
 |false=>simp[hp] at h
 |true=>
  simp only[hp,cond_true,cp] at h
  subst h
  exact nh hp
theorem ni (l:List AV):(Dj l).cells?=some l:=by
 unfold Dj
 cases h:J8 l with
 |none=>rfl
 |some vs=>simp[aU.cells?,qH h]
theorem cU {b:aU} {l:List AV} (h:b.cells?=some l):b.dz=true:=by cases b<;>simp_all [aU.cells?,aU.dz]
def Gh.put (g:Gh) (i c lo hi:Nat):Gh:=
 {g with bS:=fun j=>if j=i then some c else g.bS j,lo:=fun j=>if j=i then lo else g.lo j,hi:=fun j=>if j=i then hi else g.hi j}
def Gh.more (g:Gh) (c lo hi:Nat):Gh:={g with pure:=fun c' o=>g.pure c' o∨(c'=c∧lo≤o∧o<hi)}
theorem getElem?_set' {α:Type} (l:List α) (i j:Nat) (a:α):(l.set i a)[j]? = if i=j∧i<l.length then some a else l[j]? :=by
 rw[List.getElem?_set]
 by_cases h:i=j
 · subst h;by_cases h2:i<l.length<;>simp[h2]
 · simp[h]
theorem bF {α:Type} {l:List α} {i:Nat} {a:α} (h:l[i]? = some a):i<l.length:=(di.1 h).1
theorem dV {w w':World} {c o:Nat} (h:w'.heap[c]? = w.heap[c]?):w'.cell? ⟨c,o,none⟩=w.cell? ⟨c,o,none⟩:=by
 simp only[World.cell?,h]
theorem bk {w:World} {c o:Nat} {cs:Array Value} {e:TypeId} {n:Nat×Nat} (h:w.heap[c]? = some (.cells cs e n)):w.cell? ⟨c,o,none⟩=cs[o]? :=by
 simp[World.cell?,h]
theorem bO {w:World} {c:Nat} {o:Obj} (h:w.heap[c]? = some o):c<w.heap.size:=by
 rcases fb c w.heap.size with k | k
 · exact k
 · simp[Array.getElem?_eq_none k] at h
theorem sG {g:Gh} {m:Mem} {i:Nat} {b:aU} {c:Nat} (h:fD g (m.set i b) c):(b.dz=true∧g.bS i=some c)∨(∃j b',j≠i∧m[j]? = some b'∧b'.dz=true∧g.bS j=some c):=by
 obtain⟨j,b',hj,ho,hc⟩:=h
 rw[getElem?_set'] at hj
 by_cases e:i=j∧i<m.length
 · rw[if_pos e] at hj;cases hj;exact .inl ⟨ho,e.1▸hc⟩
 · rw[if_neg e] at hj
   refine .inr ⟨j,b',fun h=> ?_,hj,ho,hc⟩
   subst h
   exact e ⟨rfl,bF hj⟩
theorem Rel.kill {g:Gh} {m:Mem} {w:World} (h:Rel g m w) (i:Nat):Rel g (m.set i .dead) w∧dc g m w g (m.set i .dead) w:=by
 have get : ∀j b,(m.set i .dead)[j]? = some b→b = .dead∨(j≠i∧m[j]? = some b):=by
  intro j b hj
  rw[getElem?_set'] at hj
  by_cases e:i=j∧i<m.length
  · rw[if_pos e] at hj;exact .inl (c8 hj).symm
  · rw[if_neg e] at hj
    by_cases e2:i=j
    · subst e2;exact absurd ⟨rfl,bF hj⟩ e
    · exact .inr ⟨fun h=>e2 h.symm,hj⟩
 refine⟨⟨fun j hj=>h.vJ j (by simpa using hj),fun j hj=> ?_,fun j b l hj hl=> ?_,fun j c hj hc=> ?_,fun j k b b' c hj hk ho ho' hc fm=> ?_,h.there,fun j kk ll hj=> ?_⟩,dc.less fun c ho=> ?_⟩
 · rcases get j _ hj with e | ⟨_,e⟩
   · cases e
   · exact h.free j e
 · rcases get j _ hj with e | ⟨_,e⟩
   · subst e;cases hl
   · exact h.cells j b l e hl
 · rcases get j _ hj with e | ⟨_,e⟩
   · cases e
   · exact h.tok j c e hc
 · rcases get j _ hj with e | ⟨_,e⟩
   · subst e;simp[aU.dz] at ho
   rcases get k _ hk with e' | ⟨_,e'⟩
   · subst e';simp[aU.dz] at ho'
   exact h.inj j k b b' c e e' ho ho' hc fm
 · rcases get j _ hj with e | ⟨_,e⟩
   · cases e
   · exact h.obs j kk ll e
 · obtain⟨j,b,hj,hb,hc⟩:=ho
   rcases get j _ hj with e | ⟨_,e⟩
   · subst e;simp[aU.dz] at hb
   · exact⟨j,b,e,hb,hc⟩
theorem Rel.write {g:Gh} {m:Mem} {w w':World} (h:Rel g m w) {i c:Nat} {b b':aU} {l l':List AV} {cs':Array Value} {e':TypeId} {n':Nat×Nat}
  (hi:m[i]? = some b) (hl:b.cells?=some l) (hc:g.bS i=some c) (hl':b'.cells?=some l')
  (hw : ∀k,k≠c→w'.heap[k]? = w.heap[k]?) (hs:w'.heap.size=w.heap.size) (ho:w'.os=w.os) (ht:w'.tape=w.tape) (hu:w'.output=w.output)
  (hh:w'.heap[c]? = some (.cells cs' e' n')) (hn:n'.2≤n'.1) (hv:FZ g w l' cs'.toList) :
  Rel g (m.set i b') w'∧Ext g w g w'∧dc g m w g (m.set i b') w':=by
 obtain⟨c0,cs,e,n,h1,h2,h3,h4,h5⟩:=h.cells i b l hi hl
 rw[hc] at h1;cases h1
 have hp : ∀c' o,g.pure c' o→w'.cell? ⟨c',o,none⟩=w.cell? ⟨c',o,none⟩:=fun c' o p=>dV (hw c' fun e=>h5 o (e▸p))
 have ext:Ext g w g w':=⟨fun _ _ h=>⟨h,rfl,rfl⟩,fun c' o p=>⟨p,hp c' o p⟩⟩
 have get : ∀j x,(m.set i b')[j]? = some x→(j=i∧x=b')∨(j≠i∧m[j]? = some x):=by
  intro j x hj
  rw[getElem?_set'] at hj
  by_cases e:i=j∧i<m.length
  · rw[if_pos e] at hj;exact .inl ⟨e.1.symm,(c8 hj).symm⟩
  · rw[if_neg e] at hj
    by_cases e2:i=j
    · subst e2;exact absurd ⟨rfl,bF hj⟩ e
    · exact .inr ⟨fun h=>e2 h.symm,hj⟩
 have ne : ∀j x c',j≠i→m[j]? = some x→x.dz=true→g.bS j=some c'→c'≠c:=fun j x c' hji hj ho fm e=>hji (h.inj j i x b c hj hi ho (cU hl) (e▸fm) hc)
 refine⟨⟨fun j hj=>h.vJ j (by simpa using hj),fun j hj=> ?_,fun j x k hj hk=> ?_,fun j c' hj fm=> ?_,fun j k x x' c' hj hk ho ho' gG iE=> ?_,fun c' o p=> ?_,fun j kk ll hj=> ?_⟩,ext,⟨by omega,fun k hk hn=> ?_,fun c' o p=>⟨p,hp c' o p⟩,fun _ _ p=> .inl p,fun c' ho'=> ?_,ho,ht,hu⟩⟩
 · rcases get j _ hj with⟨rfl,e⟩ | ⟨_,e⟩
   · subst e;cases hl'
   · exact h.free j e
 · rcases get j _ hj with⟨rfl,e⟩ | ⟨hji,e⟩
   · subst e
     rw[hl'] at hk;cases hk
     exact⟨c,cs',e',n',hc,hh,hn,hv.mono ext,h5⟩
   · obtain⟨c1,cs1,e1,n1,k1,k2,k3,k4,k5⟩:=h.cells j x k e hk
     exact⟨c1,cs1,e1,n1,k1,(hw c1 (ne j x c1 hji e (cU hk) k1)).trans k2,k3,k4.mono ext,k5⟩
 · rcases get j _ hj with⟨rfl,e⟩ | ⟨hji,e⟩
   · subst e;cases hl'
   · obtain⟨cs1,e1,n1,k2,k3,k4,k5⟩:=h.tok j c' e fm
     exact⟨cs1,e1,n1,(hw c' (ne j _ c' hji e rfl fm)).trans k2,k3,k4,k5⟩
 · rcases get j _ hj with⟨rfl,e⟩ | ⟨hji,e⟩<;>rcases get k _ hk with⟨rfl,e'⟩ | ⟨hki,e'⟩
   · rfl
   · rw[hc] at gG;cases gG
     exact absurd rfl (ne k x' _ hki e' ho' iE)
   · rw[hc] at iE;cases iE
     exact absurd rfl (ne j x _ hji e ho gG)
   · exact h.inj j k x x' c' e e' ho ho' gG iE
 · obtain⟨v,hv⟩:=h.there c' o p
   exact⟨v,(hp c' o p).trans hv⟩
 · rcases get j _ hj with⟨rfl,e⟩ | ⟨hji,e⟩
   · subst e;cases hl'
   · obtain⟨c1,F0,vs1,k1,k2,k3,k6,k7,k8⟩:=h.obs j kk ll e
     exact⟨c1,F0,vs1,k1,(hw c1 (ne j _ c1 hji e rfl k1)).trans k2,k3.mono ext,k6,k7,k8⟩
 · exact hw k fun e=>hn ⟨i,b,hi,cU hl,e▸hc⟩
 · rcases sG ho' with⟨_,k⟩ | ⟨j,x,_,k1,k2,k3⟩
   · exact .inl ⟨i,b,hi,cU hl,k⟩
   · exact .inl ⟨j,x,k1,k2,k3⟩
theorem aP {m:Mem} {i:Nat} {b':aU} {j:Nat} {x:aU} (hj:(m.set i b')[j]? = some x):(j=i∧x=b')∨(j≠i∧m[j]? = some x):=by
 rw[getElem?_set'] at hj
 by_cases e:i=j∧i<m.length
 · rw[if_pos e] at hj;exact .inl ⟨e.1.symm,(c8 hj).symm⟩
 · rw[if_neg e] at hj
   by_cases e2:i=j
   · subst e2;exact absurd ⟨rfl,bF hj⟩ e
   · exact .inr ⟨fun h=>e2 h.symm,hj⟩
structure pQ (w w':World) (o:Obj):Prop where
 heap:w'.heap=w.heap.push o
 os:w'.os=w.os
 tape:w'.tape=w.tape
 output:w'.output=w.output
theorem pQ.old {w w':World} {o:Obj} (h:pQ w w' o) {k:Nat} (hk:k<w.heap.size):w'.heap[k]? = w.heap[k]? :=by
 rw[h.heap,fv,if_neg (by omega)]
theorem pQ.new {w w':World} {o:Obj} (h:pQ w w' o):w'.heap[w.heap.size]? = some o:=by
 rw[h.heap,fv,if_pos rfl]
theorem pQ.size {w w':World} {o:Obj} (h:pQ w w' o):w'.heap.size=w.heap.size+1:=by rw[h.heap];simp
theorem Rel.alloc {g:Gh} {m:Mem} {w w':World} (h:Rel g m w) {i:Nat} {b:aU} {l:List AV} {cs:Array Value} {e:TypeId}
  (hi:m[i]? = some .free) (hl:b.cells?=some l) (hv:FZ g w l cs.toList) (hw:pQ w w' (.cells cs e)) :
  Rel (g.put i w.heap.size 0 0) (m.set i b) w'∧Ext g w (g.put i w.heap.size 0 0) w'∧dc g m w (g.put i w.heap.size 0 0) (m.set i b) w':=by
 have hf:=h.free i hi
 have ud:=bF hi
 have hp : ∀c o,g.pure c o→w'.cell? ⟨c,o,none⟩=w.cell? ⟨c,o,none⟩:=fun c o p=>dV (hw.old (h.lV p))
 have bo : ∀j,j≠i→(g.put i w.heap.size 0 0).bS j=g.bS j:=fun j hj=>by simp[Gh.put,hj]
 have bi:(g.put i w.heap.size 0 0).bS i=some w.heap.size:=by simp[Gh.put]
 have ext:Ext g w (g.put i w.heap.size 0 0) w':=⟨fun j c hc=>by
  have:j≠i:=fun e=>by subst e;rw[hf] at hc;cases hc
  simp[Gh.put,this,hc],fun c o p=>⟨p,hp c o p⟩⟩
 have lt : ∀j x c,m[j]? = some x→x.dz=true→g.bS j=some c→c<w.heap.size:=fun j x c hj ho hc=>h.kX ⟨j,x,hj,ho,hc⟩
 refine⟨⟨fun j hj=> ?_,fun j hj=> ?_,fun j x k hj hk=> ?_,fun j c hj hc=> ?_,fun j k x x' c hj hk ho ho' gG iE=> ?_,fun c o p=> ?_,fun j kk ll hj=> ?_⟩,ext,⟨by rw[hw.size];omega,fun k hk _=>hw.old hk,fun c o p=>⟨p,hp c o p⟩,fun _ _ p=> .inl p,fun c ho=> ?_,hw.os,hw.tape,hw.output⟩⟩
 · rw[dq] at hj
   rw[bo j (by omega)];exact h.vJ j hj
 · rcases aP hj with⟨rfl,e⟩ | ⟨hji,e⟩
   · subst e;cases hl
   · rw[bo j hji];exact h.free j e
 · rcases aP hj with⟨rfl,e⟩ | ⟨hji,e⟩
   · subst e;rw[hl] at hk;cases hk
     refine⟨_,cs,_,(0,0),bi,hw.new,bj _,hv.mono ext,fun o p=> ?_⟩
     have:=h.lV p
     omega
   · obtain⟨c1,cs1,e1,n1,k1,k2,k3,k4,k5⟩:=h.cells j x k e hk
     exact⟨c1,cs1,e1,n1,(bo j hji).trans k1,(hw.old (bO k2)).trans k2,k3,k4.mono ext,k5⟩
 · rcases aP hj with⟨rfl,e⟩ | ⟨hji,e⟩
   · subst e;cases hl
   · rw[bo j hji] at hc
     obtain⟨cs1,e1,n1,k2,k3,k4,k5⟩:=h.tok j c e hc
     have h1:(g.put i w.heap.size 0 0).hi j=g.hi j:=by simp[Gh.put,hji]
     have h2:(g.put i w.heap.size 0 0).lo j=g.lo j:=by simp[Gh.put,hji]
     rw[h1,h2]
     exact⟨cs1,e1,n1,(hw.old (bO k2)).trans k2,k3,k4,k5⟩
 · rcases aP hj with⟨rfl,e⟩ | ⟨hji,e⟩<;>rcases aP hk with⟨rfl,e'⟩ | ⟨hki,e'⟩
   · rfl
   · rw[bi] at gG;cases gG
     rw[bo k hki] at iE
     exact absurd (lt k x' _ e' ho' iE) (ei _)
   · rw[bi] at iE;cases iE
     rw[bo j hji] at gG
     exact absurd (lt j x _ e ho gG) (ei _)
   · rw[bo j hji] at gG;rw[bo k hki] at iE
     exact h.inj j k x x' c e e' ho ho' gG iE
 · obtain⟨v,hv⟩:=h.there c o p
   exact⟨v,(hp c o p).trans hv⟩
 · rcases aP hj with⟨rfl,e⟩ | ⟨hji,e⟩
   · subst e;cases hl
   · obtain⟨c1,F0,vs1,k1,k2,k3,k6,k7,k8⟩:=h.obs j kk ll e
     exact⟨c1,F0,vs1,(bo j hji).trans k1,(hw.old (bO k2)).trans k2,k3.mono ext,k6,k7,by simpa[Gh.put,hji] using k8⟩
 · obtain⟨j,x,hj,hx,hc⟩:=ho
   rcases aP hj with⟨rfl,e⟩ | ⟨hji,e⟩
   · rw[bi] at hc;cases hc;exact .inr (bj _)
   · rw[bo j hji] at hc;exact .inl ⟨j,x,e,hx,hc⟩
theorem Rel.fresh {g:Gh} {m:Mem} {w w':World} (h:Rel g m w) {i k:Nat} {cs:Array Value} {e:TypeId} {n:Nat×Nat}
  (hi:m[i]? = some .free) (hw:pQ w w' (.cells cs e n)) (hk:k≤cs.size) (hn:n.2≤n.1∨cs.size≤n.1) :
  let g':=(g.put i w.heap.size k cs.size).more w.heap.size 0 k
  Rel g' (m.set i .tok) w'∧Ext g w g' w'∧dc g m w g' (m.set i .tok) w':=by
 intro g'
 have hf:=h.free i hi
 have ud:=bF hi
 have hp : ∀c o,g.pure c o→w'.cell? ⟨c,o,none⟩=w.cell? ⟨c,o,none⟩:=fun c o p=>dV (hw.old (h.lV p))
 have bo : ∀j,j≠i→g'.bS j=g.bS j:=fun j hj=>by simp[g',Gh.put,Gh.more,hj]
 have bi:g'.bS i=some w.heap.size:=by simp[g',Gh.put,Gh.more]
 have ext:Ext g w g' w':=⟨fun j c hc=>by
  have:j≠i:=fun e=>by subst e;rw[hf] at hc;cases hc
  simp[g',Gh.put,Gh.more,this,hc],fun c o p=>⟨.inl p,hp c o p⟩⟩
 have lt : ∀j x c,m[j]? = some x→x.dz=true→g.bS j=some c→c<w.heap.size:=fun j x c hj ho hc=>h.kX ⟨j,x,hj,ho,hc⟩
 refine⟨⟨fun j hj=> ?_,fun j hj=> ?_,fun j x l hj hl=> ?_,fun j c hj hc=> ?_,fun j k x x' c hj hk ho ho' gG iE=> ?_,fun c o p=> ?_,fun j kk ll hj=> ?_⟩,ext,⟨by rw[hw.size];omega,fun k hk _=>hw.old hk,fun c o p=>⟨.inl p,hp c o p⟩,fun c o p=> ?_,fun c ho=> ?_,hw.os,hw.tape,hw.output⟩⟩
 · rw[dq] at hj
   rw[bo j (by omega)];exact h.vJ j hj
 · rcases aP hj with⟨rfl,e⟩ | ⟨hji,e⟩
   · cases e
   · rw[bo j hji];exact h.free j e
 · rcases aP hj with⟨rfl,e⟩ | ⟨hji,e⟩
   · subst e;cases hl
   · obtain⟨c1,cs1,e1,n1,k1,k2,k3,k4,k5⟩:=h.cells j x l e hl
     refine⟨c1,cs1,e1,n1,(bo j hji).trans k1,(hw.old (bO k2)).trans k2,k3,k4.mono ext,fun o p=> ?_⟩
     rcases p with p | ⟨rfl,_⟩
     · exact k5 o p
     · exact absurd (bO k2) (ei _)
 · rcases aP hj with⟨rfl,_⟩ | ⟨hji,e⟩
   · rw[bi] at hc;cases hc
     refine⟨cs,_,n,hw.new,by simp[g',Gh.put,Gh.more],by simpa[g',Gh.put,Gh.more] using hn,fun o h1 _ p=> ?_⟩
     have h1':k≤o:=by simpa[g',Gh.put,Gh.more] using h1
     rcases p with p | ⟨_,_,p⟩
     · exact absurd (h.lV p) (ei _)
     · omega
   · rw[bo j hji] at hc
     obtain⟨cs1,e1,n1,k2,k3,k4,k5⟩:=h.tok j c e hc
     have h1:g'.hi j=g.hi j:=by simp[g',Gh.put,Gh.more,hji]
     have h2:g'.lo j=g.lo j:=by simp[g',Gh.put,Gh.more,hji]
     rw[h1,h2]
     refine⟨cs1,e1,n1,(hw.old (bO k2)).trans k2,k3,k4,fun o a b p=> ?_⟩
     rcases p with p | ⟨rfl,_⟩
     · exact k5 o a b p
     · exact absurd (bO k2) (ei _)
 · rcases aP hj with⟨rfl,e⟩ | ⟨hji,e⟩<;>rcases aP hk with⟨rfl,e'⟩ | ⟨hki,e'⟩
   · rfl
   · rw[bi] at gG;cases gG
     rw[bo k hki] at iE
     exact absurd (lt k x' _ e' ho' iE) (ei _)
   · rw[bi] at iE;cases iE
     rw[bo j hji] at gG
     exact absurd (lt j x _ e ho gG) (ei _)
   · rw[bo j hji] at gG;rw[bo k hki] at iE
     exact h.inj j k x x' c e e' ho ho' gG iE
 · rcases p with p | ⟨rfl,_,p⟩
   · obtain⟨v,hv⟩:=h.there c o p
     exact⟨v,(hp c o p).trans hv⟩
   · exact⟨cs[o],by rw[bk hw.new,fl (by omega)]⟩
 · rcases aP hj with⟨rfl,e⟩ | ⟨hji,e⟩
   · cases e
   · obtain⟨c1,F0,vs1,k1,k2,k3,k6,k7,k8⟩:=h.obs j kk ll e
     exact⟨c1,F0,vs1,(bo j hji).trans k1,(hw.old (bO k2)).trans k2,k3.mono ext,k6,fun o p=>p.elim (k7 o) fun q=>absurd (bO k2) (by rw[q.1];exact ei _),by simpa[g',Gh.put,Gh.more,hji] using k8⟩
 · rcases p with p | ⟨rfl,_⟩
   · exact .inl p
   · exact .inr (.inr (bj _))
 · obtain⟨j,x,hj,hx,hc⟩:=ho
   rcases aP hj with⟨rfl,e⟩ | ⟨hji,e⟩
   · rw[bi] at hc;cases hc;exact .inr (bj _)
   · rw[bo j hji] at hc;exact .inl ⟨j,x,e,hx,hc⟩
theorem Rel.spare {g:Gh} {m:Mem} {w w':World} (h:Rel g m w) {t i c k:Nat} {cs cs':Array Value} {e e':TypeId} {n:Nat×Nat}
  (ht:m[t]? = some .tok) (hc:g.bS t=some c) (hi:m[i]? = some .free) (hcs:w.heap[c]? = some (.cells cs e n)) (hk:g.lo t+k≤g.hi t)
  (hw : ∀j,j≠c→w'.heap[j]? = w.heap[j]?) (hs:w'.heap.size=w.heap.size) (ho:w'.os=w.os) (htp:w'.tape=w.tape) (hu:w'.output=w.output)
  (hh:w'.heap[c]? = some (.cells cs' e' n)) (hcz:cs'.size=cs.size) (hout : ∀o,o<g.lo t∨g.hi t≤o→cs'[o]? = cs[o]?) :
  let g':=(g.put i c (g.lo t+k) (g.hi t)).more c (g.lo t) (g.lo t+k)
  Rel g' ((m.set t .dead).set i .tok) w'∧Ext g w g' w'∧dc g m w g' ((m.set t .dead).set i .tok) w':=by
 intro g'
 have hf:=h.free i hi
 have ud:=bF hi
 have VN:t≠i:=fun e=>by subst e;rw[ht] at hi;cases hi
 obtain⟨cs0,e0,n0,q1,q2,q3,q4⟩:=h.tok t c ht hc
 rw[hcs] at q1;cases q1
 have hp : ∀c' o,g.pure c' o→w'.cell? ⟨c',o,none⟩=w.cell? ⟨c',o,none⟩:=by
  intro c' o p
  by_cases e:c'=c
  · subst e
    rw[bk hh,bk hcs]
    refine hout o ?_
    rcases fb o (g.lo t) with a | a
    · exact .inl a
    · rcases fb o (g.hi t) with b | b
      · exact absurd p (q4 o a b)
      · exact .inr b
  · exact dV (hw c' e)
 have bo : ∀j,j≠i→g'.bS j=g.bS j:=fun j hj=>by simp[g',Gh.put,Gh.more,hj]
 have bi:g'.bS i=some c:=by simp[g',Gh.put,Gh.more]
 have ext:Ext g w g' w':=⟨fun j c hc=>by
  have:j≠i:=fun e=>by subst e;rw[hf] at hc;cases hc
  simp[g',Gh.put,Gh.more,this,hc],fun c o p=>⟨.inl p,hp c o p⟩⟩
 have get : ∀j x,((m.set t .dead).set i .tok)[j]? = some x→(j=i∧x = .tok)∨x = .dead∨(j≠i∧j≠t∧m[j]? = some x):=by
  intro j x hj
  rcases aP hj with e | ⟨hji,e⟩
  · exact .inl e
  · rcases aP e with⟨_,e'⟩ | ⟨H6,e'⟩
    · exact .inr (.inl e')
    · exact .inr (.inr ⟨hji,H6,e'⟩)
 have ne : ∀j x c',j≠t→m[j]? = some x→x.dz=true→g.bS j=some c'→c'≠c:=fun j x c' H6 hj ho fm e=>H6 (h.inj j t x _ c hj ht ho rfl (e▸fm) hc)
 refine⟨⟨fun j hj=> ?_,fun j hj=> ?_,fun j x l hj hl=> ?_,fun j c' hj fm=> ?_,fun j k x x' c' hj hk ho ho' gG iE=> ?_,fun c' o p=> ?_,fun j kk ll hj=> ?_⟩,ext,⟨by omega,fun j _ hn=> ?_,fun c o p=>⟨.inl p,hp c o p⟩,fun c' o p=> ?_,fun c' ho'=> ?_,ho,htp,hu⟩⟩
 · simp only[dq] at hj
   rw[bo j (by omega)];exact h.vJ j hj
 · rcases get j _ hj with⟨_,e⟩ | e | ⟨hji,_,e⟩
   · cases e
   · cases e
   · rw[bo j hji];exact h.free j e
 · rcases get j _ hj with⟨_,e⟩ | e | ⟨hji,H6,e⟩
   · subst e;cases hl
   · subst e;cases hl
   · obtain⟨c1,cs1,e1,n1,k1,k2,k3,k4,k5⟩:=h.cells j x l e hl
     refine⟨c1,cs1,e1,n1,(bo j hji).trans k1,(hw c1 (ne j x c1 H6 e (cU hl) k1)).trans k2,k3,k4.mono ext,fun o p=> ?_⟩
     rcases p with p | ⟨rfl,_⟩
     · exact k5 o p
     · exact ne j x _ H6 e (cU hl) k1 rfl
 · rcases get j _ hj with⟨rfl,_⟩ | e | ⟨hji,H6,e⟩
   · rw[bi] at fm;cases fm
     refine⟨cs',e',n,hh,by simp only[g',Gh.put,Gh.more,if_true];omega,by simpa[g',Gh.put,Gh.more] using q3,fun o h1 h2 p=> ?_⟩
     have h1':g.lo t+k≤o:=by simpa[g',Gh.put,Gh.more] using h1
     have h2':o<g.hi t:=by simpa[g',Gh.put,Gh.more] using h2
     rcases p with p | ⟨_,_,p⟩
     · exact q4 o (by omega) h2' p
     · omega
   · cases e
   · rw[bo j hji] at fm
     obtain⟨cs1,e1,n1,k2,k3,k4,k5⟩:=h.tok j c' e fm
     have h1:g'.hi j=g.hi j:=by simp[g',Gh.put,Gh.more,hji]
     have h2:g'.lo j=g.lo j:=by simp[g',Gh.put,Gh.more,hji]
     rw[h1,h2]
     refine⟨cs1,e1,n1,(hw c' (ne j _ c' H6 e rfl fm)).trans k2,k3,k4,fun o a b p=> ?_⟩
     rcases p with p | ⟨rfl,_⟩
     · exact k5 o a b p
     · exact ne j _ _ H6 e rfl fm rfl
 · rcases get j _ hj with⟨rfl,e⟩ | e | ⟨hji,H6,e⟩
   · rcases get k _ hk with⟨rfl,e'⟩ | e' | ⟨hki,hkt,e'⟩
     · rfl
     · subst e';simp[aU.dz] at ho'
     · rw[bi] at gG;cases gG
       rw[bo k hki] at iE
       exact absurd rfl (ne k x' _ hkt e' ho' iE)
   · subst e;simp[aU.dz] at ho
   · rcases get k _ hk with⟨rfl,e'⟩ | e' | ⟨hki,hkt,e'⟩
     · rw[bi] at iE;cases iE
       rw[bo j hji] at gG
       exact absurd rfl (ne j x _ H6 e ho gG)
     · subst e';simp[aU.dz] at ho'
     · rw[bo j hji] at gG;rw[bo k hki] at iE
       exact h.inj j k x x' c' e e' ho ho' gG iE
 · rcases p with p | ⟨rfl,p1,p2⟩
   · obtain⟨v,hv⟩:=h.there c' o p
     exact⟨v,(hp c' o p).trans hv⟩
   · exact⟨cs'[o],by rw[bk hh,fl (by omega)]⟩
 · rcases get j _ hj with⟨_,e⟩ | e | ⟨hji,H6,e⟩
   · cases e
   · cases e
   · obtain⟨c1,F0,vs1,k1,k2,k3,k6,k7,k8⟩:=h.obs j kk ll e
     exact⟨c1,F0,vs1,(bo j hji).trans k1,(hw c1 (ne j _ c1 H6 e rfl k1)).trans k2,k3.mono ext,k6,fun o p=>p.elim (k7 o) fun q=>ne j _ c1 H6 e rfl k1 q.1,by simpa[g',Gh.put,Gh.more,hji] using k8⟩
 · exact hw j fun e=>hn ⟨t,_,ht,rfl,e▸hc⟩
 · rcases p with p | ⟨rfl,_⟩
   · exact .inl p
   · exact .inr (.inl ⟨t,_,ht,rfl,hc⟩)
 · obtain⟨j,x,hj,hx,MH⟩:=ho'
   rcases get j _ hj with⟨rfl,e⟩ | e | ⟨hji,_,e⟩
   · rw[bi] at MH;cases MH;exact .inl ⟨t,_,ht,rfl,hc⟩
   · subst e;simp[aU.dz] at hx
   · rw[bo j hji] at MH;exact .inl ⟨j,x,e,hx,MH⟩
theorem Rel.qI {g:Gh} {m:Mem} {w w':World} (h:Rel g m w) {cs:Array Value} {e:TypeId} (hw:pQ w w' (.cells cs e)) :
  Rel (g.more w.heap.size 0 cs.size) m w'∧Ext g w (g.more w.heap.size 0 cs.size) w'∧dc g m w (g.more w.heap.size 0 cs.size) m w':=by
 have hp : ∀c o,g.pure c o→w'.cell? ⟨c,o,none⟩=w.cell? ⟨c,o,none⟩:=fun c o p=>dV (hw.old (h.lV p))
 have ext:Ext g w (g.more w.heap.size 0 cs.size) w':=⟨fun j c hc=>⟨hc,rfl,rfl⟩,fun c o p=>⟨.inl p,hp c o p⟩⟩
 refine⟨⟨h.vJ,h.free,fun j x l hj hl=> ?_,fun j c hj hc=> ?_,h.inj,fun c o p=> ?_,fun j kk ll hj=> ?_⟩,ext,⟨by rw[hw.size];omega,fun k hk _=>hw.old hk,fun c o p=>⟨.inl p,hp c o p⟩,fun c o p=> ?_,fun c ho=> .inl ho,hw.os,hw.tape,hw.output⟩⟩
 · obtain⟨c1,cs1,e1,n1,k1,k2,k3,k4,k5⟩:=h.cells j x l hj hl
   refine⟨c1,cs1,e1,n1,k1,(hw.old (bO k2)).trans k2,k3,k4.mono ext,fun o p=> ?_⟩
   rcases p with p | ⟨rfl,_⟩
   · exact k5 o p
   · exact absurd (bO k2) (ei _)
 · obtain⟨cs1,e1,n1,k2,k3,k4,k5⟩:=h.tok j c hj hc
   refine⟨cs1,e1,n1,(hw.old (bO k2)).trans k2,k3,k4,fun o a b p=> ?_⟩
   rcases p with p | ⟨rfl,_⟩
   · exact k5 o a b p
   · exact absurd (bO k2) (ei _)
 · rcases p with p | ⟨rfl,_,p⟩
   · obtain⟨v,hv⟩:=h.there c o p
     exact⟨v,(hp c o p).trans hv⟩
   · exact⟨cs[o],by rw[bk hw.new,fl (by omega)]⟩
 · obtain⟨c1,F0,vs1,k1,k2,k3,k6,k7,k8⟩:=h.obs j kk ll hj
   exact⟨c1,F0,vs1,k1,(hw.old (bO k2)).trans k2,k3.mono ext,k6,fun o p=>p.elim (k7 o) fun q=>absurd (bO k2) (by rw[q.1];exact ei _),k8⟩
 · rcases p with p | ⟨rfl,_⟩
   · exact .inl p
   · exact .inr (.inr (bj _))
theorem Rel.vK {g:Gh} {m:Mem} {w:World} (h:Rel g m w) {i:Nat} (hi:m[i]? = some .free):Rel g (m.set i .tok) w∧dc g m w g (m.set i .tok) w:=by
 have hf:=h.free i hi
 refine⟨⟨fun j hj=>h.vJ j (by simpa using hj),fun j hj=> ?_,fun j x l hj hl=> ?_,fun j c hj hc=> ?_,fun j k x x' c hj hk ho ho' gG iE=> ?_,h.there,fun j kk ll hj=> ?_⟩,dc.less fun c ho=> ?_⟩
 · rcases aP hj with⟨_,e⟩ | ⟨_,e⟩
   · cases e
   · exact h.free j e
 · rcases aP hj with⟨_,e⟩ | ⟨_,e⟩
   · subst e;cases hl
   · exact h.cells j x l e hl
 · rcases aP hj with⟨rfl,_⟩ | ⟨_,e⟩
   · rw[hf] at hc;cases hc
   · exact h.tok j c e hc
 · rcases aP hj with⟨rfl,_⟩ | ⟨_,e⟩
   · rw[hf] at gG;cases gG
   · rcases aP hk with⟨rfl,_⟩ | ⟨_,e'⟩
     · rw[hf] at iE;cases iE
     · exact h.inj j k x x' c e e' ho ho' gG iE
 · rcases aP hj with⟨_,e⟩ | ⟨_,e⟩
   · cases e
   · exact h.obs j kk ll e
 · obtain⟨j,x,hj,hx,hc⟩:=ho
   rcases aP hj with⟨rfl,_⟩ | ⟨_,e⟩
   · rw[hf] at hc;cases hc
   · exact⟨j,x,e,hx,hc⟩
theorem Rel.jL {g:Gh} {m:Mem} {w w':World} (h:Rel g m w) (hh:w'.heap=w.heap) (ho:w'.os=w.os) (ht:w'.tape=w.tape) (hu:w'.output=w.output) :
  Rel g m w'∧Ext g w g w'∧dc g m w g m w':=by
 have hc : ∀a:Addr,w'.cell? a=w.cell? a:=fun a=>by simp[World.cell?,hh]
 have ext:Ext g w g w':=⟨fun _ _ h=>⟨h,rfl,rfl⟩,fun _ _ p=>⟨p,hc _⟩⟩
 refine⟨⟨h.vJ,h.free,fun j x l hj hl=> ?_,fun j c hj Wn=> ?_,h.inj,fun c o p=> ?_,fun j kk ll hj=> ?_⟩,ext,⟨by rw[hh];exact bj _,fun k _ _=>by rw[hh],fun c o p=>⟨p,hc _⟩,fun _ _ p=> .inl p,fun _ ho=> .inl ho,ho,ht,hu⟩⟩
 · obtain⟨c1,cs1,e1,n1,k1,k2,k3,k4,k5⟩:=h.cells j x l hj hl
   exact⟨c1,cs1,e1,n1,k1,by rw[hh];exact k2,k3,k4.mono ext,k5⟩
 · obtain⟨cs1,e1,n1,k2,k3⟩:=h.tok j c hj Wn
   exact⟨cs1,e1,n1,by rw[hh];exact k2,k3⟩
 · obtain⟨v,hv⟩:=h.there c o p
   exact⟨v,(hc _).trans hv⟩
 · obtain⟨c1,F0,vs1,k1,k2,k3,k6,k7,k8⟩:=h.obs j kk ll hj
   exact⟨c1,F0,vs1,k1,by rw[hh];exact k2,k3.mono ext,k6,k7,k8⟩
theorem Rel.reserve {g:Gh} {m:Mem} {w:World} (h:Rel g m w):Rel g (m++[.free]) w∧dc g m w g (m++[.free]) w:=by
 have get : ∀j x,(m++[aU.free])[j]? = some x→m[j]? = some x∨(j=m.length∧x = .free):=by
  intro j x hj
  rw[List.getElem?_append] at hj
  by_cases e:j<m.length
  · rw[if_pos e] at hj;exact .inl hj
  · rw[if_neg e] at hj
    have:=bF hj
    simp at this
    have e2:j=m.length:=by omega
    subst e2
    simp at hj
    exact .inr ⟨rfl,hj.symm⟩
 refine⟨⟨fun j hj=>h.vJ j (by simp at hj;omega),fun j hj=> ?_,fun j x l hj hl=> ?_,fun j c hj hc=> ?_,fun j k x x' c hj hk ho ho' gG iE=> ?_,h.there,fun j kk ll hj=> ?_⟩,dc.less fun c ho=> ?_⟩
 · rcases get j _ hj with e | ⟨rfl,_⟩
   · exact h.free j e
   · exact h.vJ _ (bj _)
 · rcases get j _ hj with e | ⟨_,e⟩
   · exact h.cells j x l e hl
   · subst e;cases hl
 · rcases get j _ hj with e | ⟨_,e⟩
   · exact h.tok j c e hc
   · cases e
 · rcases get j _ hj with e | ⟨_,e⟩
   · rcases get k _ hk with e' | ⟨_,e'⟩
     · exact h.inj j k x x' c e e' ho ho' gG iE
     · subst e';simp[aU.dz] at ho'
   · subst e;simp[aU.dz] at ho
 · rcases get j _ hj with e | ⟨_,e⟩
   · exact h.obs j kk ll e
   · cases e
 · obtain⟨j,x,hj,hx,hc⟩:=ho
   rcases get j _ hj with e | ⟨_,e⟩
   · exact⟨j,x,e,hx,hc⟩
   · subst e;simp[aU.dz] at hx
theorem Rel.qJ (j7:Nat) {g:Gh} {m:Mem} {w w':World} (h:Rel g m w) {i:Nat} {ob:aG} {l:List AV} {vs:List Value} {o:Obj}
  (hi:m[i]? = some .free) (hv:cA g w l vs) (hw:pQ w w' o) (his:ob.is o vs) (hroom:ob.room o j7) :
  Rel (g.put i w.heap.size 0 j7) (m.set i (.ob ob l)) w'∧Ext g w (g.put i w.heap.size 0 j7) w'∧dc g m w (g.put i w.heap.size 0 j7) (m.set i (.ob ob l)) w':=by
 have hf:=h.free i hi
 have hp : ∀c o,g.pure c o→w'.cell? ⟨c,o,none⟩=w.cell? ⟨c,o,none⟩:=fun c o p=>dV (hw.old (h.lV p))
 have bo : ∀j,j≠i→(g.put i w.heap.size 0 j7).bS j=g.bS j:=fun j hj=>by simp[Gh.put,hj]
 have bi:(g.put i w.heap.size 0 j7).bS i=some w.heap.size:=by simp[Gh.put]
 have ext:Ext g w (g.put i w.heap.size 0 j7) w':=⟨fun j c hc=>by
  have:j≠i:=fun e=>by subst e;rw[hf] at hc;cases hc
  simp[Gh.put,this,hc],fun c o p=>⟨p,hp c o p⟩⟩
 have lt : ∀j x c,m[j]? = some x→x.dz=true→g.bS j=some c→c<w.heap.size:=fun j x c hj ho hc=>h.kX ⟨j,x,hj,ho,hc⟩
 have ud:=bF hi
 refine⟨⟨fun j hj=> ?_,fun j hj=> ?_,fun j x k hj hk=> ?_,fun j c hj hc=> ?_,fun j k x x' c hj hk ho ho' gG iE=> ?_,fun c o p=> ?_,fun j kk ll hj=> ?_⟩,ext,⟨by rw[hw.size];omega,fun k hk _=>hw.old hk,fun c o p=>⟨p,hp c o p⟩,fun _ _ p=> .inl p,fun c ho=> ?_,hw.os,hw.tape,hw.output⟩⟩
 · rw[dq] at hj
   rw[bo j (by omega)];exact h.vJ j hj
 · rcases aP hj with⟨rfl,e⟩ | ⟨hji,e⟩
   · cases e
   · rw[bo j hji];exact h.free j e
 · rcases aP hj with⟨rfl,e⟩ | ⟨hji,e⟩
   · subst e;cases hk
   · obtain⟨c1,cs1,e1,n1,k1,k2,k3,k4,k5⟩:=h.cells j x k e hk
     exact⟨c1,cs1,e1,n1,(bo j hji).trans k1,(hw.old (bO k2)).trans k2,k3,k4.mono ext,k5⟩
 · rcases aP hj with⟨rfl,e⟩ | ⟨hji,e⟩
   · cases e
   · rw[bo j hji] at hc
     obtain⟨cs1,e1,n1,k2,k3,k4,k5⟩:=h.tok j c e hc
     have h1:(g.put i w.heap.size 0 j7).hi j=g.hi j:=by simp[Gh.put,hji]
     have h2:(g.put i w.heap.size 0 j7).lo j=g.lo j:=by simp[Gh.put,hji]
     rw[h1,h2]
     exact⟨cs1,e1,n1,(hw.old (bO k2)).trans k2,k3,k4,k5⟩
 · rcases aP hj with⟨rfl,e⟩ | ⟨hji,e⟩<;>rcases aP hk with⟨rfl,e'⟩ | ⟨hki,e'⟩
   · rfl
   · rw[bi] at gG;cases gG
     rw[bo k hki] at iE
     exact absurd (lt k x' _ e' ho' iE) (ei _)
   · rw[bi] at iE;cases iE
     rw[bo j hji] at gG
     exact absurd (lt j x _ e ho gG) (ei _)
   · rw[bo j hji] at gG;rw[bo k hki] at iE
     exact h.inj j k x x' c e e' ho ho' gG iE
 · obtain⟨v,hv⟩:=h.there c o p
   exact⟨v,(hp c o p).trans hv⟩
 · rcases aP hj with⟨rfl,e⟩ | ⟨hji,e⟩
   · cases e
     exact⟨_,_,vs,bi,hw.new,hv.mono ext,his,fun o p=>absurd (h.lV p) (ei _),by simpa[Gh.put] using hroom⟩
   · obtain⟨c1,F0,vs1,k1,k2,k3,k6,k7,k8⟩:=h.obs j kk ll e
     exact⟨c1,F0,vs1,(bo j hji).trans k1,(hw.old (bO k2)).trans k2,k3.mono ext,k6,k7,by simpa[Gh.put,hji] using k8⟩
 · obtain⟨j,x,hj,hx,hc⟩:=ho
   rcases aP hj with⟨rfl,e⟩ | ⟨hji,e⟩
   · rw[bi] at hc;cases hc;exact .inr (bj _)
   · rw[bo j hji] at hc;exact .inl ⟨j,x,e,hx,hc⟩
theorem Rel.vL {g:Gh} {m:Mem} {w w':World} (h:Rel g m w) {i:Nat} {ob:aG} {l:List AV} {vs:List Value} {o:Obj}
  (hi:m[i]? = some .free) (hv:cA g w l vs) (hw:pQ w w' o) (his:ob.is o vs) (hroom:ob.room o 0:=by trivial) :
  Rel (g.put i w.heap.size 0 0) (m.set i (.ob ob l)) w'∧Ext g w (g.put i w.heap.size 0 0) w'∧dc g m w (g.put i w.heap.size 0 0) (m.set i (.ob ob l)) w':=
 Rel.qJ 0 h hi hv hw his hroom
theorem Rel.gz {g:Gh} {m:Mem} {w w':World} (h:Rel g m w) {i c:Nat} {ob FM:aG} {l l':List AV} {vs':List Value} {o':Obj}
  (hi:m[i]? = some (.ob ob l)) (hc:g.bS i=some c)
  (hw : ∀k,k≠c→w'.heap[k]? = w.heap[k]?) (hs:w'.heap.size=w.heap.size) (ho:w'.os=w.os) (ht:w'.tape=w.tape) (hu:w'.output=w.output)
  (hh:w'.heap[c]? = some o') (his:FM.is o' vs') (hv:cA g w l' vs') (hroom:FM.room o' (g.hi i):=by trivial) :
  Rel g (m.set i (.ob FM l')) w'∧Ext g w g w'∧dc g m w g (m.set i (.ob FM l')) w':=by
 obtain⟨c0,ob0,vs0,h1,_,_,_,hnp,_⟩:=h.obs i ob l hi
 rw[hc] at h1;cases h1
 have hp : ∀c' o,g.pure c' o→w'.cell? ⟨c',o,none⟩=w.cell? ⟨c',o,none⟩:=fun c' o p=>dV (hw c' fun e=>hnp o (e▸p))
 have ext:Ext g w g w':=⟨fun _ _ h=>⟨h,rfl,rfl⟩,fun c' o p=>⟨p,hp c' o p⟩⟩
 have ne : ∀j x c',j≠i→m[j]? = some x→x.dz=true→g.bS j=some c'→c'≠c:=fun j x c' hji hj ho fm e=>hji (h.inj j i x _ c hj hi ho rfl (e▸fm) hc)
 refine⟨⟨fun j hj=>h.vJ j (by simpa using hj),fun j hj=> ?_,fun j x k hj hk=> ?_,fun j c' hj fm=> ?_,fun j k x x' c' hj hk ho ho' gG iE=> ?_,fun c' o p=> ?_,fun j kk ll hj=> ?_⟩,ext,⟨by omega,fun k hk hn=> ?_,fun c' o p=>⟨p,hp c' o p⟩,fun _ _ p=> .inl p,fun c' ho'=> ?_,ho,ht,hu⟩⟩
 · rcases aP hj with⟨rfl,e⟩ | ⟨_,e⟩
   · cases e
   · exact h.free j e
 · rcases aP hj with⟨rfl,e⟩ | ⟨hji,e⟩
   · subst e;cases hk
   · obtain⟨c1,cs1,e1,n1,k1,k2,k3,k4,k5⟩:=h.cells j x k e hk
     exact⟨c1,cs1,e1,n1,k1,(hw c1 (ne j x c1 hji e (cU hk) k1)).trans k2,k3,k4.mono ext,k5⟩
 · rcases aP hj with⟨rfl,e⟩ | ⟨hji,e⟩
   · cases e
   · obtain⟨cs1,e1,n1,k2,k3,k4,k5⟩:=h.tok j c' e fm
     exact⟨cs1,e1,n1,(hw c' (ne j _ c' hji e rfl fm)).trans k2,k3,k4,k5⟩
 · rcases aP hj with⟨rfl,e⟩ | ⟨hji,e⟩<;>rcases aP hk with⟨rfl,e'⟩ | ⟨hki,e'⟩
   · rfl
   · rw[hc] at gG;cases gG
     exact absurd rfl (ne k x' _ hki e' ho' iE)
   · rw[hc] at iE;cases iE
     exact absurd rfl (ne j x _ hji e ho gG)
   · exact h.inj j k x x' c' e e' ho ho' gG iE
 · obtain⟨v,hv⟩:=h.there c' o p
   exact⟨v,(hp c' o p).trans hv⟩
 · rcases aP hj with⟨rfl,e⟩ | ⟨hji,e⟩
   · cases e
     exact⟨c,_,vs',hc,hh,hv.mono ext,his,hnp,hroom⟩
   · obtain⟨c1,F0,vs1,k1,k2,k3,k6,k7,k8⟩:=h.obs j kk ll e
     exact⟨c1,F0,vs1,k1,(hw c1 (ne j _ c1 hji e rfl k1)).trans k2,k3.mono ext,k6,k7,k8⟩
 · exact hw k fun e=>hn ⟨i,_,hi,rfl,e▸hc⟩
 · rcases sG ho' with⟨_,k⟩ | ⟨j,x,_,k1,k2,k3⟩
   · exact .inl ⟨i,_,hi,rfl,k⟩
   · exact .inl ⟨j,x,k1,k2,k3⟩
def cq (g:Gh) (m:Mem) (w:World) (r:Result Next) (a:AV) (m':Mem):Prop:=
 ∃v w' g',(r = .ok (.value v) w'∨(r = .ok .skip w'∧v=undef))∧VA g' w' a v∧Rel g' m' w'∧Ext g w g' w'∧dc g m w g' m' w'
theorem cq.quiet {g:Gh} {m:Mem} {w:World} {r:Result Next} {a:AV} {v:Value} (h:Rel g m w) (hr:r = .ok (.value v) w) (ha:VA g w a v):cq g m w r a m:=
 ⟨v,w,g,.inl hr,ha,h,Ext.refl g w,dc.refl g m w⟩
theorem aS {P:Program} {t:TypeId} {n:Nat} (h:fZ P t=some n) (w:World):(sizeOf t).run P w = .ok n w:=by
 unfold fZ at h
 cases hi:P.info? t with
 |none=>simp[hi] at h
 |some i=>simp only[hi,hC,cp] at h;simp[sizeOf,typeInfo,hi,h]
theorem iF {P:Program} {t:TypeId} {i:TypeInfo} (h:P.info? t=some i) (w:World):(typeInfo t).run P w = .ok i w:=by
 simp[typeInfo,h]
theorem lW {P:Program} {t:TypeId} {b:Bool} (h:Ss P t=some b) (w:World):(isAgg t).run P w = .ok b w:=by
 unfold Ss at h
 cases hu:P.underlying t with
 |none=>simp[hu] at h
 |some d=>cases d<;>simp[hu] at h<;>subst h<;>simp[isAgg,run_underlying hu]
theorem Sw {g:Gh} {w:World} {a:AV} {v cv:Value} (h:Mn a=some v) (ha:VA g w a cv):cv=v:=by
 cases ha with
 |p v' _ hp=>cases hp<;>simp[Mn] at h;exact h
 |_=>simp[Mn] at h
theorem wI {g:Gh} {w:World} : ∀{l:List AV} {vs cs:List Value},wj l=some vs→cA g w l cs→cs=vs
 |[],vs,cs,h,ha=>by
  cases cs with
  |nil=>simp[wj] at h;exact h.symm
  |cons _ _=>exact ha.elim
 |a::l,vs,cs,h,ha=>by
  cases cs with
  |nil=>exact ha.elim
  |cons c cs=>
   simp only[wj] at h
   cases h1:Mn a with
   |none=>simp[h1] at h
   |some v=>
    cases h2:wj l with
    |none=>simp[h1,h2] at h
    |some us=>
     simp only[h1,h2,cp] at h
     subst h
     rw[Sw h1 ha.1,wI h2 ha.2]
theorem Wo {g:Gh} {w:World} {a:AV} {v cv:Value} (h:J6 a=some v) (ha:VA g w a cv):cv=v:=by
 cases ha with
 |p v' _ hp=>cases hp<;>simp[J6] at h;exact h
 |agg l cs hl hh=>
  simp only[J6,gn] at h
  obtain⟨vs,h1,rfl⟩:=h
  rw[←wI h1 (bH.dF hl hh)]
 |aA l cs hl hh=>
  simp only[J6,gn] at h
  obtain⟨vs,h1,rfl⟩:=h
  rw[←wI h1 (bH.dF hl hh)]
 |_=>simp[J6] at h
theorem B5 {α:Type} (P:Program) (w:World) : ∀(s:Sem α) (a:α),gN P s=some a→s.run P w = .ok a w:=by
 intro s
 induction s with
 |pure b=>intro a h;simp[gN] at h;subst h;rfl
 |program k ih=>intro a h;simp only[gN] at h;simp only[Sem.run];exact ih P a h
 |mark m k ih=>intro a h;simp only[gN] at h;simp only[Sem.run];exact ih a h
 |_=>intro a h;simp[gN] at h
theorem VA.eH {g:Gh} {w:World} (v:Value):VA g w (eH v) v:=by
 unfold Am.eH
 split
 · exact .os none 0 0 [] none 0 (.pP 0 none 0 (.inr ⟨rfl,rfl⟩)) (.inl rfl)
 · exact .p _ _ (.sc v)
theorem cA.ot {g:Gh} {w:World} : ∀(l:List Value),cA g w (l.map Am.eH) l
 |[]=>trivial
 |v::l=>⟨VA.eH v,cA.ot l⟩
theorem VA.Se {g:Gh} {w:World} (v:Value):VA g w (Se v) v:=by
 unfold Am.Se
 split
 · exact VA.zA.2 (cA.ot _)
 · exact VA.mR.2 (cA.ot _)
 · exact VA.eH _
theorem Ap {ρ:Operand→AV} : ∀{l:List Operand},tY ρ l=true → ∀x∈l,∃v,J6 (ρ x)=some v
 |[],_,_,hx=>by cases hx
 |y::l,h,x,hx=>by
  simp only[tY,ch] at h
  cases hx with
  |head=>exact hP.1 h.1
  |tail _ hx=>exact Ap h.2 x hx
theorem getD_some {m:Mem} {b:Nat} {x:aU} (h:m.getD b .dead=x) (hx:x ≠ .dead):m[b]? = some x:=by
 rw[cb] at h
 cases hq:m[b]? with
 |none=>rw[hq] at h;exact absurd h.symm hx
 |some y=>rw[hq] at h;exact congrArg some h
section ops
variable {P:Program} {g:Gh} {m:Mem} {w:World} {ρ:Operand→AV} {bX:Operand→Value} {o:Oper}
theorem eT (hr : ∀x,VA g w (ρ x) (bX x)) (hs : ∀cs b,o.op ≠ .select cs b) {a:AV} (h:scalar P ρ o=some a) :
  ∃v,(execOp bX o).run P w = .ok (.value v) w∧VA g w a v:=by
 unfold scalar at h
 cases hb:tY ρ o.op.operands.toList with
 |false=>simp[hb] at h
 |true=>
  simp only[hb,cond_true] at h
  have hc:execOp bX o=execOp (fun x=>(J6 (ρ x)).getD undef) o:=execOp_congr o hs fun x hx=>by
   obtain⟨v,hv⟩:=Ap hb x (Array.mem_toList_iff.2 hx)
   simp[hv,Wo hv (hr x)]
  cases he:gN P (execOp (fun x=>(J6 (ρ x)).getD undef) o) with
  |none=>simp[he] at h
  |some nx=>
   cases nx with
   |value v=>
    simp only[he,cp] at h
    subst h
    exact⟨v,by rw[hc];exact B5 P w _ _ he,VA.Se v⟩
   |_=>simp[he] at h
theorem Dv {d:Option TypeDesc} {c:PV} (h:(gD d c).2=true):(gD d c).1=c∧c ≠ .bK:=by
 unfold gD at h ⊢
 split at h
 · cases c with
   |sc v=>cases v<;>simp_all [isInt,az]
   |_=>simp[isInt] at h
 · cases c with
   |sc v=>cases v<;>simp_all [isBool,bu]
   |_=>simp[isBool] at h
 · cases c with
   |sc v=>cases v<;>simp_all [isStr,bI]
   |_=>simp[isStr] at h
 · cases c<;>simp_all [bB,aD,bh,au]
 · cases c<;>simp_all [isOk]
theorem wJ {d:Option TypeDesc} {a:AV} (h:(bC d a).2=true):(bC d a).1=a∧a ≠ .p .bK:=by
 cases a with
 |p c=>simp only[bC] at h ⊢;exact⟨by rw[(Dv h).1],fun e=>(Dv h).2 (AV.p.inj e)⟩
 |_=>exact⟨rfl,fun e=>by cases e⟩
theorem Dw : ∀{ds:List (Option TypeDesc)} {l:List AV},(qx ds l).2=true→(qx ds l).1=l ∧ ∀x∈l,x ≠ .p .bK
 |[],[],_=>⟨rfl,fun _ h=>by cases h⟩
 |d::ds,a::l,h=>by
  simp only[qx,ch] at h ⊢
  obtain⟨h1,h2⟩:=Dw h.2
  refine⟨by rw[(wJ h.1).1,h1],fun x hx=> ?_⟩
  cases hx with
  |head=>exact(wJ h.1).2
  |tail _ hx=>exact h2 x hx
 |[],_::_,h=>by simp[qx] at h
 |_::_,[],h=>by simp[qx] at h
theorem eu {α:Type} (d:α) (l:List α) : ∀(n off:Nat),(mP d l off n).length=n
 |0,_=>rfl
 |n+1,off=>by simp[mP,eu d l n]
theorem kZ {α:Type} (d:α) (l:List α) : ∀(n off j:Nat) (h:j<(mP d l off n).length),(mP d l off n)[j]=l.getD (off+j) d
 |0,_,_,h=>by simp[mP] at h
 |n+1,off,0,_=>by simp[mP]
 |n+1,off,j+1,h=>by
  simp only[mP,List.getElem_cons_succ]
  rw[kZ d l n (off+1) j]
  congr 1;omega
theorem Rel.MI (h:Rel g m w) {b c:Nat} {k:List AV} {t:TypeId} {pq:Bool} (hb:m[b]? = some (.ob (.gr t pq) k)) (hc:g.bS b=some c) {j:Nat} (hj:j<k.length) : ∃v,w.cell? ⟨c,j,none⟩=some v∧VA g w k[j] v:=by
 obtain⟨c',ob,vs,h1,h2,h3,h4,_,_⟩:=h.obs b _ _ hb
 rw[hc] at h1;cases h1
 obtain⟨cs,e,n,rfl,_,_,q1,q2,_⟩:=h4
 have hl:=h3.len
 have MJ:j<vs.length:=by omega
 have hjc:j<cs.size:=by omega
 refine⟨cs[j],by rw[bk h2,fl hjc],?_⟩
 have:=h3.get j hj MJ
 have e1:vs[j]? = some cs[j]:=by
  rw[q1,c9,if_pos MJ]
  simp[hjc]
 rw[bm MJ] at e1
 rwa [c8 e1] at this
theorem Rel.MK {g:Gh} {m:Mem} {w:World} (h:Rel g m w) {i:Nat} {k k':aG} {l l':List AV} (hb:m[i]? = some (.ob k l))
  (hl : ∀ob vs hi,cA g w l vs→k.is ob vs→k.room ob hi → ∃vs',cA g w l' vs'∧k'.is ob vs'∧k'.room ob hi):Rel g (m.set i (.ob k' l')) w∧dc g m w g (m.set i (.ob k' l')) w:=by
 have own : ∀(j:Nat) (x:aU),(m.set i (.ob k' l'))[j]? = some x→x.dz=true → ∃y:aU,m[j]? = some y∧y.dz=true:=fun j x hj ho=>by
  rcases aP hj with⟨rfl,_⟩ | ⟨_,q⟩
  · exact⟨_,hb,rfl⟩
  · exact⟨x,q,ho⟩
 refine⟨⟨fun j hj=>h.vJ j (by simpa using hj),fun j hj=> ?_,fun j x cs hj hx=> ?_,fun j c hj hc=> ?_,fun j q x x' c hj hq ho ho' hc fm=> ?_,h.there,fun j k1 l1 hj=> ?_⟩,
  ⟨bj _,fun _ _ _=>rfl,fun _ _ p=>⟨p,rfl⟩,fun _ _ p=> .inl p,fun c ho=> ?_,rfl,rfl,rfl⟩⟩
 · rcases aP hj with⟨_,q⟩ | ⟨_,q⟩
   · cases q
   · exact h.free j q
 · rcases aP hj with⟨_,rfl⟩ | ⟨_,q⟩
   · cases hx
   · exact h.cells j x cs q hx
 · rcases aP hj with⟨_,q⟩ | ⟨_,q⟩
   · cases q
   · exact h.tok j c q hc
 · obtain⟨y,y1,y2⟩:=own j x hj ho
   obtain⟨z,z1,z2⟩:=own q x' hq ho'
   exact h.inj j q y z c y1 z1 y2 z2 hc fm
 · rcases aP hj with⟨rfl,q⟩ | ⟨_,q⟩
   · cases q
     obtain⟨c,o,vs,k1,k2,k3,k4,k5,k6⟩:=h.obs _ _ _ hb
     obtain⟨vs',q1,q2,q3⟩:=hl o vs _ k3 k4 k6
     exact⟨c,o,vs',k1,k2,q1,q2,k5,q3⟩
   · exact h.obs j k1 l1 q
 · obtain⟨j,x,hj,hx,hc⟩:=ho
   obtain⟨y,y1,y2⟩:=own j x hj hx
   exact .inl ⟨j,y,y1,y2,hc⟩
def exactly (pre:List Value):List AV:=pre.map fun v=> .p (.sc v)
theorem bL (pre:List Value):(exactly pre).length=pre.length:=List.length_map ..
theorem qK {g:Gh} {w:World} : ∀(pre:List Value),cA g w (exactly pre) pre
 |[]=>trivial
 |v::r=>⟨.p _ _ (.sc v),qK r⟩
theorem wK {g:Gh} {w:World} : ∀{pre vs:List Value},cA g w (exactly pre) vs→vs=pre
 |[],[],_=>rfl
 |v::r,x::xs,h=>by
  have h1:VA g w (.p (.sc v)) x:=h.1
  rw[VA.pv] at h1
  cases h1
  rw[wK (pre:=r) h.2]
 |[],_::_,h=>h.elim
 |_::_,[],h=>h.elim
theorem Rel.F1 {g:Gh} {m:Mem} {w:World} (h:Rel g m w) {b:Nat} {t:TypeId} {pre:List Value} {l:List AV} (hb:m[b]? = some (.ob (.stk t pre) l)) :
  Rel g (m.set b (.ob (.gr t false) (exactly pre++l))) w∧dc g m w g (m.set b (.ob (.gr t false) (exactly pre++l))) w:=
 h.MK hb fun ob vs hi hv hk hr=>by
   obtain⟨cs,e,n,rfl,q1,q2,q3,q4,q5⟩:=hk
   exact⟨pre++vs,(qK pre).append hv,⟨cs,e,n,rfl,q1,q2,by rw[de];exact q3,by rw[de];exact q4,q5⟩,hr⟩
theorem Rel.ML {g:Gh} {m:Mem} {w:World} (h:Rel g m w) {b:Nat} {t:TypeId} {q:Bool} {pre:List Value} {l:List AV} (hb:m[b]? = some (.ob (.gr t q) (exactly pre++l))) :
  Rel g (m.set b (.ob (.stk t pre) l)) w∧dc g m w g (m.set b (.ob (.stk t pre) l)) w:=
 h.MK hb fun ob vs hi hv hk hr=>by
   obtain⟨cs,e,n,rfl,q1,q2,q3,q4,q5⟩:=hk
   have e1:vs=vs.take pre.length++vs.drop pre.length:=(List.take_append_drop _ _).symm
   have hlen:=hv.len
   rw[de,bL] at hlen
   have h1:cA g w (exactly pre) (vs.take pre.length):=by
    have:=hv.take pre.length
    rwa [List.take_append_of_le_length (by rw[bL];exact bj _),dk (by rw[bL];exact bj _)] at this
   have h2:cA g w l (vs.drop pre.length):=by
    have:=hv.drop pre.length
    rwa [List.drop_append_of_le_length (by rw[bL];exact bj _),List.drop_of_length_le (by rw[bL];exact bj _),List.nil_append] at this
   have h3:=wK h1
   rw[h3] at e1
   have e2:pre.length+(vs.drop pre.length).length=vs.length:=by rw[dt];omega
   exact⟨vs.drop pre.length,h2,⟨cs,e,n,rfl,q1,q2,by rw[e2,←e1];exact q3,by rw[e2];exact q4,q5⟩,hr⟩
theorem oS (h:Rel g m w) {a:AV} {ca:Value} (ha:VA g w a ca) {n:Nat} {l:List AV} (he:lO (fun i=>m.getD i .dead) a n=some (l,true)) (hb : ∀x∈l,x ≠ .p .bK) :
  ∃c o vs,ca = .pointer (some ⟨c,o,none⟩)∧cA g w l vs∧vs.length=n ∧ ∀j v,vs[j]? = some v→w.cell? ⟨c,o+j,none⟩=some v:=by
 have key : ∀(c o:Nat),l.length=n→(∀j (hj:j<l.length),∃v,w.cell? ⟨c,o+j,none⟩=some v∧VA g w l[j] v) →
   ∃vs,cA g w l vs∧vs.length=n ∧ ∀j v,vs[j]? = some v→w.cell? ⟨c,o+j,none⟩=some v:=by
  intro c o hl hh
  refine⟨(ee n).map fun j=>(w.cell? ⟨c,o+j,none⟩).getD undef,bH.dF (by simp[hl]) fun i hi _=> ?_,by simp,fun j v hj=> ?_⟩
  · obtain⟨v,h1,h2⟩:=hh i hi
    simpa[h1] using h2
  · simp only[dC,gn] at hj
    obtain⟨k,hk,rfl⟩:=hj
    have hk':=di.1 hk
    obtain⟨hlt,hk'⟩:=hk'
    simp at hlt hk'
    subst hk'
    obtain⟨v,h1,_⟩:=hh j (by omega)
    simp[h1]
 unfold lO at he
 split at he
 · rename_i off cs
   simp only[cp,ie,and_true] at he
   subst he
   rw[VA.pv] at ha
   cases ha with
   |pp _ _ b o f hp hv=>
    obtain⟨vs,h1,h2,h3⟩:=key b (o+off) (by simp[eu]) (fun j hj=>by
     have hj':j<(mP PV.bK cs off n).length:=by simpa using hj
     have hx:=hb _ (dE hj)
     simp only[df,kZ] at hx ⊢
     rcases fb (off+j) cs.length with hlt | hge
     · refine⟨f (off+j),by rw[fg];exact(hp (off+j) hlt).2.1,?_⟩
       rw[cb,bm hlt]
       exact .p _ _ (hv (off+j) hlt)
     · exact absurd (by rw[cb,dp hge];rfl) hx)
    exact⟨b,o+off,vs,rfl,h1,h2,h3⟩
 · rename_i b off
   cases ha with
   |mp _ _ c hc=>
    split at he
    · rename_i k hk
      simp only[cp,ie,and_true] at he
      subst he
      have hm:m[b]? = some (.pc k):=getD_some hk (by simp)
      obtain⟨c',cs,e,q,h1,h2,h3,h4,h5⟩:=h.cells b _ _ hm rfl
      rw[hc] at h1;cases h1
      have h4:=h4.1
      have hlen:=h4.len
      obtain⟨vs,k1,k2,k3⟩:=key c off (by simp[eu]) (fun j hj=>by
       have hx:=hb _ (dE hj)
       simp only[df,kZ] at hx ⊢
       rcases fb (off+j) k.length with hlt | hge
       · have hlt':off+j<cs.size:=by simp at hlen;omega
         refine⟨cs[off+j],by rw[bk h2,fl hlt'],?_⟩
         rw[cb,bm hlt]
         have:=h4.get (off+j) (by simpa using hlt) (by simpa using hlt')
         simpa using this
       · exact absurd (by rw[cb,dp hge];rfl) hx)
      exact⟨c,off,vs,rfl,k1,k2,k3⟩
    · rename_i k hk
      simp only[cp,ie] at he
      obtain⟨rfl,hle⟩:=he
      have hle':=eh hle
      have hm:m[b]? = some (.ac k):=getD_some hk (by simp)
      obtain⟨c',cs,e,q,h1,h2,h3,h4,h5⟩:=h.cells b _ _ hm rfl
      rw[hc] at h1;cases h1
      have h4:=h4.1
      have hlen:=h4.len
      obtain⟨vs,k1,k2,k3⟩:=key c off (by simp[eu]) (fun j hj=>by
       simp only[eu] at hj
       simp only[kZ]
       have hlt:off+j<k.length:=by omega
       have hlt':off+j<cs.size:=by simp at hlen;omega
       refine⟨cs[off+j],by rw[bk h2,fl hlt'],?_⟩
       rw[cb,bm hlt]
       have:=h4.get (off+j) hlt (by simpa using hlt')
       simpa using this)
      exact⟨c,off,vs,rfl,k1,k2,k3⟩
    · rename_i k hk
      simp only[cp,ie] at he
      obtain⟨rfl,hle⟩:=he
      have hle':=eh hle
      obtain⟨vs,k1,k2,k3⟩:=key c off (by simp[eu]) (fun j hj=>by
       simp only[eu] at hj
       simp only[kZ]
       have hlt:off+j<k.length:=by omega
       obtain⟨v,q1,q2⟩:=h.MI (getD_some hk (by simp)) hc hlt
       refine⟨v,q1,?_⟩
       rw[cb,bm hlt]
       exact q2)
      exact⟨c,off,vs,rfl,k1,k2,k3⟩
    · rename_i t0 pre k hk
      simp only[cp,ie,ch] at he
      obtain⟨rfl,aff,hle⟩:=he
      have ah7:=eh aff
      have hle':=eh hle
      have hm:m[b]? = some (.ob (.stk t0 pre) k):=getD_some hk (by simp)
      obtain⟨hg,_⟩:=h.F1 hm
      have hgb:(m.set b (.ob (.gr t0 false) (exactly pre++k)))[b]? = some (.ob (.gr t0 false) (exactly pre++k)):=by rw[List.getElem?_set_self (bF hm)]
      obtain⟨vs,k1,k2,k3⟩:=key c off (by simp[eu]) (fun j hj=>by
       simp only[eu] at hj
       simp only[kZ]
       have hlt:off-pre.length+j<k.length:=by omega
       have Wp:off+j<(exactly pre++k).length:=by rw[de,bL];omega
       obtain⟨v,q1,q2⟩:=hg.MI hgb hc Wp
       refine⟨v,q1,?_⟩
       rw[cb,bm hlt]
       have e:(exactly pre++k)[off+j]=k[off-pre.length+j]:=by
        rw[List.getElem_append_right (by rw[bL];omega)]
        congr 1
        rw[bL];omega
       rw[e] at q2
       exact q2)
      exact⟨c,off,vs,rfl,k1,k2,k3⟩
    · cases he
 · cases he
theorem cP (c o j:Nat):(⟨c,o,none⟩:Addr).add j=⟨c,o+j,none⟩:=by unfold Addr.add;split<;>simp_all
theorem qL (h:Rel g m w) {a:AV} {ca:Value} (ha:VA g w a ca) {t:TypeId} {v:AV} (he:kL P (fun i=>m.getD i .dead) t a=some (v,true)) :
  ∃c o cv,ca = .pointer (some ⟨c,o,none⟩)∧(loadVar t ⟨c,o,none⟩).run P w = .ok cv w∧VA g w v cv:=by
 unfold kL at he
 split at he
 · rename_i n hag hsz
   simp only[gn,ie,ch] at he
   obtain⟨⟨l,ok⟩,h1,rfl,hok,h2⟩:=he
   simp only at hok h2
   subst hok
   obtain⟨e1,e2⟩:=Dw h2
   obtain⟨c,o,vs,rfl,k1,k2,k3⟩:=oS h ha h1 e2
   refine⟨c,o,.agg vs.toArray,rfl,?_,?_⟩
   · have:=run_loadCells_list (P:=P) w ⟨c,o,none⟩ vs (fun j v hj=>by rw[cP];exact k3 j v hj)
     simp only[loadVar,il,lW hag,iu,if_true,aS hsz,←k2,this,im]
   · simp only[e1];exact VA.zA.2 (by simpa using k1)
 · rename_i n hag hsz
   split at he
   · rename_i x ok hx
     simp only[cp,ie,ch] at he
     obtain⟨rfl,hok,h2⟩:=he
     subst hok
     obtain⟨e1,e2⟩:=wJ h2
     obtain⟨c,o,vs,rfl,k1,k2,k3⟩:=oS h ha hx (fun y hy=>by simp at hy;subst hy;exact e2)
     cases vs with
     |nil=>exact k1.elim
     |cons u us=>
      have:=k3 0 u rfl
      simp only[Nat.add_zero] at this
      exact⟨c,o,u,rfl,by simp[loadVar,lW hag,this],by rw[e1];exact k1.1⟩
   · cases he
 · cases he
end ops
section ops
variable {P:Program} {g:Gh} {m:Mem} {w:World} {ρ:Operand→AV} {bX:Operand→Value} {o:Oper}
theorem oU {x a:AV} {cx:Value} {n:Nat} (h:lQ x n=some a) (hx:VA g w x cx) :
  ∃c o,cx = .pointer (some ⟨c,o,none⟩)∧VA g w a (.pointer (some ⟨c,o+n,none⟩)):=by
 cases hx with
 |p v cv hv=>
  cases hv with
  |pp off cells b o f hp hv=>
   simp only[lQ,cp] at h;subst h
   exact⟨b,o+off,rfl,.p _ _ (by rw[fg];exact .pp (off+n) cells b o f hp hv)⟩
  |_=>simp[lQ] at h
 |mp b off c hc=>
  simp only[lQ,cp] at h;subst h
  exact⟨c,off,rfl,.mp b (off+n) c hc⟩
 |_=>simp[lQ] at h
theorem wL {c o:Nat} {f:Field} {n:Nat} (h:fZ P f.type=some n) (hn:n≠0) :
  (fieldPlace ⟨c,o,none⟩ f).run P w = .ok ⟨c,o+f.offset,none⟩ w:=by
 simp[fieldPlace,aS h,hn,cP]
theorem qM {t:TypeId} {x a:AV} {cx:Value} {f:Nat} (h:kj P t x f=some a) (hx:VA g w x cx) :
  ∃v,(kc t cx f).run P w = .ok v w∧VA g w a v:=by
 unfold kj at h
 split at h
 · rename_i fields hu
   split at h
   · rename_i fd hf
     split at h
     · rename_i n hn
       cases hb:ai 1 n with
       |false=>simp[hb] at h
       |true=>
        simp only[hb,cond_true] at h
        have h1:=eh hb
        obtain⟨c,o,rfl,ha⟩:=oU h hx
        refine⟨_,?_,ha⟩
        simp[kc,run_underlying hu,hf,j1,wL hn (by omega:n≠0)]
     · cases h
   · cases h
 · cases h
theorem ou {i:Int} {n:Nat}:bp i n=true↔0≤i∧i<n:=by simp[bp]
theorem qN {t:TypeId} {x i a:AV} {cx ci:Value} (h:ko P t x i=some (a,true)) (hx:VA g w x cx) (hi:VA g w i ci) :
  ∃v,(jn t cx ci).run P w = .ok v w∧VA g w a v:=by
 unfold ko at h
 split at h
 · rename_i k n len elem hu
   rw[VA.pv] at hi;cases hi
   split at h
   · rename_i size hsz
     simp only[gn,ie] at h
     obtain⟨a',h1,rfl,h2⟩:=h
     obtain⟨c,o,rfl,ha⟩:=oU h1 hx
     rw[ou] at h2
     refine⟨_,?_,ha⟩
     simp[jn,asIntOf,run_underlying hu,j1,h2,aS hsz,cP]
   · cases h
 · rename_i k n elem hu
   rw[VA.pv] at hi;cases hi
   split at h
   · rename_i size len sz cs hsz
     simp only[cp,ie,ch] at h
     obtain⟨rfl,h2,_⟩:=h
     rw[ou] at h2
     rw[VA.pv] at hx
     cases hx with
     |ps _ _ _ b o cap f hl hc hz hp hv=>
      refine⟨_,?_,.p _ _ (.pp (n.toNat*size) cs b o f hp hv)⟩
      simp[jn,asIntOf,run_underlying hu,h2,aS hsz,cP]
     |pP sz a cap=>simp at h2;omega
   · rename_i size tok len sz cs hsz
     simp only[cp,ie,ch] at h
     obtain⟨rfl,h2,_⟩:=h
     rw[ou] at h2
     cases hx with
     |os _ _ _ _ ad cap hx hr=>
      cases hx with
      |ps _ _ _ b o cap f hl hc hz hp hv=>
       refine⟨_,?_,.p _ _ (.pp (n.toNat*size) cs b o f hp hv)⟩
       simp[jn,asIntOf,run_underlying hu,h2,aS hsz,cP]
      |pP sz a cap=>simp at h2;omega
   · rename_i size b off len sz cap hsz
     simp only[cp,ie,ch] at h
     obtain⟨rfl,h2,_⟩:=h
     rw[ou] at h2
     cases hx with
     |ms _ _ _ _ cap c hb hc=>
      refine⟨_,?_,.mp b _ c hb⟩
      simp[jn,asIntOf,run_underlying hu,h2,aS hsz,cP]
     |mg _ _ _ _ cap c hb hc=>
      refine⟨_,?_,.mp b _ c hb⟩
      simp[jn,asIntOf,run_underlying hu,h2,aS hsz,cP]
   · cases h
 · cases h
theorem Aq {α:Type} (d:α) : ∀(n:Nat) (l:List α) (off:Nat),off+n≤l.length→mP d l off n=(l.drop off).take n
 |0,_,_,_=>by simp[mP]
 |n+1,l,off,h=>by
  have hlt:off<l.length:=by omega
  rw[mP,Aq d n l (off+1) (by omega),List.drop_eq_getElem_cons hlt,List.take_succ_cons,cb,bm hlt]
  rfl
theorem qO {t:TypeId} {cs:List AV} {ca:Array Value} {off:Nat} {a:AV} (h:partOf P t cs off=some (a,true)) (hc:cA g w cs ca.toList) :
  ∃v,(part t ca off).run P w = .ok v w∧VA g w a v:=by
 have hlen:=hc.len
 unfold partOf at h
 split at h
 · rename_i n hag hsz
   simp only[cp,ie] at h
   obtain⟨rfl,h2⟩:=h
   have h2:=eh h2
   refine⟨_,by simp[part,lW hag,aS hsz];rfl,VA.zA.2 ?_⟩
   rw[Aq _ _ _ _ h2]
   have:=(hc.drop off).take n
   simpa[dT] using this
 · rename_i n hag hsz
   simp only[cp,ie] at h
   obtain⟨rfl,h2⟩:=h
   have h2:off<cs.length:=by simpa[fi] using h2
   have h3:off<ca.size:=by simp at hlen;omega
   refine⟨ca[off],by simp[part,lW hag,fl h3],?_⟩
   rw[cb,bm h2]
   exact hc.get off h2 (by simpa using h3)
 · cases h
theorem zB {t:TypeId} {x a:AV} {cx:Value} {f:Nat} (h:vw P t x f=some (a,true)) (hx:VA g w x cx) :
  ∃v,(kd t cx f).run P w = .ok v w∧VA g w a v:=by
 unfold vw at h
 split at h
 · rename_i fields cs hu
   split at h
   · rename_i fd hf
     cases hx with
     |agg _ ca hl hh=>
      obtain⟨v,h1,h2⟩:=qO h (VA.zA.1 (.agg cs ca hl hh))
      exact⟨v,by simp[kd,run_underlying hu,hf,asAgg,h1],h2⟩
   · cases h
 · cases h
theorem wM (s:ByteArray) (i:Nat):s[i]? = s.data.toList[i]? :=by
 rcases fb i s.size with h | h
 · have h2:i<s.data.toList.length:=by rw[ft];exact h
   rw[getElem?_pos s i h,bm h2]
   rfl
 · have h2:s.data.toList.length≤i:=by rw[ft];exact h
   rw[getElem?_neg s i (Nat.not_lt.2 h),dp h2]
theorem zC {t:TypeId} {x i a:AV} {cx ci:Value} (h:vA P t x i=some (a,true)) (hx:VA g w x cx) (hi:VA g w i ci) :
  ∃v,(ka t cx ci).run P w = .ok v w∧VA g w a v:=by
 unfold vA at h
 split at h
 · rename_i cs k n
   rw[VA.pv] at hi;cases hi
   split at h
   · rename_i len elem hu
     split at h
     · rename_i size v ok hsz hp
       simp only[cp,ie,ch] at h
       obtain⟨rfl,h1,rfl⟩:=h
       rw[ou] at h1
       cases hx with
       |agg _ ca hl hh=>
        simp only[hsz,hX] at hp
        obtain⟨v,h2,h3⟩:=qO hp (VA.zA.1 (.agg cs ca hl hh))
        refine⟨v,?_,h3⟩
        simp[ka,asIntOf,run_underlying hu,h1,aS hsz,h2]
     · cases h
   · cases h
 · rename_i s k n
   rw[VA.pv] at hi hx;cases hi;cases hx
   split at h
   · rename_i hu
     simp only[cp,ie] at h
     obtain⟨rfl,h1⟩:=h
     rw[ou] at h1
     have hlt:n.toNat<s.data.toList.length:=by omega
     refine⟨_,?_,.p _ _ (.sc _)⟩
     simp only[ka,asIntOf,run_underlying hu,il,im,iu,h1.1,if_true,wM,bm hlt,cb,hX]
   · cases h
 · cases h
theorem iN (hr : ∀x,VA g w (ρ x) (bX x)) {x:Option Operand} {d n:Nat} (h:bound ρ x d=some (n,true)) :
  (x=none∧n=d)∨(∃y k i,x=some y∧bX y = .int k i∧0≤i∧n=i.toNat):=by
 unfold bound at h
 split at h
 · simp only[cp,ie,and_true] at h;exact .inl ⟨rfl,h.symm⟩
 · rename_i y
   split at h
   · rename_i k i he
     simp only[cp,ie,decide_eq_true_eq] at h
     have:=hr y
     rw[he,VA.pv] at this
     refine .inr ⟨y,k,i,rfl,?_,h.2,h.1.symm⟩
     generalize bX y=cv at this
     cases this;rfl
   · cases h
theorem run_sliceBound {k:IntKind} {i:Int} {y:Nat} {code:BoundsCode} (h0:0≤i) (h1:i.toNat≤y):(j2 (.int k i) y code).run P w = .ok i.toNat w:=by
 have:i≤y:=by omega
 simp[j2,asIntOf,h0,this]
theorem bV (hr : ∀x,VA g w (ρ x) (bX x)) {isS:Bool} {len cap l h:Nat} {low high:Option Operand}
  (hl:bound ρ low 0=some (l,true)) (hh:bound ρ high len=some (h,true)) (h1:l≤h) (h2:h≤cap) :
  (iv isS len cap (low.map bX) (high.map bX) none).run P w = .ok (l,h,cap) w:=by
 rcases iN hr hl with⟨rfl,rfl⟩ | ⟨y,k,i,rfl,hy,hi,rfl⟩<;>rcases iN hr hh with⟨rfl,rfl⟩ | ⟨y',k',i',rfl,hy',hi',rfl⟩
 · simp[iv]
 · simp[iv,hy',run_sliceBound hi' h2]
 · simp[iv,hy,run_sliceBound hi h1]
 · simp[iv,hy,hy',run_sliceBound hi h1,run_sliceBound hi' h2]
theorem iO (hr : ∀x,VA g w (ρ x) (bX x)) {isS:Bool} {len cap l h:Nat} {low:Option Operand} {hx mx:Operand}
  (hl:bound ρ low 0=some (l,true)) (hh:bound ρ (some hx) len=some (h,true)) (hm:bound ρ (some mx) 0=some (h,true)) (h1:l≤h) (h2:h≤cap) :
  (iv isS len cap (low.map bX) (some (bX hx)) (some (bX mx))).run P w = .ok (l,h,h) w:=by
 rcases iN hr hh with⟨e,_⟩ | ⟨y',k',i',e,hy',hi',rfl⟩
 · cases e
 cases e
 rcases iN hr hm with⟨e,_⟩ | ⟨y2,k2,i2,e,hy2,hi2,e2⟩
 · cases e
 cases e
 rw[e2] at h2
 rcases iN hr hl with⟨rfl,rfl⟩ | ⟨y,k,i,rfl,hy,hi,rfl⟩
 · simp only[iv,il,hy',hy2,run_sliceBound hi2 h2,iu,gv,im]
   rw[run_sliceBound hi' (by omega)];simp[e2]
 · simp only[iv,il,hy,hy',hy2,run_sliceBound hi2 h2,iu,hC]
   rw[run_sliceBound hi' (by omega)]
   simp only[iu]
   rw[run_sliceBound hi (by omega)];simp[e2]
theorem oM (hr : ∀x,VA g w (ρ x) (bX x)) {isS:Bool} {len cap l h m':Nat} {low:Option Operand} {hx mx:Operand}
  (hl:bound ρ low 0=some (l,true)) (hh:bound ρ (some hx) len=some (h,true)) (hm:bound ρ (some mx) 0=some (m',true)) (h1:l≤h) (h2:h≤m') (h3:m'≤cap) :
  (iv isS len cap (low.map bX) (some (bX hx)) (some (bX mx))).run P w = .ok (l,h,m') w:=by
 rcases iN hr hh with⟨e,_⟩ | ⟨y',k',i',e,hy',hi',rfl⟩
 · cases e
 cases e
 rcases iN hr hm with⟨e,_⟩ | ⟨y2,k2,i2,e,hy2,hi2,rfl⟩
 · cases e
 cases e
 rcases iN hr hl with⟨rfl,rfl⟩ | ⟨y,k,i,rfl,hy,hi,rfl⟩
 · simp only[iv,il,hy',hy2,run_sliceBound hi2 h3,iu,gv,im]
   rw[run_sliceBound hi' h2];simp
 · simp only[iv,il,hy,hy',hy2,run_sliceBound hi2 h3,iu,hC]
   rw[run_sliceBound hi' h2]
   simp only[iu]
   rw[run_sliceBound hi h1];simp
theorem nj {α:Type} (cs:List α) {len l h size:Nat} {low high:Option Operand} (hl:cs.length=len*size) (h1:l≤h) (h2:h≤len) (e1:low=none→l=0) (e2:high=none→h=len) :
  cut cs (times low l size) (times high h size)=(cs.drop (l*size)).take ((h-l)*size):=by
 have hlh:(h-l)*size=h*size-l*size:=fe _ _ _
 have hhl:h*size≤len*size:=eQ _ h2
 have Sx:l*size≤h*size:=eQ _ h1
 unfold cut times
 cases low with
 |none=>
  have:=e1 rfl;subst this
  cases high with
  |none=>have:=e2 rfl;subst this;simp[hl,dk]
  |some _=>simp
 |some _=>
  cases high with
  |none=>
   have:=e2 rfl;subst this
   simp only[hC,gv]
   rw[dk]
   simp[hl,hlh]
  |some _=>simp only[hC];rw[dT,hlh]
theorem ow {len sz:Nat} {cs:List PV} {a:Option Addr} {cap l h m':Nat} (hx:VP g w (.ps len sz cs) (.slice a len cap)) (h1:l≤h) (h2:h≤len) (h3:h≤m') (h4:m'≤cap) :
  VP g w (.ps (h-l) sz ((cs.drop (l*sz)).take ((h-l)*sz))) (.slice (if m'=l then a else a.map (·.add (l*sz))) (h-l) (m'-l)):=by
 cases hx with
 |ps _ _ _ b o cap f hl hc hz hp hv=>
  have hlh:(h-l)*sz=h*sz-l*sz:=fe _ _ _
  have hhl:h*sz≤len*sz:=eQ _ h2
  have Sx:l*sz≤h*sz:=eQ _ h1
  by_cases e:m'=l
  · have:h-l=0:=by omega
    simp only[this,Nat.zero_mul,List.take_zero]
    exact .pP _ _ _ (.inl hz)
  · simp only[if_neg e,hC,cP]
    refine .ps _ _ _ b (o+l*sz) _ (fun k=>f (l*sz+k)) (by simp[hl,hlh];omega) (by omega) hz (fun k hk=> ?_) (fun k hk=> ?_)
    · simp only[du,dt,hl] at hk
      have:=hp (l*sz+k) (by omega)
      rw[fg];exact this
    · simp only[du,dt,hl] at hk
      have:=hv (l*sz+k) (by omega)
      simpa using this
 |pP sz a cap hz=>
  have:h-l=0:=by omega
  simp only[this,List.drop_nil,List.take_nil]
  exact .pP _ _ _ (hz.imp id fun⟨e,e2⟩=>by subst e;subst e2;exact⟨by split<;>rfl,by omega⟩)
theorem jm {len sz size:Nat} {cs:List PV} {a:Option Addr} {cap:Nat} (hx:VP g w (.ps len sz cs) (.slice a len cap)) (h:(ae sz size||(ae len 0&&ai 1 size))=true):VP g w (.ps len size cs) (.slice a len cap):=by
 simp only[ib,ch,en] at h
 rcases h with rfl | ⟨rfl,h1⟩
 · exact hx
 · have h1:=eh h1
   cases hx with
   |ps _ _ _ b o cap f hl hc hz hp hv=>
    simp at hl;subst hl
    exact .pP _ _ _ (.inl h1)
   |pP=>exact .pP _ _ _ (.inl h1)
theorem lY {len sz:Nat} {cs:List PV} {cv:Value} (hx:VP g w (.ps len sz cs) cv):cs.length=len*sz ∧ ∃a cap,cv = .slice a len cap∧(len≤cap):=by
 cases hx with
 |ps _ _ _ b o cap f hl hc hz hp hv=>exact⟨hl,_,_,rfl,hc⟩
 |pP=>exact⟨by simp,_,_,rfl,Nat.zero_le _⟩
end ops
theorem gB {ρ:Operand→AV} {d n:Nat} {b:Bool} (h:bound ρ none d=some (n,b)):n=d:=by
 simp only[bound,cp,ie] at h;exact h.1.symm
section ops
variable {P:Program} {g:Gh} {m:Mem} {w:World} {ρ:Operand→AV} {bX:Operand→Value} {o:Oper}
theorem zD (hr : ∀x,VA g w (ρ x) (bX x)) {t:TypeId} {x a:AV} {cx:Value} {low high mx:Option Operand} (h:og P ρ t x low high mx=some (a,true)) (hx:VA g w x cx) :
  ∃v,(ja t cx (low.map bX) (high.map bX) (mx.map bX)).run P w = .ok v w∧VA g w a v:=by
 unfold og at h
 split at h
 · rename_i n elem hu
   split at h
   · rename_i size l a' h' b' i off hsz hl hh
     simp only[cp,ie,ch] at h
     obtain⟨rfl,⟨⟨rfl,rfl⟩,h1⟩,h2⟩:=h
     have h1:=eh h1
     have h2:=eh h2
     cases hx with
     |mp _ _ c hc=>
      have e:(if n=l then(⟨c,off,none⟩:Addr) else(⟨c,off,none⟩:Addr).add (l*size))=⟨c,cond (ae n l) off (off+l*size),none⟩:=by
       by_cases e:n=l
       · simp[e]
       · have:ae n l=false:=by rw[hZ];intro k;exact e (ag k)
         simp[e,this,cP]
      refine⟨_,?_,.ms i (cond (ae n l) off (off+l*size)) (h'-l) size (n-l) c hc (by omega)⟩
      simp only[ja,il,run_underlying hu,iu,j1,gv,bV hr hl hh h1 h2,aS hsz,im,e]
   · cases h
 · rename_i elem hu
   split at h
   · rename_i size l a' len sz cs hsz hl
     rw[VA.pv] at hx
     obtain⟨hlen,ad,cap,rfl,hcap⟩:=lY hx
     split at h
     · rename_i h' b' hh
       simp only[cp,ie,ch,en] at h
       obtain⟨rfl,⟨⟨⟨rfl,rfl⟩,h1⟩,h2⟩,rfl⟩:=h
       have h1:=eh h1
       have h2:=eh h2
       refine⟨_,?_,.p _ _ (by rw[nj cs hlen h1 h2 (fun e:low=none=>gB (e▸hl)) (fun e=>gB (e▸hh))];exact ow hx h1 h2 (a6 h2 hcap) (bj _))⟩
       simp only[ja,jb,il,run_underlying hu,iu,gv,bV hr hl hh h1 (a6 h2 hcap),aS hsz,im]
     · rename_i h' b' mo hh
       split at h
       · rename_i m' c' hm
         simp only[cp,ie,ch,en] at h
         obtain⟨rfl,⟨⟨⟨⟨⟨rfl,rfl⟩,rfl⟩,h1⟩,h2⟩,rfl⟩,h3,rfl⟩:=h
         have h1:=eh h1
         have h2:=eh h2
         obtain⟨hx',rfl⟩:=hP.1 h3
         have hv:=ow (m':=m') hx h1 h2 (bj _) (a6 h2 hcap)
         refine⟨_,?_,.os none (m'-l) sz _ _ _ (by rw[nj cs hlen h1 h2 (fun e:low=none=>gB (e▸hl)) (fun e=>by cases e)];exact hv) (.inl rfl)⟩
         simp only[ja,jb,il,run_underlying hu,iu,hC,iO hr hl hh hm h1 (a6 h2 hcap),aS hsz,im]
       · cases h
     · cases h
   · rename_i size l a' tok len sz cs hsz hl
     cases hx with
     |os _ _ _ _ ad cap hx zE=>
     obtain⟨hlen,ad',cap',he,hcap⟩:=lY hx
     cases he
     split at h
     · rename_i h' b' hh
       split at h
       · simp only[cp,ie,ch] at h
         obtain⟨rfl,⟨⟨rfl,rfl⟩,h1⟩,h3⟩:=h
         have h1:=eh h1
         have:=gB hh;subst this
         have hsz':(ae sz size||(ae h' 0&&ai 1 size))=true:=by
          rw[ib] at h3 ⊢
          refine h3.imp id fun k=> ?_
          simp only[ch] at k ⊢
          exact⟨k.1,k.2.1⟩
         have hx':=jm hx hsz'
         have hlen':=(lY hx').1
         have hv:=ow (m':=cap) hx' h1 (bj _) hcap (bj _)
         have hc:=nj (low:=low) (high:=none) cs hlen' h1 (bj _) (fun e:low=none=>gB (e▸hl)) (fun _=>rfl)
         simp only[times,gv] at hc
         refine⟨_,?_,.os tok (h'-l) size _ _ _ (by simp only[times];rw[hc];exact hv) ?_⟩
         · have hb:=bV (P:=P) (isS:=true) hr hl hh h1 hcap
           simp only[gv] at hb
           simp only[ja,jb,il,run_underlying hu,iu,gv,hb,aS hsz,im]
         · rcases zE with rfl | ⟨t,b,o',rfl,rfl,q1,q2,q3,q4⟩
           · exact .inl rfl
           · have:sz=size:=by simpa[en] using h3
             subst this
             by_cases e:cap=l
             · exact .inl (by omega)
             · refine .inr ⟨t,b,o'+l*sz,rfl,by simp[e,cP],q1,?_,?_,by omega⟩
               · rw[q2,fe];have:=eQ sz h1;omega
               · rw[q3,fe];have:=eQ sz (a6 h1 hcap);omega
       · rename_i hy
         have abc : ∀{sz:Nat},VP g w (.ps len sz cs) (.slice ad len cap)→cs.length=len*size→l≤h'→h'≤len→cut cs (times low l size) (some (h'*size))=(cs.drop (l*size)).take ((h'-l)*size):=fun _ hlen' h1 h2=>by
          have hc:=nj (low:=low) (high:=some hy) cs hlen' h1 h2 (fun e:low=none=>gB (e▸hl)) (fun e=>by cases e)
          simpa only[times,hC] using hc
         split at h
         · rename_i heq
           simp only[cp,ie,ch] at h
           obtain⟨rfl,⟨⟨⟨rfl,rfl⟩,h1⟩,h2⟩,h3⟩:=h
           have heq:=ag heq
           have h1:=eh h1
           have h2:=eh h2
           have ah8:cap=len:=by
            rcases zE with e | ⟨t,b,o',e,_⟩
            · exact e
            · cases e
           have hx':=jm hx h3
           have hlen':=(lY hx').1
           have hv:=ow (m':=cap) hx' h1 h2 (a6 h2 hcap) (bj _)
           refine⟨_,?_,.os none (h'-l) size _ _ _ (by rw[abc hx hlen' h1 h2];exact hv) (.inl (by omega))⟩
           simp only[ja,jb,il,run_underlying hu,iu,gv,bV hr hl hh h1 (a6 h2 hcap),aS hsz,im]
         · simp only[cp,ie,ch] at h
           obtain⟨rfl,⟨⟨⟨rfl,rfl⟩,h1⟩,h2⟩,h3⟩:=h
           have h1:=eh h1
           have h2:=eh h2
           have hx':=jm hx h3
           have hlen':=(lY hx').1
           refine⟨_,?_,.p _ _ (by rw[abc hx hlen' h1 h2];exact ow hx' h1 h2 (a6 h2 hcap) (bj _))⟩
           simp only[ja,jb,il,run_underlying hu,iu,gv,bV hr hl hh h1 (a6 h2 hcap),aS hsz,im]
     · rename_i h' b' mo hh
       split at h
       · rename_i m' c' hm
         simp only[cp,ie,ch,en] at h
         obtain⟨rfl,⟨⟨⟨⟨⟨rfl,rfl⟩,rfl⟩,h1⟩,h2⟩,rfl⟩,h3,h4⟩:=h
         have h1:=eh h1
         have h2:=eh h2
         obtain⟨hx',rfl⟩:=hP.1 h3
         have hx2:=jm hx h4
         have hlen':=(lY hx2).1
         have hv:=ow (m':=m') hx2 h1 h2 (bj _) (a6 h2 hcap)
         refine⟨_,?_,.os none (m'-l) size _ _ _ (by rw[nj cs hlen' h1 h2 (fun e:low=none=>gB (e▸hl)) (fun e=>by cases e)];exact hv) (.inl rfl)⟩
         simp only[ja,jb,il,run_underlying hu,iu,hC,iO hr hl hh hm h1 (a6 h2 hcap),aS hsz,im]
       · cases h
     · cases h
   · rename_i size l a' i off len sz hsz hl
     cases hx with
     |mg _ _ _ _ cap c hc hcap hroom=>
     split at h
     · rename_i h' b' hh
       simp only[cp,ie,ch,ib,en,fi] at h
       obtain⟨rfl,⟨⟨⟨⟨rfl,rfl⟩,h1⟩,h2⟩,rfl⟩,h3⟩:=h
       have h1:=eh h1
       have h2:=eh h2
       have e:(if cap=l then some (⟨c,off,none⟩:Addr) else(some (⟨c,off,none⟩:Addr)).map (·.add (l*sz)))=some ⟨c,off+l*sz,none⟩:=by
        by_cases e:cap=l
        · have:l=0:=by omega
          simp[e,this]
        · simp[e,cP]
       refine⟨_,?_,.mg i (off+l*sz) (h'-l) sz (cap-l) c hc (by omega) ?_⟩
       · simp only[ja,jb,il,run_underlying hu,iu,gv,bV hr hl hh h1 (a6 h2 hcap),aS hsz,im,e]
       · rw[fe]
         have:=eQ sz (a6 (a6 h1 h2) hcap)
         omega
     · rename_i h' b' mo hh
       split at h
       · rename_i m' c' hm
         simp only[cp,ie,ch,en] at h
         obtain⟨rfl,⟨⟨⟨⟨⟨rfl,rfl⟩,rfl⟩,h1⟩,h2⟩,h4⟩,h3,rfl⟩:=h
         have h1:=eh h1
         have h2:=eh h2
         have h4:=eh h4
         obtain⟨hx',rfl⟩:=hP.1 h3
         have e:(if m'=l then some (⟨c,off,none⟩:Addr) else some ((⟨c,off,none⟩:Addr).add (l*sz)))=some ⟨c,cond (ae m' l) off (off+l*sz),none⟩:=by
          by_cases e:m'=l
          · simp[e]
          · have:ae m' l=false:=by rw[hZ];intro k;exact e (ag k)
            simp[e,this,cP]
         refine⟨_,?_,.ms i (cond (ae m' l) off (off+l*sz)) (h'-l) sz (m'-l) c hc (by omega)⟩
         simp only[ja,jb,il,run_underlying hu,iu,hC,oM hr hl hh hm h1 h2 (a6 h4 hcap),aS hsz,im,e]
       · cases h
     · cases h
   · rename_i size l a' i off len sz cap hsz hl
     cases hx with
     |ms _ _ _ _ cap c hc hcap=>
     split at h
     · rename_i h' b' hh
       simp only[cp,ie,ch,en] at h
       obtain⟨rfl,⟨⟨⟨rfl,rfl⟩,h1⟩,h2⟩,rfl⟩:=h
       have h1:=eh h1
       have h2:=eh h2
       have e:(if cap=l then some (⟨c,off,none⟩:Addr) else(some (⟨c,off,none⟩:Addr)).map (·.add (l*sz)))=some ⟨c,cond (ae cap l) off (off+l*sz),none⟩:=by
        by_cases e:cap=l
        · simp[e]
        · have:ae cap l=false:=by rw[hZ];intro k;exact e (ag k)
          simp[e,this,cP]
       refine⟨_,?_,.ms i (cond (ae cap l) off (off+l*sz)) (h'-l) sz (cap-l) c hc (by omega)⟩
       simp only[ja,jb,il,run_underlying hu,iu,gv,bV hr hl hh h1 h2,aS hsz,im,e]
     · cases h
   · cases h
 · rename_i hu
   split at h
   · rename_i l a' s hl
     rw[VA.pv] at hx;cases hx
     split at h
     · rename_i h' b' hh
       simp only[cp,ie,ch] at h
       obtain⟨rfl,⟨⟨rfl,rfl⟩,h1⟩,h2⟩:=h
       have h1:=eh h1
       have h2:=eh h2
       have e:s.data.toList.length=s.size:=ft
       rw[e] at hh h2
       refine⟨_,?_,.p _ _ (.sc _)⟩
       simp only[ja,jb,il,run_underlying hu,iu,gv,Option.isSome_none,Bool.false_eq_true,if_false,im,bV hr hl hh h1 h2]
     · cases h
   · cases h
 · cases h
theorem vf (op:BinOp) (t:TypeId) (x y:Operand) (k k':IntKind) (a b:Int):(eqGuard op t x y (.int k a) (.int k' b)).run P w = .ok () w:=by
 unfold eqGuard;cases op<;>rfl
theorem pR (op:BinOp) (t:TypeId) (x y:Operand) (a b:ByteArray):(eqGuard op t x y (.string a) (.string b)).run P w = .ok () w:=by
 unfold eqGuard;cases op<;>rfl
theorem B6 {op:BinOp} {t:TypeId} {k k':IntKind} {a b:Int} {v:Value} (h:FT op k a k' b=some (v,true)):(binOp op t (.int k a) (.int k' b)).run P w = .ok v w:=by
 cases op<;>simp only[FT,cp,ie,ch,beq_iff_eq,ic,beq_eq_false_iff_ne,decide_eq_true_eq] at h
 case quo=>obtain⟨rfl,rfl,hb⟩:=h;simp[binOp,Op.intDiv,hb]
 case rem=>obtain⟨rfl,rfl,hb⟩:=h;simp[binOp,Op.intDiv,hb]
 case shl=>obtain⟨rfl,hb⟩:=h;simp[binOp,Op.shift,Int.not_lt.2 hb]
 case shr=>obtain⟨rfl,hb⟩:=h;simp[binOp,Op.shift,Int.not_lt.2 hb]
 all_goals obtain⟨rfl,rfl⟩:=h
 all_goals simp[binOp,km,Op.intBits,Op.intCmp]
theorem B7 {op:BinOp} {t:TypeId} {a b:ByteArray} {v:Value} (h:FU op a b=some (v,true)):(binOp op t (.string a) (.string b)).run P w = .ok v w:=by
 have e : ∀s:ByteArray,s.data.toList.length=s.size:=fun s=>ft
 cases op<;>simp only[FU,cp,ie,and_true,reduceCtorEq] at h
 case add=>
  obtain⟨rfl,h⟩:=h
  have h:=eh h
  rw[e,e] at h
  rw[binOp_string_add,run_string_add_sum w a b (by unfold ef at h;omega)]
 all_goals (subst h;simp[binOp,Op.stringOp,ByteArray.toList_eq])
theorem gT (d:Nat) (cx cy:Array Value) : ∀(fs:List Field) (i:Nat) (xs ys:List AV) (b:Bool),gO P i fs xs ys=some b→cA g w xs (cx.toList.drop i)→cA g w ys (cy.toList.drop i) →
  (kl (d+1) cx cy fs).run P w = .ok b w
 |[],i,xs,ys,b,h,hx,hy=>by
  cases xs<;>cases ys<;>simp only[gO,cp,reduceCtorEq] at h
  subst h
  simp[kl]
 |f::fs,i,xs,ys,b,h,hx,hy=>by
  cases xs with
  |nil=>simp[gO] at h
  |cons x xs=>
   cases ys with
   |nil=>simp[gO] at h
   |cons y ys=>
    have VO : ∀(c:Array Value) (z:AV) (zs:List AV),cA g w (z::zs) (c.toList.drop i) → ∃v,c[i]? = some v∧VA g w z v∧cA g w zs (c.toList.drop (i+1)):=by
     intro c z zs hz
     cases hd:c.toList.drop i with
     |nil=>rw[hd] at hz;exact hz.elim
     |cons v vs=>
      rw[hd] at hz
      have h1:c.toList[i]? = some v:=by rw[←List.head?_drop,hd];rfl
      have h2:c.toList.drop (i+1)=vs:=by rw[←List.tail_drop,hd];rfl
      refine⟨v,by simpa using h1,hz.1,?_⟩
      rw[h2];exact hz.2
    obtain⟨vx,ex,rx,tx⟩:=VO cx x xs hx
    obtain⟨vy,ey,ry,ty⟩:=VO cy y ys hy
    simp only[gO] at h
    split at h
    · rename_i _ k a k' a' hu
      cases hc:(k==k'&&ae f.offset i&&f.name != "_" && P.plainKey f.type) with
      |false=>rw[hc] at h;cases h
      |true=>
       rw[hc] at h
       simp only[cond_true,gn] at h
       obtain⟨r,h1,rfl⟩:=h
       simp only[ch,beq_iff_eq,bne_iff_ne] at hc
       obtain⟨⟨⟨rfl,ho⟩,hn⟩,hp⟩:=hc
       have ho:=ag ho
       rw[VA.pv] at rx ry
       cases rx
       cases ry
       have ih:=gT d cx cy fs (i+1) xs ys r h1 tx ty
       simp only[kl,if_pos hn,il,ho,run_part_plain w hp ex,run_part_plain w hp ey,iu,run_equalIn_int w d f.type k _ a a' hu]
       cases hab:(a==a') with
       |true=>simp[ih]
       |false=>simp
    · rename_i _ a a' hu
      cases hc:(ae f.offset i&&f.name != "_" && P.plainKey f.type) with
      |false=>rw[hc] at h;cases h
      |true=>
       rw[hc] at h
       simp only[cond_true,gn] at h
       obtain⟨r,h1,rfl⟩:=h
       simp only[ch,bne_iff_ne] at hc
       obtain⟨⟨ho,hn⟩,hp⟩:=hc
       have ho:=ag ho
       rw[VA.pv] at rx ry
       cases rx
       cases ry
       have ih:=gT d cx cy fs (i+1) xs ys r h1 tx ty
       simp only[kl,if_pos hn,il,ho,run_part_plain w hp ex,run_part_plain w hp ey,iu,run_equalIn_bool' w d f.type a a' hu]
       cases hab:(a==a') with
       |true=>simp[ih]
       |false=>simp
    · rename_i _ a a' hu
      cases hc:(ae f.offset i&&f.name != "_" && P.plainKey f.type) with
      |false=>rw[hc] at h;cases h
      |true=>
       rw[hc] at h
       simp only[cond_true,gn] at h
       obtain⟨r,h1,rfl⟩:=h
       simp only[ch,bne_iff_ne] at hc
       obtain⟨⟨ho,hn⟩,hp⟩:=hc
       have ho:=ag ho
       rw[VA.pv] at rx ry
       cases rx
       cases ry
       have ih:=gT d cx cy fs (i+1) xs ys r h1 tx ty
       simp only[kl,if_pos hn,il,ho,run_part_plain w hp ex,run_part_plain w hp ey,iu,run_equalIn_string w d f.type a a' hu,ByteArray.toList_eq]
       cases hab:(a.data.toList==a'.data.toList) with
       |true=>simp[ih]
       |false=>simp
    · cases h
theorem ue {t:TypeId} {x y:AV} {b:Bool} {vx vy:Value} (h:Dl P t x y=some b) (hx:VA g w x vx) (hy:VA g w y vy) :
  (∀op p q,(eqGuard op t p q vx vy).run P w = .ok () w)∧(binOp .eql t vx vy).run P w = .ok (.bool b) w∧(binOp .neq t vx vy).run P w = .ok (.bool (!b)) w:=by
 unfold Dl at h
 split at h
 · rename_i xs ys
   split at h
   · rename_i fs hu
     cases hc:(!P.stoodInHeld t && !P.eqGuardType P.depth t) with
     |false=>rw[hc] at h;cases h
     |true=>
      rw[hc] at h
      simp only[cond_true] at h
      simp only[ch,ic] at hc
      cases hx with
      |agg _ cx lx hx=>
       cases hy with
       |agg _ cy ly hy=>
        have hfo:P.fieldsOf t=fs:=by unfold Program.fieldsOf;rw[hu]
        have hu2:P.underlying t=some (.struct (P.fieldsOf t)):=by rw[hfo,hu]
        have key:=gT (g:=g) (w:=w) 9998 cx cy fs.toList 0 xs ys b h (by simpa using bH.dF lx hx) (by simpa using bH.dF ly hy)
        have e:(Op.equalIn 10000 t (.agg cx) (.agg cy)).run P w = .ok b w:=by
         rw[run_equalIn_agg w 9999 t cx cy hu2 hc.1,hfo];exact key
        refine⟨fun op p q=>run_eqGuard_agg w op t p q cx cy hc.2,?_,?_⟩
        · rw[run_eql_struct,e];rfl
        · rw[run_neq_struct,e];rfl
   · cases h
 · cases h
theorem zF (hr : ∀x,VA g w (ρ x) (bX x)) {op:BinOp} {t yt:TypeId} {x y:Operand} (ho:o.op = .binOp op t x y yt) {a:AV} (h:qA P ρ o op (ρ x) (ρ y)=some (a,true)) :
  ∃v,(execOp bX o).run P w = .ok (.value v) w∧VA g w a v:=by
 unfold qA at h
 split at h
 · rename_i k a' k' b' hx hy
   simp only[gn,ie] at h
   obtain⟨⟨v,ok⟩,h1,rfl,h2⟩:=h
   simp only at h2;subst h2
   have cx:bX x = .int k a':=by have:=hr x;rw[hx,VA.pv] at this;generalize bX x=z at this;cases this;rfl
   have cy:bX y = .int k' b':=by have:=hr y;rw[hy,VA.pv] at this;generalize bX y=z at this;cases this;rfl
   exact⟨v,by simp only[execOp,ho,cx,cy,il,vf,iu,B6 h1,im],.p _ _ (.sc v)⟩
 · rename_i a' b' hx hy
   simp only[gn,ie] at h
   obtain⟨⟨v,ok⟩,h1,rfl,h2⟩:=h
   simp only at h2;subst h2
   have cx:bX x = .string a':=by have:=hr x;rw[hx,VA.pv] at this;generalize bX x=z at this;cases this;rfl
   have cy:bX y = .string b':=by have:=hr y;rw[hy,VA.pv] at this;generalize bX y=z at this;cases this;rfl
   exact⟨v,by simp only[execOp,ho,cx,cy,il,pR,iu,B7 h1,im],.p _ _ (.sc v)⟩
 · have hs : ∀cs b,o.op ≠ .select cs b:=fun _ _=>by rw[ho];exact fun e=>by cases e
   split at h
   · split at h
     · rename_i b hb
       simp only[cp,ie,and_true] at h
       subst h
       have hb:Dl P t (ρ x) (ρ y)=some b:=by unfold HP at hb;rw[ho] at hb;exact hb
       obtain⟨k1,k2,k3⟩:=ue hb (hr x) (hr y)
       exact⟨_,by simp only[execOp,ho,il,k1,iu,k2,im],.p _ _ (.sc _)⟩
     cases hc:(kq (ρ x)&&kr (ρ y)||kr (ρ x)&&kq (ρ y)) with
     |true=>simp[hc] at h
     |false=>
      simp only[hc,cond_false,gn,ie,and_true] at h
      obtain⟨v,h1,rfl⟩:=h
      exact eT hr hs h1
   · split at h
     · rename_i b hb
       simp only[cp,ie,and_true] at h
       subst h
       have hb:Dl P t (ρ x) (ρ y)=some b:=by unfold HP at hb;rw[ho] at hb;exact hb
       obtain⟨k1,k2,k3⟩:=ue hb (hr x) (hr y)
       exact⟨_,by simp only[execOp,ho,il,k1,iu,k3,im],.p _ _ (.sc _)⟩
     cases hc:(kq (ρ x)&&kr (ρ y)||kr (ρ x)&&kq (ρ y)) with
     |true=>simp[hc] at h
     |false=>
      simp only[hc,cond_false,gn,ie,and_true] at h
      obtain⟨v,h1,rfl⟩:=h
      exact eT hr hs h1
   · cases h
theorem B8 (hr : ∀x,VA g w (ρ x) (bX x)) {op:UnOp} {t:TypeId} {x:Operand} (ho:o.op = .unOp op t x) {a:AV} (h:wm P ρ o op (ρ x)=some (a,true)) :
  ∃v,(execOp bX o).run P w = .ok (.value v) w∧VA g w a v:=by
 unfold wm at h
 split at h
 · rename_i b hx
   simp only[cp,ie,and_true] at h;subst h
   have cx:bX x = .bool b:=by have:=hr x;rw[hx,VA.pv] at this;generalize bX x=z at this;cases this;rfl
   exact⟨_,by simp only[execOp,ho,cx,Op.unary,il,im,iu],.p _ _ (.sc _)⟩
 · rename_i k n hx
   simp only[cp,ie,and_true] at h;subst h
   have cx:bX x = .int k n:=by have:=hr x;rw[hx,VA.pv] at this;generalize bX x=z at this;cases this;rfl
   exact⟨_,by simp only[execOp,ho,cx,Op.unary,km,il,im,iu],.p _ _ (.sc _)⟩
 · simp only[gn,ie,and_true] at h
   obtain⟨v,h1,rfl⟩:=h
   exact eT hr (fun _ _=>by rw[ho];exact fun e=>by cases e) h1
set_option linter.unusedVariables false in
theorem qP {t:TypeId} {x a:AV} {cx:Value} (h:m6 P t x=some a) (hx:VA g w x cx) :
  ∃v,(Instr.makeInterface t cx).run P w = .ok v w∧VA g w a v:=by
 unfold m6 at h
 cases h
theorem sH (hr : ∀x,VA g w (ρ x) (bX x)) {x:Operand} (ho:o.op = .nilCheck x) {a:AV} (h:jF P ρ o (ρ x)=some a) :
  ∃v,(execOp bX o).run P w = .ok (.value v) w∧VA g w a v:=by
 unfold jF at h
 split at h
 · rename_i off cs hx
   simp only[cp] at h;subst h
   have:=hr x;rw[hx] at this
   refine⟨bX x,?_,this⟩
   generalize hz:bX x=z at this
   rw[VA.pv] at this;cases this
   simp[execOp,ho,hz]
 · rename_i b off hx
   simp only[cp] at h;subst h
   have:=hr x;rw[hx] at this
   refine⟨bX x,?_,this⟩
   generalize hz:bX x=z at this
   cases this
   simp[execOp,ho,hz]
 · rename_i f a' b' hx
   simp only[cp] at h;subst h
   have:=hr x;rw[hx] at this
   refine⟨bX x,?_,this⟩
   generalize hz:bX x=z at this
   cases this
   simp[execOp,ho,hz]
 · exact eT hr (fun _ _=>by rw[ho];exact fun e=>by cases e) h
theorem Dx {argTypes:Array TypeId} {ty:TypeId} {x a:AV} {cx:Value} (h:Ms P argTypes x=some a) (hx:VA g w x cx) :
  ∃v,(kp argTypes ty #[cx]).run P w = .ok v w∧VA g w a v:=by
 unfold Ms at h
 split at h
 · rename_i t ht
   split at h
   · rename_i len sz cs hu
     simp only[cp] at h;subst h
     rw[VA.pv] at hx
     obtain⟨_,ad,cap,rfl,_⟩:=lY hx
     exact⟨_,by simp[kp,ht,run_underlying hu,goInt],.p _ _ (.sc _)⟩
   · rename_i tok len sz cs hu
     simp only[cp] at h;subst h
     cases hx with
     |os _ _ _ _ ad cap hx _=>exact⟨_,by simp[kp,ht,run_underlying hu,goInt],.p _ _ (.sc _)⟩
   · rename_i b off len sz cap hu
     simp only[cp] at h;subst h
     cases hx with
     |ms _ _ _ _ cap c _ _=>exact⟨_,by simp[kp,ht,run_underlying hu,goInt],.p _ _ (.sc _)⟩
     |mg _ _ _ _ cap c _ _ _=>exact⟨_,by simp[kp,ht,run_underlying hu,goInt],.p _ _ (.sc _)⟩
   · rename_i s hu
     simp only[cp] at h;subst h
     rw[VA.pv] at hx;cases hx
     rw[show s.data.toList.length=s.size from ft]
     exact⟨_,by simp[kp,ht,run_underlying hu,goInt],.p _ _ (.sc _)⟩
   · rename_i n e hu
     simp only[cp] at h;subst h
     exact⟨_,by simp[kp,ht,run_underlying hu,goInt],.p _ _ (.sc _)⟩
   · cases h
 · cases h
theorem Dy {argTypes:Array TypeId} {ty:TypeId} {x a:AV} {cx:Value} (h:Mt P argTypes x=some a) (hx:VA g w x cx) :
  ∃v,(ky argTypes ty #[cx]).run P w = .ok v w∧VA g w a v:=by
 unfold Mt at h
 split at h
 · rename_i t ht
   split at h
   · rename_i b off len sz cap hu
     simp only[cp] at h;subst h
     cases hx with
     |ms _ _ _ _ cap c _ _=>exact⟨_,by simp[ky,ht,run_underlying hu,goInt],.p _ _ (.sc _)⟩
   · rename_i len sz cs hu
     simp only[cp] at h;subst h
     cases hx with
     |os _ _ _ _ ad cap hx hr=>
      have hcap:cap=len:=by
       rcases hr with e | ⟨t,b,o,e,_⟩
       · exact e
       · cases e
      subst hcap
      exact⟨_,by simp[ky,ht,run_underlying hu,goInt],.p _ _ (.sc _)⟩
   · rename_i cs hu
     simp only[cp] at h;subst h
     rw[VA.pv] at hx
     cases hx with
     |ps _ _ _ b o cap f hl hc hz hp hv=>omega
     |pP sz a cap hz=>
      obtain⟨rfl,rfl⟩:=hz.resolve_left (by omega)
      exact⟨_,by simp[ky,ht,run_underlying hu,goInt],.p _ _ (.sc _)⟩
   · cases h
 · cases h
end ops
section ops
variable {P:Program} {g:Gh} {m:Mem} {w:World}
theorem ew : ∀{l:List AV} {aJ:List PV} {vs:List Value},mL l=some aJ→cA g w l vs→HZ g w aJ vs
 |[],aJ,vs,h,hv=>by
  simp[mL] at h;subst h
  cases vs with
  |nil=>trivial
  |cons _ _=>exact hv.elim
 |a::l,aJ,vs,h,hv=>by
  cases vs with
  |nil=>exact hv.elim
  |cons v vs=>
   simp only[mL] at h
   cases h1:J7 a with
   |none=>simp[h1] at h
   |some pv=>
    cases h2:mL l with
    |none=>simp[h1,h2] at h
    |some us=>
     simp only[h1,h2,cp] at h
     subst h
     refine⟨?_,ew h2 hv.2⟩
     have h0:=hv.1
     cases h0 with
     |p pv' _ hp=>simp[J7] at h1;subst h1;exact hp
     |os tok len sz cells ad cap hp _=>simp[J7] at h1;subst h1;exact hp
     |_=>simp[J7] at h1
def sJ (P:Program) (g:Gh) (w:World) (sz n:Nat) (aJ:List PV) (cx:Value):Prop:=
 ∃vs:List Value,HZ g w aJ vs∧vs.length=n*sz∧(∀v∈vs,v.oneCell'=true)∧(kx cx).run P w = .ok n w ∧ ∀k,k≤n→(kv sz k cx).run P w = .ok (vs.take (k*sz)).toArray w
theorem ez {sz n cap:Nat} {aJ:List PV} {b o:Nat} {vs:List Value} (h1:HZ g w aJ vs) (h2:vs.length=n*sz) (ho : ∀v∈vs,v.oneCell'=true) (h3 : ∀j v,vs[j]? = some v→w.cell? ⟨b,o+j,none⟩=some v) :
  sJ P g w sz n aJ (.slice (some ⟨b,o,none⟩) n cap):=by
 refine⟨vs,h1,h2,ho,by simp[kx],fun k hk=> ?_⟩
 have hl:(vs.take (k*sz)).length=k*sz:=by
  rw[du,h2];exact Nat.min_eq_left (eQ _ hk)
 have:=run_loadCells_list (P:=P) w ⟨b,o,none⟩ (vs.take (k*sz)) (fun j v hj=>by
  rw[cP];exact h3 j v (by rw[c9] at hj;split at hj<;>simp_all))
 rw[hl] at this
 simpa[kv] using this
theorem lf {sz n:Nat} {aJ:List PV} {cx:Value} (h:VP g w (.ps n sz aJ) cx):sJ P g w sz n aJ cx:=by
 cases h with
 |ps _ _ _ b o cap f hl hc hz hp hv=>
  refine ez (vs:=(ee aJ.length).map f) (bH.dF (by simp) fun i hi _=> ?_) (by simp[hl]) (fun v hv=> ?_) fun j v hj=> ?_
  · simpa using hv i hi
  · obtain⟨k,hk,rfl⟩:=ed.1 hv
    exact(hp k (by simpa using hk)).2.2
  · simp only[dC,gn] at hj
    obtain⟨k,hk,rfl⟩:=hj
    obtain⟨hlt,hk⟩:=di.1 hk
    simp at hlt hk;subst hk
    exact(hp j hlt).2.1
 |pP _ a cap=>
  refine⟨[],trivial,by simp,by simp,by simp[kx],fun k hk=> ?_⟩
  have:k=0:=by omega
  subst this
  cases a<;>simp[kv,loadCells,loadCellsFrom]
theorem lZ : ∀{l:List AV},qw l=true→mL l=some (l.map mO)
 |[],_=>rfl
 |.p v::l,h=>by
  have:=lZ (l:=l) (by simpa[qw] using h)
  simp[mL,J7,this,mO]
 |.aj::_,h | .os .. :: _,h | .mp .. :: _,h | .ms .. :: _,h | .fn .. :: _,h | .agg _::_,h | .aA _::_,h | .mW .. :: _,h | .vm _::_,h | .vy _::_,h=>by simp[qw] at h
theorem fF (h:Rel g m w) {sz n:Nat} {x:AV} {cx:Value} {aJ:List PV} (he:contents (fun i=>m.getD i .dead) sz x=some (n,aJ,true)) (hx:VA g w x cx) :
  sJ P g w sz n aJ cx:=by
 unfold contents at he
 split at he
 · simp only[cp,ie] at he
   obtain⟨rfl,rfl,h1⟩:=he
   rw[VA.pv] at hx
   obtain⟨_,ad,cap,rfl,_⟩:=lY hx
   exact lf (jm hx h1)
 · simp only[cp,ie] at he
   obtain⟨rfl,rfl,h1⟩:=he
   cases hx with
   |os _ _ _ _ ad cap hx _=>exact lf (jm hx h1)
 · rename_i b off len s cap
   cases hx with
   |ms _ _ _ _ cap c hc hcap=>
   split at he
   · rename_i l hl
     simp only[cp,ie,ch,en] at he
     obtain⟨rfl,rfl,rfl,h1⟩:=he
     have h1:=eh h1
     have hm:=getD_some hl (by simp)
     obtain⟨c',cs,e,q,k1,k2,k3,k4,k5⟩:=h.cells b _ _ hm rfl
     rw[hc] at k1;cases k1
     have hone:=k4.2
     have k4:=k4.1
     have hlen:=k4.len
     simp at hlen
     refine ez (vs:=(cs.toList.drop off).take (len*s)) ?_ (by simp;omega) (fun v hv=>hone v (db (da hv))) fun j v hj=> ?_
     · have:=((k4.drop off).take (len*s))
       rw[←List.map_drop,←List.map_take] at this
       exact bH.dF (by simpa using this.len) fun i a b=>by
        have:=this.get i (by simpa using a) b
        rw[df,VA.pv] at this
        exact this
     · rw[c9] at hj
       split at hj
       · rw[dd] at hj
         rw[bk k2];simpa using hj
       · cases hj
   · rename_i l hl
     simp only[gn,ie,ch,en] at he
     obtain⟨us,he,rfl,rfl,rfl,h1⟩:=he
     have h1:=eh h1
     have hm:=getD_some hl (by simp)
     obtain⟨c',cs,e,q,k1,k2,k3,k4,k5⟩:=h.cells b _ _ hm rfl
     rw[hc] at k1;cases k1
     have hone:=k4.2
     have k4:=k4.1
     have hlen:=k4.len
     simp at hlen
     refine ez (vs:=(cs.toList.drop off).take (len*s)) (ew he ((k4.drop off).take (len*s))) (by simp;omega) (fun v hv=>hone v (db (da hv))) fun j v hj=> ?_
     rw[c9] at hj
     split at hj
     · rw[dd] at hj
       rw[bk k2];simpa using hj
     · cases hj
   · rename_i l hl
     simp only[cp,ie,ch,en] at he
     obtain⟨rfl,rfl,hp,rfl,h1⟩:=he
     have he:=lZ hp
     have h1:=eh h1
     obtain⟨c',ob,vs,k1,k2,k3,k4,_,_⟩:=h.obs b _ _ (getD_some hl (by simp))
     rw[hc] at k1;cases k1
     obtain⟨cs,e,q,rfl,_,q0,q1,q2,q3⟩:=k4
     have hlen:=k3.len
     refine ez (vs:=(vs.drop off).take (len*s)) (ew he ((k3.drop off).take (len*s))) (by simp;omega) (fun v hv=> ?_) fun j v hj=> ?_
     · have hv:=db (da hv)
       rw[q1] at hv
       exact q3 v (da hv)
     · rw[c9] at hj
       split at hj
       · rw[dd,q1,c9] at hj
         split at hj
         · rw[bk k2];simpa using hj
         · cases hj
       · cases hj
   · rename_i l hl
     simp only[gn,ie,ch,en] at he
     obtain⟨us,he,rfl,rfl,rfl,h1⟩:=he
     have h1:=eh h1
     obtain⟨c',ob,vs,k1,k2,k3,k4,_,_⟩:=h.obs b _ _ (getD_some hl (by simp))
     rw[hc] at k1;cases k1
     obtain⟨cs,e,q,rfl,_,q0,q1,q2,q3⟩:=k4
     have hlen:=k3.len
     refine ez (vs:=(vs.drop off).take (len*s)) (ew he ((k3.drop off).take (len*s))) (by simp;omega) (fun v hv=> ?_) fun j v hj=> ?_
     · have hv:=db (da hv)
       rw[q1] at hv
       exact q3 v (da hv)
     · rw[c9] at hj
       split at hj
       · rw[dd,q1,c9] at hj
         split at hj
         · rw[bk k2];simpa using hj
         · cases hj
       · cases hj
   · cases he
 · rename_i b off len s
   cases hx with
   |mg _ _ _ _ cap c hc hcap hroom=>
   split at he
   · rename_i l hl
     simp only[cp,ie,ch,en] at he
     obtain⟨rfl,rfl,hp,rfl,h1⟩:=he
     have he:=lZ hp
     have h1:=eh h1
     obtain⟨c',ob,vs,k1,k2,k3,k4,_,_⟩:=h.obs b _ _ (getD_some hl (by simp))
     rw[hc] at k1;cases k1
     obtain⟨cs,e,q,rfl,_,q0,q1,q2,q3⟩:=k4
     have hlen:=k3.len
     refine ez (vs:=(vs.drop off).take (len*s)) (ew he ((k3.drop off).take (len*s))) (by simp;omega) (fun v hv=> ?_) fun j v hj=> ?_
     · have hv:=db (da hv)
       rw[q1] at hv
       exact q3 v (da hv)
     · rw[c9] at hj
       split at hj
       · rw[dd,q1,c9] at hj
         split at hj
         · rw[bk k2];simpa using hj
         · cases hj
       · cases hj
   · rename_i l hl
     simp only[gn,ie,ch,en] at he
     obtain⟨us,he,rfl,rfl,rfl,h1⟩:=he
     have h1:=eh h1
     obtain⟨c',ob,vs,k1,k2,k3,k4,_,_⟩:=h.obs b _ _ (getD_some hl (by simp))
     rw[hc] at k1;cases k1
     obtain⟨cs,e,q,rfl,_,q0,q1,q2,q3⟩:=k4
     have hlen:=k3.len
     refine ez (vs:=(vs.drop off).take (len*s)) (ew he ((k3.drop off).take (len*s))) (by simp;omega) (fun v hv=> ?_) fun j v hj=> ?_
     · have hv:=db (da hv)
       rw[q1] at hv
       exact q3 v (da hv)
     · rw[c9] at hj
       split at hj
       · rw[dd,q1,c9] at hj
         split at hj
         · rw[bk k2];simpa using hj
         · cases hj
       · cases hj
   · rename_i l hl
     simp only[cp,ie,ch,en] at he
     obtain⟨rfl,rfl,hp,rfl,h1⟩:=he
     have he:=lZ hp
     have h1:=eh h1
     obtain⟨c',ob,vs,k1,k2,k3,k4,_,_⟩:=h.obs b _ _ (getD_some hl (by simp))
     rw[hc] at k1;cases k1
     obtain⟨cs,e,q,rfl,_,q0,q1,q2,q3,_⟩:=k4
     have hlen:=k3.len
     refine ez (vs:=(vs.drop off).take (len*s)) (ew he ((k3.drop off).take (len*s))) (by simp;omega) (fun v hv=> ?_) fun j v hj=> ?_
     · have hv:=db (da hv)
       rw[q1] at hv
       obtain⟨k,rfl⟩:=q3 v (da hv)
       rfl
     · rw[c9] at hj
       split at hj
       · rw[dd,q1,c9] at hj
         split at hj
         · rw[bk k2];simpa using hj
         · cases hj
       · cases hj
   · cases he
 · rename_i s
   simp only[cp,ie,en] at he
   obtain⟨rfl,rfl,rfl⟩:=he
   rw[VA.pv] at hx;cases hx
   refine⟨s.data.toList.map fun b=> .int .u8 b.toNat,bH.dF (by simp) fun i a b=> ?_,by simp,by simp[kz],?_,fun k hk=> ?_⟩
   · simp only[df];exact .sc _
   · rw[show s.data.toList.length=s.size from ft];simp[kx]
   · simp only[kv,im,Result.ok.injEq,and_true]
     apply Array.ext'
     simp[ByteArray.data_extract]
 · cases he
theorem wN {a:AV} {v:Value} (h:lN a=true) (ha:VA g w a v):v.oneCell'=true:=by
 cases ha with
 |p pv cv hp=>cases hp<;>first | rfl | (simpa[lN] using h)
 |agg=>simp[lN] at h
 |aA=>simp[lN] at h
 |aj=>simp[lN] at h
 |_=>rfl
theorem jo : ∀{l:List AV} {vs:List Value},jD l=true→cA g w l vs → ∀u∈vs,u.oneCell'=true
 |[],[],_,_,_,hu=>by cases hu
 |a::l,v::vs,h,hv,u,hu=>by
  simp only[jD,ch] at h
  cases hu with
  |head=>exact wN h.1 hv.1
  |tail _ hu=>exact jo h.2 hv.2 u hu
 |[],_::_,_,hv,_,_=>hv.elim
 |_::_,[],_,hv,_,_=>hv.elim
theorem kM {a:AV} {v:Value} (h:(cellsOf a).2=true) (ha:VA g w a v):cA g w (cellsOf a).1 v.cells.toList ∧ ∀u∈v.cells.toList,u.oneCell'=true:=by
 have Wq : ∀{v:Value},v.oneCell'=true→v.cells = #[v]:=by intro v h;cases v<;>first | rfl | (simp[kz] at h)
 cases ha with
 |agg l cs hl hh=>
  have:=VA.zA.1 (.agg l cs hl hh)
  exact⟨this,jo h this⟩
 |p pv cv hp=>
  have h1:=wN (a:= .p pv) (by simpa[cellsOf] using h) (.p pv v hp)
  rw[Wq h1]
  exact⟨⟨.p pv v hp,trivial⟩,by simpa using h1⟩
 |os tok len sz cells ad cap hp hr=>
  exact⟨⟨.os tok len sz cells ad cap hp hr,trivial⟩,by simp[la,kz]⟩
 |mp b off c hc=>exact⟨⟨.mp b off c hc,trivial⟩,by simp[la,kz]⟩
 |ms b off len sz cap c hc hcap=>exact⟨⟨.ms b off len sz cap c hc hcap,trivial⟩,by simp[la,kz]⟩
 |mg b off len sz cap c hc hcap hh=>exact⟨⟨.mg b off len sz cap c hc hcap hh,trivial⟩,by simp[la,kz]⟩
 |vm b c hc=>exact⟨⟨.vm b c hc,trivial⟩,by simp[la,kz]⟩
 |vy b c hc=>exact⟨⟨.vy b c hc,trivial⟩,by simp[la,kz]⟩
 |fn f l k fa ca hl hk h1 h2=>exact⟨⟨.fn f l k fa ca hl hk h1 h2,trivial⟩,by simp[la,kz]⟩
 |mW t v cv hv=>exact⟨⟨.mW t v cv hv,trivial⟩,by simp[la,kz]⟩
 |aj=>simp[cellsOf,lN] at h
 |aA=>simp[cellsOf,lN] at h
theorem Ar (off:Nat) : ∀(l:List Value) (k:Nat) (cs:Array Value),
  ((l.zipIdx k).foldl (fun cs (c,j)=>cs.setIfInBounds (off+j) c) cs).toList=cZ cs.toList (off+k) l
 |[],k,cs=>rfl
 |v::l,k,cs=>by
  simp only[List.zipIdx_cons,List.foldl_cons,cZ]
  rw[Ar off l (k+1)]
  simp[fg]
theorem bH.cZ {α β:Type} {r:α→β→Prop} : ∀{new:List α} {new':List β} {l:List α} {l':List β} (off:Nat),bH r l l'→bH r new new'→bH r (cZ l off new) (cZ l' off new')
 |[],[],_,_,_,h,_=>h
 |_::_,_::_,_,_,off,h,k=>bH.cZ (off+1) (h.set off k.1) k.2
 |[],_::_,_,_,_,_,k=>k.elim
 |_::_,[],_,_,_,_,k=>k.elim
theorem jM {α:Type} {p:α→Prop} : ∀(n l:List α) (o:Nat),(∀v∈l,p v)→(∀v∈n,p v) → ∀v∈cZ l o n,p v
 |[],_,_,h,_=>h
 |x::n,l,o,h,h'=>jM n _ (o+1) (fun v hv=>by
   rcases List.mem_or_eq_of_mem_set hv with k | k
   · exact h v k
   · exact k▸h' x (.head _)) fun v hv=>h' v (.tail _ hv)
theorem kC {place:Nat→Option (Nat×Nat)} : ∀{parts:List (Nat×AV)} {jN:List (Nat×Value)} {cells cs:List AV} {ca:Array Value},
  bH (fun a b=>a.1=b.1∧VA g w a.2 b.2) parts jN→FZ g w cells ca.toList→tZ place cells parts=some (cs,true) →
   ∃B9,kh place ca jN=some B9∧FZ g w cs B9.toList∧B9.size=ca.size
 |[],[],cells,cs,ca,_,hc,h=>by
  simp[tZ] at h;subst h
  exact⟨ca,rfl,hc,rfl⟩
 |(i,a)::parts,(j,v)::jN,cells,cs,ca,hp,hc,h=>by
  obtain⟨⟨rfl,hv⟩,hp⟩:=hp
  simp only[tZ] at h
  cases Mh:place i with
  |none=>simp[Mh] at h
  |some q=>
   obtain⟨off,size⟩:=q
   simp only[Mh] at h
   cases hf:tZ place (cZ cells off (cellsOf a).1) parts with
   |none=>simp[hf] at h
   |some r=>
    obtain⟨cs',ok⟩:=r
    simp only[hf,cp,ie,ch,en] at h
    obtain⟨rfl,⟨⟨h0,h1⟩,h2⟩,rfl⟩:=h
    have h2:=eh h2
    have hlc:=hc.1.len
    obtain⟨k1,k2⟩:=kM h0 hv
    have pS:=k1.len
    have zG:FZ g w (cZ cells off (cellsOf a).1) (cZ ca.toList off v.cells.toList):=⟨hc.1.cZ off k1,jM _ _ _ hc.2 k2⟩
    have H7:(v.cells.zipIdx.foldl (fun cs (c,j)=>cs.setIfInBounds (off+j) c) ca).toList=cZ ca.toList off v.cells.toList:=by
     rw[←Array.foldl_toList,Array.toList_zipIdx,Ar];simp
    obtain⟨B9,q1,q2,q3⟩:=kC (ca:=v.cells.zipIdx.foldl (fun cs (c,j)=>cs.setIfInBounds (off+j) c) ca) hp (by rw[H7];exact zG) hf
    have hsz:v.cells.size=size:=by simp at pS;omega
    have hroom : ¬(off+v.cells.size>ca.size):=by simp at hlc;omega
    refine⟨B9,?_,q2,?_⟩
    · simp only[kh,Mh]
      rw[if_neg (by simp[hsz,hsz▸hroom]<;>omega)]
      exact q1
    · rw[q3]
      have:=congrArg List.length H7
      have hsl : ∀(n:List Value) (l:List Value) (o:Nat),(cZ l o n).length=l.length:=by
       intro n
       induction n with
       |nil=>intro l o;rfl
       |cons x n ih=>intro l o;simp[cZ,ih]
      simpa[hsl] using this
 |[],_::_,_,_,_,h,_,_=>h.elim
 |_::_,[],_,_,_,h,_,_=>h.elim
end ops
section ops
variable {P:Program} {g:Gh} {m:Mem} {w:World}
theorem checked_eq {l k:List AV} (h:checked l=some k):k=l∧jD l=true:=by
 unfold checked at h
 cases hb:jD l with
 |false=>simp[hb] at h
 |true=>simp[hb] at h;exact⟨h.symm,rfl⟩
theorem dg {t:TypeId} {l:List AV} (h:zeroCells P t=some l) : ∃z,(∀w,(zeroValue t).run P w = .ok z w)∧FZ g w l z.cells.toList:=by
 unfold zeroCells at h
 cases hi:P.info? t with
 |none=>simp[hi] at h
 |some i=>
  cases hz:i.zero with
  |none=>simp[hi,hz] at h
  |some z=>
   have hrun : ∀w,(zeroValue t).run P w = .ok z w:=fun w=>by simp[zeroValue,typeInfo,hi,hz]
   refine⟨z,hrun,?_⟩
   simp only[hi,Option.bind_some,hz] at h
   cases z<;>(obtain⟨rfl,hc⟩:=checked_eq h)<;>first
    |exact⟨cA.ot _,jo hc (cA.ot (g:=g) (w:=w) _)⟩
    |exact⟨⟨VA.eH _,trivial⟩,jo (vs:=[_]) hc ⟨VA.eH (g:=g) (w:=w) _,trivial⟩⟩
theorem nk : ∀{fs:List Field} {pl:List (Nat×Nat)},placesOf P fs=some pl → ∀w,(fs.mapM fun f=>do pure (f.offset,←sizeOf f.type):Sem (List (Nat×Nat))).run P w = .ok pl w
 |[],pl,h,w=>by simp[placesOf] at h;subst h;simp
 |f::fs,pl,h,w=>by
  simp only[placesOf] at h
  cases h1:fZ P f.type with
  |none=>simp[h1] at h
  |some n=>
   cases h2:placesOf P fs with
   |none=>simp[h1,h2] at h
   |some l=>
    simp only[h1,h2,cp] at h
    subst h
    have ih:=nk h2 w
    simp only[List.mapM_cons,il,aS h1,iu,im,ih]
theorem zH {t:TypeId} {parts:List (Nat×AV)} {jN:Array (Nat×Value)} {a:AV} (h:vv P t parts=some (a,true)) (hp:bH (fun a b=>a.1=b.1∧VA g w a.2 b.2) parts jN.toList) :
  ∃v,(kb t jN).run P w = .ok v w∧VA g w a v:=by
 unfold vv at h
 split at h
 · rename_i z fields hz hu
   split at h
   · rename_i pl Mh
     simp only[gn,ie] at h
     obtain⟨⟨cs,ok⟩,h1,rfl,h2⟩:=h
     simp only at h2;subst h2
     obtain⟨zv,Mi,Mj⟩:=dg (g:=g) (w:=w) hz
     obtain⟨ca,h3,h4,_⟩:=kC hp Mj h1
     refine⟨.agg ca,?_,VA.zA.2 h4.1⟩
     have afg:(fields.mapM fun f=>do pure (f.offset,←sizeOf f.type):Sem (Array (Nat×Nat))).run P w = .ok pl.toArray w:=by
      rw[Array.mapM_eq_mapM_toList]
      simp only[Sem.run_map,nk Mh w,iu]
     have hfun:(fun i:Nat=>pl.toArray[i]?)=fun i:Nat=>pl[i]? :=by funext i;simp
     simp only[kb,il,Mi,iu,run_underlying hu,afg,hfun,h3,im]
   · cases h
 · rename_i z n elem hz hu
   split at h
   · rename_i size hsz
     simp only[gn,ie] at h
     obtain⟨⟨cs,ok⟩,h1,rfl,h2⟩:=h
     simp only at h2;subst h2
     obtain⟨zv,Mi,Mj⟩:=dg (g:=g) (w:=w) hz
     obtain⟨ca,h3,h4,_⟩:=kC hp Mj h1
     exact⟨.agg ca,by simp only[kb,il,Mi,iu,run_underlying hu,aS hsz,h3,im],VA.zA.2 h4.1⟩
   · cases h
 · cases h
theorem nq {α:Type} (z:List α) : ∀n,(dn z n).length=n*z.length
 |0=>by simp[dn]
 |n+1=>by simp[dn,nq z n,Nat.succ_mul,Nat.add_comm]
theorem uf {α:Type} (z:List α) : ∀(n i:Nat) (h:i<(dn z n).length),∃h':i%z.length<z.length,(dn z n)[i]=z[i%z.length]
 |0,i,h=>by simp[dn] at h
 |n+1,i,h=>by
  simp only[dn,de] at h
  by_cases hlt:i<z.length
  · refine⟨by rw[fh hlt];exact hlt,?_⟩
    simp only[dn,dv,hlt,dite_true,fh hlt]
  · obtain⟨h1,h2⟩:=uf z n (i-z.length) (by omega)
    have e:(i-z.length)%z.length=i%z.length:=by rw[←Nat.mod_eq_sub_mod (by omega)]
    refine⟨by rw[←e];exact h1,?_⟩
    simp only[dn,dv,hlt,dite_false,h2,e]
theorem As {α:Type} {r:α→Value→Prop} {z:List α} {zv:Array Value} (hz:bH r z zv.toList) (n:Nat) :
  bH r (dn z n) ((gg (n*zv.size)).map (zv[· % zv.size]!)).toList:=by
 have hl:=hz.len
 simp at hl
 refine bH.dF (by simp[nq,hl]) fun i hi hj=> ?_
 obtain⟨h1,h2⟩:=uf z n i hi
 rw[h2]
 have h3:i%zv.size<zv.size:=hl▸h1
 simp only[fx,fw,df,List.getElem_range]
 rw[getElem!_pos zv _ h3]
 have:=hz.get (i%z.length) h1 (by simpa[←hl] using h1)
 simpa[hl] using this
theorem H8 {zv:Array Value} (h : ∀v∈zv.toList,v.oneCell'=true) (n:Nat) : ∀v∈((gg (n*zv.size)).map (zv[· % zv.size]!)).toList,v.oneCell'=true:=by
 intro v hv
 simp only[fx,fw,ed,List.mem_range] at hv
 obtain⟨i,hi,rfl⟩:=hv
 have h3:i%zv.size<zv.size:=Nat.mod_lt _ (Nat.pos_of_ne_zero fun e=>by simp[e] at hi)
 rw[getElem!_pos zv _ h3]
 exact h _ (by simp)
theorem gU {α:Type} (v:α) : ∀n,List.replicate n v=dn [v] n
 |0=>rfl
 |n+1=>by rw[List.replicate_succ,gU v n];rfl
theorem MM {elem:TypeId} {n:Nat} {l:List AV} (h:zeros P elem n=some l) : ∃size z,fZ P elem=some size∧zeroCells P elem=some z∧z.length=size∧1≤size∧l=dn z n:=by
 unfold zeros at h
 split at h
 · rename_i size z h1 h2
   cases hb:(ae z.length size&&ai 1 size) with
   |false=>simp[hb] at h
   |true=>
    simp only[hb,cond_true] at h
    simp only[ch,en] at hb
    refine⟨size,z,h1,h2,hb.1,eh hb.2,?_⟩
    split at h
    · simp only[cp] at h;rw[←h,gU]
    · simp only[cp] at h;exact h.symm
 · cases h
theorem MN {elem:TypeId} {n:Nat} {b:aU} (h:Mr P elem n=some b) : ∃size z,fZ P elem=some size∧zeroCells P elem=some z∧z.length=size∧1≤size∧b.cells?=some (dn z n):=by
 have abd : ∀(vs:List PV) n,(dn vs n).map AV.p=dn (vs.map AV.p) n:=by
  intro vs n
  induction n with
  |zero=>rfl
  |succ n ih=>simp[dn,ih]
 unfold Mr at h
 split at h
 · rename_i size z h1 h2
   cases hb:(ae z.length size&&ai 1 size) with
   |false=>simp[hb] at h
   |true=>
    simp only[hb,cond_true] at h
    simp only[ch,en] at hb
    refine⟨size,z,h1,h2,hb.1,eh hb.2,?_⟩
    split at h
    · rename_i v hv
      simp only[cp] at h;subst h
      have:=qH hv
      simp only[aU.cells?,gU,abd,this]
    · rename_i vs _ hv
      simp only[cp] at h;subst h
      have:=qH hv
      simp only[aU.cells?,abd,this]
    · simp only[cp] at h;subst h;rfl
 · cases h
theorem eI (w:World) (o:Obj):pQ w (w.alloc o) o:=⟨rfl,rfl,rfl,rfl⟩
theorem cq.alloc (h:Rel g m w) {br:Nat} (hn:m[br]? = some .free) {l:List AV} {cs:Array Value} {e:TypeId} {b:aU} (hb:b.cells?=some l) (hv:FZ g w l cs.toList) {r:Result Next} {v:Value} {a:AV}
  (hr:r = .ok (.value v) (w.alloc (.cells cs e))) (ha : ∀g':Gh,g'.bS br=some w.heap.size→VA g' (w.alloc (.cells cs e)) a v):cq g m w r a (m.set br b):=by
 obtain⟨h1,h2,h3⟩:=h.alloc hn hb hv (eI w (.cells cs e))
 exact⟨v,_,_,.inl hr,ha _ (by simp[Gh.put]),h1,h2,h3⟩
end ops
end Go.Am
end
