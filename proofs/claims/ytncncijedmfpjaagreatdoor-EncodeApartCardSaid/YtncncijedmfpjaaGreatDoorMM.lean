import Derived.Test.YtncncijedmfpjaaGreatDoorMG
section
namespace Go.Am
open Go.RowKit
section
variable {P:Program} {E:Env} {g:Gh} {m:Mem} {w:World}
theorem Rel.PF (h:Rel g m w) {i:Nat} {k k':dV} {l:List AV} (hb:m[i]? = some (.ob k l)) (hk : ∀ob vs,k.is ob vs→k'.is ob vs) (hr : ∀ob n,k'.room ob n) :
  Rel g (m.set i (.ob k' l)) w∧dm g m w g (m.set i (.ob k' l)) w:=by
 have own : ∀(j:Nat) (x:aN),(m.set i (.ob k' l))[j]? = some x→x.cP=true → ∃y:aN,m[j]? = some y∧y.cP=true:=fun j x hj ho=>by
  rcases aD hj with⟨rfl,_⟩ | ⟨_,q⟩
  · exact⟨_,hb,rfl⟩
  · exact⟨x,q,ho⟩
 refine⟨⟨fun j hj=>h.sw j (by simpa using hj),fun j hj=> ?_,fun j x cs hj hx=> ?_,fun j c hj hc=> ?_,fun j q x x' c hj hq ho ho' hc eB=> ?_,h.there,fun j k1 l1 hj=> ?_⟩,
  ⟨Nat.le_refl _,fun _ _ _=>rfl,fun _ _ p=>⟨p,rfl⟩,fun _ _ p=> .inl p,fun c ho=> ?_,rfl,rfl,rfl⟩⟩
 · rcases aD hj with⟨_,q⟩ | ⟨_,q⟩
   · cases q
   · exact h.free j q
 · rcases aD hj with⟨_,rfl⟩ | ⟨_,q⟩
   · cases hx
   · exact h.cells j x cs q hx
 · rcases aD hj with⟨_,q⟩ | ⟨_,q⟩
   · cases q
   · exact h.tok j c q hc
 · obtain⟨y,y1,y2⟩:=own j x hj ho
   obtain⟨z,z1,z2⟩:=own q x' hq ho'
   exact h.inj j q y z c y1 z1 y2 z2 hc eB
 · rcases aD hj with⟨rfl,q⟩ | ⟨_,q⟩
   · cases q
     obtain⟨c,o,vs,k1,k2,k3,k4,k5,k6⟩:=h.obs _ _ _ hb
     exact⟨c,o,vs,k1,k2,k3,hk _ _ k4,k5,hr _ _⟩
   · exact h.obs j k1 l1 q
 · obtain⟨j,x,hj,hx,hc⟩:=ho
   obtain⟨y,y1,y2⟩:=own j x hj hx
   exact .inl ⟨j,y,y1,y2,hc⟩
theorem bD.more {c:cg} {s:ByteArray} {i:Nat} {o:Out} (hm:c.st.mem=[.ob (.iter s i) []]) (hc:rN c=true)
  (h:bD P E {c with st:={c.st with mem:=[.ob (.N2 s i (Nat.blt i s.size)) []]}} o):bD P E c o:=by
 refine bD.br (fun g fr w hr cs=> ?_) h
 obtain⟨f,todo,st⟩:=c
 obtain⟨tm,nt,mem,fix,cJ,bZ⟩:=st
 dsimp only at hm
 subst hm
 match todo,hc with
 |.code j x::k,_=>
  obtain⟨b,a,q1,q2,q3,q4,q5,q6⟩:=hr
  obtain⟨n1,n2⟩:=q5.rel.PF (i:=0) (k':= .N2 s i (Nat.blt i s.size)) rfl (fun ob vs e=>⟨e.1,e.2,rfl⟩) fun _ _=>trivial
  exact⟨g,fr,w,Steps.refl _ _,⟨b,a,q1,q2,q3,q4,⟨q5.tm,q5.nt,n1,q5.fix,q5.dS⟩,q6⟩,n2,fun _ _ _ eB=>⟨eB,rfl,rfl⟩,rfl,rfl,rfl⟩
end
end Go.Am
end
