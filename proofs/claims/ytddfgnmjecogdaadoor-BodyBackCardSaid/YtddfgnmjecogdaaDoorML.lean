import Derived.Test.YtddfgnmjecogdaaDoorMK
open Nat renaming le_refl→df,not_lt→H0
open List renaming length_append→ei,take_append_of_le_length→pw,length_set→fh,drop_append_of_le_length→Wl,take_of_length_le→fe,drop_of_length_le→Wm,take_append_drop→Wn,getElem?_append_left→px,nil_append→Vl,append_assoc→qf,length_take→fl,length_map→pj
open Array renaming getElem?_eq_getElem→ja
section
namespace Go.Am
open Go.RowKit
section
variable {P:Program} {E:Env} {g:Gh} {m:Mem} {w:World}
structure lS where
 p1:List PV
 t:TypeId
 sz:Nat
 len:Nat
 X:Option (List PV)
 p2:List PV
def lS.cell (f:lS) (tk:Nat):AV:=match f.X with
 |none=> .os none 0 0 []
 |some _=> .ms tk 0 f.len f.sz none
def lS.cells (f:lS) (tk:Nat):List AV:=f.p1.map .p++f.cell tk::f.p2.map .p
def yw (g:Gh) (w:World) (f:lS) (v:Value) (b:Option Nat):Prop:=match f.X with
 |none=>b=none ∧ ∀g':Gh,VA g' w (.os none 0 0 []) v
 |some X=> ∃c cap cs e n vals,b=some c∧v = .slice (some ⟨c,0,none⟩) f.len cap∧f.len≤cap∧w.heap[c]? = some (.cells cs e n)∧(fR.gr f.t true).is (.cells cs e n) vals∧rI g w X vals∧cap*f.sz≤cs.size ∧ ∀o,¬g.pure c o
def T4 (g:Gh) (w:World) (f:lS) (vs:List Value) (b:Option Nat):Prop:=
 ∃v1 v v2,vs=v1++v::v2∧rI g w f.p1 v1∧yw g w f v b∧rI g w f.p2 v2
def eu:List lS→List Value→Hid
 |[],pre=>fun _ _ H=>pre=[] ∧ ∀c,¬H c
 |f::fs,pre=>fun g w H=> ∃pre' vs b H',pre=pre'++vs∧T4 g w f vs b∧eu fs pre' g w H'∧(∀c,H c↔H' c∨b=some c) ∧ ∀c,b=some c → ¬H' c
theorem rI.mono' {g':Gh} {w':World} (h : ∀c o,g.pure c o→g'.pure c o∧w'.cell? ⟨c,o,none⟩=w.cell? ⟨c,o,none⟩) : ∀{l:List PV} {vs:List Value},rI g w l vs→rI g' w' l vs
 |[],[],_=>trivial
 |_::_,_::_,k=>⟨k.1.mono h,rI.mono' h k.2⟩
 |[],_::_,k=>k.elim
 |_::_,[],k=>k.elim
theorem EE {g g':Gh} {w w':World} {v:Value} (h:VA g w (.os none 0 0 []) v):VA g' w' (.os none 0 0 []) v:=by
 cases h with
 |os _ _ _ _ a cap h' hr'=>
  have hcap:cap=0:=by
   rcases hr' with h | ⟨t,b,o,e,_⟩
   · exact h
   · cases e
  subst hcap
  cases h' with
  |mT _ _ _ hz=>exact .os _ _ _ _ _ _ (.mT _ _ _ hz) (.inl rfl)
  |ps _ _ _ _ _ _ _ _ _ hz=>exact absurd hz (by decide)
theorem yw.stay {g':Gh} {w':World} {f:lS} {v:Value} {b:Option Nat} (h:yw g w f v b) (hp : ∀c o,g.pure c o→g'.pure c o∧w'.cell? ⟨c,o,none⟩=w.cell? ⟨c,o,none⟩)
  (hh : ∀c,b=some c→w'.heap[c]? = w.heap[c]?) (hn : ∀c o,b=some c→g'.pure c o→g.pure c o):yw g' w' f v b:=by
 unfold yw at h ⊢
 split at h
 · exact⟨h.1,fun g''=>EE (h.2 g'')⟩
 · obtain⟨c,cap,cs,e,n,vals,k1,k2,k3,k4,k5,k6,k7,k8⟩:=h
   exact⟨c,cap,cs,e,n,vals,k1,k2,k3,(hh c k1).trans k4,k5,k6.mono' hp,k7,fun o p=>k8 o (hn c o k1 p)⟩
theorem aE : ∀(fs:List lS) (pre:List Value),(eu fs pre).fB
 |[],_=>fun _ _ _ _ _ _ _ _ h=>h
 |f::fs,pre=>fun g w g' w' H hp hh hn h=>by
  obtain⟨pre',vs,b,H',h1,⟨v1,v,v2,k1,k2,k3,k4⟩,h3,h4,h5⟩:=h
  have sub : ∀c,H' c→H c:=fun c q=>(h4 c).2 (.inl q)
  have Io : ∀c,b=some c→H c:=fun c q=>(h4 c).2 (.inr q)
  exact⟨pre',vs,b,H',h1,⟨v1,v,v2,k1,k2.mono' hp,k3.stay hp (fun c q=>hh c (Io c q)) fun c o q p=>hn c o (Io c q) p,k4.mono' hp⟩,
   aE fs pre' g w g' w' H' hp (fun c q=>hh c (sub c q)) (fun c o q p=>hn c o (sub c q) p) h3,h4,h5⟩
theorem Ip (g:Gh) (w:World):eu [] [] g w fun _=>False:=⟨rfl,fun _ h=>h⟩
theorem o9 {c:bB} (keep:List Nat) (hc:jg c=true):jj P E c {c with st:=forget keep c.st}:=by
 intro g fr w hr cs
 obtain⟨f,todo,st⟩:=c
 match todo,hc with
 |.code i x::k,_=>
  obtain⟨b,a,q1,q2,q3,q4,q5,q6⟩:=hr
  obtain⟨g',r1,r2,r3,r4,r5,r6⟩:=sw q5 keep
  exact⟨g',fr,w,Steps.refl _ _,⟨b,a,q1,q2,r6 _ q3,r5 _ q4,r1,q6⟩,r2,r3,rfl,r4,pQ⟩
theorem mF : ∀{l:List PV} {vs:List Value},rI g w l vs→bN g w (l.map .p) vs
 |[],[],_=>trivial
 |_::_,_::_,k=>⟨.p _ _ k.1,mF k.2⟩
 |[],_::_,k=>k.elim
 |_::_,[],k=>k.elim
theorem mG : ∀{l:List PV} {vs:List Value},bN g w (l.map .p) vs→rI g w l vs
 |[],[],_=>trivial
 |_::_,_::_,k=>⟨VA.pv.1 k.1,mG k.2⟩
 |[],_::_,k=>k.elim
 |_::_,[],k=>k.elim
def lS.told (f:lS) (m:Mem) (tk:Nat):Prop:=match f.X with
 |none=>True
 |some X=>m[tk]? = some (.ob (.gr f.t true) (X.map .p))
theorem yw.of {f:lS} {tk:Nat} {v:Value} (hr:Rel g m w) (ht:f.told m tk) (h:VA g w (f.cell tk) v) : ∃b,yw g w f v b ∧ ∀c,b=some c→g.aP tk=some c∧f.X.isSome=true:=by
 unfold lS.told at ht
 unfold lS.cell at h
 unfold yw
 cases hX:f.X with
 |none=>
  rw[hX] at h
  exact⟨none,⟨rfl,fun g'=>EE h⟩,fun _ q=>by cases q⟩
 |some X=>
  rw[hX] at h ht
  dsimp only at h ht
  cases h with
  |mg _ _ _ _ cap c hb hc hh=>
   obtain⟨c',ob,vs,k1,k2,k3,k4,k5,k6⟩:=hr.obs _ _ _ ht
   rw[hb] at k1;cases k1
   have T5:=k4
   obtain⟨cs,e,n,rfl,_⟩:=T5
   have hsz:cs.size=g.hi tk:=k6
   exact⟨some c,⟨c,cap,cs,e,n,vs,rfl,rfl,hc,k2,k4,mG k3,by omega,k5⟩,fun c' q=>by cases q;exact⟨hb,rfl⟩⟩
theorem Rel.xm (h:Rel g m w) {i:Nat} {k k':fR} {l l':List AV} (hb:m[i]? = some (.ob k l))
  (hl : ∀c ob vs,g.aP i=some c→w.heap[c]? = some ob→bN g w l vs→k.is ob vs→k.room ob (g.hi i) → ∃vs',bN g w l' vs'∧k'.is ob vs'∧k'.room ob (g.hi i)):Rel g (m.set i (.ob k' l')) w∧cr g m w g (m.set i (.ob k' l')) w:=by
 have own : ∀(j:Nat) (x:aH),(m.set i (.ob k' l'))[j]? = some x→x.bX=true → ∃y:aH,m[j]? = some y∧y.bX=true:=fun j x hj ho=>by
  rcases aq hj with⟨rfl,_⟩ | ⟨_,q⟩
  · exact⟨_,hb,rfl⟩
  · exact⟨x,q,ho⟩
 refine⟨⟨fun j hj=>h.rJ j (by simpa using hj),fun j hj=> ?_,fun j x cs hj hx=> ?_,fun j c hj hc=> ?_,fun j q x x' c hj hq ho ho' hc dJ=> ?_,h.there,fun j k1 l1 hj=> ?_⟩,
  ⟨df _,fun _ _ _=>rfl,fun _ _ p=>⟨p,rfl⟩,fun _ _ p=> .inl p,fun c ho=> ?_,rfl,rfl,rfl⟩⟩
 · rcases aq hj with⟨_,q⟩ | ⟨_,q⟩
   · cases q
   · exact h.free j q
 · rcases aq hj with⟨_,rfl⟩ | ⟨_,q⟩
   · cases hx
   · exact h.cells j x cs q hx
 · rcases aq hj with⟨_,q⟩ | ⟨_,q⟩
   · cases q
   · exact h.tok j c q hc
 · obtain⟨y,y1,y2⟩:=own j x hj ho
   obtain⟨z,z1,z2⟩:=own q x' hq ho'
   exact h.inj j q y z c y1 z1 y2 z2 hc dJ
 · rcases aq hj with⟨rfl,q⟩ | ⟨_,q⟩
   · cases q
     obtain⟨c,o,vs,k1,k2,k3,k4,k5,k6⟩:=h.obs _ _ _ hb
     obtain⟨vs',q1,q2,q3⟩:=hl c o vs k1 k2 k3 k4 k6
     exact⟨c,o,vs',k1,k2,q1,q2,k5,q3⟩
   · exact h.obs j k1 l1 q
 · obtain⟨j,x,hj,hx,hc⟩:=ho
   obtain⟨y,y1,y2⟩:=own j x hj hx
   exact .inl ⟨j,y,y1,y2,hc⟩
theorem Rel.PB (h:Rel g m w) {n c:Nat} {k:fR} {l:List AV} (hn:m[n]? = some .free) (hc : ¬cA g m c) {lo hi:Nat} {ob:Obj} {vs:List Value} (h1:w.heap[c]? = some ob) (h2:bN g w l vs) (h3:k.is ob vs) (h4 : ∀o,¬g.pure c o) (h5:k.room ob hi) :
  Rel (g.put n c lo hi) (m.set n (.ob k l)) w∧Ext g w (g.put n c lo hi) w ∧ ∀c',cA (g.put n c lo hi) (m.set n (.ob k l)) c'→cA g m c'∨c'=c:=by
 have hf:=h.free n hn
 have bo : ∀j,j≠n→(g.put n c lo hi).aP j=g.aP j:=fun j hj=>by simp[Gh.put,hj]
 have bi:(g.put n c lo hi).aP n=some c:=by simp[Gh.put]
 have ext:Ext g w (g.put n c lo hi) w:=⟨fun j c' hj=>by
  have:j≠n:=fun e=>by subst e;rw[hf] at hj;cases hj
  simp[Gh.put,this,hj],fun _ _ p=>⟨p,rfl⟩⟩
 refine⟨⟨fun j hj=> ?_,fun j hj=> ?_,fun j x kk hj hk=> ?_,fun j c' hj dJ=> ?_,fun j q x x' c' hj hk ho ho' eI ff=> ?_,h.there,fun j kk ll hj=> ?_⟩,ext,fun c' ho=> ?_⟩
 · have hl:=aV hn
   simp only[fh] at hj
   rw[bo j (by omega)];exact h.rJ j hj
 · rcases aq hj with⟨_,e⟩ | ⟨hjn,e⟩
   · cases e
   · rw[bo j hjn];exact h.free j e
 · rcases aq hj with⟨_,e⟩ | ⟨hjn,e⟩
   · subst e;cases hk
   · obtain⟨c1,cs1,e1,n1,q1,q2,q3,q4,q5⟩:=h.cells j x kk e hk
     exact⟨c1,cs1,e1,n1,(bo j hjn).trans q1,q2,q3,q4.mono ext,q5⟩
 · rcases aq hj with⟨_,e⟩ | ⟨hjn,e⟩
   · cases e
   · rw[bo j hjn] at dJ
     obtain⟨cs1,e1,n1,q2,q3,q4,q5⟩:=h.tok j c' e dJ
     have e1:(g.put n c lo hi).hi j=g.hi j:=by simp[Gh.put,hjn]
     have e2:(g.put n c lo hi).lo j=g.lo j:=by simp[Gh.put,hjn]
     rw[e1,e2]
     exact⟨cs1,_,n1,q2,q3,q4,q5⟩
 · rcases aq hj with⟨rfl,e⟩ | ⟨hjn,e⟩
   · rcases aq hk with⟨rfl,_⟩ | ⟨GN,e'⟩
     · rfl
     · rw[bi] at eI;cases eI
       rw[bo q GN] at ff
       exact absurd ⟨q,x',e',ho',ff⟩ hc
   · rcases aq hk with⟨rfl,_⟩ | ⟨GN,e'⟩
     · rw[bi] at ff;cases ff
       rw[bo j hjn] at eI
       exact absurd ⟨j,x,e,ho,eI⟩ hc
     · rw[bo j hjn] at eI;rw[bo q GN] at ff
       exact h.inj j q x x' c' e e' ho ho' eI ff
 · rcases aq hj with⟨rfl,e⟩ | ⟨hjn,e⟩
   · cases e
     exact⟨c,ob,vs,bi,h1,bN.mono ext h2,h3,h4,by simpa[Gh.put] using h5⟩
   · obtain⟨c1,o1,vs1,q1,q2,q3,q4,q5,q6⟩:=h.obs j kk ll e
     exact⟨c1,o1,vs1,(bo j hjn).trans q1,q2,q3.mono ext,q4,q5,by simpa[Gh.put,hjn] using q6⟩
 · obtain⟨j,x,hj,hx,rK⟩:=ho
   rcases aq hj with⟨rfl,e⟩ | ⟨hjn,e⟩
   · rw[bi] at rK;cases rK
     exact .inr rfl
   · rw[bo j hjn] at rK
     exact .inl ⟨j,x,e,hx,rK⟩
def lS.mH (f:lS) (m:Mem) (tk:Nat):Mem:=match f.X with
 |none=>m
 |some _=>m.set tk .dead
theorem lS.yx (f:lS) (m:Mem) (tk:Nat):(f.mH m tk).length=m.length:=by
 unfold lS.mH
 split<;>simp
def lS.more (f:lS) (m:Mem):Mem:=match f.X with
 |none=>m
 |some X=>m++[.ob (.gr f.t true) (X.map .p)]
theorem an.push {c:bB} {i tk:Nat} {t:TypeId} {pre:List Value} {f:lS} {lN:List AV} {fs:List lS} {R':Hid} {o:Out} (hc:jg c=true)
  (hi:c.st.mem[i]? = some (.ob (.stk t pre) (f.cells tk++lN))) (hik:i≠tk) (ht:f.told c.st.mem tk)
  (h : ∀vs:List Value,vs.length=f.p1.length+1+f.p2.length→an P E {c with st:={c.st with mem:=f.mH ((c.st.mem.set i (.ob (.stk t (pre++vs)) lN))) tk}} (eu (f::fs) (pre++vs)) R' o) :
  an P E c (eu fs pre) R' o:=by
 refine an.focus hc fun g a w H hs hR hA=> ?_
 have hJ:=hs.rel
 obtain⟨cb,ob,vs,b1,b2,b3,b4,b5,b6⟩:=hJ.obs _ _ _ hi
 have hlen:=b3.len
 have Jw:(f.cells tk).length=f.p1.length+1+f.p2.length:=by simp[lS.cells];omega
 have hvl:(vs.take (f.p1.length+1+f.p2.length)).length=f.p1.length+1+f.p2.length:=by
  rw[fl];rw[ei,Jw] at hlen;omega
 have hF:bN g w (f.cells tk) (vs.take (f.p1.length+1+f.p2.length)):=by
  have:=b3.take (f.p1.length+1+f.p2.length)
  rwa [pw (by omega),fe (by omega)] at this
 have hN:bN g w lN (vs.drop (f.p1.length+1+f.p2.length)):=by
  have:=b3.drop (f.p1.length+1+f.p2.length)
  rwa [Wl (by omega),Wm (by omega),Vl] at this
 generalize T6:vs.take (f.p1.length+1+f.p2.length)=vF at hF hvl
 generalize T7:vs.drop (f.p1.length+1+f.p2.length)=vN at hN
 have hvs:vs=vF++vN:=by rw[←T6,←T7,Wn]
 obtain⟨r1,r2⟩:=hJ.xm (k':= .stk t (pre++vF)) (l':=lN) hi fun c' xQ vs' x1 x2 x3 x4 x5=>by
  rw[b1] at x1;cases x1
  rw[b2] at x2;cases x2
  obtain⟨cs,e,n,rfl,q1,q2,q3,q4,q5⟩:=b4
  refine⟨vN,hN,⟨cs,e,n,rfl,q1,q2,?_,?_,q5⟩,x5⟩
  · rw[qf,←hvs,q3,hvs]
    simp only[ei];congr 1;omega
  · rw[hvs] at q4;simp only[ei] at q4 ⊢;omega
 have PC:Rel g (f.mH (c.st.mem.set i (.ob (.stk t (pre++vF)) lN)) tk) w∧cr g (c.st.mem.set i (.ob (.stk t (pre++vF)) lN)) w g (f.mH (c.st.mem.set i (.ob (.stk t (pre++vF)) lN)) tk) w:=by
  unfold lS.mH
  split
  · exact⟨r1,cr.refl _ _ _⟩
  · exact r1.kill tk
 obtain⟨s1,s2⟩:=PC
 have T8 : ∃v1 v v2,vF=v1++v::v2∧rI g w f.p1 v1∧VA g w (f.cell tk) v∧rI g w f.p2 v2:=by
  have ha:=hF.take f.p1.length
  have hb:=hF.drop f.p1.length
  rw[lS.cells,pw (by simp),fe (by simp)] at ha
  rw[lS.cells,Wl (by simp),Wm (by simp),Vl] at hb
  cases hd:vF.drop f.p1.length with
  |nil=>rw[hd] at hb;exact hb.elim
  |cons v v2=>
   rw[hd] at hb
   exact⟨vF.take f.p1.length,v,v2,by rw[←hd,Wn],mG ha,hb.1,mG hb.2⟩
 obtain⟨v1,v,v2,hv,p1,pv,p2⟩:=T8
 obtain⟨b,hb,T9⟩:=yw.of hJ ht pv
 have hown : ∀c',b=some c' → ∃X,f.X=some X∧c.st.mem[tk]? = some (.ob (.gr f.t true) (X.map .p))∧g.aP tk=some c':=fun c' q=>by
  obtain⟨q1,q2⟩:=T9 c' q
  unfold lS.told at ht
  cases hX:f.X with
  |none=>rw[hX] at q2;cases q2
  |some X=>rw[hX] at ht;exact⟨X,rfl,ht,q1⟩
 have RQ : ∀c',b=some c'→cA g c.st.mem c':=fun c' q=>by
  obtain⟨X,_,q2,q3⟩:=hown c' q
  exact⟨tk,_,q2,rfl,q3⟩
 have old : ∀c',cA g (f.mH (c.st.mem.set i (.ob (.stk t (pre++vF)) lN)) tk) c'→cA g c.st.mem c':=fun c' ho=>by
  rcases s2.owned c' ho with q | q
  · rcases r2.owned c' q with q | q
    · exact q
    · exact absurd (s1.fV ho) (H0.2 q)
  · exact absurd (s1.fV ho) (H0.2 q)
 refine⟨{c.st with mem:=f.mH (c.st.mem.set i (.ob (.stk t (pre++vF)) lN)) tk},eu (f::fs) (pre++vF),g,fun c'=>H c'∨b=some c',⟨hs.tm,hs.nt,s1,by rw[lS.yx,fh];exact hs.fix,hs.cL⟩,fun _ _ q=>⟨q,rfl,rfl⟩,rfl,rfl,rfl,
  ⟨pre,vF,b,H,rfl,⟨v1,v,v2,hv,p1,hb,p2⟩,hR,fun _=>Iff.rfl,fun c' q hH=>hA.own c' hH (RQ c' q)⟩,⟨fun c' q=> ?_,fun c' q=> ?_⟩,
  ⟨df _,fun _ _ _ _=>rfl,fun _ _ p=>⟨p,rfl⟩,fun _ _ p=> .inl p,fun c' ho=> .inl (old c' ho),fun c' q=> ?_,rfl,rfl,rfl⟩,h vF hvl⟩
 · intro ho
   rcases q with q | q
   · exact hA.own c' q (old c' ho)
   · obtain⟨X,hX,q2,q3⟩:=hown c' q
     obtain⟨j,x,hj,hx,rK⟩:=ho
     rw[lS.mH,hX] at hj
     rcases aq hj with⟨_,e⟩ | ⟨Bu,e⟩
     · subst e;simp[aH.bX] at hx
     · rcases aq e with⟨rfl,_⟩ | ⟨_,e⟩
       · exact hik (hJ.inj j tk _ _ c' hi q2 rfl rfl rK q3)
       · exact Bu (hJ.inj j tk x _ c' e q2 hx rfl rK q3)
 · rcases q with q | q
   · exact hA.there c' q
   · exact hJ.fV (RQ c' q)
 · rcases q with q | q
   · exact .inr (.inl q)
   · exact .inl (RQ c' q)
theorem an.pop {c:bB} {i:Nat} {t:TypeId} {pre:List Value} {f:lS} {lN:List AV} {fs:List lS} {R':Hid} {o:Out} (hc:jg c=true)
  (hi:c.st.mem[i]? = some (.ob (.stk t pre) lN))
  (h : ∀pre':List Value,pre'.length+(f.p1.length+1+f.p2.length)=pre.length→an P E {c with st:={c.st with mem:=f.more (c.st.mem.set i (.ob (.stk t pre') (f.cells c.st.mem.length++lN)))}} (eu fs pre') R' o) :
  an P E c (eu (f::fs) pre) R' o:=by
 refine an.focus hc fun g a w H hs hR hA=> ?_
 have hJ:=hs.rel
 obtain⟨pre',vs,b,H',e1,⟨v1,v,v2,k1,k2,k3,k4⟩,k5,k6,k7⟩:=hR
 have sub : ∀c',H' c'→H c':=fun c' q=>(k6 c').2 (.inl q)
 have Io : ∀c',b=some c'→H c':=fun c' q=>(k6 c').2 (.inr q)
 have hvl:vs.length=f.p1.length+1+f.p2.length:=by
  have a1:=aW.len k2
  have a2:=aW.len k4
  rw[k1];simp only[ei,List.length_cons];omega
 obtain⟨f1,f2⟩:=hJ.bC 1
 have hn:(c.st.mem++bC 1)[c.st.mem.length]? = some .free:=by rw[List.getElem?_append_right (df _),Nat.sub_self];rfl
 have CH:=aV hi
 have hin:i≠c.st.mem.length:=by omega
 have PD : ∀c',cA g (c.st.mem++bC 1) c'→cA g c.st.mem c':=fun c' ho=>by
  obtain⟨j,x,hj,hx,rK⟩:=ho
  rcases Nat.lt_or_ge j c.st.mem.length with q | q
  · rw[px q] at hj
    exact⟨j,x,hj,hx,rK⟩
  · rw[hJ.rJ j q] at rK;cases rK
 have step : ∃g1,Rel g1 (f.more c.st.mem) w∧Ext g w g1 w∧g1.pure=g.pure∧(∀c',cA g1 (f.more c.st.mem) c'→cA g c.st.mem c'∨b=some c')∧VA g1 w (f.cell c.st.mem.length) v:=by
  unfold yw at k3
  unfold lS.more lS.cell
  split at k3
  · rename_i hX
    exact⟨g,hJ,Ext.refl _ _,rfl,fun c' ho=> .inl ho,k3.2 g⟩
  · rename_i X hX
    obtain⟨cc,cap,cs,e,n,vals,z1,z2,z3,z4,z5,z6,z7,z8⟩:=k3
    have hno : ¬cA g (c.st.mem++bC 1) cc:=fun q=>hA.own cc (Io cc z1) (PD cc q)
    obtain⟨t1,t2,t3⟩:=f1.PB (k:= .gr f.t true) (l:=X.map .p) (lo:=0) (hi:=cs.size) hn hno z4 (mF z6) z5 z8 (show cs.size=cs.size from rfl)
    have hmem:(c.st.mem++bC 1).set c.st.mem.length (.ob (.gr f.t true) (X.map .p))=c.st.mem++[.ob (.gr f.t true) (X.map .p)]:=by simp[bC]
    rw[hmem] at t1 t3
    refine⟨_,t1,t2,rfl,fun c' ho=>(t3 c' ho).imp (PD c') fun q=>by rw[q,z1],?_⟩
    subst z2
    exact .mg _ _ _ _ _ cc (by simp[Gh.put]) z3 (by simp[Gh.put];omega)
 obtain⟨g1,t1,t2,t3,t4,t5⟩:=step
 have hi1:(f.more c.st.mem)[i]? = some (.ob (.stk t pre) lN):=by
  unfold lS.more
  split
  · exact hi
  · rw[px CH];exact hi
 have Ua:bN g1 w (f.cells c.st.mem.length) vs:=by
  rw[k1]
  have pm : ∀c' o',g.pure c' o'→g1.pure c' o'∧w.cell? ⟨c',o',none⟩=w.cell? ⟨c',o',none⟩:=fun c' o' p=>⟨by rw[t3];exact p,rfl⟩
  exact(mF (k2.mono' pm)).append ⟨t5,mF (k4.mono' pm)⟩
 obtain⟨r1,r2⟩:=t1.xm (k':= .stk t pre') (l':=f.cells c.st.mem.length++lN) hi1 fun c' xQ vs' x1 x2 x3 x4 x5=>by
  obtain⟨cs,e,n,rfl,q1,q2,q3,q4,q5⟩:=x4
  refine⟨vs++vs',Ua.append x3,⟨cs,e,n,rfl,q1,q2,?_,?_,q5⟩,x5⟩
  · rw[←qf,←e1,q3,e1]
    simp only[ei];congr 1;omega
  · rw[e1] at q4;simp only[ei] at q4 ⊢;omega
 have uo:(f.more c.st.mem).set i (.ob (.stk t pre') (f.cells c.st.mem.length++lN))=f.more (c.st.mem.set i (.ob (.stk t pre') (f.cells c.st.mem.length++lN))):=by
  unfold lS.more
  split
  · rfl
  · rw[List.set_append_left _ _ CH]
 rw[uo] at r1 r2
 have old : ∀c',cA g1 (f.more (c.st.mem.set i (.ob (.stk t pre') (f.cells c.st.mem.length++lN)))) c'→cA g c.st.mem c'∨b=some c':=fun c' ho=>by
  rcases r2.owned c' ho with q | q
  · exact t4 c' q
  · exact absurd (r1.fV ho) (H0.2 q)
 refine⟨{c.st with mem:=f.more (c.st.mem.set i (.ob (.stk t pre') (f.cells c.st.mem.length++lN)))},eu fs pre',g1,H',⟨fun k=>(hs.tm k).mono t2,hs.nt,r1,?_,hs.cL.mono fun c' o' p=>by rw[t3];exact⟨p,rfl⟩⟩,t2.aP,rfl,rfl,rfl,
  ?_,⟨fun c' q ho=> ?_,fun c' q=>hA.there c' (sub c' q)⟩,
  ⟨df _,fun _ _ _ _=>rfl,fun c' o' p=>⟨by rw[t3];exact p,rfl⟩,fun c' o' p=> .inl (by rw[t3] at p;exact p),fun c' ho=>(old c' ho).imp_right fun q=> .inl (Io c' q),fun c' q=> .inr (.inl (sub c' q)),rfl,rfl,rfl⟩,h pre' (by rw[e1,ei];omega)⟩
 · have:=hs.fix
   unfold lS.more
   split
   · rw[fh];exact this
   · simp only[ei,fh];omega
 · exact aE fs pre' g w g1 w H' (fun c' o' p=>⟨by rw[t3];exact p,rfl⟩) (fun _ _=>rfl) (fun c' o' _ p=>by rw[t3] at p;exact p) k5
 · rcases old c' ho with q' | q'
   · exact hA.own c' (sub c' q) q'
   · exact k7 c' q' q
theorem eH {c:bB} {i:Nat} {k:fR} {l l':List AV} (hc:jg c=true) (hb:c.st.mem[i]? = some (.ob k l)) (hl : ∀(g:Gh) (w:World) vs,bN g w l vs→bN g w l' vs) :
  jj P E c {c with st:={c.st with mem:=c.st.mem.set i (.ob k l')}}:=by
 intro g fr w hr cs
 obtain⟨f,todo,st⟩:=c
 obtain⟨tm,nt,mem,fix,bT,bK⟩:=st
 dsimp only at hb ⊢
 match todo,hc with
 |.code j x::kk,_=>
  obtain⟨b,a,q1,q2,q3,q4,q5,q6⟩:=hr
  have hJ:Rel g mem w:=q5.rel
  obtain⟨r1,r2⟩:=hJ.DA hb (hl g w)
  refine⟨g,fr,w,Steps.refl _ _,⟨b,a,q1,q2,q3,q4,⟨q5.tm,q5.nt,r1,?_,q5.cL⟩,q6⟩,r2,bn.refl _ _,rfl,rfl,rfl⟩
  have:=q5.fix
  dsimp only at this ⊢
  simp only[fh]
  omega
theorem Rel.Iq (h:Rel g m w) {b c:Nat} {t:TypeId} {q:Bool} {l:List PV} (hb:m[b]? = some (.ob (.gr t q) (l.map .p))) (hc:g.aP b=some c) :
  Rel (g.more c 0 l.length) (m.set b .dead) w∧Ext g w (g.more c 0 l.length) w∧cr g m w (g.more c 0 l.length) (m.set b .dead) w:=by
 obtain⟨c',ob,vs,k1,k2,k3,k4,k5,k6⟩:=h.obs b _ _ hb
 rw[hc] at k1;cases k1
 have hlen:=k3.len
 rw[pj] at hlen
 obtain⟨cs,e,n,rfl,z1,z2,z3,z4,z5⟩:=k4
 have ext:Ext g w (g.more c 0 l.length) w:=⟨fun _ _ h=>⟨h,rfl,rfl⟩,fun _ _ p=>⟨.inl p,rfl⟩⟩
 have ne : ∀j x c',j≠b→m[j]? = some x→x.bX=true→g.aP j=some c'→c'≠c:=fun j x c' mU hj ho dJ e=>mU (h.inj j b x _ c hj hb ho rfl (e▸dJ) hc)
 refine⟨⟨fun j hj=>h.rJ j (by simpa using hj),fun j hj=> ?_,fun j x k hj hk=> ?_,fun j c' hj dJ=> ?_,fun j k x x' c' hj hk ho ho' eI ff=> ?_,fun c' o p=> ?_,fun j kk ll hj=> ?_⟩,ext,⟨df _,fun _ _ _=>rfl,fun _ _ p=>⟨.inl p,rfl⟩,fun c' o p=> ?_,fun c' ho=> ?_,rfl,rfl,rfl⟩⟩
 · rcases aq hj with⟨_,e⟩ | ⟨_,e⟩
   · cases e
   · exact h.free j e
 · rcases aq hj with⟨_,e⟩ | ⟨mU,e⟩
   · subst e;cases hk
   · obtain⟨c1,cs1,e1,n1,q1,q2,q3,q4,q5⟩:=h.cells j x k e hk
     refine⟨c1,cs1,e1,n1,q1,q2,q3,q4.mono ext,fun o p=> ?_⟩
     rcases p with p | ⟨rfl,_⟩
     · exact q5 o p
     · exact ne j x _ mU e (bY hk) q1 rfl
 · rcases aq hj with⟨_,e⟩ | ⟨mU,e⟩
   · cases e
   · obtain⟨cs1,e1,n1,q2,q3,q4,q5⟩:=h.tok j c' e dJ
     refine⟨cs1,e1,n1,q2,q3,q4,fun o a b p=> ?_⟩
     rcases p with p | ⟨rfl,_⟩
     · exact q5 o a b p
     · exact ne j _ _ mU e rfl dJ rfl
 · rcases aq hj with⟨_,e⟩ | ⟨_,e⟩
   · subst e;simp[aH.bX] at ho
   · rcases aq hk with⟨_,e'⟩ | ⟨_,e'⟩
     · subst e';simp[aH.bX] at ho'
     · exact h.inj j k x x' c' e e' ho ho' eI ff
 · rcases p with p | ⟨rfl,_,p⟩
   · exact h.there c' o p
   · exact⟨cs[o],by rw[aM k2,ja (by omega)]⟩
 · rcases aq hj with⟨_,e⟩ | ⟨mU,e⟩
   · cases e
   · obtain⟨c1,o1,vs1,q1,q2,q3,q4,q5,q6⟩:=h.obs j kk ll e
     exact⟨c1,o1,vs1,q1,q2,q3.mono ext,q4,fun o p=>p.elim (q5 o) fun q=>ne j _ c1 mU e rfl q1 q.1,q6⟩
 · rcases p with p | ⟨rfl,_⟩
   · exact .inl p
   · exact .inr (.inl ⟨b,_,hb,rfl,hc⟩)
 · rcases oy ho with⟨q,_⟩ | ⟨j,x,_,q1,q2,q3⟩
   · simp[aH.bX] at q
   · exact .inl ⟨j,x,q1,q2,q3⟩
theorem xp {c:bB} {i tk:Nat} {k:fR} {te:TypeId} {q:Bool} {l1 l2:List AV} {len sz:Nat} {X:List PV} (hc:jg c=true) (hi:c.st.mem[i]? = some (.ob k (l1 ++ .ms tk 0 len sz none::l2))) (hk:c.st.mem[tk]? = some (.ob (.gr te q) (X.map .p))) (hne:i≠tk)
  (hX:X.length=len*sz) (hz:1≤sz):jj P E c {c with st:={c.st with mem:=(c.st.mem.set tk .dead).set i (.ob k (l1 ++ .p (.ps len sz X)::l2))}}:=by
 intro g fr w hr cs
 obtain⟨f,todo,st⟩:=c
 obtain⟨tm,nt,mem,fix,bT,bK⟩:=st
 dsimp only at hi hk ⊢
 match todo,hc with
 |.code j x::kk,_=>
  obtain⟨b,a,q1,q2,q3,q4,q5,q6⟩:=hr
  have hJ:Rel g mem w:=q5.rel
  obtain⟨c,ob,vals,k1,k2,k3,k4,k5,k6⟩:=hJ.obs _ _ _ hk
  have hvl:=k3.len
  rw[pj] at hvl
  obtain⟨cells,e,n,rfl,z1,z2,z3,z4,z5⟩:=k4
  obtain⟨r1,r2,r3⟩:=hJ.Iq hk k1
  have hi':(mem.set tk .dead)[i]? = some (.ob k (l1 ++ .ms tk 0 len sz none::l2)):=by rw[List.getElem?_set_ne (Ne.symm hne)];exact hi
  have hv : ∀vs:List Value,bN (g.more c 0 X.length) w (l1 ++ .ms tk 0 len sz none::l2) vs→bN (g.more c 0 X.length) w (l1 ++ .p (.ps len sz X)::l2) vs:=fun vs hv=>by
   have ha:=hv.take l1.length
   have hb:=hv.drop l1.length
   rw[pw (df _),fe (df _)] at ha
   rw[Wl (df _),Wm (df _),Vl] at hb
   have hvs:vs=vs.take l1.length++vs.drop l1.length:=(Wn _ _).symm
   rw[hvs]
   refine ha.append ?_
   generalize vs.drop l1.length=vd at hb
   match vd,hb with
   |v::vd,hb=>
    refine⟨?_,hb.2⟩
    have h1:VA (g.more c 0 X.length) w (.ms tk 0 len sz none) v:=hb.1
    cases h1 with
    |mg _ _ _ _ cap c' hb' dJ UP=>
     have hb':g.aP tk=some c':=hb'
     rw[k1] at hb';cases hb'
     have Ub : ∀o,o<X.length→cells[o]? = some ((cells[o]?).getD undef):=fun o ho=>by
      rw[ja (by omega)];rfl
     refine .p _ _ (.ps len sz X c 0 cap (fun o=>(cells[o]?).getD undef) hX dJ hz (fun o ho=>⟨.inr ⟨rfl,Nat.zero_le _,by omega⟩,?_,?_⟩) fun o ho=> ?_)
     · rw[aM k2,Nat.zero_add];exact Ub o ho
     · have ho':o<cells.size:=by omega
       rw[ja ho']
       exact z5 cells[o] (by simp)
     · have ho':o<cells.size:=by omega
       have hkv:o<vals.length:=by omega
       have h1:=k3.get o (by simpa using ho) hkv
       rw[List.getElem_map,VA.pv] at h1
       have e1:vals[o]? = some cells[o]:=by
        rw[z3,List.getElem?_take,if_pos hkv]
        simp[ho']
       rw[List.getElem?_eq_getElem hkv] at e1
       rw[Option.some.inj e1] at h1
       rw[ja ho']
       exact VP.mono (g:=g) (w:=w) (g':=g.more c 0 X.length) (w':=w) (fun c1 o1 p=>⟨Or.inl p,rfl⟩) h1
  obtain⟨s1,s2⟩:=r1.DA hi' hv
  refine⟨g.more c 0 X.length,fr,w,Steps.refl _ _,⟨b,a,q1,q2,q3.ext (fun i c q=>(r2.aP i c q).1),q4.ext (fun i c q=>(r2.aP i c q).1),⟨fun k=>(q5.tm k).mono r2,q5.nt,s1,?_,q5.cL.mono fun c o p=>⟨.inl p,rfl⟩⟩,q6⟩,r3.trans s2,fun _ _ _ q=>⟨q,rfl,rfl⟩,rfl,rfl,rfl⟩
  have:=q5.fix
  dsimp only at this ⊢
  simp only[fh]
  omega
theorem cm.bz {E':Env} (he:E.cL=E'.cL) {c:bB} {fr:Frame}:cm P E g c fr w→cm P E' g c fr w:=by
 have hs : ∀{st:St} {a:Act},bS E g st a w→bS E' g st a w:=fun h=>⟨h.tm,h.nt,h.rel,h.fix,fun i cs hi=>h.cL i cs (by rw[he];exact hi)⟩
 intro h
 unfold cm at h ⊢
 split at h
 · exact h
 · exact h
 · obtain⟨b,a,todo,cv,h1,h2,h3,h4,h5,h6⟩:=h
   exact⟨b,a,todo,cv,h1,h2,h3,h4,hs h5,h6⟩
 · obtain⟨b,a,todo,h1,h2,h3,h4,h5,h6,h7⟩:=h
   exact⟨b,a,todo,h1,h2,h3,h4,h5,h6,hs h7⟩
 · obtain⟨b,a,h1,h2,h3,h4,h5,h6⟩:=h
   exact⟨b,a,h1,h2,h3,h4,hs h5,h6⟩
theorem an.env {E':Env} (he:E.cL=E'.cL) {c:bB} {R R':Hid} {o:Out} (h:an P E c R R' o):an P E' c R R' o:=
 fun g fr w H cs hc hR hA=>h g fr w H cs (cm.bz he.symm hc) hR hA
theorem Ct {c:bB} {i:Nat} {t:TypeId} {pre:List Value} {l x:List AV} (hc:jg c=true) (hb:c.st.mem[i]? = some (.ob (.stk t pre) (l++x))) :
  jj P E c {c with st:={c.st with mem:=c.st.mem.set i (.ob (.stk t pre) l)}}:=by
 intro g fr w hr cs
 obtain⟨f,todo,st⟩:=c
 obtain⟨tm,nt,mem,fix,bT,bK⟩:=st
 dsimp only at hb ⊢
 match todo,hc with
 |.code j y::kk,_=>
  obtain⟨b,a,q1,q2,q3,q4,q5,q6⟩:=hr
  have hJ:Rel g mem w:=q5.rel
  obtain⟨r1,r2⟩:=hJ.xm (k':= .stk t pre) (l':=l) hb fun c' xQ vs x1 x2 x3 x4 x5=>by
   have hv:=x3.take l.length
   rw[pw (df _),fe (df _)] at hv
   obtain⟨cs,e,n,rfl,z1,z2,z3,z4,z5⟩:=x4
   have hlen:=x3.len
   rw[ei] at hlen
   have hvl:=hv.len
   refine⟨vs.take l.length,hv,⟨cs,e,n,rfl,z1,z2,?_,by omega,z5⟩,x5⟩
   have JB:(vs.take l.length).length=l.length:=by rw[fl];omega
   rw[JB,←List.take_length_add_append,z3,List.take_take]
   congr 1
   omega
  refine⟨g,fr,w,Steps.refl _ _,⟨b,a,q1,q2,q3,q4,⟨q5.tm,q5.nt,r1,?_,q5.cL⟩,q6⟩,r2,bn.refl _ _,rfl,rfl,rfl⟩
  have:=q5.fix
  dsimp only at this ⊢
  simp only[fh]
  omega
theorem an.same {c c':bB} {R R':Hid} {o:Out} (h:c'=c) (k:an P E c R R' o):an P E c' R R' o:=by subst h;exact k
end
end Go.Am
end
