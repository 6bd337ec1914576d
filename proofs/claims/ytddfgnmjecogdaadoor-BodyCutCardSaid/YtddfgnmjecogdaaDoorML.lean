import Derived.Test.YtddfgnmjecogdaaDoorMK
open Nat renaming le_refl→ch,not_lt→Fs
open List renaming length_append→dC,take_append_of_le_length→pb,length_set→eh,drop_append_of_le_length→TU,take_of_length_le→ed,drop_of_length_le→TV,take_append_drop→TW,getElem?_append_left→pf,nil_append→SX,append_assoc→pr,length_take→eQ,length_map→oR
open Array renaming getElem?_eq_getElem→ie
section
namespace Go.Am
open Go.RowKit
section
variable {P:Program} {E:Env} {g:Gh} {m:Mem} {w:World}
structure kO where
 p1:List PV
 t:TypeId
 sz:Nat
 len:Nat
 X:Option (List PV)
 p2:List PV
def kO.cell (f:kO) (tk:Nat):AV:=match f.X with
 |none=> .os none 0 0 []
 |some _=> .ms tk 0 f.len f.sz none
def kO.cells (f:kO) (tk:Nat):List AV:=f.p1.map .p++f.cell tk::f.p2.map .p
def wW (g:Gh) (w:World) (f:kO) (v:Value) (b:Option Nat):Prop:=match f.X with
 |none=>b=none ∧ ∀g':Gh,VA g' w (.os none 0 0 []) v
 |some X=> ∃c cap cs e n vals,b=some c∧v = .slice (some ⟨c,0,none⟩) f.len cap∧f.len≤cap∧w.heap[c]? = some (.cells cs e n)∧(fF.gr f.t true).is (.cells cs e n) vals∧rJ g w X vals∧cap*f.sz≤cs.size ∧ ∀o,¬g.pure c o
def RK (g:Gh) (w:World) (f:kO) (vs:List Value) (b:Option Nat):Prop:=
 ∃v1 v v2,vs=v1++v::v2∧rJ g w f.p1 v1∧wW g w f v b∧rJ g w f.p2 v2
def dY:List kO→List Value→Hid
 |[],pre=>fun _ _ H=>pre=[] ∧ ∀c,¬H c
 |f::fs,pre=>fun g w H=> ∃pre' vs b H',pre=pre'++vs∧RK g w f vs b∧dY fs pre' g w H'∧(∀c,H c↔H' c∨b=some c) ∧ ∀c,b=some c → ¬H' c
theorem rJ.mono' {g':Gh} {w':World} (h : ∀c o,g.pure c o→g'.pure c o∧w'.cell? ⟨c,o,none⟩=w.cell? ⟨c,o,none⟩) : ∀{l:List PV} {vs:List Value},rJ g w l vs→rJ g' w' l vs
 |[],[],_=>trivial
 |_::_,_::_,k=>⟨k.1.mono h,rJ.mono' h k.2⟩
 |[],_::_,k=>k.elim
 |_::_,[],k=>k.elim
theorem Dk {g g':Gh} {w w':World} {v:Value} (h:VA g w (.os none 0 0 []) v):VA g' w' (.os none 0 0 []) v:=by
 cases h with
 |os _ _ _ _ a cap h' hr'=>
  have hcap:cap=0:=by
   rcases hr' with h | ⟨t,b,o,e,_⟩
   · exact h
   · cases e
  subst hcap
  cases h' with
  |lU _ _ _ hz=>exact .os _ _ _ _ _ _ (.lU _ _ _ hz) (.inl rfl)
  |ps _ _ _ _ _ _ _ _ _ hz=>exact absurd hz (by decide)
theorem wW.stay {g':Gh} {w':World} {f:kO} {v:Value} {b:Option Nat} (h:wW g w f v b) (hp : ∀c o,g.pure c o→g'.pure c o∧w'.cell? ⟨c,o,none⟩=w.cell? ⟨c,o,none⟩)
  (hh : ∀c,b=some c→w'.heap[c]? = w.heap[c]?) (hn : ∀c o,b=some c→g'.pure c o→g.pure c o):wW g' w' f v b:=by
 unfold wW at h ⊢
 split at h
 · exact⟨h.1,fun g''=>Dk (h.2 g'')⟩
 · obtain⟨c,cap,cs,e,n,vals,k1,k2,k3,k4,k5,k6,k7,k8⟩:=h
   exact⟨c,cap,cs,e,n,vals,k1,k2,k3,(hh c k1).trans k4,k5,k6.mono' hp,k7,fun o p=>k8 o (hn c o k1 p)⟩
theorem aC : ∀(fs:List kO) (pre:List Value),(dY fs pre).fj
 |[],_=>fun _ _ _ _ _ _ _ _ h=>h
 |f::fs,pre=>fun g w g' w' H hp hh hn h=>by
  obtain⟨pre',vs,b,H',h1,⟨v1,v,v2,k1,k2,k3,k4⟩,h3,h4,h5⟩:=h
  have sub : ∀c,H' c→H c:=fun c q=>(h4 c).2 (.inl q)
  have GA : ∀c,b=some c→H c:=fun c q=>(h4 c).2 (.inr q)
  exact⟨pre',vs,b,H',h1,⟨v1,v,v2,k1,k2.mono' hp,k3.stay hp (fun c q=>hh c (GA c q)) fun c o q p=>hn c o (GA c q) p,k4.mono' hp⟩,
   aC fs pre' g w g' w' H' hp (fun c q=>hh c (sub c q)) (fun c o q p=>hn c o (sub c q) p) h3,h4,h5⟩
theorem GB (g:Gh) (w:World):dY [] [] g w fun _=>False:=⟨rfl,fun _ h=>h⟩
theorem n8 {c:bA} (keep:List Nat) (hc:iJ c=true):iL P E c {c with st:=forget keep c.st}:=by
 intro g fr w hr cs
 obtain⟨f,todo,st⟩:=c
 match todo,hc with
 |.code i x::k,_=>
  obtain⟨b,a,q1,q2,q3,q4,q5,q6⟩:=hr
  obtain⟨g',r1,r2,r3,r4,r5,r6⟩:=qM q5 keep
  exact⟨g',fr,w,Steps.refl _ _,⟨b,a,q1,q2,r6 _ q3,r5 _ q4,r1,q6⟩,r2,r3,rfl,r4,oz⟩
theorem lI : ∀{l:List PV} {vs:List Value},rJ g w l vs→bO g w (l.map .p) vs
 |[],[],_=>trivial
 |_::_,_::_,k=>⟨.p _ _ k.1,lI k.2⟩
 |[],_::_,k=>k.elim
 |_::_,[],k=>k.elim
theorem lJ : ∀{l:List PV} {vs:List Value},bO g w (l.map .p) vs→rJ g w l vs
 |[],[],_=>trivial
 |_::_,_::_,k=>⟨VA.pv.1 k.1,lJ k.2⟩
 |[],_::_,k=>k.elim
 |_::_,[],k=>k.elim
def kO.told (f:kO) (m:Mem) (tk:Nat):Prop:=match f.X with
 |none=>True
 |some X=>m[tk]? = some (.ob (.gr f.t true) (X.map .p))
theorem wW.of {f:kO} {tk:Nat} {v:Value} (hr:Rel g m w) (ht:f.told m tk) (h:VA g w (f.cell tk) v) : ∃b,wW g w f v b ∧ ∀c,b=some c→g.aN tk=some c∧f.X.isSome=true:=by
 unfold kO.told at ht
 unfold kO.cell at h
 unfold wW
 cases hX:f.X with
 |none=>
  rw[hX] at h
  exact⟨none,⟨rfl,fun g'=>Dk h⟩,fun _ q=>by cases q⟩
 |some X=>
  rw[hX] at h ht
  dsimp only at h ht
  cases h with
  |mg _ _ _ _ cap c hb hc hh=>
   obtain⟨c',ob,vs,k1,k2,k3,k4,k5,k6⟩:=hr.obs _ _ _ ht
   rw[hb] at k1;cases k1
   have RL:=k4
   obtain⟨cs,e,n,rfl,_⟩:=RL
   have hsz:cs.size=g.hi tk:=k6
   exact⟨some c,⟨c,cap,cs,e,n,vs,rfl,rfl,hc,k2,k4,lJ k3,by omega,k5⟩,fun c' q=>by cases q;exact⟨hb,rfl⟩⟩
theorem Rel.vU (h:Rel g m w) {i:Nat} {k k':fF} {l l':List AV} (hb:m[i]? = some (.ob k l))
  (hl : ∀c ob vs,g.aN i=some c→w.heap[c]? = some ob→bO g w l vs→k.is ob vs→k.room ob (g.hi i) → ∃vs',bO g w l' vs'∧k'.is ob vs'∧k'.room ob (g.hi i)):Rel g (m.set i (.ob k' l')) w∧b7 g m w g (m.set i (.ob k' l')) w:=by
 have own : ∀(j:Nat) (x:aF),(m.set i (.ob k' l'))[j]? = some x→x.bU=true → ∃y:aF,m[j]? = some y∧y.bU=true:=fun j x hj ho=>by
  rcases an hj with⟨rfl,_⟩ | ⟨_,q⟩
  · exact⟨_,hb,rfl⟩
  · exact⟨x,q,ho⟩
 refine⟨⟨fun j hj=>h.qm j (by simpa using hj),fun j hj=> ?_,fun j x cs hj hx=> ?_,fun j c hj hc=> ?_,fun j q x x' c hj hq ho ho' hc dx=> ?_,h.there,fun j k1 l1 hj=> ?_⟩,
  ⟨ch _,fun _ _ _=>rfl,fun _ _ p=>⟨p,rfl⟩,fun _ _ p=> .inl p,fun c ho=> ?_,rfl,rfl,rfl⟩⟩
 · rcases an hj with⟨_,q⟩ | ⟨_,q⟩
   · cases q
   · exact h.free j q
 · rcases an hj with⟨_,rfl⟩ | ⟨_,q⟩
   · cases hx
   · exact h.cells j x cs q hx
 · rcases an hj with⟨_,q⟩ | ⟨_,q⟩
   · cases q
   · exact h.tok j c q hc
 · obtain⟨y,y1,y2⟩:=own j x hj ho
   obtain⟨z,z1,z2⟩:=own q x' hq ho'
   exact h.inj j q y z c y1 z1 y2 z2 hc dx
 · rcases an hj with⟨rfl,q⟩ | ⟨_,q⟩
   · cases q
     obtain⟨c,o,vs,k1,k2,k3,k4,k5,k6⟩:=h.obs _ _ _ hb
     obtain⟨vs',q1,q2,q3⟩:=hl c o vs k1 k2 k3 k4 k6
     exact⟨c,o,vs',k1,k2,q1,q2,k5,q3⟩
   · exact h.obs j k1 l1 q
 · obtain⟨j,x,hj,hx,hc⟩:=ho
   obtain⟨y,y1,y2⟩:=own j x hj hx
   exact .inl ⟨j,y,y1,y2,hc⟩
theorem Rel.Nq (h:Rel g m w) {n c:Nat} {k:fF} {l:List AV} (hn:m[n]? = some .free) (hc : ¬cj g m c) {lo hi:Nat} {ob:Obj} {vs:List Value} (h1:w.heap[c]? = some ob) (h2:bO g w l vs) (h3:k.is ob vs) (h4 : ∀o,¬g.pure c o) (h5:k.room ob hi) :
  Rel (g.put n c lo hi) (m.set n (.ob k l)) w∧Ext g w (g.put n c lo hi) w ∧ ∀c',cj (g.put n c lo hi) (m.set n (.ob k l)) c'→cj g m c'∨c'=c:=by
 have hf:=h.free n hn
 have bo : ∀j,j≠n→(g.put n c lo hi).aN j=g.aN j:=fun j hj=>by simp[Gh.put,hj]
 have bi:(g.put n c lo hi).aN n=some c:=by simp[Gh.put]
 have ext:Ext g w (g.put n c lo hi) w:=⟨fun j c' hj=>by
  have:j≠n:=fun e=>by subst e;rw[hf] at hj;cases hj
  simp[Gh.put,this,hj],fun _ _ p=>⟨p,rfl⟩⟩
 refine⟨⟨fun j hj=> ?_,fun j hj=> ?_,fun j x kk hj hk=> ?_,fun j c' hj dx=> ?_,fun j q x x' c' hj hk ho ho' eL eS=> ?_,h.there,fun j kk ll hj=> ?_⟩,ext,fun c' ho=> ?_⟩
 · have hl:=aT hn
   simp only[eh] at hj
   rw[bo j (by omega)];exact h.qm j hj
 · rcases an hj with⟨_,e⟩ | ⟨hjn,e⟩
   · cases e
   · rw[bo j hjn];exact h.free j e
 · rcases an hj with⟨_,e⟩ | ⟨hjn,e⟩
   · subst e;cases hk
   · obtain⟨c1,cs1,e1,n1,q1,q2,q3,q4,q5⟩:=h.cells j x kk e hk
     exact⟨c1,cs1,e1,n1,(bo j hjn).trans q1,q2,q3,q4.mono ext,q5⟩
 · rcases an hj with⟨_,e⟩ | ⟨hjn,e⟩
   · cases e
   · rw[bo j hjn] at dx
     obtain⟨cs1,e1,n1,q2,q3,q4,q5⟩:=h.tok j c' e dx
     have e1:(g.put n c lo hi).hi j=g.hi j:=by simp[Gh.put,hjn]
     have e2:(g.put n c lo hi).lo j=g.lo j:=by simp[Gh.put,hjn]
     rw[e1,e2]
     exact⟨cs1,_,n1,q2,q3,q4,q5⟩
 · rcases an hj with⟨rfl,e⟩ | ⟨hjn,e⟩
   · rcases an hk with⟨rfl,_⟩ | ⟨Fb,e'⟩
     · rfl
     · rw[bi] at eL;cases eL
       rw[bo q Fb] at eS
       exact absurd ⟨q,x',e',ho',eS⟩ hc
   · rcases an hk with⟨rfl,_⟩ | ⟨Fb,e'⟩
     · rw[bi] at eS;cases eS
       rw[bo j hjn] at eL
       exact absurd ⟨j,x,e,ho,eL⟩ hc
     · rw[bo j hjn] at eL;rw[bo q Fb] at eS
       exact h.inj j q x x' c' e e' ho ho' eL eS
 · rcases an hj with⟨rfl,e⟩ | ⟨hjn,e⟩
   · cases e
     exact⟨c,ob,vs,bi,h1,bO.mono ext h2,h3,h4,by simpa[Gh.put] using h5⟩
   · obtain⟨c1,o1,vs1,q1,q2,q3,q4,q5,q6⟩:=h.obs j kk ll e
     exact⟨c1,o1,vs1,(bo j hjn).trans q1,q2,q3.mono ext,q4,q5,by simpa[Gh.put,hjn] using q6⟩
 · obtain⟨j,x,hj,hx,qn⟩:=ho
   rcases an hj with⟨rfl,e⟩ | ⟨hjn,e⟩
   · rw[bi] at qn;cases qn
     exact .inr rfl
   · rw[bo j hjn] at qn
     exact .inl ⟨j,x,e,hx,qn⟩
def kO.lK (f:kO) (m:Mem) (tk:Nat):Mem:=match f.X with
 |none=>m
 |some _=>m.set tk .dead
theorem kO.wX (f:kO) (m:Mem) (tk:Nat):(f.lK m tk).length=m.length:=by
 unfold kO.lK
 split<;>simp
def kO.more (f:kO) (m:Mem):Mem:=match f.X with
 |none=>m
 |some X=>m++[.ob (.gr f.t true) (X.map .p)]
theorem ak.push {c:bA} {i tk:Nat} {t:TypeId} {pre:List Value} {f:kO} {lN:List AV} {fs:List kO} {R':Hid} {o:Out} (hc:iJ c=true)
  (hi:c.st.mem[i]? = some (.ob (.stk t pre) (f.cells tk++lN))) (hik:i≠tk) (ht:f.told c.st.mem tk)
  (h : ∀vs:List Value,vs.length=f.p1.length+1+f.p2.length→ak P E {c with st:={c.st with mem:=f.lK ((c.st.mem.set i (.ob (.stk t (pre++vs)) lN))) tk}} (dY (f::fs) (pre++vs)) R' o) :
  ak P E c (dY fs pre) R' o:=by
 refine ak.focus hc fun g a w H hs hR hA=> ?_
 have gE:=hs.rel
 obtain⟨cb,ob,vs,b1,b2,b3,b4,b5,b6⟩:=gE.obs _ _ _ hi
 have hlen:=b3.len
 have Hz:(f.cells tk).length=f.p1.length+1+f.p2.length:=by simp[kO.cells];omega
 have hvl:(vs.take (f.p1.length+1+f.p2.length)).length=f.p1.length+1+f.p2.length:=by
  rw[eQ];rw[dC,Hz] at hlen;omega
 have hF:bO g w (f.cells tk) (vs.take (f.p1.length+1+f.p2.length)):=by
  have:=b3.take (f.p1.length+1+f.p2.length)
  rwa [pb (by omega),ed (by omega)] at this
 have hN:bO g w lN (vs.drop (f.p1.length+1+f.p2.length)):=by
  have:=b3.drop (f.p1.length+1+f.p2.length)
  rwa [TU (by omega),TV (by omega),SX] at this
 generalize RM:vs.take (f.p1.length+1+f.p2.length)=vF at hF hvl
 generalize RN:vs.drop (f.p1.length+1+f.p2.length)=vN at hN
 have hvs:vs=vF++vN:=by rw[←RM,←RN,TW]
 obtain⟨r1,r2⟩:=gE.vU (k':= .stk t (pre++vF)) (l':=lN) hi fun c' wh vs' x1 x2 x3 x4 x5=>by
  rw[b1] at x1;cases x1
  rw[b2] at x2;cases x2
  obtain⟨cs,e,n,rfl,q1,q2,q3,q4,q5⟩:=b4
  refine⟨vN,hN,⟨cs,e,n,rfl,q1,q2,?_,?_,q5⟩,x5⟩
  · rw[pr,←hvs,q3,hvs]
    simp only[dC];congr 1;omega
  · rw[hvs] at q4;simp only[dC] at q4 ⊢;omega
 have Nr:Rel g (f.lK (c.st.mem.set i (.ob (.stk t (pre++vF)) lN)) tk) w∧b7 g (c.st.mem.set i (.ob (.stk t (pre++vF)) lN)) w g (f.lK (c.st.mem.set i (.ob (.stk t (pre++vF)) lN)) tk) w:=by
  unfold kO.lK
  split
  · exact⟨r1,b7.refl _ _ _⟩
  · exact r1.kill tk
 obtain⟨s1,s2⟩:=Nr
 have RO : ∃v1 v v2,vF=v1++v::v2∧rJ g w f.p1 v1∧VA g w (f.cell tk) v∧rJ g w f.p2 v2:=by
  have ha:=hF.take f.p1.length
  have hb:=hF.drop f.p1.length
  rw[kO.cells,pb (by simp),ed (by simp)] at ha
  rw[kO.cells,TU (by simp),TV (by simp),SX] at hb
  cases hd:vF.drop f.p1.length with
  |nil=>rw[hd] at hb;exact hb.elim
  |cons v v2=>
   rw[hd] at hb
   exact⟨vF.take f.p1.length,v,v2,by rw[←hd,TW],lJ ha,hb.1,lJ hb.2⟩
 obtain⟨v1,v,v2,hv,p1,pv,p2⟩:=RO
 obtain⟨b,hb,RP⟩:=wW.of gE ht pv
 have hown : ∀c',b=some c' → ∃X,f.X=some X∧c.st.mem[tk]? = some (.ob (.gr f.t true) (X.map .p))∧g.aN tk=some c':=fun c' q=>by
  obtain⟨q1,q2⟩:=RP c' q
  unfold kO.told at ht
  cases hX:f.X with
  |none=>rw[hX] at q2;cases q2
  |some X=>rw[hX] at ht;exact⟨X,rfl,ht,q1⟩
 have PA : ∀c',b=some c'→cj g c.st.mem c':=fun c' q=>by
  obtain⟨X,_,q2,q3⟩:=hown c' q
  exact⟨tk,_,q2,rfl,q3⟩
 have old : ∀c',cj g (f.lK (c.st.mem.set i (.ob (.stk t (pre++vF)) lN)) tk) c'→cj g c.st.mem c':=fun c' ho=>by
  rcases s2.owned c' ho with q | q
  · rcases r2.owned c' q with q | q
    · exact q
    · exact absurd (s1.fI ho) (Fs.2 q)
  · exact absurd (s1.fI ho) (Fs.2 q)
 refine⟨{c.st with mem:=f.lK (c.st.mem.set i (.ob (.stk t (pre++vF)) lN)) tk},dY (f::fs) (pre++vF),g,fun c'=>H c'∨b=some c',⟨hs.tm,hs.nt,s1,by rw[kO.wX,eh];exact hs.fix,hs.cC⟩,fun _ _ q=>⟨q,rfl,rfl⟩,rfl,rfl,rfl,
  ⟨pre,vF,b,H,rfl,⟨v1,v,v2,hv,p1,hb,p2⟩,hR,fun _=>Iff.rfl,fun c' q hH=>hA.own c' hH (PA c' q)⟩,⟨fun c' q=> ?_,fun c' q=> ?_⟩,
  ⟨ch _,fun _ _ _ _=>rfl,fun _ _ p=>⟨p,rfl⟩,fun _ _ p=> .inl p,fun c' ho=> .inl (old c' ho),fun c' q=> ?_,rfl,rfl,rfl⟩,h vF hvl⟩
 · intro ho
   rcases q with q | q
   · exact hA.own c' q (old c' ho)
   · obtain⟨X,hX,q2,q3⟩:=hown c' q
     obtain⟨j,x,hj,hx,qn⟩:=ho
     rw[kO.lK,hX] at hj
     rcases an hj with⟨_,e⟩ | ⟨Ae,e⟩
     · subst e;simp[aF.bU] at hx
     · rcases an e with⟨rfl,_⟩ | ⟨_,e⟩
       · exact hik (gE.inj j tk _ _ c' hi q2 rfl rfl qn q3)
       · exact Ae (gE.inj j tk x _ c' e q2 hx rfl qn q3)
 · rcases q with q | q
   · exact hA.there c' q
   · exact gE.fI (PA c' q)
 · rcases q with q | q
   · exact .inr (.inl q)
   · exact .inl (PA c' q)
theorem ak.pop {c:bA} {i:Nat} {t:TypeId} {pre:List Value} {f:kO} {lN:List AV} {fs:List kO} {R':Hid} {o:Out} (hc:iJ c=true)
  (hi:c.st.mem[i]? = some (.ob (.stk t pre) lN))
  (h : ∀pre':List Value,pre'.length+(f.p1.length+1+f.p2.length)=pre.length→ak P E {c with st:={c.st with mem:=f.more (c.st.mem.set i (.ob (.stk t pre') (f.cells c.st.mem.length++lN)))}} (dY fs pre') R' o) :
  ak P E c (dY (f::fs) pre) R' o:=by
 refine ak.focus hc fun g a w H hs hR hA=> ?_
 have gE:=hs.rel
 obtain⟨pre',vs,b,H',e1,⟨v1,v,v2,k1,k2,k3,k4⟩,k5,k6,k7⟩:=hR
 have sub : ∀c',H' c'→H c':=fun c' q=>(k6 c').2 (.inl q)
 have GA : ∀c',b=some c'→H c':=fun c' q=>(k6 c').2 (.inr q)
 have hvl:vs.length=f.p1.length+1+f.p2.length:=by
  have a1:=aV.len k2
  have a2:=aV.len k4
  rw[k1];simp only[dC,List.length_cons];omega
 obtain⟨f1,f2⟩:=gE.bB 1
 have hn:(c.st.mem++bB 1)[c.st.mem.length]? = some .free:=by rw[List.getElem?_append_right (ch _),Nat.sub_self];rfl
 have Bw:=aT hi
 have hin:i≠c.st.mem.length:=by omega
 have Ns : ∀c',cj g (c.st.mem++bB 1) c'→cj g c.st.mem c':=fun c' ho=>by
  obtain⟨j,x,hj,hx,qn⟩:=ho
  rcases Nat.lt_or_ge j c.st.mem.length with q | q
  · rw[pf q] at hj
    exact⟨j,x,hj,hx,qn⟩
  · rw[gE.qm j q] at qn;cases qn
 have step : ∃g1,Rel g1 (f.more c.st.mem) w∧Ext g w g1 w∧g1.pure=g.pure∧(∀c',cj g1 (f.more c.st.mem) c'→cj g c.st.mem c'∨b=some c')∧VA g1 w (f.cell c.st.mem.length) v:=by
  unfold wW at k3
  unfold kO.more kO.cell
  split at k3
  · rename_i hX
    exact⟨g,gE,Ext.refl _ _,rfl,fun c' ho=> .inl ho,k3.2 g⟩
  · rename_i X hX
    obtain⟨cc,cap,cs,e,n,vals,z1,z2,z3,z4,z5,z6,z7,z8⟩:=k3
    have hno : ¬cj g (c.st.mem++bB 1) cc:=fun q=>hA.own cc (GA cc z1) (Ns cc q)
    obtain⟨t1,t2,t3⟩:=f1.Nq (k:= .gr f.t true) (l:=X.map .p) (lo:=0) (hi:=cs.size) hn hno z4 (lI z6) z5 z8 (show cs.size=cs.size from rfl)
    have hmem:(c.st.mem++bB 1).set c.st.mem.length (.ob (.gr f.t true) (X.map .p))=c.st.mem++[.ob (.gr f.t true) (X.map .p)]:=by simp[bB]
    rw[hmem] at t1 t3
    refine⟨_,t1,t2,rfl,fun c' ho=>(t3 c' ho).imp (Ns c') fun q=>by rw[q,z1],?_⟩
    subst z2
    exact .mg _ _ _ _ _ cc (by simp[Gh.put]) z3 (by simp[Gh.put];omega)
 obtain⟨g1,t1,t2,t3,t4,t5⟩:=step
 have hi1:(f.more c.st.mem)[i]? = some (.ob (.stk t pre) lN):=by
  unfold kO.more
  split
  · exact hi
  · rw[pf Bw];exact hi
 have RQ:bO g1 w (f.cells c.st.mem.length) vs:=by
  rw[k1]
  have pm : ∀c' o',g.pure c' o'→g1.pure c' o'∧w.cell? ⟨c',o',none⟩=w.cell? ⟨c',o',none⟩:=fun c' o' p=>⟨by rw[t3];exact p,rfl⟩
  exact(lI (k2.mono' pm)).append ⟨t5,lI (k4.mono' pm)⟩
 obtain⟨r1,r2⟩:=t1.vU (k':= .stk t pre') (l':=f.cells c.st.mem.length++lN) hi1 fun c' wh vs' x1 x2 x3 x4 x5=>by
  obtain⟨cs,e,n,rfl,q1,q2,q3,q4,q5⟩:=x4
  refine⟨vs++vs',RQ.append x3,⟨cs,e,n,rfl,q1,q2,?_,?_,q5⟩,x5⟩
  · rw[←pr,←e1,q3,e1]
    simp only[dC];congr 1;omega
  · rw[e1] at q4;simp only[dC] at q4 ⊢;omega
 have sK:(f.more c.st.mem).set i (.ob (.stk t pre') (f.cells c.st.mem.length++lN))=f.more (c.st.mem.set i (.ob (.stk t pre') (f.cells c.st.mem.length++lN))):=by
  unfold kO.more
  split
  · rfl
  · rw[List.set_append_left _ _ Bw]
 rw[sK] at r1 r2
 have old : ∀c',cj g1 (f.more (c.st.mem.set i (.ob (.stk t pre') (f.cells c.st.mem.length++lN)))) c'→cj g c.st.mem c'∨b=some c':=fun c' ho=>by
  rcases r2.owned c' ho with q | q
  · exact t4 c' q
  · exact absurd (r1.fI ho) (Fs.2 q)
 refine⟨{c.st with mem:=f.more (c.st.mem.set i (.ob (.stk t pre') (f.cells c.st.mem.length++lN)))},dY fs pre',g1,H',⟨fun k=>(hs.tm k).mono t2,hs.nt,r1,?_,hs.cC.mono fun c' o' p=>by rw[t3];exact⟨p,rfl⟩⟩,t2.aN,rfl,rfl,rfl,
  ?_,⟨fun c' q ho=> ?_,fun c' q=>hA.there c' (sub c' q)⟩,
  ⟨ch _,fun _ _ _ _=>rfl,fun c' o' p=>⟨by rw[t3];exact p,rfl⟩,fun c' o' p=> .inl (by rw[t3] at p;exact p),fun c' ho=>(old c' ho).imp_right fun q=> .inl (GA c' q),fun c' q=> .inr (.inl (sub c' q)),rfl,rfl,rfl⟩,h pre' (by rw[e1,dC];omega)⟩
 · have:=hs.fix
   unfold kO.more
   split
   · rw[eh];exact this
   · simp only[dC,eh];omega
 · exact aC fs pre' g w g1 w H' (fun c' o' p=>⟨by rw[t3];exact p,rfl⟩) (fun _ _=>rfl) (fun c' o' _ p=>by rw[t3] at p;exact p) k5
 · rcases old c' ho with q' | q'
   · exact hA.own c' (sub c' q) q'
   · exact k7 c' q' q
theorem ep {c:bA} {i:Nat} {k:fF} {l l':List AV} (hc:iJ c=true) (hb:c.st.mem[i]? = some (.ob k l)) (hl : ∀(g:Gh) (w:World) vs,bO g w l vs→bO g w l' vs) :
  iL P E c {c with st:={c.st with mem:=c.st.mem.set i (.ob k l')}}:=by
 intro g fr w hr cs
 obtain⟨f,todo,st⟩:=c
 obtain⟨tm,nt,mem,fix,bS,bI⟩:=st
 dsimp only at hb ⊢
 match todo,hc with
 |.code j x::kk,_=>
  obtain⟨b,a,q1,q2,q3,q4,q5,q6⟩:=hr
  have gE:Rel g mem w:=q5.rel
  obtain⟨r1,r2⟩:=gE.Cj hb (hl g w)
  refine⟨g,fr,w,Steps.refl _ _,⟨b,a,q1,q2,q3,q4,⟨q5.tm,q5.nt,r1,?_,q5.cC⟩,q6⟩,r2,bf.refl _ _,rfl,rfl,rfl⟩
  have:=q5.fix
  dsimp only at this ⊢
  simp only[eh]
  omega
theorem Rel.GC (h:Rel g m w) {b c:Nat} {t:TypeId} {q:Bool} {l:List PV} (hb:m[b]? = some (.ob (.gr t q) (l.map .p))) (hc:g.aN b=some c) :
  Rel (g.more c 0 l.length) (m.set b .dead) w∧Ext g w (g.more c 0 l.length) w∧b7 g m w (g.more c 0 l.length) (m.set b .dead) w:=by
 obtain⟨c',ob,vs,k1,k2,k3,k4,k5,k6⟩:=h.obs b _ _ hb
 rw[hc] at k1;cases k1
 have hlen:=k3.len
 rw[oR] at hlen
 obtain⟨cs,e,n,rfl,z1,z2,z3,z4,z5⟩:=k4
 have ext:Ext g w (g.more c 0 l.length) w:=⟨fun _ _ h=>⟨h,rfl,rfl⟩,fun _ _ p=>⟨.inl p,rfl⟩⟩
 have ne : ∀j x c',j≠b→m[j]? = some x→x.bU=true→g.aN j=some c'→c'≠c:=fun j x c' lV hj ho dx e=>lV (h.inj j b x _ c hj hb ho rfl (e▸dx) hc)
 refine⟨⟨fun j hj=>h.qm j (by simpa using hj),fun j hj=> ?_,fun j x k hj hk=> ?_,fun j c' hj dx=> ?_,fun j k x x' c' hj hk ho ho' eL eS=> ?_,fun c' o p=> ?_,fun j kk ll hj=> ?_⟩,ext,⟨ch _,fun _ _ _=>rfl,fun _ _ p=>⟨.inl p,rfl⟩,fun c' o p=> ?_,fun c' ho=> ?_,rfl,rfl,rfl⟩⟩
 · rcases an hj with⟨_,e⟩ | ⟨_,e⟩
   · cases e
   · exact h.free j e
 · rcases an hj with⟨_,e⟩ | ⟨lV,e⟩
   · subst e;cases hk
   · obtain⟨c1,cs1,e1,n1,q1,q2,q3,q4,q5⟩:=h.cells j x k e hk
     refine⟨c1,cs1,e1,n1,q1,q2,q3,q4.mono ext,fun o p=> ?_⟩
     rcases p with p | ⟨rfl,_⟩
     · exact q5 o p
     · exact ne j x _ lV e (bV hk) q1 rfl
 · rcases an hj with⟨_,e⟩ | ⟨lV,e⟩
   · cases e
   · obtain⟨cs1,e1,n1,q2,q3,q4,q5⟩:=h.tok j c' e dx
     refine⟨cs1,e1,n1,q2,q3,q4,fun o a b p=> ?_⟩
     rcases p with p | ⟨rfl,_⟩
     · exact q5 o a b p
     · exact ne j _ _ lV e rfl dx rfl
 · rcases an hj with⟨_,e⟩ | ⟨_,e⟩
   · subst e;simp[aF.bU] at ho
   · rcases an hk with⟨_,e'⟩ | ⟨_,e'⟩
     · subst e';simp[aF.bU] at ho'
     · exact h.inj j k x x' c' e e' ho ho' eL eS
 · rcases p with p | ⟨rfl,_,p⟩
   · exact h.there c' o p
   · exact⟨cs[o],by rw[aH k2,ie (by omega)]⟩
 · rcases an hj with⟨_,e⟩ | ⟨lV,e⟩
   · cases e
   · obtain⟨c1,o1,vs1,q1,q2,q3,q4,q5,q6⟩:=h.obs j kk ll e
     exact⟨c1,o1,vs1,q1,q2,q3.mono ext,q4,fun o p=>p.elim (q5 o) fun q=>ne j _ c1 lV e rfl q1 q.1,q6⟩
 · rcases p with p | ⟨rfl,_⟩
   · exact .inl p
   · exact .inr (.inl ⟨b,_,hb,rfl,hc⟩)
 · rcases nu ho with⟨q,_⟩ | ⟨j,x,_,q1,q2,q3⟩
   · simp[aF.bU] at q
   · exact .inl ⟨j,x,q1,q2,q3⟩
theorem vV {c:bA} {i tk:Nat} {k:fF} {te:TypeId} {q:Bool} {l1 l2:List AV} {len sz:Nat} {X:List PV} (hc:iJ c=true) (hi:c.st.mem[i]? = some (.ob k (l1 ++ .ms tk 0 len sz none::l2))) (hk:c.st.mem[tk]? = some (.ob (.gr te q) (X.map .p))) (hne:i≠tk)
  (hX:X.length=len*sz) (hz:1≤sz):iL P E c {c with st:={c.st with mem:=(c.st.mem.set tk .dead).set i (.ob k (l1 ++ .p (.ps len sz X)::l2))}}:=by
 intro g fr w hr cs
 obtain⟨f,todo,st⟩:=c
 obtain⟨tm,nt,mem,fix,bS,bI⟩:=st
 dsimp only at hi hk ⊢
 match todo,hc with
 |.code j x::kk,_=>
  obtain⟨b,a,q1,q2,q3,q4,q5,q6⟩:=hr
  have gE:Rel g mem w:=q5.rel
  obtain⟨c,ob,vals,k1,k2,k3,k4,k5,k6⟩:=gE.obs _ _ _ hk
  have hvl:=k3.len
  rw[oR] at hvl
  obtain⟨cells,e,n,rfl,z1,z2,z3,z4,z5⟩:=k4
  obtain⟨r1,r2,r3⟩:=gE.GC hk k1
  have hi':(mem.set tk .dead)[i]? = some (.ob k (l1 ++ .ms tk 0 len sz none::l2)):=by rw[List.getElem?_set_ne (Ne.symm hne)];exact hi
  have hv : ∀vs:List Value,bO (g.more c 0 X.length) w (l1 ++ .ms tk 0 len sz none::l2) vs→bO (g.more c 0 X.length) w (l1 ++ .p (.ps len sz X)::l2) vs:=fun vs hv=>by
   have ha:=hv.take l1.length
   have hb:=hv.drop l1.length
   rw[pb (ch _),ed (ch _)] at ha
   rw[TU (ch _),TV (ch _),SX] at hb
   have hvs:vs=vs.take l1.length++vs.drop l1.length:=(TW _ _).symm
   rw[hvs]
   refine ha.append ?_
   generalize vs.drop l1.length=vd at hb
   match vd,hb with
   |v::vd,hb=>
    refine⟨?_,hb.2⟩
    have h1:VA (g.more c 0 X.length) w (.ms tk 0 len sz none) v:=hb.1
    cases h1 with
    |mg _ _ _ _ cap c' hb' dx Sw=>
     have hb':g.aN tk=some c':=hb'
     rw[k1] at hb';cases hb'
     have RR : ∀o,o<X.length→cells[o]? = some ((cells[o]?).getD undef):=fun o ho=>by
      rw[ie (by omega)];rfl
     refine .p _ _ (.ps len sz X c 0 cap (fun o=>(cells[o]?).getD undef) hX dx hz (fun o ho=>⟨.inr ⟨rfl,Nat.zero_le _,by omega⟩,?_,?_⟩) fun o ho=> ?_)
     · rw[aH k2,Nat.zero_add];exact RR o ho
     · have ho':o<cells.size:=by omega
       rw[ie ho']
       exact z5 cells[o] (by simp)
     · have ho':o<cells.size:=by omega
       have hkv:o<vals.length:=by omega
       have h1:=k3.get o (by simpa using ho) hkv
       rw[List.getElem_map,VA.pv] at h1
       have e1:vals[o]? = some cells[o]:=by
        rw[z3,List.getElem?_take,if_pos hkv]
        simp[ho']
       rw[List.getElem?_eq_getElem hkv] at e1
       rw[Option.some.inj e1] at h1
       rw[ie ho']
       exact VP.mono (g:=g) (w:=w) (g':=g.more c 0 X.length) (w':=w) (fun c1 o1 p=>⟨Or.inl p,rfl⟩) h1
  obtain⟨s1,s2⟩:=r1.Cj hi' hv
  refine⟨g.more c 0 X.length,fr,w,Steps.refl _ _,⟨b,a,q1,q2,q3.ext (fun i c q=>(r2.aN i c q).1),q4.ext (fun i c q=>(r2.aN i c q).1),⟨fun k=>(q5.tm k).mono r2,q5.nt,s1,?_,q5.cC.mono fun c o p=>⟨.inl p,rfl⟩⟩,q6⟩,r3.trans s2,fun _ _ _ q=>⟨q,rfl,rfl⟩,rfl,rfl,rfl⟩
  have:=q5.fix
  dsimp only at this ⊢
  simp only[eh]
  omega
theorem bZ.bz {E':Env} (he:E.cC=E'.cC) {c:bA} {fr:Frame}:bZ P E g c fr w→bZ P E' g c fr w:=by
 have hs : ∀{st:St} {a:Act},bR E g st a w→bR E' g st a w:=fun h=>⟨h.tm,h.nt,h.rel,h.fix,fun i cs hi=>h.cC i cs (by rw[he];exact hi)⟩
 intro h
 unfold bZ at h ⊢
 split at h
 · exact h
 · exact h
 · obtain⟨b,a,todo,cv,h1,h2,h3,h4,h5,h6⟩:=h
   exact⟨b,a,todo,cv,h1,h2,h3,h4,hs h5,h6⟩
 · obtain⟨b,a,todo,h1,h2,h3,h4,h5,h6,h7⟩:=h
   exact⟨b,a,todo,h1,h2,h3,h4,h5,h6,hs h7⟩
 · obtain⟨b,a,h1,h2,h3,h4,h5,h6⟩:=h
   exact⟨b,a,h1,h2,h3,h4,hs h5,h6⟩
theorem ak.env {E':Env} (he:E.cC=E'.cC) {c:bA} {R R':Hid} {o:Out} (h:ak P E c R R' o):ak P E' c R R' o:=
 fun g fr w H cs hc hR hA=>h g fr w H cs (bZ.bz he.symm hc) hR hA
theorem Bi {c:bA} {i:Nat} {t:TypeId} {pre:List Value} {l x:List AV} (hc:iJ c=true) (hb:c.st.mem[i]? = some (.ob (.stk t pre) (l++x))) :
  iL P E c {c with st:={c.st with mem:=c.st.mem.set i (.ob (.stk t pre) l)}}:=by
 intro g fr w hr cs
 obtain⟨f,todo,st⟩:=c
 obtain⟨tm,nt,mem,fix,bS,bI⟩:=st
 dsimp only at hb ⊢
 match todo,hc with
 |.code j y::kk,_=>
  obtain⟨b,a,q1,q2,q3,q4,q5,q6⟩:=hr
  have gE:Rel g mem w:=q5.rel
  obtain⟨r1,r2⟩:=gE.vU (k':= .stk t pre) (l':=l) hb fun c' wh vs x1 x2 x3 x4 x5=>by
   have hv:=x3.take l.length
   rw[pb (ch _),ed (ch _)] at hv
   obtain⟨cs,e,n,rfl,z1,z2,z3,z4,z5⟩:=x4
   have hlen:=x3.len
   rw[dC] at hlen
   have hvl:=hv.len
   refine⟨vs.take l.length,hv,⟨cs,e,n,rfl,z1,z2,?_,by omega,z5⟩,x5⟩
   have Fc:(vs.take l.length).length=l.length:=by rw[eQ];omega
   rw[Fc,←List.take_length_add_append,z3,List.take_take]
   congr 1
   omega
  refine⟨g,fr,w,Steps.refl _ _,⟨b,a,q1,q2,q3,q4,⟨q5.tm,q5.nt,r1,?_,q5.cC⟩,q6⟩,r2,bf.refl _ _,rfl,rfl,rfl⟩
  have:=q5.fix
  dsimp only at this ⊢
  simp only[eh]
  omega
theorem ak.same {c c':bA} {R R':Hid} {o:Out} (h:c'=c) (k:ak P E c R R' o):ak P E c' R R' o:=by subst h;exact k
end
end Go.Am
end
