import Derived.Test.YtddfgnmjecogdaaDoorMI
import Derived.Test.YtddfgnmjecogdaaDoorMJ
open Nat renaming le_trans→ch,lt_of_lt_of_le→Wj,not_lt→H0,zero_lt_succ→cp,le_refl→df,beq→be
open List renaming length_append→ei,length_cons→pa,length_nil→VS
open Go.Value renaming int→yb
open Go.IntKind renaming i64→vj,u32→VO,i32→V9,u8→V8
open Option renaming none→VZ,some→V0
open Go.Proofs.Tryd renaming prog→ae
open Bool renaming false_eq_true→rh,true_eq_false→Wa
open Int renaming reduceBEq→Wk,toNat_natCast→V5
noncomputable section
section
namespace Go.Am
open Go.RowKit
section
variable {P:Program} {E:Env}
abbrev uB:=Nat→Prop
abbrev Hid:=Gh→World→uB→Prop
def Hid.emp:Hid:=fun _ _ H=> ∀c,¬H c
def Hid.fB (R:Hid):Prop:= ∀(g:Gh) (w:World) (g':Gh) (w':World) (H:uB),
 (∀c o,g.pure c o→g'.pure c o∧w'.cell? ⟨c,o,none⟩=w.cell? ⟨c,o,none⟩)→(∀c,H c→w'.heap[c]? = w.heap[c]?)→(∀c o,H c→g'.pure c o→g.pure c o)→R g w H→R g' w' H
structure rC (g:Gh) (m:Mem) (w:World) (H:uB):Prop where
 own : ∀c,H c → ¬cA g m c
 there : ∀c,H c→c<w.heap.size
structure AW (g:Gh) (m:Mem) (H:uB) (w:World) (g':Gh) (m':Mem) (H':uB) (w':World):Prop where
 size:w.heap.size≤w'.heap.size
 keep : ∀c,c<w.heap.size → ¬cA g m c → ¬H c→w'.heap[c]? = w.heap[c]?
 pure : ∀c o,g.pure c o→g'.pure c o∧w'.cell? ⟨c,o,none⟩=w.cell? ⟨c,o,none⟩
 fresh : ∀c o,g'.pure c o→g.pure c o∨cA g m c∨H c∨w.heap.size≤c
 owned : ∀c,cA g' m' c→cA g m c∨H c∨w.heap.size≤c
 hidden : ∀c,H' c→cA g m c∨H c∨w.heap.size≤c
 os:w'.os=w.os
 tape:w'.tape=w.tape
 output:w'.output=w.output
theorem cr.NS {g g':Gh} {m m':Mem} {w w':World} (h:cr g m w g' m' w') (H:uB):AW g m H w g' m' H w':=
 ⟨h.size,fun c hc ho _=>h.keep c hc ho,h.pure,fun c o hp=>(h.fresh c o hp).imp_right (Or.imp_right .inr),fun c ho=>(h.owned c ho).imp_right .inr,fun _ hH=> .inr (.inl hH),h.os,h.tape,h.output⟩
theorem AW.trans {g g' g'':Gh} {m m' m'':Mem} {H H' SO:uB} {w w' w'':World} (h:AW g m H w g' m' H' w') (k:AW g' m' H' w' g'' m'' SO w''):AW g m H w g'' m'' SO w'' where
 size:=ch h.size k.size
 keep c hc hn hH:=(k.keep c (Wj hc h.size) (fun ho=>(h.owned c ho).elim hn fun q=>q.elim hH fun hh=>absurd hc (H0.2 hh))
  (fun ho=>(h.hidden c ho).elim hn fun q=>q.elim hH fun hh=>absurd hc (H0.2 hh))).trans (h.keep c hc hn hH)
 pure c o hp:=⟨(k.pure c o (h.pure c o hp).1).1,(k.pure c o (h.pure c o hp).1).2.trans (h.pure c o hp).2⟩
 fresh c o hp:=by
  rcases k.fresh c o hp with q | q | q | q
  · exact h.fresh c o q
  · exact .inr (h.owned c q)
  · exact .inr (h.hidden c q)
  · exact .inr (.inr (.inr (ch h.size q)))
 owned c ho:=by
  rcases k.owned c ho with q | q | q
  · exact h.owned c q
  · exact h.hidden c q
  · exact .inr (.inr (ch h.size q))
 hidden c ho:=by
  rcases k.hidden c ho with q | q | q
  · exact h.owned c q
  · exact h.hidden c q
  · exact .inr (.inr (ch h.size q))
 os:=k.os.trans h.os
 tape:=k.tape.trans h.tape
 output:=k.output.trans h.output
def an (P:Program) (E:Env) (c:bB) (R R':Hid) (o:Out):Prop:=
 ∀(g:Gh) (fr:Frame) (w:World) (H:uB) (cs:List Frame),cm P E g c fr w→R g w H→rC g c.st.mem w H→match o with
  |.ret v m'=> ∃g' fr' w' cv w2 H',Steps P (lone fr cs w) (lone fr' cs w')∧Fk P c.st.bK fr' w' cv w2∧fr'.fn=c.f∧VA g' w2 v cv∧Rel g' m' w2∧AW g c.st.mem H w g' m' H' w2∧bn g g' c.st.fix∧c.st.fix≤m'.length∧R' g' w2 H'∧rC g' m' w2 H'
  |.ot v m'=> ∃g' fr' w' cv H',Steps P (lone fr cs w) (lone fr' cs w')∧fr'.leaving P w' (.panicked [{v:=cv,recovered:=false}])∧fr'.fn=c.f∧VA g' w' v cv∧Rel g' m' w'∧AW g c.st.mem H w g' m' H' w'∧bn g g' c.st.fix∧c.st.fix≤m'.length∧R' g' w' H'∧rC g' m' w' H'
theorem rC.step {g g':Gh} {m m':Mem} {w w':World} {H:uB} (h:rC g m w H) (k:cr g m w g' m' w'):rC g' m' w' H:=
 ⟨fun c hH ho=>(k.owned c ho).elim (h.own c hH) fun q=>absurd (h.there c hH) (H0.2 q),fun c hH=>Wj (h.there c hH) k.size⟩
theorem Hid.fB.step {R:Hid} (hs:R.fB) {g g':Gh} {m m':Mem} {w w':World} {H:uB} (h:rC g m w H) (k:cr g m w g' m' w') (hR:R g w H):R g' w' H:=
 hs g w g' w' H k.pure (fun c hH=>k.keep c (h.there c hH) (h.own c hH)) (fun c o hH hp=>(k.fresh c o hp).elim id fun q=>q.elim (fun ho=>absurd ho (h.own c hH)) fun hh=>absurd (h.there c hH) (H0.2 hh)) hR
def jj (P:Program) (E:Env) (c c':bB):Prop:= ∀g fr w,cm P E g c fr w→ef P E g c fr w c'
theorem jj.trans {c c' c'':bB} (h:jj P E c c') (k:jj P E c' c''):jj P E c c'':=by
 intro g fr w hc cs
 obtain⟨g1,TX,w1,q1,q2,q3,q4,q5,q6,q7⟩:=h g fr w hc cs
 obtain⟨g2,lG,w2,r1,r2,r3,r4,r5,r6,r7⟩:=k g1 TX w1 q2 cs
 exact⟨g2,lG,w2,q1.trans r1,r2,q3.trans r3,q4.trans (q6▸r4),r5.trans q5,r6.trans q6,r7.trans q7⟩
theorem an.au {c c':bB} {R R':Hid} {o:Out} (hs:R.fB) (hg:jj P E c c') (h:an P E c' R R' o):an P E c R R' o:=by
 intro g fr w H cs hc hR hA
 obtain⟨g',fr',w',q1,q2,q3,q4,q5,q6,q7⟩:=hg g fr w hc cs
 have hk:=h g' fr' w' H cs q2 (hs.step hA q3 hR) (hA.step q3)
 cases o with
 |ret v m'=>
  obtain⟨g2,lG,w2,cv,w3,H',r1,r2,r3,r4,r5,r6,r7,r8,r9,Cs⟩:=hk
  exact⟨g2,lG,w2,cv,w3,H',q1.trans r1,by rw[←q7];exact r2,r3.trans q5,r4,r5,(q3.NS H).trans r6,q4.trans (by rw[←q6];exact r7),by rw[←q6];exact r8,r9,Cs⟩
 |ot v m'=>
  obtain⟨g2,lG,w2,cv,H',r1,r2,r3,r4,r5,r6,r7,r8,r9,Cs⟩:=hk
  exact⟨g2,lG,w2,cv,H',q1.trans r1,r2,r3.trans q5,r4,r5,(q3.NS H).trans r6,q4.trans (by rw[←q6];exact r7),by rw[←q6];exact r8,r9,Cs⟩
theorem an.frame {c:bB} {R:Hid} {o:Out} (hs:R.fB) (h:dK P E c o):an P E c R R o:=by
 intro g fr w H cs hc hR hA
 have hk:=h g fr w cs hc
 cases o with
 |ret v m'=>
  obtain⟨g2,lG,w2,cv,w3,r1,r2,r3,r4,r5,r6,r7,r8⟩:=hk
  exact⟨g2,lG,w2,cv,w3,H,r1,r2,r3,r4,r5,r6.NS H,r7,r8,hs.step hA r6 hR,hA.step r6⟩
 |ot v m'=>
  obtain⟨g2,lG,w2,cv,r1,r2,r3,r4,r5,r6,r7,r8⟩:=hk
  exact⟨g2,lG,w2,cv,H,r1,r2,r3,r4,r5,r6.NS H,r7,r8,hs.step hA r6 hR,hA.step r6⟩
theorem an.drop {c:bB} {R R':Hid} {o:Out} (h:an P E c R R' o):an P E c R Hid.emp o:=by
 intro g fr w H cs hc hR hA
 have hk:=h g fr w H cs hc hR hA
 cases o with
 |ret v m'=>
  obtain⟨g2,lG,w2,cv,w3,H',r1,r2,r3,r4,r5,r6,r7,r8,r9,Cs⟩:=hk
  exact⟨g2,lG,w2,cv,w3,fun _=>False,r1,r2,r3,r4,r5,⟨r6.size,r6.keep,r6.pure,r6.fresh,r6.owned,fun _ h=>h.elim,r6.os,r6.tape,r6.output⟩,r7,r8,fun _ h=>h,⟨fun _ h=>h.elim,fun _ h=>h.elim⟩⟩
 |ot v m'=>
  obtain⟨g2,lG,w2,cv,H',r1,r2,r3,r4,r5,r6,r7,r8,r9,Cs⟩:=hk
  exact⟨g2,lG,w2,cv,fun _=>False,r1,r2,r3,r4,r5,⟨r6.size,r6.keep,r6.pure,r6.fresh,r6.owned,fun _ h=>h.elim,r6.os,r6.tape,r6.output⟩,r7,r8,fun _ h=>h,⟨fun _ h=>h.elim,fun _ h=>h.elim⟩⟩
theorem an.good {c:bB} {R R':Hid} {o:Out} (h:an P E c R R' o) (h0 : ∀g w,R g w fun _=>False):dK P E c o:=by
 intro g fr w cs hc
 have hk:=h g fr w (fun _=>False) cs hc (h0 g w) ⟨fun _ h=>h.elim,fun _ h=>h.elim⟩
 have back : ∀{g g':Gh} {m m':Mem} {w w':World} {H':uB},AW g m (fun _=>False) w g' m' H' w'→cr g m w g' m' w':=fun k=>
  ⟨k.size,fun c hc ho=>k.keep c hc ho id,k.pure,fun c o hp=>by
    rcases k.fresh c o hp with q | q | q | q
    · exact .inl q
    · exact .inr (.inl q)
    · exact q.elim
    · exact .inr (.inr q),fun c ho=>by
    rcases k.owned c ho with q | q | q
    · exact .inl q
    · exact q.elim
    · exact .inr q,k.os,k.tape,k.output⟩
 cases o with
 |ret v m'=>
  obtain⟨g2,lG,w2,cv,w3,H',r1,r2,r3,r4,r5,r6,r7,r8,_,_⟩:=hk
  exact⟨g2,lG,w2,cv,w3,r1,r2,r3,r4,r5,back r6,r7,r8⟩
 |ot v m'=>
  obtain⟨g2,lG,w2,cv,H',r1,r2,r3,r4,r5,r6,r7,r8,_,_⟩:=hk
  exact⟨g2,lG,w2,cv,r1,r2,r3,r4,r5,back r6,r7,r8⟩
theorem an.focus {c:bB} {R R':Hid} {o:Out} (hc:jg c=true)
  (h : ∀g a w H,bS E g c.st a w→R g w H→rC g c.st.mem w H → ∃(AB:St) (R1:Hid) (g1:Gh) (H1:uB),bS E g1 AB a w∧(∀i k,g.aP i=some k→g1.aP i=some k∧g1.lo i=g.lo i∧g1.hi i=g.hi i)∧AB.bK=c.st.bK∧AB.bT=c.st.bT∧AB.fix=c.st.fix ∧
    R1 g1 w H1∧rC g1 AB.mem w H1∧AW g c.st.mem H w g1 AB.mem H1 w∧an P E {c with st:=AB} R1 R' o):an P E c R R' o:=by
 intro g fr w H cs hr hR hA
 obtain⟨f,todo,st⟩:=c
 match todo,hc with
 |.code i x::k,_=>
  obtain⟨b,a,q1,q2,q3,q4,q5,q6⟩:=hr
  obtain⟨AB,R1,g1,H1,s1,s2,s3,s4,s5,s6,s7,s8,s9⟩:=h g a w H q5 hR hA
  obtain⟨tm,nt,mem,fix,bT,bK⟩:=st
  obtain⟨UN,UO,TY,RL,TZ,T0⟩:=AB
  dsimp only at s3 s4 s5
  subst s3 s4 s5
  have hk:=s9 g1 fr w H1 cs ⟨b,a,q1,q2,q3.ext (fun i c q=>(s2 i c q).1),q4.ext (fun i c q=>(s2 i c q).1),s1,q6⟩ s6 s7
  have lF:bn g g1 RL:=fun k c _ hk=>s2 k c hk
  cases o with
  |ret v m'=>
   obtain⟨g2,lG,w2,cv,w3,H',r1,r2,r3,r4,r5,r6,r7,r8,r9,Cs⟩:=hk
   exact⟨g2,lG,w2,cv,w3,H',r1,r2,r3,r4,r5,s8.trans r6,lF.trans r7,r8,r9,Cs⟩
  |ot v m'=>
   obtain⟨g2,lG,w2,cv,H',r1,r2,r3,r4,r5,r6,r7,r8,r9,Cs⟩:=hk
   exact⟨g2,lG,w2,cv,H',r1,r2,r3,r4,r5,s8.trans r6,lF.trans r7,r8,r9,Cs⟩
def aN.ko (P:Program) (E:Env) (Q:bB→Prop) (Z:Out→Prop):aN→Prop
 |.out o'=>Z o'
 |.at c=>Q c
 |.must b t=>b=true∧t.ko P E Q Z
 |.need p t=>p∧t.ko P E Q Z
 |.test b y z=>(b=true→y.ko P E Q Z)∧(b=false→z.ko P E Q Z)
 |.call q t=>aG P E q.g q.args q.m q.v q.m'∧t.ko P E Q Z
 |.both y z=>y.ko P E Q Z∧z.ko P E Q Z
 |.stuck=>False
variable {Q:bB→Prop} {Z:Out→Prop} {R R':Hid} {oE:Out}
def bZ (P:Program) (E:Env) (Q:bB→Prop) (Z:Out→Prop) (R R':Hid) (oE:Out) (top:Bool) (c:bB) (K:Out→Sc→aN):Prop:=
 (∃o1 s1,dK P E c o1∧(K o1 s1).ko P E Q Z)∨(top=true∧an P E c R R' oE)
theorem bZ.au (hs:R.fB) {top:Bool} {c c':bB} {K:Out→Sc→aN} (hg:jj P E c c') (h:bZ P E Q Z R R' oE top c' K):bZ P E Q Z R R' oE top c K:=by
 rcases h with⟨o1,s1,h1,h2⟩ | ⟨h1,h2⟩
 · exact .inl ⟨o1,s1,dK.au hg h1,h2⟩
 · exact .inr ⟨h1,an.au hs hg h2⟩
theorem an.AJ {c:bB} {l:List bB} (hs:R.fB) (hg : ∀g fr w,cm P E g c fr w→uQ P E g c fr w l) (h : ∀c'∈l,an P E c' R R' oE):an P E c R R' oE:=by
 intro g fr w H cs hc hR hA
 obtain⟨c',hm,g',fr',w',q1,q2,q3,q4,q5,q6,q7⟩:=hg g fr w hc cs
 have hk:=h c' hm g' fr' w' H cs q2 (hs.step hA q3 hR) (hA.step q3)
 cases oE with
 |ret v m'=>
  obtain⟨g2,lG,w2,cv,w3,H',r1,r2,r3,r4,r5,r6,r7,r8,r9,Cs⟩:=hk
  exact⟨g2,lG,w2,cv,w3,H',q1.trans r1,by rw[←q7];exact r2,r3.trans q5,r4,r5,(q3.NS H).trans r6,q4.trans (by rw[←q6];exact r7),by rw[←q6];exact r8,r9,Cs⟩
 |ot v m'=>
  obtain⟨g2,lG,w2,cv,H',r1,r2,r3,r4,r5,r6,r7,r8,r9,Cs⟩:=hk
  exact⟨g2,lG,w2,cv,H',q1.trans r1,r2,r3.trans q5,r4,r5,(q3.NS H).trans r6,q4.trans (by rw[←q6];exact r7),by rw[←q6];exact r8,r9,Cs⟩
theorem an.weak {c:bB} {o:Out} (hs:R.fB) (h:dK P E c o) (hi : ∀g w H,R g w H→R' g w H):an P E c R R' o:=by
 intro g fr w H cs hc hR hA
 have hk:=an.frame (R:=R) hs h g fr w H cs hc hR hA
 cases o with
 |ret v m'=>
  obtain⟨g2,lG,w2,cv,w3,H',r1,r2,r3,r4,r5,r6,r7,r8,r9,Cs⟩:=hk
  exact⟨g2,lG,w2,cv,w3,H',r1,r2,r3,r4,r5,r6,r7,r8,hi _ _ _ r9,Cs⟩
 |ot v m'=>
  obtain⟨g2,lG,w2,cv,H',r1,r2,r3,r4,r5,r6,r7,r8,r9,Cs⟩:=hk
  exact⟨g2,lG,w2,cv,H',r1,r2,r3,r4,r5,r6,r7,r8,hi _ _ _ r9,Cs⟩
theorem qe {h b:Bool} {t:aN} (k:(wK h b t).ko P E Q Z):b=true∧t.ko P E Q Z:=by
 cases h with
 |true=>exact k
 |false=>cases b with
  |true=>exact⟨rfl,k⟩
  |false=>exact k.elim
theorem AX {sh:AV→AV} {d:Tmp} {c:bB} (hin:Hs c=true) (h:look c.st.tm d=sh (look c.st.tm d)):jj P E c (reshape sh d c):=by
 intro g fr w hc cs
 refine⟨g,fr,w,Steps.refl _ _,?_,cr.refl _ _ _,bn.refl _ _,rfl,rfl,rfl⟩
 obtain⟨f,todo,st⟩:=c
 cases todo with
 |nil=>cases hin
 |cons x k=>
  cases x with
  |ops bL ops i sure=>
   obtain⟨b,a,q1,q2,q3,q4,q5,q6⟩:=hc
   exact⟨b,a,q1,q2,q3,q4,q5.known (h▸q5.tm d),q6⟩
  |_=>cases hin
theorem kY (hs:R.fB) {top:Bool} {sh:Option (AV→AV)} {d:Option Tmp} {c:bB} {k:bB→aN} {K:Out→Sc→aN} (hk : ∀c,(k c).ko P E Q Z→bZ P E Q Z R R' oE top c K) (h:(shaped sh d c k).ko P E Q Z):bZ P E Q Z R R' oE top c K:=by
 unfold shaped at h
 split at h
 · rename_i hin
   exact bZ.au hs (AX hin h.1) (hk _ h.2)
 · exact hk c h
theorem mD {top:Bool} {sh:Option (AV→AV)} {c:bB} {k:bB→aN} {K:Out→Sc→aN} (hk : ∀c,(k c).ko P E Q Z→bZ P E Q Z R R' oE top c K) (h:(qO sh c k).ko P E Q Z):bZ P E Q Z R R' oE top c K:=by
 unfold qO at h
 split at h
 · exact hk c h
 · split at h
   · obtain⟨h1,h2⟩:=h
     rw[qY h1] at h2
     exact hk c h2
   · exact hk c h
theorem mE {t:aN} : ∀{l:List cF},(wL l t).ko P E Q Z→fu P E l∧t.ko P E Q Z
 |[],h=>⟨fun _ hq=>(by cases hq),h⟩
 |q::l,h=>⟨fun q' hq=>by
   cases hq with
   |head=>exact h.1
   |tail _ hq=>exact(mE (l:=l) h.2).1 q' hq,(mE (l:=l) h.2).2⟩
theorem aU (hN:eZ P) (hs:R.fB) (hw : ∀g w H,R g w H→R' g w H) {O:gQ} : ∀(n:Nat) (top:Bool) (c:bB) (s:Sc) (K:Out→Sc→aN),(top=true → ∀o1 s1,(K o1 s1).ko P E (fun c=>an P E c R R' oE) Z→o1=oE)→(grow P E O n top c s K).ko P E (fun c=>an P E c R R' oE) Z→bZ P E (fun c=>an P E c R R' oE) Z R R' oE top c K
 |0,_,_,_,_,_,h=>h.elim
 |n+1,top,c,s,K,hK,h=>by
  unfold grow at h
  split at h
  · split at h
    · rename_i c' hs';exact .inr ⟨rfl,an.au hs (lH hs') h⟩
    · exact h.elim
  · split at h
    · rename_i c' hs';exact bZ.au hs (lH hs') (aU hN hs hw n top c' s K hK h)
    · rename_i b c' hs'
      obtain⟨rfl,hb⟩:=qe h
      exact bZ.au hs (sD hs') (kY hs (fun c=>mD fun c=>aU hN hs hw n top c s K hK) hb)
    · rename_i b y z hs'
      have gt:=sG hs'
      split at h
      · split at h
        · cases b with
          |true=>exact bZ.au hs gt (aU hN hs hw n top y _ K hK (h.1 rfl))
          |false=>exact bZ.au hs gt (aU hN hs hw n top z _ K hK (h.2 rfl))
        · obtain⟨rfl,h⟩:=h
          exact bZ.au hs gt (aU hN hs hw n top y _ K hK h)
        · obtain⟨hb,h⟩:=h
          cases b with
          |true=>cases hb
          |false=>exact bZ.au hs gt (aU hN hs hw n top z _ K hK h)
        · cases b with
          |true=>exact bZ.au hs gt (aU hN hs hw n top y _ K hK h)
          |false=>exact bZ.au hs gt (aU hN hs hw n top z _ K hK h)
        · cases b with
          |true=>exact bZ.au hs gt (aU hN hs hw n top y _ K hK (h.1 rfl))
          |false=>exact bZ.au hs gt (aU hN hs hw n top z _ K hK (h.2 rfl))
      · cases b with
        |true=>exact bZ.au hs gt (aU hN hs hw n top y _ K hK h)
        |false=>exact bZ.au hs gt (aU hN hs hw n top z _ K hK h)
    · rename_i f args m ord dst c' hs'
      split at h
      · rename_i v m1 s' _
        exact bZ.au hs (gH hs' h.1) (kY hs (fun c=>aU hN hs hw n top c s' K hK) h.2)
      split at h
      · exact bZ.au hs (gH hs' h.1) (kY hs (fun c=>aU hN hs hw n top c s K hK) h.2)
      · split at h
        · rename_i ci hi
          rcases aU hN hs hw n false ci s _ nofun h with⟨o1,s1,h1,h2⟩ | ⟨h1,_⟩
          · cases o1 with
            |ret v m1=>exact bZ.au hs (gH hs' (dA hN hi h1)) (aU hN hs hw n top _ s1 K hK h2)
            |ot v m1=>exact bZ.au hs (nN hs' (kV hN hi h1)) (aU hN hs hw n top _ s1 K hK h2)
          · cases h1
        · exact h.elim
    · rename_i g args m ord pv c' hs'
      split at h
      · rename_i ci hi
        rcases aU hN hs hw n false ci s _ nofun h with⟨o1,s1,h1,h2⟩ | ⟨h1,_⟩
        · cases o1 with
          |ret v m1=>exact bZ.au hs (sH hs' (kX hN hi h1)) (aU hN hs hw n top _ s1 K hK h2)
          |ot v m1=>exact h2.elim
        · cases h1
      · exact h.elim
    · rename_i args m ord dst c' hs'
      split at h
      · rename_i ci hi
        rcases aU hN hs hw n false ci s _ nofun h with⟨o1,s1,h1,h2⟩ | ⟨h1,_⟩
        · cases o1 with
          |ret v m1=>exact bZ.au hs (pV hs' (kW hi h1)) (aU hN hs hw n top _ s1 K hK h2)
          |ot v m1=>exact h2.elim
        · cases h1
      · exact h.elim
    · rename_i g args m ord L c' hs'
      split at h
      · split at h
        · rename_i m2 pd hend
          exact bZ.au hs (jW hs' h.1 hend) (aU hN hs hw n top _ s K hK h.2)
        · exact h.elim
      split at h
      · rename_i ci hi
        rcases aU hN hs hw n false ci s _ nofun h with⟨o1,s1,h1,h2⟩ | ⟨h1,_⟩
        · cases o1 with
          |ret v m1=>
           dsimp only at h2
           split at h2
           · rename_i m2 pd hend
             exact bZ.au hs (jW hs' (dA hN hi h1) hend) (aU hN hs hw n top _ s1 K hK h2)
           · exact h2.elim
          |ot v m1=>exact h2.elim
        · cases h1
      · exact h.elim
    · rename_i bL ops c' hs'
      split at h
      · rename_i L s' _
        split at h
        · rename_i st ok hq
          obtain⟨hcs,h⟩:=mE h
          obtain⟨rfl,hb⟩:=qe h
          exact bZ.au hs (lI hs' (mA hcs) (oK hq)) (mD (fun c=>aU hN hs hw n top c s' K hK) hb)
        · exact h.elim
      split at h
      · rename_i st ok hq
        obtain⟨hcs,h⟩:=mE h
        obtain⟨rfl,hb⟩:=qe h
        exact bZ.au hs (lI hs' (mA hcs) (oK hq)) (mD (fun c=>aU hN hs hw n top c s K hK) hb)
      · exact h.elim
    · rename_i l hs'
      have both : ∀{y z:bB} {sy sz:Sc},top=true→l=[y,z]→(grow P E O n top y sy K).ko P E (fun c=>an P E c R R' oE) Z→(grow P E O n top z sz K).ko P E (fun c=>an P E c R R' oE) Z→bZ P E (fun c=>an P E c R R' oE) Z R R' oE top c K:=by
       intro y z sy sz ht hl h1 h2
       subst hl
       have one : ∀{x:bB} {sx:Sc},(grow P E O n top x sx K).ko P E (fun c=>an P E c R R' oE) Z→an P E x R R' oE:=fun hx=>by
        rcases aU hN hs hw n top _ _ K hK hx with⟨o1,s1,k1,k2⟩ | ⟨_,k1⟩
        · exact hK ht o1 s1 k2▸an.weak hs k1 hw
        · exact k1
       refine .inr ⟨ht,an.AJ hs (sJ hs') fun c' dJ=> ?_⟩
       simp only[List.mem_cons,List.not_mem_nil,or_false] at dJ
       rcases dJ with rfl | rfl
       · exact one h1
       · exact one h2
      split at h
      · split at h
        · exact both rfl rfl h.1 h.2
        · exact both rfl rfl h.1 h.2
      · exact h.elim
    · rename_i o' hs'
      exact .inl ⟨o',s,sC hs',h⟩
    · exact h.elim
theorem bg (hN:eZ P) {O:gQ} {n:Nat} {c:bB} {s:Sc} {t:aN} {R R':Hid} {o:Out} (hs:R.fB) (hi : ∀g w H,R g w H→R' g w H) (ht:grow P E O n true c s atEnd=t)
  (h:t.ko P E (fun c=>an P E c R R' o) (fun o1=>o1=o)):an P E c R R' o:=by
 subst ht
 rcases aU hN hs hi n true c s atEnd (fun _ _ _ h=>h) h with⟨o1,s1,h1,h2⟩ | ⟨_,h2⟩
 · have h2:o1=o:=h2
   subst h2
   exact an.weak hs h1 hi
 · exact h2
end
section
variable {P:Program} {E:Env}
theorem aG.memory {f:FuncId} {args:List AV} {m m' m'':Mem} {v:AV} (h:aG P E f args m v m') (hlen:m'.length≤m''.length) (hm : ∀(g:Gh) (w:World),Rel g m' w→Rel g m'' w∧cr g m' w g m'' w):aG P E f args m v m'':=by
 refine⟨h.1,fun g w cK cs hr ha hg=> ?_⟩
 obtain⟨w',g',cv,fr,h1,h2,h3,h4,h5,h6,h7,h8⟩:=h.2 g w cK cs hr ha hg
 obtain⟨k1,k2⟩:=hm g' w' h5
 exact⟨w',g',cv,fr,h1,h2,h3,h4,k1,h6.trans k2,h7,ch h8 hlen⟩
theorem aG.ED {f:FuncId} {args:List AV} {m m':Mem} {v:AV} {i:Nat} {l l':List AV} (h:aG P E f args m v m') (hb:m'[i]? = some (.ac l)) (hl : ∀(g:Gh) (w:World) vs,bN g w l vs→bN g w l' vs):aG P E f args m v (m'.set i (.ac l')):=
 h.memory (by simp) fun g w hr=>hr.AR hb (hl g w)
theorem aG.Pw {f:FuncId} {args:List AV} {m m':Mem} {v:AV} (h:aG P E f args m v m') (i:Nat):aG P E f args m v (m'.set i .dead):=
 h.memory (by simp) fun g w hr=>hr.kill i
theorem aG.Px {f:FuncId} {args:List AV} {m m':Mem} {v:AV} (h:aG P E f args m v m'):aG P E f args m v (m'++[.dead]):=
 h.memory (by simp) fun g w hr=>by
   obtain⟨f1,f2⟩:=hr.bC 1
   obtain⟨k1,k2⟩:=f1.kill m'.length
   have e:(m'++bC 1).set m'.length .dead=m'++[.dead]:=by simp[bC]
   rw[e] at k1 k2
   exact⟨k1,f2.trans k2⟩
theorem dK.Ki {c:bB} {o:Out} {i:Nat} {l l':List AV} (hc:jg c=true) (hb:c.st.mem[i]? = some (.ac l)) (hl : ∀(g:Gh) (w:World) vs,bN g w l vs→bN g w l' vs)
  (h:dK P E {c with st:={c.st with mem:=c.st.mem.set i (.ac l')++[.tok]}} o):dK P E c o:=by
 refine dK.au (fun g fr w hr cs=> ?_) h
 obtain⟨f,todo,st⟩:=c
 obtain⟨tm,nt,mem,fix,bT,bK⟩:=st
 dsimp only at hb h ⊢
 match todo,hc with
 |.code j x::k,_=>
  obtain⟨b,a,q1,q2,q3,q4,q5,q6⟩:=hr
  have hJ:Rel g mem w:=q5.rel
  obtain⟨r1,r2⟩:=hJ.AR hb (hl g w)
  obtain⟨f1,f2⟩:=r1.bC 1
  have hn:(mem.set i (.ac l')++bC 1)[mem.length]? = some .free:=by
   rw[List.getElem?_append_right (by simp)];simp[bC]
  obtain⟨z1,z2⟩:=f1.qw hn
  have hmem:(mem.set i (.ac l')++bC 1).set mem.length .tok=mem.set i (.ac l')++[.tok]:=by
   rw[show mem.length=(mem.set i (.ac l')).length by simp];simp[bC]
  rw[hmem] at z1 z2
  refine⟨g,fr,w,Steps.refl _ _,⟨b,a,q1,q2,q3,q4,⟨q5.tm,q5.nt,z1,?_,q5.cL⟩,q6⟩,(r2.trans f2).trans z2,bn.refl _ _,rfl,rfl,rfl⟩
  have:=q5.fix
  dsimp only at this ⊢
  simp only[ei,List.length_set]
  omega
theorem VA.bare {g:Gh} {w:World} {tok:Option Nat} {n sz:Nat} {X:List PV} {v:Value} (h:VA g w (.os tok n sz X) v):VA g w (.p (.ps n sz X)) v:=by
 cases h with
 |os _ _ _ _ a cap h _=>exact .p _ _ h
theorem VA.Lu {g:Gh} {w:World} {sz:Nat} {v:Value} (hz:1≤sz) (h:VA g w (.os none 0 0 []) v):VA g w (.p (.ps 0 sz [])) v:=by
 cases h with
 |os _ _ _ _ a cap h _=>exact .p _ _ (.mT _ _ _ (.inl hz))
end
end Go.Am
end
section
set_option linter.unusedSimpArgs false
set_option linter.unusedVariables false
namespace Go.Proofs.YtddfgnmjecogdaaDoor.N
open Go Go.Am
theorem Kj {tg:List Int} {j:Nat} (h:j<tg.length):(bW .u32 tg).getD (j*1) .eJ = .sc (.int .u32 (tg[j]'h)):=by
 simp[bW,List.getD_eq_getElem?_getD,h]
theorem RM {t:Option Nat} {n m:Nat} {X Y:List PV} {mm:Mem} (h:X=Y) (h':n=Y.length) (e:m=Y.length):Out.ret (.os t n 1 X) mm = .ret (.os t m 1 Y) mm:=by subst h;rw[h',e]
theorem Ig {l:List Ins} {i:Nat} (h:i<l.length):fc (l.drop i)=gK l[i]++fc (l.drop (i+1)):=by
 rw[List.drop_eq_getElem_cons h,fc]
theorem oL : ∀{l:List Ins} {x:Ins},tA l→x∈l→AQ x
 |y::l,x,h,hx=>by
  simp only[tA] at h
  cases hx with
  |head=>exact h.1
  |tail _ hx=>exact oL h.2 hx
def SP (k:Nat) (B:List PV) (p:Int) (op al:Int) (st:Bool) (nV nP nE nF zV zP zE zF wV wP wE wF:Int→Int→Int→Int) (sV sN sE sF:Int→Int) (f:FuncId) (args:List AV) (m:Mem):Option (AV×Mem):=
 cond (be f 53) (some (.bk [sI .u32 al,sB st],m))
 (cond (be f 64) (match args with | [_,.p (.sc (.int _ p))]=>some (.bk [sI .i32 (sV p),sI .i64 (sN p),.agg [sI .i64 (sE p),sI .i64 (sF p)]],m) | _=>none)
 (match m with
 |[.pc [x,.sc (.int _ p),.sc (.int _ e),.sc (.int _ fa)]]=>
  cond (be f 37) (some (sI .u32 (nV p e fa),[.pc [x,.sc (.int .i64 (nP p e fa)),.sc (.int .i64 (nE p e fa)),.sc (.int .i64 (nF p e fa))]]))
  (cond (be f 39) (match args with
    |[_,.os _ 1 _ _]=>some (sI .u8 (zV p e fa),[.pc [x,.sc (.int .i64 (zP p e fa)),.sc (.int .i64 (zE p e fa)),.sc (.int .i64 (zF p e fa))]])
    |[_,.os _ 2 _ _]=>some (sI .u8 (wV p e fa),[.pc [x,.sc (.int .i64 (wP p e fa)),.sc (.int .i64 (wE p e fa)),.sc (.int .i64 (wF p e fa))]])
    |_=>none) none)
 |_=>none))
def Py (k:Nat) (B:List PV) (p e fa:Int) (op:Int) (n j kk:Nat) (X:List PV) (nV nP nE nF:Int→Int→Int→Int) (f:FuncId) (args:List AV) (m:Mem):Option (AV×Mem):=
 match m with
 |[.pc [x,.sc (.int _ p),.sc (.int _ e),.sc (.int _ fa)]]=>cond (be f 37) (some (sI .u32 (nV p e fa),[.pc [x,.sc (.int .i64 (nP p e fa)),.sc (.int .i64 (nE p e fa)),.sc (.int .i64 (nF p e fa))]])) none
 |_=>none
def RN (k:Nat) (B:List PV) (p e fa:Int) (op:Int) (n j kk:Nat) (X:List PV) (nV nP nE nF:Int→Int→Int→Int):FuncId→Nat→Nat→Option (AV→AV):=eF [(45,30,1,sI .u32 ((j+1:Nat):Int))]
def Pz (k:Nat) (B:List PV) (p:Int) (op:Int) (al:Int) (st:Bool) (nV:Int→Int→Int→Int) (nP:Int→Int→Int→Int) (nE:Int→Int→Int→Int) (nF:Int→Int→Int→Int) (zV:Int→Int→Int→Int) (zP:Int→Int→Int→Int) (zE:Int→Int→Int→Int) (zF:Int→Int→Int→Int) (wV:Int→Int→Int→Int) (wP:Int→Int→Int→Int) (wE:Int→Int→Int→Int) (wF:Int→Int→Int→Int) (sV:Int→Int) (sN:Int→Int) (sE:Int→Int) (sF:Int→Int):gQ:=fy (SP k B p op al st nV nP nE nF zV zP zE zF wV wP wE wF sV sN sE sF) (SP k B p op al st nV nP nE nF zV zP zE zF wV wP wE wF sV sN sE sF) [(45,15)] [(45,0,0),(45,0,2),(45,0,3),(45,0,1),(45,0,4),(45,0,11),(45,0,5),(45,0,6),(45,0,7),(45,0,8),(45,0,9),(45,0,10),(45,0,12),(45,0,13),(45,0,14),(38,0,0),(45,0,17),(45,0,18),(45,0,19),(45,0,20),(45,0,21)] []
def RO:Sc:=(.fork (.yes .fin) (.fork (.yes .fin) (.fork .fin (.fork (.yes .fin) (.fork (.yes .fin) (.fork (.yes .fin) (.fork (.yes .fin) (.fork (.yes .fin) (.fork (.yes .fin) (.fork (.yes .fin) (.fork .fin (.fork .fin (.fork .fin (.fork (.yes .fin) .fin))))))))))))))
def bq (k:Nat) (B:List PV) (p:Int) (op:Int) (nV:Int→Int→Int→Int) (nP:Int→Int→Int→Int) (nE:Int→Int→Int→Int) (nF:Int→Int→Int→Int):aN:=
 (.call ⟨37,[AV.mp 0 0],[aH.pc [PV.ps k 1 B,PV.sc (yb vj p),PV.sc (yb vj 0),PV.sc (yb vj 0)]],AV.p (PV.sc (yb VO (nV p 0 0))),[aH.pc [PV.ps k 1 B,PV.sc (yb vj (nP p 0 0)),PV.sc (yb vj (nE p 0 0)),PV.sc (yb vj (nF p 0 0))]]⟩ (.out (Out.ret (AV.bk []) [aH.pc [PV.ps k 1 B,PV.sc (yb vj (nP p 0 0)),PV.sc (yb vj (nE p 0 0)),PV.sc (yb vj (nF p 0 0))],aH.ac [AV.p (PV.sc (yb vj op)),AV.p (PV.sc (yb vj 0)),AV.p (PV.sc (yb VO (nV p 0 0))),AV.p (PV.sc (yb VO 0)),AV.p (PV.sc (yb V9 0)),cD,cD,cD]])))
def bD (k:Nat) (B:List PV) (p:Int) (op:Int) (wV:Int→Int→Int→Int) (wP:Int→Int→Int→Int) (wE:Int→Int→Int→Int) (wF:Int→Int→Int→Int):aN:=
 (.call ⟨39,[AV.mp 0 0,AV.os VZ 2 1 [PV.sc (yb V8 64),PV.sc (yb V8 127)]],[aH.pc [PV.ps k 1 B,PV.sc (yb vj p),PV.sc (yb vj 0),PV.sc (yb vj 0)]],AV.p (PV.sc (yb V8 (wV p 0 0))),[aH.pc [PV.ps k 1 B,PV.sc (yb vj (wP p 0 0)),PV.sc (yb vj (wE p 0 0)),PV.sc (yb vj (wF p 0 0))]]⟩ (.test (wV p 0 0==127) (.out (Out.ret (AV.bk []) [aH.pc [PV.ps k 1 B,PV.sc (yb vj (wP p 0 0)),PV.sc (yb vj (wE p 0 0)),PV.sc (yb vj (wF p 0 0))],aH.ac [AV.p (PV.sc (yb vj op)),AV.p (PV.sc (yb vj 1)),AV.p (PV.sc (yb VO 0)),AV.p (PV.sc (yb VO 0)),AV.p (PV.sc (yb V9 0)),cD,cD,cD]])) (.out (Out.ret (AV.bk []) [aH.pc [PV.ps k 1 B,PV.sc (yb vj (wP p 0 0)),PV.sc (yb vj (wE p 0 0)),PV.sc (yb vj (wF p 0 0))],aH.ac [AV.p (PV.sc (yb vj op)),AV.p (PV.sc (yb vj 0)),AV.p (PV.sc (yb VO 0)),AV.p (PV.sc (yb VO 0)),AV.p (PV.sc (yb V9 0)),cD,cD,cD]]))))
def bH (k:Nat) (B:List PV) (p:Int) (op:Int) (zV:Int→Int→Int→Int) (zP:Int→Int→Int→Int) (zE:Int→Int→Int→Int) (zF:Int→Int→Int→Int):aN:=
 (.call ⟨39,[AV.mp 0 0,AV.os VZ 1 1 [PV.sc (yb V8 0)]],[aH.pc [PV.ps k 1 B,PV.sc (yb vj p),PV.sc (yb vj 0),PV.sc (yb vj 0)]],AV.p (PV.sc (yb V8 (zV p 0 0))),[aH.pc [PV.ps k 1 B,PV.sc (yb vj (zP p 0 0)),PV.sc (yb vj (zE p 0 0)),PV.sc (yb vj (zF p 0 0))]]⟩ (.out (Out.ret (AV.bk []) [aH.pc [PV.ps k 1 B,PV.sc (yb vj (zP p 0 0)),PV.sc (yb vj (zE p 0 0)),PV.sc (yb vj (zF p 0 0))],aH.ac [AV.p (PV.sc (yb vj op)),AV.p (PV.sc (yb vj 0)),AV.p (PV.sc (yb VO 0)),AV.p (PV.sc (yb VO 0)),AV.p (PV.sc (yb V9 0)),cD,cD,cD]])))
def bI (k:Nat) (B:List PV) (p:Int) (op:Int) (nV:Int→Int→Int→Int) (nP:Int→Int→Int→Int) (nE:Int→Int→Int→Int) (nF:Int→Int→Int→Int):aN:=
 (.at (aj ae env 45 15 [AV.mp 0 0,AV.mp 1 0,AV.p (PV.sc (yb VO (nV p 0 0))),AV.p (PV.sc (yb VO 0))] ([aH.pc [PV.ps k 1 B,PV.sc (yb vj (nP p 0 0)),PV.sc (yb vj (nE p 0 0)),PV.sc (yb vj (nF p 0 0))],aH.ac [AV.p (PV.sc (yb vj op)),AV.p (PV.sc (yb vj 0)),AV.p (PV.sc (yb VO 0)),AV.p (PV.sc (yb VO 0)),AV.p (PV.sc (yb V9 0)),cD,cD,cD]]) 2 145))
def dm (k:Nat) (B:List PV) (p:Int) (op:Int) (al:Int) (st:Bool) (nV:Int→Int→Int→Int) (nP:Int→Int→Int→Int) (nE:Int→Int→Int→Int) (nF:Int→Int→Int→Int) (zV:Int→Int→Int→Int) (zP:Int→Int→Int→Int) (zE:Int→Int→Int→Int) (zF:Int→Int→Int→Int) (wV:Int→Int→Int→Int) (wP:Int→Int→Int→Int) (wE:Int→Int→Int→Int) (wF:Int→Int→Int→Int) (sV:Int→Int) (sN:Int→Int) (sE:Int→Int) (sF:Int→Int):aN:=
 (.test (op==2)
  (.must (op==2)
   (bD k B p op wV wP wE wF))
  (.test (op==3)
   (.must (op==3)
    (bD k B p op wV wP wE wF))
   (.test (op==4)
    (bD k B p op wV wP wE wF)
    (.test (op==12)
     (.must (op==12)
      (bq k B p op nV nP nE nF))
     (.test (op==13)
      (.must (op==13)
       (bq k B p op nV nP nE nF))
      (.test (op==16)
       (.must (op==16)
        (bq k B p op nV nP nE nF))
       (.test (op==32)
        (.must (op==32)
         (bq k B p op nV nP nE nF))
        (.test (op==33)
         (.must (op==33)
          (bq k B p op nV nP nE nF))
         (.test (op==34)
          (.must (op==34)
           (bq k B p op nV nP nE nF))
          (.test (op==35)
           (.must (op==35)
            (bq k B p op nV nP nE nF))
           (.test (op==36)
            (bq k B p op nV nP nE nF)
            (.test (op==17)
             (.call ⟨37,[AV.mp 0 0],[aH.pc [PV.ps k 1 B,PV.sc (yb vj p),PV.sc (yb vj 0),PV.sc (yb vj 0)]],AV.p (PV.sc (yb VO (nV p 0 0))),[aH.pc [PV.ps k 1 B,PV.sc (yb vj (nP p 0 0)),PV.sc (yb vj (nE p 0 0)),PV.sc (yb vj (nF p 0 0))]]⟩
              (.call ⟨39,[AV.mp 0 0,AV.os VZ 1 1 [PV.sc (yb V8 0)]],[aH.pc [PV.ps k 1 B,PV.sc (yb vj (nP p 0 0)),PV.sc (yb vj (nE p 0 0)),PV.sc (yb vj (nF p 0 0))]],AV.p (PV.sc (yb V8 (zV (nP p 0 0) (nE p 0 0) (nF p 0 0)))),[aH.pc [PV.ps k 1 B,PV.sc (yb vj (zP (nP p 0 0) (nE p 0 0) (nF p 0 0))),PV.sc (yb vj (zE (nP p 0 0) (nE p 0 0) (nF p 0 0))),PV.sc (yb vj (zF (nP p 0 0) (nE p 0 0) (nF p 0 0)))]]⟩
               (.out (Out.ret (AV.bk []) [aH.pc [PV.ps k 1 B,PV.sc (yb vj (zP (nP p 0 0) (nE p 0 0) (nF p 0 0))),PV.sc (yb vj (zE (nP p 0 0) (nE p 0 0) (nF p 0 0))),PV.sc (yb vj (zF (nP p 0 0) (nE p 0 0) (nF p 0 0)))],aH.ac [AV.p (PV.sc (yb vj op)),AV.p (PV.sc (yb vj 0)),AV.p (PV.sc (yb VO (nV p 0 0))),AV.p (PV.sc (yb VO 0)),AV.p (PV.sc (yb V9 0)),cD,cD,cD]]))))
             (.test (op==14)
              (.call ⟨37,[AV.mp 0 0],[aH.pc [PV.ps k 1 B,PV.sc (yb vj p),PV.sc (yb vj 0),PV.sc (yb vj 0)]],AV.p (PV.sc (yb VO (nV p 0 0))),[aH.pc [PV.ps k 1 B,PV.sc (yb vj (nP p 0 0)),PV.sc (yb vj (nE p 0 0)),PV.sc (yb vj (nF p 0 0))]]⟩
               (.test (decide (nV p 0 0>16384))
                (.test (!nE p 0 0 != 0)
                 (.at (aj ae env 45 15 [AV.mp 0 0,AV.mp 1 0,AV.p (PV.sc (yb VO (nV p 0 0))),AV.p (PV.sc (yb VO 0))] ([aH.pc [PV.ps k 1 B,PV.sc (yb vj (nP p 0 0)),PV.sc (yb vj 141),PV.sc (yb vj p)],aH.ac [AV.p (PV.sc (yb vj op)),AV.p (PV.sc (yb vj 0)),AV.p (PV.sc (yb VO 0)),AV.p (PV.sc (yb VO 0)),AV.p (PV.sc (yb V9 0)),cD,cD,cD]]) 2 145))
                 (bI k B p op nV nP nE nF))
                (bI k B p op nV nP nE nF)))
              (.test (op==63)
               (.must (op==63)
                (bH k B p op zV zP zE zF))
               (.test (op==64)
                (bH k B p op zV zP zE zF)
                (.test (op==65)
                 (.call ⟨64,[AV.p (PV.ps k 1 B),AV.p (PV.sc (yb vj p))],[],AV.bk [AV.p (PV.sc (yb V9 (sV p))),AV.p (PV.sc (yb vj (sN p))),AV.agg [AV.p (PV.sc (yb vj (sE p))),AV.p (PV.sc (yb vj (sF p)))]],[]⟩
                  (.test (sE p != 0)
                   (.out (Out.ret (AV.bk []) [aH.pc [PV.ps k 1 B,PV.sc (yb vj p),PV.sc (yb vj (sE p)),PV.sc (yb vj (sF p))],aH.ac [AV.p (PV.sc (yb vj op)),AV.p (PV.sc (yb vj 0)),AV.p (PV.sc (yb VO 0)),AV.p (PV.sc (yb VO 0)),AV.p (PV.sc (yb V9 0)),cD,cD,cD]]))
                   (.out (Out.ret (AV.bk []) [aH.pc [PV.ps k 1 B,PV.sc (yb vj (sN p)),PV.sc (yb vj 0),PV.sc (yb vj 0)],aH.ac [AV.p (PV.sc (yb vj op)),AV.p (PV.sc (yb vj 0)),AV.p (PV.sc (yb VO 0)),AV.p (PV.sc (yb VO 0)),AV.p (PV.sc (yb V9 (sV p))),cD,cD,cD]]))))
                 (.call ⟨53,[AV.p (PV.sc (yb vj op))],[],AV.bk [AV.p (PV.sc (yb VO al)),AV.p (PV.sc (Value.bool st))],[]⟩
                  (.test (st)
                   (.call ⟨37,[AV.mp 0 0],[aH.pc [PV.ps k 1 B,PV.sc (yb vj p),PV.sc (yb vj 0),PV.sc (yb vj 0)]],AV.p (PV.sc (yb VO (nV p 0 0))),[aH.pc [PV.ps k 1 B,PV.sc (yb vj (nP p 0 0)),PV.sc (yb vj (nE p 0 0)),PV.sc (yb vj (nF p 0 0))]]⟩
                    (.call ⟨37,[AV.mp 0 0],[aH.pc [PV.ps k 1 B,PV.sc (yb vj (nP p 0 0)),PV.sc (yb vj (nE p 0 0)),PV.sc (yb vj (nF p 0 0))]],AV.p (PV.sc (yb VO (nV (nP p 0 0) (nE p 0 0) (nF p 0 0)))),[aH.pc [PV.ps k 1 B,PV.sc (yb vj (nP (nP p 0 0) (nE p 0 0) (nF p 0 0))),PV.sc (yb vj (nE (nP p 0 0) (nE p 0 0) (nF p 0 0))),PV.sc (yb vj (nF (nP p 0 0) (nE p 0 0) (nF p 0 0)))]]⟩
                     (.out (Out.ret (AV.bk []) [aH.pc [PV.ps k 1 B,PV.sc (yb vj (nP (nP p 0 0) (nE p 0 0) (nF p 0 0))),PV.sc (yb vj (nE (nP p 0 0) (nE p 0 0) (nF p 0 0))),PV.sc (yb vj (nF (nP p 0 0) (nE p 0 0) (nF p 0 0)))],aH.ac [AV.p (PV.sc (yb vj op)),AV.p (PV.sc (yb vj 0)),AV.p (PV.sc (yb VO (nV p 0 0))),AV.p (PV.sc (yb VO (nV (nP p 0 0) (nE p 0 0) (nF p 0 0)))),AV.p (PV.sc (yb V9 0)),cD,cD,cD]]))))
                   (.out (Out.ret (AV.bk []) [aH.pc [PV.ps k 1 B,PV.sc (yb vj p),PV.sc (yb vj 0),PV.sc (yb vj 0)],aH.ac [AV.p (PV.sc (yb vj op)),AV.p (PV.sc (yb vj 0)),AV.p (PV.sc (yb VO 0)),AV.p (PV.sc (yb VO 0)),AV.p (PV.sc (yb V9 0)),cD,cD,cD]]))))))))))))))))))))
theorem Kk (k:Nat) (B:List PV) (p:Int) (op:Int) (al:Int) (st:Bool) (nV:Int→Int→Int→Int) (nP:Int→Int→Int→Int) (nE:Int→Int→Int→Int) (nF:Int→Int→Int→Int) (zV:Int→Int→Int→Int) (zP:Int→Int→Int→Int) (zE:Int→Int→Int→Int) (zF:Int→Int→Int→Int) (wV:Int→Int→Int→Int) (wP:Int→Int→Int→Int) (wE:Int→Int→Int→Int) (wF:Int→Int→Int→Int) (sV:Int→Int) (sN:Int→Int) (sE:Int→Int) (sF:Int→Int):dF ae env (Pz k B p op al st nV nP nE nF zV zP zE zF wV wP wE wF sV sN sE sF) 1000000 45 ([AV.mp 0 0,AV.mp 1 0]) ([aH.pc [PV.ps k 1 B,PV.sc (yb vj p),PV.sc (yb vj 0),PV.sc (yb vj 0)],aH.ac [sI vj op,sI vj 0,sI VO 0,sI VO 0,sI V9 0,AV.os VZ 0 0 [],AV.os VZ 0 0 [],AV.os VZ 0 0 []]]) RO=dm k B p op al st nV nP nE nF zV zP zE zF wV wP wE wF sV sN sE sF:=by kernel_rfl
def M4 (k:Nat) (B:List PV) (p:Int) (e:Int) (fa:Int) (op:Int) (n:Nat) (j:Nat) (kk:Nat) (X:List PV) (nV:Int→Int→Int→Int) (nP:Int→Int→Int→Int) (nE:Int→Int→Int→Int) (nF:Int→Int→Int→Int):gQ:=pY (Py k B p e fa op n j kk X nV nP nE nF) (Py k B p e fa op n j kk X nV nP nE nF) [(45,15)] [(45,29,4),(45,0,16)] [(45,0,17)] (RN k B p e fa op n j kk X nV nP nE nF)
def PA:Sc:=(.fork .fin (.lit .fin))
def lP (k:Nat) (B:List PV) (p:Int) (e:Int) (fa:Int) (op:Int) (kk:Nat) (X:List PV) (nV:Int→Int→Int→Int) (nP:Int→Int→Int→Int) (nE:Int→Int→Int→Int) (nF:Int→Int→Int→Int):aN:=
 (.call ⟨37,[AV.mp 0 0],[aH.pc [PV.ps k 1 B,PV.sc (yb vj p),PV.sc (yb vj e),PV.sc (yb vj fa)]],AV.p (PV.sc (yb VO (nV p e fa))),[aH.pc [PV.ps k 1 B,PV.sc (yb vj (nP p e fa)),PV.sc (yb vj (nE p e fa)),PV.sc (yb vj (nF p e fa))]]⟩ (.out (Out.ret (AV.bk []) [aH.pc [PV.ps k 1 B,PV.sc (yb vj (nP p e fa)),PV.sc (yb vj (nE p e fa)),PV.sc (yb vj (nF p e fa))],aH.ac [AV.p (PV.sc (yb vj op)),AV.p (PV.sc (yb vj 0)),AV.p (PV.sc (yb VO (nV p e fa))),AV.p (PV.sc (yb VO 0)),AV.p (PV.sc (yb V9 0)),AV.os (V0 2) kk 1 X,cD,cD],aH.tok])))
def uU (k:Nat) (B:List PV) (p:Int) (e:Int) (fa:Int) (op:Int) (n:Nat) (j:Nat) (kk:Nat) (X:List PV) (nV:Int→Int→Int→Int) (nP:Int→Int→Int→Int) (nE:Int→Int→Int→Int) (nF:Int→Int→Int→Int):aN:=
 (.test (decide ((↑j:Int)<(↑n:Int)))
  (.test (!e != 0)
   (.call ⟨37,[AV.mp 0 0],[aH.pc [PV.ps k 1 B,PV.sc (yb vj p),PV.sc (yb vj e),PV.sc (yb vj fa)]],AV.p (PV.sc (yb VO (nV p e fa))),[aH.pc [PV.ps k 1 B,PV.sc (yb vj (nP p e fa)),PV.sc (yb vj (nE p e fa)),PV.sc (yb vj (nF p e fa))]]⟩
   (.must (((kk+1)*4).ble b7&&(kk+1).ble b7&&true&&true&&true)
    (.need (AV.p (PV.sc (yb VO (VO.wrap ((↑j:Int)+1))))=sI VO (↑(j+1):Int))
     (.at (aj ae env 45 15 [AV.mp 0 0,AV.mp 1 0,AV.p (PV.sc (yb VO (↑n:Int))),AV.p (PV.sc (yb VO (↑(j+1):Int)))] ([aH.pc [PV.ps k 1 B,PV.sc (yb vj (nP p e fa)),PV.sc (yb vj (nE p e fa)),PV.sc (yb vj (nF p e fa))],aH.ac [AV.p (PV.sc (yb vj op)),AV.p (PV.sc (yb vj 0)),AV.p (PV.sc (yb VO 0)),AV.p (PV.sc (yb VO 0)),AV.p (PV.sc (yb V9 0)),AV.os (V0 2) (kk+1) 1 (X++[PV.sc (yb VO (nV p e fa))]),cD,cD],aH.tok]) 2 145)))))
   (lP k B p e fa op kk X nV nP nE nF))
  (lP k B p e fa op kk X nV nP nE nF))
theorem xl (k:Nat) (B:List PV) (p:Int) (e:Int) (fa:Int) (op:Int) (n:Nat) (j:Nat) (kk:Nat) (X:List PV) (nV:Int→Int→Int→Int) (nP:Int→Int→Int→Int) (nE:Int→Int→Int→Int) (nF:Int→Int→Int→Int):grow ae env (M4 k B p e fa op n j kk X nV nP nE nF) 1000000 true (aj ae env 45 15 ([AV.mp 0 0,AV.mp 1 0,sI VO (↑n:Int),sI VO (↑j:Int)]) ([aH.pc [PV.ps k 1 B,PV.sc (yb vj p),PV.sc (yb vj e),PV.sc (yb vj fa)],aH.ac [sI vj op,sI vj 0,sI VO 0,sI VO 0,sI V9 0,AV.os (V0 2) kk 1 X,AV.os VZ 0 0 [],AV.os VZ 0 0 []],aH.tok]) 2 145) PA atEnd=uU k B p e fa op n j kk X nV nP nE nF:=by kernel_rfl
def FO (b:List Nat) (p e fa:Int):Int:=(aA b ⟨p.toNat,e.toNat,fa.toNat⟩).1
def Ih (b:List Nat) (p e fa:Int):Int:=(aA b ⟨p.toNat,e.toNat,fa.toNat⟩).2.p
def FP (b:List Nat) (p e fa:Int):Int:=(aA b ⟨p.toNat,e.toNat,fa.toNat⟩).2.e
def Ii (b:List Nat) (p e fa:Int):Int:=(aA b ⟨p.toNat,e.toNat,fa.toNat⟩).2.fa
def Jl (ok:Nat→Bool) (b:List Nat) (p e fa:Int):Int:=(cO ok b ⟨p.toNat,e.toNat,fa.toNat⟩).1
def NT (ok:Nat→Bool) (b:List Nat) (p e fa:Int):Int:=(cO ok b ⟨p.toNat,e.toNat,fa.toNat⟩).2.p
def NU (ok:Nat→Bool) (b:List Nat) (p e fa:Int):Int:=(cO ok b ⟨p.toNat,e.toNat,fa.toNat⟩).2.e
def NV (ok:Nat→Bool) (b:List Nat) (p e fa:Int):Int:=(cO ok b ⟨p.toNat,e.toNat,fa.toNat⟩).2.fa
def T1 (b:List Nat) (p:Int):Int:=CK b p.toNat
def T2 (b:List Nat) (p:Int):Int:=xL b p.toNat
def RP (b:List Nat) (p:Int):Int:=(gS b p.toNat).e
def T3 (b:List Nat) (p:Int):Int:=(gS b p.toNat).fa
def aY (b:List Nat):Nat→RS→List Int×RS
 |0,s=>([],s)
 |f+1,s=>if s.e≠0 then([],s) else(((aA b s).1:Int)::(aY b f (aA b s).2).1,(aY b f (aA b s).2).2)
def ah (b:List Nat) (op:Int) (p:Nat):Ins×RS:=
 if dx op=true then(.mk op (if(cO rL b ⟨p,0,0⟩).1=127 then 1 else 0) 0 0 0 [] [] [],(cO rL b ⟨p,0,0⟩).2)
 else if op=17 then(.mk op 0 (aA b ⟨p,0,0⟩).1 0 0 [] [] [],(cO xK b (aA b ⟨p,0,0⟩).2).2)
 else if gh op=true then(.mk op 0 (aA b ⟨p,0,0⟩).1 0 0 [] [] [],(aA b ⟨p,0,0⟩).2)
 else if op=14 then
  (.mk op 0 (aA b (aY b (aA b ⟨p,0,0⟩).1 (if 16384<(aA b ⟨p,0,0⟩).1∧(aA b ⟨p,0,0⟩).2.e=0 then⟨(aA b ⟨p,0,0⟩).2.p,141,p⟩ else(aA b ⟨p,0,0⟩).2)).2).1 0 0
     (aY b (aA b ⟨p,0,0⟩).1 (if 16384<(aA b ⟨p,0,0⟩).1∧(aA b ⟨p,0,0⟩).2.e=0 then⟨(aA b ⟨p,0,0⟩).2.p,141,p⟩ else(aA b ⟨p,0,0⟩).2)).1 [] [],
    (aA b (aY b (aA b ⟨p,0,0⟩).1 (if 16384<(aA b ⟨p,0,0⟩).1∧(aA b ⟨p,0,0⟩).2.e=0 then⟨(aA b ⟨p,0,0⟩).2.p,141,p⟩ else(aA b ⟨p,0,0⟩).2)).2).2)
 else if op=63∨op=64 then(.mk op 0 0 0 0 [] [] [],(cO xK b ⟨p,0,0⟩).2)
 else if op=65 then(if(gS b p).e≠0 then(.mk op 0 0 0 0 [] [] [],⟨p,(gS b p).e,(gS b p).fa⟩) else(.mk op 0 0 0 (CK b p) [] [] [],⟨xL b p,0,0⟩))
 else if dG op=true then(.mk op 0 (aA b ⟨p,0,0⟩).1 (aA b (aA b ⟨p,0,0⟩).2).1 0 [] [] [],(aA b (aA b ⟨p,0,0⟩).2).2)
 else(.mk op 0 0 0 0 [] [] [],⟨p,0,0⟩)
def M5 (op:Int):List AV:=[sI .i64 op,sI .i64 0,sI .u32 0,sI .u32 0,sI .i32 0,.os none 0 0 [],.os none 0 0 [],.os none 0 0 []]
def Kl:Ins→List AV
 |.mk op r a b nn tg _ _=>[sI .i64 op,sI .i64 r,sI .u32 a,sI .u32 b,sI .i32 nn,.p (.ps tg.length 1 (bW .u32 tg)),.os none 0 0 [],.os none 0 0 []]
theorem uV {b:List Nat} {s:RS}:(aA b s).1<4294967296:=by
 unfold aA
 split
 · exact cp _
 · split
   · exact cp _
   · exact Nat.mod_lt _ (by decide)
theorem zz {b:List Nat} : ∀(f:Nat) {s:RS},cP b s→cP b (aY b f s).2
 |0,_,h=>h
 |f+1,s,h=>by
  unfold aY
  split
  · exact h
  · exact zz f (dy h)
theorem Ij {b:List Nat} {op:Int} {n:Nat} (hn:n<4294967296) : ∀(f j:Nat) (s:RS) (X:List PV),cP b s→j+f=n→(s.e=0→n≤16384)→X.length≤j →
  dK ae env (aj ae env 45 15 [.mp 0 0,.mp 1 0,sI .u32 n,sI .u32 j] [s.aP b,.ac [sI .i64 op,sI .i64 0,sI .u32 0,sI .u32 0,sI .i32 0,.os (some 2) X.length 1 X,.os none 0 0 [],.os none 0 0 []],.tok] 2 145)
   (.ret (.bk []) [(aA b (aY b f s).2).2.aP b,.ac [sI .i64 op,sI .i64 0,sI .u32 (aA b (aY b f s).2).1,sI .u32 0,sI .i32 0,.os (some 2) (X++bW .u32 (aY b f s).1).length 1 (X++bW .u32 (aY b f s).1),.os none 0 0 [],.os none 0 0 []],.tok]):=by
 have cY:b7=70368744177664:=rfl
 intro f
 induction f with
 |zero=>
  intro j s X hs hj he hX
  have FQ:=jA hs
  have d:decide ((j:Int)<(n:Int))=false:=decide_eq_false (by omega)
  obtain⟨p,e,fa⟩:=s
  refine aC cV (xl b.length (bt b) p e fa op n j X.length X (FO b) (Ih b) (FP b) (Ii b)) ?_
  simp only[uU,lP,ct,aN.ok,d,rh,false_implies,true_implies,true_and,FO,Ih,FP,Ii,V5,aY]
  exact⟨FQ,by simp[bW,RS.aP]⟩
 |succ f ih=>
  intro j s X hs hj he hX
  have FQ:=jA hs
  have d:decide ((j:Int)<(n:Int))=true:=decide_eq_true (by omega)
  have w:VO.wrap ((j:Int)+1)=((j+1:Nat):Int):=by rw[zm (by omega) (by omega)];rfl
  by_cases h0:s.e=0
  · have hn2:=he h0
    have k:=ih (j+1) (aA b s).2 (X++[.sc (.int .u32 ((aA b s).1:Int))]) (dy hs) (by omega) (fun _=>hn2) (by simp only[ei,pa,VS];omega)
    have e1:aY b (f+1) s=(((aA b s).1:Int)::(aY b f (aA b s).2).1,(aY b f (aA b s).2).2):=by rw[aY,if_neg (by simpa using h0)]
    have e2:(X++[.sc (.int .u32 ((aA b s).1:Int))])++bW .u32 (aY b f (aA b s).2).1=X++bW .u32 (((aA b s).1:Int)::(aY b f (aA b s).2).1):=by simp[bW]
    rw[e2] at k
    rw[e1]
    dsimp only
    obtain⟨p,e,fa⟩:=s
    dsimp only at h0
    subst h0
    refine aC cV (xl b.length (bt b) p 0 fa op n j X.length X (FO b) (Ih b) (FP b) (Ii b)) ?_
    simp only[uU,lP,ct,aN.ok,d,show(!((0:Int) != 0))=true from rfl,Wa,rh,false_implies,true_implies,true_and,and_true,FO,Ih,FP,Ii,V5,Int.toNat_zero,w,cY,Nat.ble_eq,Bool.and_eq_true]
    refine⟨FQ,⟨by omega,by omega⟩,?_⟩
    simp only[ei,pa,VS,Nat.zero_add] at k ⊢
    exact k
  · have e1:aY b (f+1) s=([],s):=by rw[aY,if_pos h0]
    rw[e1]
    obtain⟨p,e,fa⟩:=s
    dsimp only at h0
    have de:(!((e:Int) != 0))=false:=by rw[rB,decide_eq_true h0];rfl
    refine aC cV (xl b.length (bt b) p e fa op n j X.length X (FO b) (Ih b) (FP b) (Ii b)) ?_
    simp only[uU,lP,ct,aN.ok,d,de,Wa,rh,false_implies,true_implies,true_and,and_true,FO,Ih,FP,Ii,V5]
    exact⟨FQ,by simp[bW,RS.aP]⟩
theorem Ik {g:Gh} {w:World} : ∀(a b c d e:AV) (vs:List Value),bN g w [a,b,c,d,e,.os none 0 0 [],.os none 0 0 [],.os none 0 0 []] vs→bN g w [a,b,c,d,e,.os (some 2) 0 1 [],.os none 0 0 [],.os none 0 0 []] vs
 |_,_,_,_,_,[_,_,_,_,_,_,_,_],⟨h1,h2,h3,h4,h5,h6,h7,h8,h9⟩=>⟨h1,h2,h3,h4,h5,VA.qc (df 1) h6,h7,h8,h9⟩
theorem Il {g:Gh} {w:World} : ∀(a b c d e:AV) (vs:List Value),bN g w [a,b,c,d,e,.os none 0 0 [],.os none 0 0 [],.os none 0 0 []] vs→bN g w [a,b,c,d,e,.p (.ps 0 1 []),.os none 0 0 [],.os none 0 0 []] vs
 |_,_,_,_,_,[_,_,_,_,_,_,_,_],⟨h1,h2,h3,h4,h5,h6,h7,h8,h9⟩=>⟨h1,h2,h3,h4,h5,VA.Lu (df 1) h6,h7,h8,h9⟩
theorem Im {g:Gh} {w:World} {t:Option Nat} {n:Nat} {X:List PV} : ∀(a b c d e:AV) (vs:List Value),bN g w [a,b,c,d,e,.os t n 1 X,.os none 0 0 [],.os none 0 0 []] vs→bN g w [a,b,c,d,e,.p (.ps n 1 X),.os none 0 0 [],.os none 0 0 []] vs
 |_,_,_,_,_,[_,_,_,_,_,_,_,_],⟨h1,h2,h3,h4,h5,h6,h7,h8,h9⟩=>⟨h1,h2,h3,h4,h5,VA.bare h6,h7,h8,h9⟩
theorem DG {b:List Nat} {op:Int} {n:Nat} (hn:n<4294967296) {s2:RS} (Je:cP b s2) (he:s2.e=0→n≤16384) :
  dK ae env (aj ae env 45 15 [.mp 0 0,.mp 1 0,sI .u32 n,sI .u32 0] [s2.aP b,.ac [sI .i64 op,sI .i64 0,sI .u32 0,sI .u32 0,sI .i32 0,.os none 0 0 [],.os none 0 0 [],.os none 0 0 []]] 2 145)
   (.ret (.bk []) [(aA b (aY b n s2).2).2.aP b,.ac [sI .i64 op,sI .i64 0,sI .u32 (aA b (aY b n s2).2).1,sI .u32 0,sI .i32 0,.os (some 2) (bW .u32 (aY b n s2).1).length 1 (bW .u32 (aY b n s2).1),.os none 0 0 [],.os none 0 0 []],.tok]):=by
 have k:=Ij (op:=op) hn n 0 s2 [] Je (by omega) he (df _)
 rw[List.nil_append] at k
 exact dK.Ki (i:=1) (l':=[sI .i64 op,sI .i64 0,sI .u32 0,sI .u32 0,sI .i32 0,.os (some 2) 0 1 [],.os none 0 0 [],.os none 0 0 []]) rfl rfl (fun g w vs=>Ik _ _ _ _ _ vs) k
theorem fO {b:List Nat} {op r a bb nn:Int} {p0:Nat} {s:RS} {m0:Mem} (h:aG ae env 45 [.mp 0 0,.mp 1 0] m0 (.bk []) [s.aP b,.ac [sI .i64 op,sI .i64 r,sI .u32 a,sI .u32 bb,sI .i32 nn,.os none 0 0 [],.os none 0 0 [],.os none 0 0 []]]) :
  aG ae env 45 [.mp 0 0,.mp 1 0] m0 (.bk []) [s.aP b,.ac (Kl (.mk op r a bb nn [] [] [])),.dead]:=
 (h.ED (i:=1) rfl fun g w vs=>Il _ _ _ _ _ vs).Px
set_option maxHeartbeats 8000000 in
theorem sZ {b:List Nat} {op:Int} {p:Nat} (hf:cP b ⟨p,0,0⟩):aG ae env 45 [.mp 0 0,.mp 1 0] [RS.aP b ⟨p,0,0⟩,.ac (M5 op)] (.bk []) [(ah b op p).2.aP b,.ac (Kl (ah b op p).1),.dead]:=by
 have cY:b7=70368744177664:=rfl
 have t1:=Kk b.length (bt b) p op (xd op) (dG op) (FO b) (Ih b) (FP b) (Ii b) (Jl xK b) (NT xK b) (NU xK b) (NV xK b) (Jl rL b) (NT rL b) (NU rL b) (NV rL b) (T1 b) (T2 b) (RP b) (T3 b)
 have a1:=qb op
 have d1:=jA hf
 have d2:=DF hf
 have d3:=xk hf
 have d4:=FN hf
 have d5:=jA (dy hf)
 have d6:=xk (dy hf)
 cases cR:dx op with
 |true=>
  have hop:(op==2)=true∨((op==2)=false∧(op==3)=true)∨((op==2)=false∧(op==3)=false∧(op==4)=true):=by
   rcases dV.1 cR with rfl | rfl | rfl
   · exact .inl rfl
   · exact .inr (.inl ⟨rfl,rfl⟩)
   · exact .inr (.inr ⟨rfl,rfl,rfl⟩)
  have e:ah b op p=(.mk op (if(cO rL b ⟨p,0,0⟩).1=127 then 1 else 0) 0 0 0 [] [] [],(cO rL b ⟨p,0,0⟩).2):=by rw[ah,if_pos cR]
  rw[e]
  refine fO (p0:=p) (ak cV t1 ?_)
  by_cases hw:(cO rL b ⟨p,0,0⟩).1=127
  · have dw:(Jl rL b p 0 0==127)=true:=by
     have:Jl rL b p 0 0=127:=by show(((cO rL b ⟨p,0,0⟩).1:Nat):Int)=127;omega
     rw[this];rfl
    rcases hop with o2 | ⟨o2,o3⟩ | ⟨o2,o3,o4⟩
    · simp only[dm,bq,bD,bH,bI,ct,aN.ok,o2,dw,Wa,rh,false_implies,true_implies,true_and,and_true]
      exact⟨d2,by rw[if_pos hw];rfl⟩
    · simp only[dm,bq,bD,bH,bI,ct,aN.ok,o2,o3,dw,Wa,rh,false_implies,true_implies,true_and,and_true]
      exact⟨d2,by rw[if_pos hw];rfl⟩
    · simp only[dm,bq,bD,bH,bI,ct,aN.ok,o2,o3,o4,dw,Wa,rh,false_implies,true_implies,true_and,and_true]
      exact⟨d2,by rw[if_pos hw];rfl⟩
  · have dw:(Jl rL b p 0 0==127)=false:=by
     cases h:(Jl rL b p 0 0==127) with
     |false=>rfl
     |true=>
      have h:=eq_of_beq h
      have:(((cO rL b ⟨p,0,0⟩).1:Nat):Int)=127:=h
      omega
    rcases hop with o2 | ⟨o2,o3⟩ | ⟨o2,o3,o4⟩
    · simp only[dm,bq,bD,bH,bI,ct,aN.ok,o2,dw,Wa,rh,false_implies,true_implies,true_and,and_true]
      exact⟨d2,by rw[if_neg hw];rfl⟩
    · simp only[dm,bq,bD,bH,bI,ct,aN.ok,o2,o3,dw,Wa,rh,false_implies,true_implies,true_and,and_true]
      exact⟨d2,by rw[if_neg hw];rfl⟩
    · simp only[dm,bq,bD,bH,bI,ct,aN.ok,o2,o3,o4,dw,Wa,rh,false_implies,true_implies,true_and,and_true]
      exact⟨d2,by rw[if_neg hw];rfl⟩
 |false=>
  have n2:(op==2)=false:=by cases h:op==2 with | false=>rfl | true=>rw[dV.2 (.inl (eq_of_beq h))] at cR;cases cR
  have n3:(op==3)=false:=by cases h:op==3 with | false=>rfl | true=>rw[dV.2 (.inr (.inl (eq_of_beq h)))] at cR;cases cR
  have n4:(op==4)=false:=by cases h:op==4 with | false=>rfl | true=>rw[dV.2 (.inr (.inr (eq_of_beq h)))] at cR;cases cR
  have Km : ¬dx op=true:=by rw[cR];decide
  by_cases fS:op=17
  · have e:ah b op p=(.mk op 0 (aA b ⟨p,0,0⟩).1 0 0 [] [] [],(cO xK b (aA b ⟨p,0,0⟩).2).2):=by rw[ah,if_neg Km,if_pos fS]
    rw[e]
    refine fO (p0:=p) (ak cV t1 ?_)
    simp only[dm,bq,bD,bH,bI,ct,aN.ok,n2,n3,n4,show(op==12)=false from by rw[fS];rfl,show(op==13)=false from by rw[fS];rfl,show(op==16)=false from by rw[fS];rfl,show(op==32)=false from by rw[fS];rfl,show(op==33)=false from by rw[fS];rfl,show(op==34)=false from by rw[fS];rfl,show(op==35)=false from by rw[fS];rfl,show(op==36)=false from by rw[fS];rfl,show(op==17)=true from by rw[fS];rfl,Wa,rh,false_implies,true_implies,true_and,and_true]
    exact⟨d1,d6,rfl⟩
  · have Bc:(op==17)=false:=by simpa using fS
    cases j6:gh op with
    |true=>
     have e:ah b op p=(.mk op 0 (aA b ⟨p,0,0⟩).1 0 0 [] [] [],(aA b ⟨p,0,0⟩).2):=by rw[ah,if_neg Km,if_neg fS,if_pos j6]
     rw[e]
     refine fO (p0:=p) (ak cV t1 ?_)
     have hop:op=12∨op=13∨op=16∨op=32∨op=33∨op=34∨op=35∨op=36:=by
      have:=lO.1 j6
      clear t1 a1 d1 d2 d3 d4 d5 d6 e
      omega
     clear e
     rcases hop with rfl | rfl | rfl | rfl | rfl | rfl | rfl | rfl
     · simp only[dm,bq,bD,bH,bI,ct,aN.ok,Wk,Wa,rh,false_implies,true_implies,true_and,and_true]
       exact⟨d1,rfl⟩
     · simp only[dm,bq,bD,bH,bI,ct,aN.ok,Wk,Wa,rh,false_implies,true_implies,true_and,and_true]
       exact⟨d1,rfl⟩
     · simp only[dm,bq,bD,bH,bI,ct,aN.ok,Wk,Wa,rh,false_implies,true_implies,true_and,and_true]
       exact⟨d1,rfl⟩
     · simp only[dm,bq,bD,bH,bI,ct,aN.ok,Wk,Wa,rh,false_implies,true_implies,true_and,and_true]
       exact⟨d1,rfl⟩
     · simp only[dm,bq,bD,bH,bI,ct,aN.ok,Wk,Wa,rh,false_implies,true_implies,true_and,and_true]
       exact⟨d1,rfl⟩
     · simp only[dm,bq,bD,bH,bI,ct,aN.ok,Wk,Wa,rh,false_implies,true_implies,true_and,and_true]
       exact⟨d1,rfl⟩
     · simp only[dm,bq,bD,bH,bI,ct,aN.ok,Wk,Wa,rh,false_implies,true_implies,true_and,and_true]
       exact⟨d1,rfl⟩
     · simp only[dm,bq,bD,bH,bI,ct,aN.ok,Wk,Wa,rh,false_implies,true_implies,true_and,and_true]
       exact⟨d1,rfl⟩
    |false=>
     have M6 : ¬gh op=true:=by rw[j6];decide
     have m : ∀c:Int,gh c=true→(op==c)=false:=fun c hc=>by cases h:op==c with | false=>rfl | true=>rw[eq_of_beq h,hc] at j6;cases j6
     by_cases j7:op=14
     · have Bd:(op==14)=true:=by rw[j7];rfl
       have e:ah b op p=(.mk op 0 (aA b (aY b (aA b ⟨p,0,0⟩).1 (if 16384<(aA b ⟨p,0,0⟩).1∧(aA b ⟨p,0,0⟩).2.e=0 then⟨(aA b ⟨p,0,0⟩).2.p,141,p⟩ else(aA b ⟨p,0,0⟩).2)).2).1 0 0
        (aY b (aA b ⟨p,0,0⟩).1 (if 16384<(aA b ⟨p,0,0⟩).1∧(aA b ⟨p,0,0⟩).2.e=0 then⟨(aA b ⟨p,0,0⟩).2.p,141,p⟩ else(aA b ⟨p,0,0⟩).2)).1 [] [],
        (aA b (aY b (aA b ⟨p,0,0⟩).1 (if 16384<(aA b ⟨p,0,0⟩).1∧(aA b ⟨p,0,0⟩).2.e=0 then⟨(aA b ⟨p,0,0⟩).2.p,141,p⟩ else(aA b ⟨p,0,0⟩).2)).2).2):=by
        rw[ah,if_neg Km,if_neg fS,if_neg M6,if_pos j7]
       rw[e]
       have hn:=uV (b:=b) (s:=⟨p,0,0⟩)
       have hfit:=dy hf
       have C9:p≤b.length:=hf.p
       have loop:=fun(s2:RS) (Je:cP b s2) (he:s2.e=0→(aA b ⟨p,0,0⟩).1≤16384)=>DG (op:=op) hn Je he
       have fin : ∀s2:RS,aG ae env 45 [.mp 0 0,.mp 1 0] [RS.aP b ⟨p,0,0⟩,.ac (M5 op)] (.bk []) [(aA b (aY b (aA b ⟨p,0,0⟩).1 s2).2).2.aP b,.ac [sI .i64 op,sI .i64 0,sI .u32 (aA b (aY b (aA b ⟨p,0,0⟩).1 s2).2).1,sI .u32 0,sI .i32 0,.os (some 2) (bW .u32 (aY b (aA b ⟨p,0,0⟩).1 s2).1).length 1 (bW .u32 (aY b (aA b ⟨p,0,0⟩).1 s2).1),.os none 0 0 [],.os none 0 0 []],.tok] →
        aG ae env 45 [.mp 0 0,.mp 1 0] [RS.aP b ⟨p,0,0⟩,.ac (M5 op)] (.bk []) [(aA b (aY b (aA b ⟨p,0,0⟩).1 s2).2).2.aP b,.ac (Kl (.mk op 0 (aA b (aY b (aA b ⟨p,0,0⟩).1 s2).2).1 0 0 (aY b (aA b ⟨p,0,0⟩).1 s2).1 [] [])),.dead]:=fun s2 h=>by
        have h1:=(h.Pw 2).ED (i:=1) (l':=Kl (.mk op 0 (aA b (aY b (aA b ⟨p,0,0⟩).1 s2).2).1 0 0 (aY b (aA b ⟨p,0,0⟩).1 s2).1 [] [])) rfl (fun g w vs hv=>by
         have:=Im _ _ _ _ _ vs hv
         rw[show(bW .u32 (aY b (aA b ⟨p,0,0⟩).1 s2).1).length=(aY b (aA b ⟨p,0,0⟩).1 s2).1.length by simp[bW]] at this
         exact this)
        exact h1
       refine fin _ (ak cV t1 ?_)
       by_cases C2:16384<(aA b ⟨p,0,0⟩).1
       · have Kn:decide (FO b p 0 0>16384)=true:=decide_eq_true (by show((aA b ⟨p,0,0⟩).1:Int)>16384;omega)
         by_cases he:(aA b ⟨p,0,0⟩).2.e=0
         · have de:(!(FP b p 0 0 != 0))=true:=by show(!(((aA b ⟨p,0,0⟩).2.e:Int) != 0))=true;rw[he];rfl
           rw[if_pos ⟨C2,he⟩]
           simp only[dm,bq,bD,bH,bI,ct,aN.ok,n2,n3,n4,m 12 rfl,m 13 rfl,m 16 rfl,m 32 rfl,m 33 rfl,m 34 rfl,m 35 rfl,m 36 rfl,Bc,Bd,Kn,de,Wa,rh,false_implies,true_implies,true_and,and_true]
           exact⟨d1,loop ⟨(aA b ⟨p,0,0⟩).2.p,141,p⟩ ⟨hfit.gi,hfit.len,hfit.p⟩ (fun h=>by cases h)⟩
         · have de:(!(FP b p 0 0 != 0))=false:=by show(!(((aA b ⟨p,0,0⟩).2.e:Int) != 0))=false;rw[rB,decide_eq_true he];rfl
           rw[if_neg (fun h=>he h.2)]
           simp only[dm,bq,bD,bH,bI,ct,aN.ok,n2,n3,n4,m 12 rfl,m 13 rfl,m 16 rfl,m 32 rfl,m 33 rfl,m 34 rfl,m 35 rfl,m 36 rfl,Bc,Bd,Kn,de,Wa,rh,false_implies,true_implies,true_and,and_true]
           exact⟨d1,loop (aA b ⟨p,0,0⟩).2 hfit (fun h=>absurd h he)⟩
       · have Kn:decide (FO b p 0 0>16384)=false:=decide_eq_false (by show ¬((aA b ⟨p,0,0⟩).1:Int)>16384;omega)
         rw[if_neg (fun h=>C2 h.1)]
         simp only[dm,bq,bD,bH,bI,ct,aN.ok,n2,n3,n4,m 12 rfl,m 13 rfl,m 16 rfl,m 32 rfl,m 33 rfl,m 34 rfl,m 35 rfl,m 36 rfl,Bc,Bd,Kn,Wa,rh,false_implies,true_implies,true_and,and_true]
         exact⟨d1,loop (aA b ⟨p,0,0⟩).2 hfit (fun _=>by omega)⟩
     · have Bd:(op==14)=false:=by simpa using j7
       by_cases h63:op=63
       · have e:ah b op p=(.mk op 0 0 0 0 [] [] [],(cO xK b ⟨p,0,0⟩).2):=by rw[ah,if_neg Km,if_neg fS,if_neg M6,if_neg j7,if_pos (.inl h63)]
         rw[e]
         refine fO (p0:=p) (ak cV t1 ?_)
         simp only[dm,bq,bD,bH,bI,ct,aN.ok,n2,n3,n4,m 12 rfl,m 13 rfl,m 16 rfl,m 32 rfl,m 33 rfl,m 34 rfl,m 35 rfl,m 36 rfl,Bc,Bd,show(op==63)=true from by rw[h63];rfl,Wa,rh,false_implies,true_implies,true_and,and_true]
         exact⟨d3,rfl⟩
       · have F7:(op==63)=false:=by simpa using h63
         by_cases FR:op=64
         · have e:ah b op p=(.mk op 0 0 0 0 [] [] [],(cO xK b ⟨p,0,0⟩).2):=by rw[ah,if_neg Km,if_neg fS,if_neg M6,if_neg j7,if_pos (.inr FR)]
           rw[e]
           refine fO (p0:=p) (ak cV t1 ?_)
           simp only[dm,bq,bD,bH,bI,ct,aN.ok,n2,n3,n4,m 12 rfl,m 13 rfl,m 16 rfl,m 32 rfl,m 33 rfl,m 34 rfl,m 35 rfl,m 36 rfl,Bc,Bd,F7,show(op==64)=true from by rw[FR];rfl,Wa,rh,false_implies,true_implies,true_and,and_true]
           exact⟨d3,rfl⟩
         · have Jm:(op==64)=false:=by simpa using FR
           have n6 : ¬(op=63∨op=64):=fun h=>h.elim h63 FR
           by_cases qg:op=65
           · have Jn:(op==65)=true:=by rw[qg];rfl
             by_cases hg:(gS b p).e≠0
             · have e:ah b op p=(.mk op 0 0 0 0 [] [] [],⟨p,(gS b p).e,(gS b p).fa⟩):=by rw[ah,if_neg Km,if_neg fS,if_neg M6,if_neg j7,if_neg n6,if_pos qg,if_pos hg]
               have de:(RP b p != 0)=true:=by show(((gS b p).e:Int) != 0)=true;rw[rB];exact decide_eq_true hg
               rw[e]
               refine fO (p0:=p) (ak cV t1 ?_)
               simp only[dm,bq,bD,bH,bI,ct,aN.ok,n2,n3,n4,m 12 rfl,m 13 rfl,m 16 rfl,m 32 rfl,m 33 rfl,m 34 rfl,m 35 rfl,m 36 rfl,Bc,Bd,F7,Jm,Jn,de,Wa,rh,false_implies,true_implies,true_and,and_true]
               exact⟨d4,rfl⟩
             · have e:ah b op p=(.mk op 0 0 0 (CK b p) [] [] [],⟨xL b p,0,0⟩):=by rw[ah,if_neg Km,if_neg fS,if_neg M6,if_neg j7,if_neg n6,if_pos qg,if_neg hg]
               have de:(RP b p != 0)=false:=by show(((gS b p).e:Int) != 0)=false;rw[rB];exact decide_eq_false hg
               rw[e]
               refine fO (p0:=p) (ak cV t1 ?_)
               simp only[dm,bq,bD,bH,bI,ct,aN.ok,n2,n3,n4,m 12 rfl,m 13 rfl,m 16 rfl,m 32 rfl,m 33 rfl,m 34 rfl,m 35 rfl,m 36 rfl,Bc,Bd,F7,Jm,Jn,de,Wa,rh,false_implies,true_implies,true_and,and_true]
               exact⟨d4,rfl⟩
           · have Jn:(op==65)=false:=by simpa using qg
             cases hst:dG op with
             |true=>
              rw[hst] at a1 t1
              have e:ah b op p=(.mk op 0 (aA b ⟨p,0,0⟩).1 (aA b (aA b ⟨p,0,0⟩).2).1 0 [] [] [],(aA b (aA b ⟨p,0,0⟩).2).2):=by rw[ah,if_neg Km,if_neg fS,if_neg M6,if_neg j7,if_neg n6,if_neg qg,if_pos hst]
              rw[e]
              refine fO (p0:=p) (ak cV t1 ?_)
              simp only[dm,bq,bD,bH,bI,ct,aN.ok,n2,n3,n4,m 12 rfl,m 13 rfl,m 16 rfl,m 32 rfl,m 33 rfl,m 34 rfl,m 35 rfl,m 36 rfl,Bc,Bd,F7,Jm,Jn,Wa,rh,false_implies,true_implies,true_and,and_true]
              exact⟨a1,d1,d5,rfl⟩
             |false=>
              rw[hst] at a1 t1
              have e:ah b op p=(.mk op 0 0 0 0 [] [] [],⟨p,0,0⟩):=by rw[ah,if_neg Km,if_neg fS,if_neg M6,if_neg j7,if_neg n6,if_neg qg,if_neg (by rw[hst];decide)]
              rw[e]
              refine fO (p0:=p) (ak cV t1 ?_)
              simp only[dm,bq,bD,bH,bI,ct,aN.ok,n2,n3,n4,m 12 rfl,m 13 rfl,m 16 rfl,m 32 rfl,m 33 rfl,m 34 rfl,m 35 rfl,m 36 rfl,Bc,Bd,F7,Jm,Jn,Wa,rh,false_implies,true_implies,true_and,and_true]
              exact⟨a1,rfl⟩
end Go.Proofs.YtddfgnmjecogdaaDoor.N
end
