import Derived.Test.YtddfgnmjecogdaaDoorMI
import Derived.Test.YtddfgnmjecogdaaDoorMJ
open Nat renaming le_trans→be,lt_of_lt_of_le→TS,not_lt→Fs,zero_lt_succ→bj,le_refl→ch,beq→a6
open List renaming length_append→dC,length_cons→od,length_nil→Tr
open Go.Value renaming int→vz
open Go.IntKind renaming i64→tl,u32→Tp,i32→TI,u8→TH
open Option renaming none→Ty,some→Tz
open Go.Proofs.Tryd renaming prog→ae
open Bool renaming false_eq_true→pC,true_eq_false→TJ
open Int renaming reduceBEq→TT,toNat_natCast→TE
noncomputable section
section
namespace Go.Am
open Go.RowKit
section
variable {P:Program} {E:Env}
abbrev th:=Nat→Prop
abbrev Hid:=Gh→World→th→Prop
def Hid.emp:Hid:=fun _ _ H=> ∀c,¬H c
def Hid.fj (R:Hid):Prop:= ∀(g:Gh) (w:World) (g':Gh) (w':World) (H:th),
 (∀c o,g.pure c o→g'.pure c o∧w'.cell? ⟨c,o,none⟩=w.cell? ⟨c,o,none⟩)→(∀c,H c→w'.heap[c]? = w.heap[c]?)→(∀c o,H c→g'.pure c o→g.pure c o)→R g w H→R g' w' H
structure qi (g:Gh) (m:Mem) (w:World) (H:th):Prop where
 own : ∀c,H c → ¬cj g m c
 there : ∀c,H c→c<w.heap.size
structure zy (g:Gh) (m:Mem) (H:th) (w:World) (g':Gh) (m':Mem) (H':th) (w':World):Prop where
 size:w.heap.size≤w'.heap.size
 keep : ∀c,c<w.heap.size → ¬cj g m c → ¬H c→w'.heap[c]? = w.heap[c]?
 pure : ∀c o,g.pure c o→g'.pure c o∧w'.cell? ⟨c,o,none⟩=w.cell? ⟨c,o,none⟩
 fresh : ∀c o,g'.pure c o→g.pure c o∨cj g m c∨H c∨w.heap.size≤c
 owned : ∀c,cj g' m' c→cj g m c∨H c∨w.heap.size≤c
 hidden : ∀c,H' c→cj g m c∨H c∨w.heap.size≤c
 os:w'.os=w.os
 tape:w'.tape=w.tape
 output:w'.output=w.output
theorem b7.LF {g g':Gh} {m m':Mem} {w w':World} (h:b7 g m w g' m' w') (H:th):zy g m H w g' m' H w':=
 ⟨h.size,fun c hc ho _=>h.keep c hc ho,h.pure,fun c o hp=>(h.fresh c o hp).imp_right (Or.imp_right .inr),fun c ho=>(h.owned c ho).imp_right .inr,fun _ hH=> .inr (.inl hH),h.os,h.tape,h.output⟩
theorem zy.trans {g g' g'':Gh} {m m' m'':Mem} {H H' Qt:th} {w w' w'':World} (h:zy g m H w g' m' H' w') (k:zy g' m' H' w' g'' m'' Qt w''):zy g m H w g'' m'' Qt w'' where
 size:=be h.size k.size
 keep c hc hn hH:=(k.keep c (TS hc h.size) (fun ho=>(h.owned c ho).elim hn fun q=>q.elim hH fun hh=>absurd hc (Fs.2 hh))
  (fun ho=>(h.hidden c ho).elim hn fun q=>q.elim hH fun hh=>absurd hc (Fs.2 hh))).trans (h.keep c hc hn hH)
 pure c o hp:=⟨(k.pure c o (h.pure c o hp).1).1,(k.pure c o (h.pure c o hp).1).2.trans (h.pure c o hp).2⟩
 fresh c o hp:=by
  rcases k.fresh c o hp with q | q | q | q
  · exact h.fresh c o q
  · exact .inr (h.owned c q)
  · exact .inr (h.hidden c q)
  · exact .inr (.inr (.inr (be h.size q)))
 owned c ho:=by
  rcases k.owned c ho with q | q | q
  · exact h.owned c q
  · exact h.hidden c q
  · exact .inr (.inr (be h.size q))
 hidden c ho:=by
  rcases k.hidden c ho with q | q | q
  · exact h.owned c q
  · exact h.hidden c q
  · exact .inr (.inr (be h.size q))
 os:=k.os.trans h.os
 tape:=k.tape.trans h.tape
 output:=k.output.trans h.output
def ak (P:Program) (E:Env) (c:bA) (R R':Hid) (o:Out):Prop:=
 ∀(g:Gh) (fr:Frame) (w:World) (H:th) (cs:List Frame),bZ P E g c fr w→R g w H→qi g c.st.mem w H→match o with
  |.ret v m'=> ∃g' fr' w' cv w2 H',Steps P (lone fr cs w) (lone fr' cs w')∧DP P c.st.bI fr' w' cv w2∧fr'.fn=c.f∧VA g' w2 v cv∧Rel g' m' w2∧zy g c.st.mem H w g' m' H' w2∧bf g g' c.st.fix∧c.st.fix≤m'.length∧R' g' w2 H'∧qi g' m' w2 H'
  |.nk v m'=> ∃g' fr' w' cv H',Steps P (lone fr cs w) (lone fr' cs w')∧fr'.leaving P w' (.panicked [{v:=cv,recovered:=false}])∧fr'.fn=c.f∧VA g' w' v cv∧Rel g' m' w'∧zy g c.st.mem H w g' m' H' w'∧bf g g' c.st.fix∧c.st.fix≤m'.length∧R' g' w' H'∧qi g' m' w' H'
theorem qi.step {g g':Gh} {m m':Mem} {w w':World} {H:th} (h:qi g m w H) (k:b7 g m w g' m' w'):qi g' m' w' H:=
 ⟨fun c hH ho=>(k.owned c ho).elim (h.own c hH) fun q=>absurd (h.there c hH) (Fs.2 q),fun c hH=>TS (h.there c hH) k.size⟩
theorem Hid.fj.step {R:Hid} (hs:R.fj) {g g':Gh} {m m':Mem} {w w':World} {H:th} (h:qi g m w H) (k:b7 g m w g' m' w') (hR:R g w H):R g' w' H:=
 hs g w g' w' H k.pure (fun c hH=>k.keep c (h.there c hH) (h.own c hH)) (fun c o hH hp=>(k.fresh c o hp).elim id fun q=>q.elim (fun ho=>absurd ho (h.own c hH)) fun hh=>absurd (h.there c hH) (Fs.2 hh)) hR
def iL (P:Program) (E:Env) (c c':bA):Prop:= ∀g fr w,bZ P E g c fr w→dQ P E g c fr w c'
theorem iL.trans {c c' c'':bA} (h:iL P E c c') (k:iL P E c' c''):iL P E c c'':=by
 intro g fr w hc cs
 obtain⟨g1,RD,w1,q1,q2,q3,q4,q5,q6,q7⟩:=h g fr w hc cs
 obtain⟨g2,kG,w2,r1,r2,r3,r4,r5,r6,r7⟩:=k g1 RD w1 q2 cs
 exact⟨g2,kG,w2,q1.trans r1,r2,q3.trans r3,q4.trans (q6▸r4),r5.trans q5,r6.trans q6,r7.trans q7⟩
theorem ak.aq {c c':bA} {R R':Hid} {o:Out} (hs:R.fj) (hg:iL P E c c') (h:ak P E c' R R' o):ak P E c R R' o:=by
 intro g fr w H cs hc hR hA
 obtain⟨g',fr',w',q1,q2,q3,q4,q5,q6,q7⟩:=hg g fr w hc cs
 have hk:=h g' fr' w' H cs q2 (hs.step hA q3 hR) (hA.step q3)
 cases o with
 |ret v m'=>
  obtain⟨g2,kG,w2,cv,w3,H',r1,r2,r3,r4,r5,r6,r7,r8,r9,Bh⟩:=hk
  exact⟨g2,kG,w2,cv,w3,H',q1.trans r1,by rw[←q7];exact r2,r3.trans q5,r4,r5,(q3.LF H).trans r6,q4.trans (by rw[←q6];exact r7),by rw[←q6];exact r8,r9,Bh⟩
 |nk v m'=>
  obtain⟨g2,kG,w2,cv,H',r1,r2,r3,r4,r5,r6,r7,r8,r9,Bh⟩:=hk
  exact⟨g2,kG,w2,cv,H',q1.trans r1,r2,r3.trans q5,r4,r5,(q3.LF H).trans r6,q4.trans (by rw[←q6];exact r7),by rw[←q6];exact r8,r9,Bh⟩
theorem ak.frame {c:bA} {R:Hid} {o:Out} (hs:R.fj) (h:dN P E c o):ak P E c R R o:=by
 intro g fr w H cs hc hR hA
 have hk:=h g fr w cs hc
 cases o with
 |ret v m'=>
  obtain⟨g2,kG,w2,cv,w3,r1,r2,r3,r4,r5,r6,r7,r8⟩:=hk
  exact⟨g2,kG,w2,cv,w3,H,r1,r2,r3,r4,r5,r6.LF H,r7,r8,hs.step hA r6 hR,hA.step r6⟩
 |nk v m'=>
  obtain⟨g2,kG,w2,cv,r1,r2,r3,r4,r5,r6,r7,r8⟩:=hk
  exact⟨g2,kG,w2,cv,H,r1,r2,r3,r4,r5,r6.LF H,r7,r8,hs.step hA r6 hR,hA.step r6⟩
theorem ak.drop {c:bA} {R R':Hid} {o:Out} (h:ak P E c R R' o):ak P E c R Hid.emp o:=by
 intro g fr w H cs hc hR hA
 have hk:=h g fr w H cs hc hR hA
 cases o with
 |ret v m'=>
  obtain⟨g2,kG,w2,cv,w3,H',r1,r2,r3,r4,r5,r6,r7,r8,r9,Bh⟩:=hk
  exact⟨g2,kG,w2,cv,w3,fun _=>False,r1,r2,r3,r4,r5,⟨r6.size,r6.keep,r6.pure,r6.fresh,r6.owned,fun _ h=>h.elim,r6.os,r6.tape,r6.output⟩,r7,r8,fun _ h=>h,⟨fun _ h=>h.elim,fun _ h=>h.elim⟩⟩
 |nk v m'=>
  obtain⟨g2,kG,w2,cv,H',r1,r2,r3,r4,r5,r6,r7,r8,r9,Bh⟩:=hk
  exact⟨g2,kG,w2,cv,fun _=>False,r1,r2,r3,r4,r5,⟨r6.size,r6.keep,r6.pure,r6.fresh,r6.owned,fun _ h=>h.elim,r6.os,r6.tape,r6.output⟩,r7,r8,fun _ h=>h,⟨fun _ h=>h.elim,fun _ h=>h.elim⟩⟩
theorem ak.good {c:bA} {R R':Hid} {o:Out} (h:ak P E c R R' o) (h0 : ∀g w,R g w fun _=>False):dN P E c o:=by
 intro g fr w cs hc
 have hk:=h g fr w (fun _=>False) cs hc (h0 g w) ⟨fun _ h=>h.elim,fun _ h=>h.elim⟩
 have back : ∀{g g':Gh} {m m':Mem} {w w':World} {H':th},zy g m (fun _=>False) w g' m' H' w'→b7 g m w g' m' w':=fun k=>
  ⟨k.size,fun c hc ho=>k.keep c hc ho id,k.pure,fun c o hp=>by
    rcases k.fresh c o hp with q | q | q | q
    · exact .inl q
    · exact .inr (.inl q)
    · exact q.elim
    · exact .inr (.inr q),fun c ho=>by
    rcases k.owned c ho with q | q | q
    · exact .inl q
    · exact q.elim
    · exact .inr q,k.os,k.tape,k.output⟩
 cases o with
 |ret v m'=>
  obtain⟨g2,kG,w2,cv,w3,H',r1,r2,r3,r4,r5,r6,r7,r8,_,_⟩:=hk
  exact⟨g2,kG,w2,cv,w3,r1,r2,r3,r4,r5,back r6,r7,r8⟩
 |nk v m'=>
  obtain⟨g2,kG,w2,cv,H',r1,r2,r3,r4,r5,r6,r7,r8,_,_⟩:=hk
  exact⟨g2,kG,w2,cv,r1,r2,r3,r4,r5,back r6,r7,r8⟩
theorem ak.focus {c:bA} {R R':Hid} {o:Out} (hc:iJ c=true)
  (h : ∀g a w H,bR E g c.st a w→R g w H→qi g c.st.mem w H → ∃(zb:St) (R1:Hid) (g1:Gh) (H1:th),bR E g1 zb a w∧(∀i k,g.aN i=some k→g1.aN i=some k∧g1.lo i=g.lo i∧g1.hi i=g.hi i)∧zb.bI=c.st.bI∧zb.bS=c.st.bS∧zb.fix=c.st.fix ∧
    R1 g1 w H1∧qi g1 zb.mem w H1∧zy g c.st.mem H w g1 zb.mem H1 w∧ak P E {c with st:=zb} R1 R' o):ak P E c R R' o:=by
 intro g fr w H cs hr hR hA
 obtain⟨f,todo,st⟩:=c
 match todo,hc with
 |.code i x::k,_=>
  obtain⟨b,a,q1,q2,q3,q4,q5,q6⟩:=hr
  obtain⟨zb,R1,g1,H1,s1,s2,s3,s4,s5,s6,s7,s8,s9⟩:=h g a w H q5 hR hA
  obtain⟨tm,nt,mem,fix,bS,bI⟩:=st
  obtain⟨Su,Sv,RE,Pv,RF,RG⟩:=zb
  dsimp only at s3 s4 s5
  subst s3 s4 s5
  have hk:=s9 g1 fr w H1 cs ⟨b,a,q1,q2,q3.ext (fun i c q=>(s2 i c q).1),q4.ext (fun i c q=>(s2 i c q).1),s1,q6⟩ s6 s7
  have kF:bf g g1 Pv:=fun k c _ hk=>s2 k c hk
  cases o with
  |ret v m'=>
   obtain⟨g2,kG,w2,cv,w3,H',r1,r2,r3,r4,r5,r6,r7,r8,r9,Bh⟩:=hk
   exact⟨g2,kG,w2,cv,w3,H',r1,r2,r3,r4,r5,s8.trans r6,kF.trans r7,r8,r9,Bh⟩
  |nk v m'=>
   obtain⟨g2,kG,w2,cv,H',r1,r2,r3,r4,r5,r6,r7,r8,r9,Bh⟩:=hk
   exact⟨g2,kG,w2,cv,H',r1,r2,r3,r4,r5,s8.trans r6,kF.trans r7,r8,r9,Bh⟩
def aP.jE (P:Program) (E:Env) (Q:bA→Prop) (Z:Out→Prop):aP→Prop
 |.out o'=>Z o'
 |.at c=>Q c
 |.must b t=>b=true∧t.jE P E Q Z
 |.need p t=>p∧t.jE P E Q Z
 |.test b y z=>(b=true→y.jE P E Q Z)∧(b=false→z.jE P E Q Z)
 |.call q t=>aO P E q.g q.args q.m q.v q.m'∧t.jE P E Q Z
 |.both y z=>y.jE P E Q Z∧z.jE P E Q Z
 |.stuck=>False
variable {Q:bA→Prop} {Z:Out→Prop} {R R':Hid} {oE:Out}
def bW (P:Program) (E:Env) (Q:bA→Prop) (Z:Out→Prop) (R R':Hid) (oE:Out) (top:Bool) (c:bA) (K:Out→Sc→aP):Prop:=
 (∃o1 s1,dN P E c o1∧(K o1 s1).jE P E Q Z)∨(top=true∧ak P E c R R' oE)
theorem bW.aq (hs:R.fj) {top:Bool} {c c':bA} {K:Out→Sc→aP} (hg:iL P E c c') (h:bW P E Q Z R R' oE top c' K):bW P E Q Z R R' oE top c K:=by
 rcases h with⟨o1,s1,h1,h2⟩ | ⟨h1,h2⟩
 · exact .inl ⟨o1,s1,dN.aq hg h1,h2⟩
 · exact .inr ⟨h1,ak.aq hs hg h2⟩
theorem ak.zi {c:bA} {l:List bA} (hs:R.fj) (hg : ∀g fr w,bZ P E g c fr w→tK P E g c fr w l) (h : ∀c'∈l,ak P E c' R R' oE):ak P E c R R' oE:=by
 intro g fr w H cs hc hR hA
 obtain⟨c',hm,g',fr',w',q1,q2,q3,q4,q5,q6,q7⟩:=hg g fr w hc cs
 have hk:=h c' hm g' fr' w' H cs q2 (hs.step hA q3 hR) (hA.step q3)
 cases oE with
 |ret v m'=>
  obtain⟨g2,kG,w2,cv,w3,H',r1,r2,r3,r4,r5,r6,r7,r8,r9,Bh⟩:=hk
  exact⟨g2,kG,w2,cv,w3,H',q1.trans r1,by rw[←q7];exact r2,r3.trans q5,r4,r5,(q3.LF H).trans r6,q4.trans (by rw[←q6];exact r7),by rw[←q6];exact r8,r9,Bh⟩
 |nk v m'=>
  obtain⟨g2,kG,w2,cv,H',r1,r2,r3,r4,r5,r6,r7,r8,r9,Bh⟩:=hk
  exact⟨g2,kG,w2,cv,H',q1.trans r1,r2,r3.trans q5,r4,r5,(q3.LF H).trans r6,q4.trans (by rw[←q6];exact r7),by rw[←q6];exact r8,r9,Bh⟩
theorem ak.weak {c:bA} {o:Out} (hs:R.fj) (h:dN P E c o) (hi : ∀g w H,R g w H→R' g w H):ak P E c R R' o:=by
 intro g fr w H cs hc hR hA
 have hk:=ak.frame (R:=R) hs h g fr w H cs hc hR hA
 cases o with
 |ret v m'=>
  obtain⟨g2,kG,w2,cv,w3,H',r1,r2,r3,r4,r5,r6,r7,r8,r9,Bh⟩:=hk
  exact⟨g2,kG,w2,cv,w3,H',r1,r2,r3,r4,r5,r6,r7,r8,hi _ _ _ r9,Bh⟩
 |nk v m'=>
  obtain⟨g2,kG,w2,cv,H',r1,r2,r3,r4,r5,r6,r7,r8,r9,Bh⟩:=hk
  exact⟨g2,kG,w2,cv,H',r1,r2,r3,r4,r5,r6,r7,r8,hi _ _ _ r9,Bh⟩
theorem oL {h b:Bool} {t:aP} (k:(vq h b t).jE P E Q Z):b=true∧t.jE P E Q Z:=by
 cases h with
 |true=>exact k
 |false=>cases b with
  |true=>exact⟨rfl,k⟩
  |false=>exact k.elim
theorem zz {sh:AV→AV} {d:Tmp} {c:bA} (hin:FL c=true) (h:look c.st.tm d=sh (look c.st.tm d)):iL P E c (reshape sh d c):=by
 intro g fr w hc cs
 refine⟨g,fr,w,Steps.refl _ _,?_,b7.refl _ _ _,bf.refl _ _,rfl,rfl,rfl⟩
 obtain⟨f,todo,st⟩:=c
 cases todo with
 |nil=>cases hin
 |cons x k=>
  cases x with
  |ops bJ ops i sure=>
   obtain⟨b,a,q1,q2,q3,q4,q5,q6⟩:=hc
   exact⟨b,a,q1,q2,q3,q4,q5.known (h▸q5.tm d),q6⟩
  |_=>cases hin
theorem kf (hs:R.fj) {top:Bool} {sh:Option (AV→AV)} {d:Option Tmp} {c:bA} {k:bA→aP} {K:Out→Sc→aP} (hk : ∀c,(k c).jE P E Q Z→bW P E Q Z R R' oE top c K) (h:(shaped sh d c k).jE P E Q Z):bW P E Q Z R R' oE top c K:=by
 unfold shaped at h
 split at h
 · rename_i hin
   exact bW.aq hs (zz hin h.1) (hk _ h.2)
 · exact hk c h
theorem lG {top:Bool} {sh:Option (AV→AV)} {c:bA} {k:bA→aP} {K:Out→Sc→aP} (hk : ∀c,(k c).jE P E Q Z→bW P E Q Z R R' oE top c K) (h:(pP sh c k).jE P E Q Z):bW P E Q Z R R' oE top c K:=by
 unfold pP at h
 split at h
 · exact hk c h
 · split at h
   · obtain⟨h1,h2⟩:=h
     rw[pZ h1] at h2
     exact hk c h2
   · exact hk c h
theorem lH {t:aP} : ∀{l:List cr},(vr l t).jE P E Q Z→fc P E l∧t.jE P E Q Z
 |[],h=>⟨fun _ hq=>(by cases hq),h⟩
 |q::l,h=>⟨fun q' hq=>by
   cases hq with
   |head=>exact h.1
   |tail _ hq=>exact(lH (l:=l) h.2).1 q' hq,(lH (l:=l) h.2).2⟩
theorem aS (hN:eO P) (hs:R.fj) (hw : ∀g w H,R g w H→R' g w H) {O:hJ} : ∀(n:Nat) (top:Bool) (c:bA) (s:Sc) (K:Out→Sc→aP),(top=true → ∀o1 s1,(K o1 s1).jE P E (fun c=>ak P E c R R' oE) Z→o1=oE)→(grow P E O n top c s K).jE P E (fun c=>ak P E c R R' oE) Z→bW P E (fun c=>ak P E c R R' oE) Z R R' oE top c K
 |0,_,_,_,_,_,h=>h.elim
 |n+1,top,c,s,K,hK,h=>by
  unfold grow at h
  split at h
  · split at h
    · rename_i c' hs';exact .inr ⟨rfl,ak.aq hs (kH hs') h⟩
    · exact h.elim
  · split at h
    · rename_i c' hs';exact bW.aq hs (kH hs') (aS hN hs hw n top c' s K hK h)
    · rename_i b c' hs'
      obtain⟨rfl,hb⟩:=oL h
      exact bW.aq hs (qP hs') (kf hs (fun c=>lG fun c=>aS hN hs hw n top c s K hK) hb)
    · rename_i b y z hs'
      have gt:=qQ hs'
      split at h
      · split at h
        · cases b with
          |true=>exact bW.aq hs gt (aS hN hs hw n top y _ K hK (h.1 rfl))
          |false=>exact bW.aq hs gt (aS hN hs hw n top z _ K hK (h.2 rfl))
        · obtain⟨rfl,h⟩:=h
          exact bW.aq hs gt (aS hN hs hw n top y _ K hK h)
        · obtain⟨hb,h⟩:=h
          cases b with
          |true=>cases hb
          |false=>exact bW.aq hs gt (aS hN hs hw n top z _ K hK h)
        · cases b with
          |true=>exact bW.aq hs gt (aS hN hs hw n top y _ K hK h)
          |false=>exact bW.aq hs gt (aS hN hs hw n top z _ K hK h)
        · cases b with
          |true=>exact bW.aq hs gt (aS hN hs hw n top y _ K hK (h.1 rfl))
          |false=>exact bW.aq hs gt (aS hN hs hw n top z _ K hK (h.2 rfl))
      · cases b with
        |true=>exact bW.aq hs gt (aS hN hs hw n top y _ K hK h)
        |false=>exact bW.aq hs gt (aS hN hs hw n top z _ K hK h)
    · rename_i f args m ord dst c' hs'
      split at h
      · rename_i v m1 s' _
        exact bW.aq hs (fZ hs' h.1) (kf hs (fun c=>aS hN hs hw n top c s' K hK) h.2)
      split at h
      · exact bW.aq hs (fZ hs' h.1) (kf hs (fun c=>aS hN hs hw n top c s K hK) h.2)
      · split at h
        · rename_i ci hi
          rcases aS hN hs hw n false ci s _ nofun h with⟨o1,s1,h1,h2⟩ | ⟨h1,_⟩
          · cases o1 with
            |ret v m1=>exact bW.aq hs (fZ hs' (dc hN hi h1)) (aS hN hs hw n top _ s1 K hK h2)
            |nk v m1=>exact bW.aq hs (mT hs' (j8 hN hi h1)) (aS hN hs hw n top _ s1 K hK h2)
          · cases h1
        · exact h.elim
    · rename_i g args m ord pv c' hs'
      split at h
      · rename_i ci hi
        rcases aS hN hs hw n false ci s _ nofun h with⟨o1,s1,h1,h2⟩ | ⟨h1,_⟩
        · cases o1 with
          |ret v m1=>exact bW.aq hs (qR hs' (ke hN hi h1)) (aS hN hs hw n top _ s1 K hK h2)
          |nk v m1=>exact h2.elim
        · cases h1
      · exact h.elim
    · rename_i args m ord dst c' hs'
      split at h
      · rename_i ci hi
        rcases aS hN hs hw n false ci s _ nofun h with⟨o1,s1,h1,h2⟩ | ⟨h1,_⟩
        · cases o1 with
          |ret v m1=>exact bW.aq hs (oC hs' (j9 hi h1)) (aS hN hs hw n top _ s1 K hK h2)
          |nk v m1=>exact h2.elim
        · cases h1
      · exact h.elim
    · rename_i g args m ord L c' hs'
      split at h
      · split at h
        · rename_i m2 pd hend
          exact bW.aq hs (jx hs' h.1 hend) (aS hN hs hw n top _ s K hK h.2)
        · exact h.elim
      split at h
      · rename_i ci hi
        rcases aS hN hs hw n false ci s _ nofun h with⟨o1,s1,h1,h2⟩ | ⟨h1,_⟩
        · cases o1 with
          |ret v m1=>
           dsimp only at h2
           split at h2
           · rename_i m2 pd hend
             exact bW.aq hs (jx hs' (dc hN hi h1) hend) (aS hN hs hw n top _ s1 K hK h2)
           · exact h2.elim
          |nk v m1=>exact h2.elim
        · cases h1
      · exact h.elim
    · rename_i bJ ops c' hs'
      split at h
      · rename_i L s' _
        split at h
        · rename_i st ok hq
          obtain⟨hcs,h⟩:=lH h
          obtain⟨rfl,hb⟩:=oL h
          exact bW.aq hs (kI hs' (lC hcs) (nJ hq)) (lG (fun c=>aS hN hs hw n top c s' K hK) hb)
        · exact h.elim
      split at h
      · rename_i st ok hq
        obtain⟨hcs,h⟩:=lH h
        obtain⟨rfl,hb⟩:=oL h
        exact bW.aq hs (kI hs' (lC hcs) (nJ hq)) (lG (fun c=>aS hN hs hw n top c s K hK) hb)
      · exact h.elim
    · rename_i l hs'
      have both : ∀{y z:bA} {sy sz:Sc},top=true→l=[y,z]→(grow P E O n top y sy K).jE P E (fun c=>ak P E c R R' oE) Z→(grow P E O n top z sz K).jE P E (fun c=>ak P E c R R' oE) Z→bW P E (fun c=>ak P E c R R' oE) Z R R' oE top c K:=by
       intro y z sy sz ht hl h1 h2
       subst hl
       have one : ∀{x:bA} {sx:Sc},(grow P E O n top x sx K).jE P E (fun c=>ak P E c R R' oE) Z→ak P E x R R' oE:=fun hx=>by
        rcases aS hN hs hw n top _ _ K hK hx with⟨o1,s1,k1,k2⟩ | ⟨_,k1⟩
        · exact hK ht o1 s1 k2▸ak.weak hs k1 hw
        · exact k1
       refine .inr ⟨ht,ak.zi hs (qT hs') fun c' dx=> ?_⟩
       simp only[List.mem_cons,List.not_mem_nil,or_false] at dx
       rcases dx with rfl | rfl
       · exact one h1
       · exact one h2
      split at h
      · split at h
        · exact both rfl rfl h.1 h.2
        · exact both rfl rfl h.1 h.2
      · exact h.elim
    · rename_i o' hs'
      exact .inl ⟨o',s,qO hs',h⟩
    · exact h.elim
theorem aW (hN:eO P) {O:hJ} {n:Nat} {c:bA} {s:Sc} {t:aP} {R R':Hid} {o:Out} (hs:R.fj) (hi : ∀g w H,R g w H→R' g w H) (ht:grow P E O n true c s atEnd=t)
  (h:t.jE P E (fun c=>ak P E c R R' o) (fun o1=>o1=o)):ak P E c R R' o:=by
 subst ht
 rcases aS hN hs hi n true c s atEnd (fun _ _ _ h=>h) h with⟨o1,s1,h1,h2⟩ | ⟨_,h2⟩
 · have h2:o1=o:=h2
   subst h2
   exact ak.weak hs h1 hi
 · exact h2
end
section
variable {P:Program} {E:Env}
theorem aO.memory {f:FuncId} {args:List AV} {m m' m'':Mem} {v:AV} (h:aO P E f args m v m') (hlen:m'.length≤m''.length) (hm : ∀(g:Gh) (w:World),Rel g m' w→Rel g m'' w∧b7 g m' w g m'' w):aO P E f args m v m'':=by
 refine⟨h.1,fun g w cM cs hr ha hg=> ?_⟩
 obtain⟨w',g',cv,fr,h1,h2,h3,h4,h5,h6,h7,h8⟩:=h.2 g w cM cs hr ha hg
 obtain⟨k1,k2⟩:=hm g' w' h5
 exact⟨w',g',cv,fr,h1,h2,h3,h4,k1,h6.trans k2,h7,be h8 hlen⟩
theorem aO.Dj {f:FuncId} {args:List AV} {m m':Mem} {v:AV} {i:Nat} {l l':List AV} (h:aO P E f args m v m') (hb:m'[i]? = some (.ac l)) (hl : ∀(g:Gh) (w:World) vs,bO g w l vs→bO g w l' vs):aO P E f args m v (m'.set i (.ac l')):=
 h.memory (by simp) fun g w hr=>hr.zp hb (hl g w)
theorem aO.Nj {f:FuncId} {args:List AV} {m m':Mem} {v:AV} (h:aO P E f args m v m') (i:Nat):aO P E f args m v (m'.set i .dead):=
 h.memory (by simp) fun g w hr=>hr.kill i
theorem aO.Nk {f:FuncId} {args:List AV} {m m':Mem} {v:AV} (h:aO P E f args m v m'):aO P E f args m v (m'++[.dead]):=
 h.memory (by simp) fun g w hr=>by
   obtain⟨f1,f2⟩:=hr.bB 1
   obtain⟨k1,k2⟩:=f1.kill m'.length
   have e:(m'++bB 1).set m'.length .dead=m'++[.dead]:=by simp[bB]
   rw[e] at k1 k2
   exact⟨k1,f2.trans k2⟩
theorem dN.Iv {c:bA} {o:Out} {i:Nat} {l l':List AV} (hc:iJ c=true) (hb:c.st.mem[i]? = some (.ac l)) (hl : ∀(g:Gh) (w:World) vs,bO g w l vs→bO g w l' vs)
  (h:dN P E {c with st:={c.st with mem:=c.st.mem.set i (.ac l')++[.tok]}} o):dN P E c o:=by
 refine dN.aq (fun g fr w hr cs=> ?_) h
 obtain⟨f,todo,st⟩:=c
 obtain⟨tm,nt,mem,fix,bS,bI⟩:=st
 dsimp only at hb h ⊢
 match todo,hc with
 |.code j x::k,_=>
  obtain⟨b,a,q1,q2,q3,q4,q5,q6⟩:=hr
  have gE:Rel g mem w:=q5.rel
  obtain⟨r1,r2⟩:=gE.zp hb (hl g w)
  obtain⟨f1,f2⟩:=r1.bB 1
  have hn:(mem.set i (.ac l')++bB 1)[mem.length]? = some .free:=by
   rw[List.getElem?_append_right (by simp)];simp[bB]
  obtain⟨z1,z2⟩:=f1.o7 hn
  have hmem:(mem.set i (.ac l')++bB 1).set mem.length .tok=mem.set i (.ac l')++[.tok]:=by
   rw[show mem.length=(mem.set i (.ac l')).length by simp];simp[bB]
  rw[hmem] at z1 z2
  refine⟨g,fr,w,Steps.refl _ _,⟨b,a,q1,q2,q3,q4,⟨q5.tm,q5.nt,z1,?_,q5.cC⟩,q6⟩,(r2.trans f2).trans z2,bf.refl _ _,rfl,rfl,rfl⟩
  have:=q5.fix
  dsimp only at this ⊢
  simp only[dC,List.length_set]
  omega
theorem VA.bare {g:Gh} {w:World} {tok:Option Nat} {n sz:Nat} {X:List PV} {v:Value} (h:VA g w (.os tok n sz X) v):VA g w (.p (.ps n sz X)) v:=by
 cases h with
 |os _ _ _ _ a cap h _=>exact .p _ _ h
theorem VA.Nl {g:Gh} {w:World} {sz:Nat} {v:Value} (hz:1≤sz) (h:VA g w (.os none 0 0 []) v):VA g w (.p (.ps 0 sz [])) v:=by
 cases h with
 |os _ _ _ _ a cap h _=>exact .p _ _ (.lU _ _ _ (.inl hz))
end
end Go.Am
end
section
set_option linter.unusedSimpArgs false
set_option linter.unusedVariables false
namespace Go.Proofs.YtddfgnmjecogdaaDoor.N
open Go Go.Am
theorem Iw {tg:List Int} {j:Nat} (h:j<tg.length):(cD .u32 tg).getD (j*1) .eR = .sc (.int .u32 (tg[j]'h)):=by
 simp[cD,List.getD_eq_getElem?_getD,h]
theorem Pw {t:Option Nat} {n m:Nat} {X Y:List PV} {mm:Mem} (h:X=Y) (h':n=Y.length) (e:m=Y.length):Out.ret (.os t n 1 X) mm = .ret (.os t m 1 Y) mm:=by subst h;rw[h',e]
theorem Gv {l:List Ins} {i:Nat} (h:i<l.length):gw (l.drop i)=iE l[i]++gw (l.drop (i+1)):=by
 rw[List.drop_eq_getElem_cons h,gw]
theorem nK : ∀{l:List Ins} {x:Ins},zH l→x∈l→FP x
 |y::l,x,h,hx=>by
  simp only[zH] at h
  cases hx with
  |head=>exact h.1
  |tail _ hx=>exact nK h.2 hx
def Qu (k:Nat) (B:List PV) (p:Int) (op al:Int) (st:Bool) (nV nP nE nF zV zP zE zF wV wP wE wF:Int→Int→Int→Int) (sV sN sE sF:Int→Int) (f:FuncId) (args:List AV) (m:Mem):Option (AV×Mem):=
 cond (a6 f 53) (some (.bn [sI .u32 al,sB st],m))
 (cond (a6 f 64) (match args with | [_,.p (.sc (.int _ p))]=>some (.bn [sI .i32 (sV p),sI .i64 (sN p),.agg [sI .i64 (sE p),sI .i64 (sF p)]],m) | _=>none)
 (match m with
 |[.pc [x,.sc (.int _ p),.sc (.int _ e),.sc (.int _ fa)]]=>
  cond (a6 f 37) (some (sI .u32 (nV p e fa),[.pc [x,.sc (.int .i64 (nP p e fa)),.sc (.int .i64 (nE p e fa)),.sc (.int .i64 (nF p e fa))]]))
  (cond (a6 f 39) (match args with
    |[_,.os _ 1 _ _]=>some (sI .u8 (zV p e fa),[.pc [x,.sc (.int .i64 (zP p e fa)),.sc (.int .i64 (zE p e fa)),.sc (.int .i64 (zF p e fa))]])
    |[_,.os _ 2 _ _]=>some (sI .u8 (wV p e fa),[.pc [x,.sc (.int .i64 (wP p e fa)),.sc (.int .i64 (wE p e fa)),.sc (.int .i64 (wF p e fa))]])
    |_=>none) none)
 |_=>none))
def Nn (k:Nat) (B:List PV) (p e fa:Int) (op:Int) (n j kk:Nat) (X:List PV) (nV nP nE nF:Int→Int→Int→Int) (f:FuncId) (args:List AV) (m:Mem):Option (AV×Mem):=
 match m with
 |[.pc [x,.sc (.int _ p),.sc (.int _ e),.sc (.int _ fa)]]=>cond (a6 f 37) (some (sI .u32 (nV p e fa),[.pc [x,.sc (.int .i64 (nP p e fa)),.sc (.int .i64 (nE p e fa)),.sc (.int .i64 (nF p e fa))]])) none
 |_=>none
def Px (k:Nat) (B:List PV) (p e fa:Int) (op:Int) (n j kk:Nat) (X:List PV) (nV nP nE nF:Int→Int→Int→Int):FuncId→Nat→Nat→Option (AV→AV):=eP [(45,30,1,sI .u32 ((j+1:Nat):Int))]
def No (k:Nat) (B:List PV) (p:Int) (op:Int) (al:Int) (st:Bool) (nV:Int→Int→Int→Int) (nP:Int→Int→Int→Int) (nE:Int→Int→Int→Int) (nF:Int→Int→Int→Int) (zV:Int→Int→Int→Int) (zP:Int→Int→Int→Int) (zE:Int→Int→Int→Int) (zF:Int→Int→Int→Int) (wV:Int→Int→Int→Int) (wP:Int→Int→Int→Int) (wE:Int→Int→Int→Int) (wF:Int→Int→Int→Int) (sV:Int→Int) (sN:Int→Int) (sE:Int→Int) (sF:Int→Int):hJ:=gk (Qu k B p op al st nV nP nE nF zV zP zE zF wV wP wE wF sV sN sE sF) (Qu k B p op al st nV nP nE nF zV zP zE zF wV wP wE wF sV sN sE sF) [(45,15)] [(45,0,0),(45,0,2),(45,0,3),(45,0,1),(45,0,4),(45,0,11),(45,0,5),(45,0,6),(45,0,7),(45,0,8),(45,0,9),(45,0,10),(45,0,12),(45,0,13),(45,0,14),(38,0,0),(45,0,17),(45,0,18),(45,0,19),(45,0,20),(45,0,21)] []
def Py:Sc:=(.fork (.yes .fin) (.fork (.yes .fin) (.fork .fin (.fork (.yes .fin) (.fork (.yes .fin) (.fork (.yes .fin) (.fork (.yes .fin) (.fork (.yes .fin) (.fork (.yes .fin) (.fork (.yes .fin) (.fork .fin (.fork .fin (.fork .fin (.fork (.yes .fin) .fin))))))))))))))
def bh (k:Nat) (B:List PV) (p:Int) (op:Int) (nV:Int→Int→Int→Int) (nP:Int→Int→Int→Int) (nE:Int→Int→Int→Int) (nF:Int→Int→Int→Int):aP:=
 (.call ⟨37,[AV.mp 0 0],[aF.pc [PV.ps k 1 B,PV.sc (vz tl p),PV.sc (vz tl 0),PV.sc (vz tl 0)]],AV.p (PV.sc (vz Tp (nV p 0 0))),[aF.pc [PV.ps k 1 B,PV.sc (vz tl (nP p 0 0)),PV.sc (vz tl (nE p 0 0)),PV.sc (vz tl (nF p 0 0))]]⟩ (.out (Out.ret (AV.bn []) [aF.pc [PV.ps k 1 B,PV.sc (vz tl (nP p 0 0)),PV.sc (vz tl (nE p 0 0)),PV.sc (vz tl (nF p 0 0))],aF.ac [AV.p (PV.sc (vz tl op)),AV.p (PV.sc (vz tl 0)),AV.p (PV.sc (vz Tp (nV p 0 0))),AV.p (PV.sc (vz Tp 0)),AV.p (PV.sc (vz TI 0)),ct,ct,ct]])))
def bC (k:Nat) (B:List PV) (p:Int) (op:Int) (wV:Int→Int→Int→Int) (wP:Int→Int→Int→Int) (wE:Int→Int→Int→Int) (wF:Int→Int→Int→Int):aP:=
 (.call ⟨39,[AV.mp 0 0,AV.os Ty 2 1 [PV.sc (vz TH 64),PV.sc (vz TH 127)]],[aF.pc [PV.ps k 1 B,PV.sc (vz tl p),PV.sc (vz tl 0),PV.sc (vz tl 0)]],AV.p (PV.sc (vz TH (wV p 0 0))),[aF.pc [PV.ps k 1 B,PV.sc (vz tl (wP p 0 0)),PV.sc (vz tl (wE p 0 0)),PV.sc (vz tl (wF p 0 0))]]⟩ (.test (wV p 0 0==127) (.out (Out.ret (AV.bn []) [aF.pc [PV.ps k 1 B,PV.sc (vz tl (wP p 0 0)),PV.sc (vz tl (wE p 0 0)),PV.sc (vz tl (wF p 0 0))],aF.ac [AV.p (PV.sc (vz tl op)),AV.p (PV.sc (vz tl 1)),AV.p (PV.sc (vz Tp 0)),AV.p (PV.sc (vz Tp 0)),AV.p (PV.sc (vz TI 0)),ct,ct,ct]])) (.out (Out.ret (AV.bn []) [aF.pc [PV.ps k 1 B,PV.sc (vz tl (wP p 0 0)),PV.sc (vz tl (wE p 0 0)),PV.sc (vz tl (wF p 0 0))],aF.ac [AV.p (PV.sc (vz tl op)),AV.p (PV.sc (vz tl 0)),AV.p (PV.sc (vz Tp 0)),AV.p (PV.sc (vz Tp 0)),AV.p (PV.sc (vz TI 0)),ct,ct,ct]]))))
def bF (k:Nat) (B:List PV) (p:Int) (op:Int) (zV:Int→Int→Int→Int) (zP:Int→Int→Int→Int) (zE:Int→Int→Int→Int) (zF:Int→Int→Int→Int):aP:=
 (.call ⟨39,[AV.mp 0 0,AV.os Ty 1 1 [PV.sc (vz TH 0)]],[aF.pc [PV.ps k 1 B,PV.sc (vz tl p),PV.sc (vz tl 0),PV.sc (vz tl 0)]],AV.p (PV.sc (vz TH (zV p 0 0))),[aF.pc [PV.ps k 1 B,PV.sc (vz tl (zP p 0 0)),PV.sc (vz tl (zE p 0 0)),PV.sc (vz tl (zF p 0 0))]]⟩ (.out (Out.ret (AV.bn []) [aF.pc [PV.ps k 1 B,PV.sc (vz tl (zP p 0 0)),PV.sc (vz tl (zE p 0 0)),PV.sc (vz tl (zF p 0 0))],aF.ac [AV.p (PV.sc (vz tl op)),AV.p (PV.sc (vz tl 0)),AV.p (PV.sc (vz Tp 0)),AV.p (PV.sc (vz Tp 0)),AV.p (PV.sc (vz TI 0)),ct,ct,ct]])))
def bG (k:Nat) (B:List PV) (p:Int) (op:Int) (nV:Int→Int→Int→Int) (nP:Int→Int→Int→Int) (nE:Int→Int→Int→Int) (nF:Int→Int→Int→Int):aP:=
 (.at (aj ae env 45 15 [AV.mp 0 0,AV.mp 1 0,AV.p (PV.sc (vz Tp (nV p 0 0))),AV.p (PV.sc (vz Tp 0))] ([aF.pc [PV.ps k 1 B,PV.sc (vz tl (nP p 0 0)),PV.sc (vz tl (nE p 0 0)),PV.sc (vz tl (nF p 0 0))],aF.ac [AV.p (PV.sc (vz tl op)),AV.p (PV.sc (vz tl 0)),AV.p (PV.sc (vz Tp 0)),AV.p (PV.sc (vz Tp 0)),AV.p (PV.sc (vz TI 0)),ct,ct,ct]]) 2 145))
def cX (k:Nat) (B:List PV) (p:Int) (op:Int) (al:Int) (st:Bool) (nV:Int→Int→Int→Int) (nP:Int→Int→Int→Int) (nE:Int→Int→Int→Int) (nF:Int→Int→Int→Int) (zV:Int→Int→Int→Int) (zP:Int→Int→Int→Int) (zE:Int→Int→Int→Int) (zF:Int→Int→Int→Int) (wV:Int→Int→Int→Int) (wP:Int→Int→Int→Int) (wE:Int→Int→Int→Int) (wF:Int→Int→Int→Int) (sV:Int→Int) (sN:Int→Int) (sE:Int→Int) (sF:Int→Int):aP:=
 (.test (op==2)
  (.must (op==2)
   (bC k B p op wV wP wE wF))
  (.test (op==3)
   (.must (op==3)
    (bC k B p op wV wP wE wF))
   (.test (op==4)
    (bC k B p op wV wP wE wF)
    (.test (op==12)
     (.must (op==12)
      (bh k B p op nV nP nE nF))
     (.test (op==13)
      (.must (op==13)
       (bh k B p op nV nP nE nF))
      (.test (op==16)
       (.must (op==16)
        (bh k B p op nV nP nE nF))
       (.test (op==32)
        (.must (op==32)
         (bh k B p op nV nP nE nF))
        (.test (op==33)
         (.must (op==33)
          (bh k B p op nV nP nE nF))
         (.test (op==34)
          (.must (op==34)
           (bh k B p op nV nP nE nF))
          (.test (op==35)
           (.must (op==35)
            (bh k B p op nV nP nE nF))
           (.test (op==36)
            (bh k B p op nV nP nE nF)
            (.test (op==17)
             (.call ⟨37,[AV.mp 0 0],[aF.pc [PV.ps k 1 B,PV.sc (vz tl p),PV.sc (vz tl 0),PV.sc (vz tl 0)]],AV.p (PV.sc (vz Tp (nV p 0 0))),[aF.pc [PV.ps k 1 B,PV.sc (vz tl (nP p 0 0)),PV.sc (vz tl (nE p 0 0)),PV.sc (vz tl (nF p 0 0))]]⟩
              (.call ⟨39,[AV.mp 0 0,AV.os Ty 1 1 [PV.sc (vz TH 0)]],[aF.pc [PV.ps k 1 B,PV.sc (vz tl (nP p 0 0)),PV.sc (vz tl (nE p 0 0)),PV.sc (vz tl (nF p 0 0))]],AV.p (PV.sc (vz TH (zV (nP p 0 0) (nE p 0 0) (nF p 0 0)))),[aF.pc [PV.ps k 1 B,PV.sc (vz tl (zP (nP p 0 0) (nE p 0 0) (nF p 0 0))),PV.sc (vz tl (zE (nP p 0 0) (nE p 0 0) (nF p 0 0))),PV.sc (vz tl (zF (nP p 0 0) (nE p 0 0) (nF p 0 0)))]]⟩
               (.out (Out.ret (AV.bn []) [aF.pc [PV.ps k 1 B,PV.sc (vz tl (zP (nP p 0 0) (nE p 0 0) (nF p 0 0))),PV.sc (vz tl (zE (nP p 0 0) (nE p 0 0) (nF p 0 0))),PV.sc (vz tl (zF (nP p 0 0) (nE p 0 0) (nF p 0 0)))],aF.ac [AV.p (PV.sc (vz tl op)),AV.p (PV.sc (vz tl 0)),AV.p (PV.sc (vz Tp (nV p 0 0))),AV.p (PV.sc (vz Tp 0)),AV.p (PV.sc (vz TI 0)),ct,ct,ct]]))))
             (.test (op==14)
              (.call ⟨37,[AV.mp 0 0],[aF.pc [PV.ps k 1 B,PV.sc (vz tl p),PV.sc (vz tl 0),PV.sc (vz tl 0)]],AV.p (PV.sc (vz Tp (nV p 0 0))),[aF.pc [PV.ps k 1 B,PV.sc (vz tl (nP p 0 0)),PV.sc (vz tl (nE p 0 0)),PV.sc (vz tl (nF p 0 0))]]⟩
               (.test (decide (nV p 0 0>16384))
                (.test (!nE p 0 0 != 0)
                 (.at (aj ae env 45 15 [AV.mp 0 0,AV.mp 1 0,AV.p (PV.sc (vz Tp (nV p 0 0))),AV.p (PV.sc (vz Tp 0))] ([aF.pc [PV.ps k 1 B,PV.sc (vz tl (nP p 0 0)),PV.sc (vz tl 141),PV.sc (vz tl p)],aF.ac [AV.p (PV.sc (vz tl op)),AV.p (PV.sc (vz tl 0)),AV.p (PV.sc (vz Tp 0)),AV.p (PV.sc (vz Tp 0)),AV.p (PV.sc (vz TI 0)),ct,ct,ct]]) 2 145))
                 (bG k B p op nV nP nE nF))
                (bG k B p op nV nP nE nF)))
              (.test (op==63)
               (.must (op==63)
                (bF k B p op zV zP zE zF))
               (.test (op==64)
                (bF k B p op zV zP zE zF)
                (.test (op==65)
                 (.call ⟨64,[AV.p (PV.ps k 1 B),AV.p (PV.sc (vz tl p))],[],AV.bn [AV.p (PV.sc (vz TI (sV p))),AV.p (PV.sc (vz tl (sN p))),AV.agg [AV.p (PV.sc (vz tl (sE p))),AV.p (PV.sc (vz tl (sF p)))]],[]⟩
                  (.test (sE p != 0)
                   (.out (Out.ret (AV.bn []) [aF.pc [PV.ps k 1 B,PV.sc (vz tl p),PV.sc (vz tl (sE p)),PV.sc (vz tl (sF p))],aF.ac [AV.p (PV.sc (vz tl op)),AV.p (PV.sc (vz tl 0)),AV.p (PV.sc (vz Tp 0)),AV.p (PV.sc (vz Tp 0)),AV.p (PV.sc (vz TI 0)),ct,ct,ct]]))
                   (.out (Out.ret (AV.bn []) [aF.pc [PV.ps k 1 B,PV.sc (vz tl (sN p)),PV.sc (vz tl 0),PV.sc (vz tl 0)],aF.ac [AV.p (PV.sc (vz tl op)),AV.p (PV.sc (vz tl 0)),AV.p (PV.sc (vz Tp 0)),AV.p (PV.sc (vz Tp 0)),AV.p (PV.sc (vz TI (sV p))),ct,ct,ct]]))))
                 (.call ⟨53,[AV.p (PV.sc (vz tl op))],[],AV.bn [AV.p (PV.sc (vz Tp al)),AV.p (PV.sc (Value.bool st))],[]⟩
                  (.test (st)
                   (.call ⟨37,[AV.mp 0 0],[aF.pc [PV.ps k 1 B,PV.sc (vz tl p),PV.sc (vz tl 0),PV.sc (vz tl 0)]],AV.p (PV.sc (vz Tp (nV p 0 0))),[aF.pc [PV.ps k 1 B,PV.sc (vz tl (nP p 0 0)),PV.sc (vz tl (nE p 0 0)),PV.sc (vz tl (nF p 0 0))]]⟩
                    (.call ⟨37,[AV.mp 0 0],[aF.pc [PV.ps k 1 B,PV.sc (vz tl (nP p 0 0)),PV.sc (vz tl (nE p 0 0)),PV.sc (vz tl (nF p 0 0))]],AV.p (PV.sc (vz Tp (nV (nP p 0 0) (nE p 0 0) (nF p 0 0)))),[aF.pc [PV.ps k 1 B,PV.sc (vz tl (nP (nP p 0 0) (nE p 0 0) (nF p 0 0))),PV.sc (vz tl (nE (nP p 0 0) (nE p 0 0) (nF p 0 0))),PV.sc (vz tl (nF (nP p 0 0) (nE p 0 0) (nF p 0 0)))]]⟩
                     (.out (Out.ret (AV.bn []) [aF.pc [PV.ps k 1 B,PV.sc (vz tl (nP (nP p 0 0) (nE p 0 0) (nF p 0 0))),PV.sc (vz tl (nE (nP p 0 0) (nE p 0 0) (nF p 0 0))),PV.sc (vz tl (nF (nP p 0 0) (nE p 0 0) (nF p 0 0)))],aF.ac [AV.p (PV.sc (vz tl op)),AV.p (PV.sc (vz tl 0)),AV.p (PV.sc (vz Tp (nV p 0 0))),AV.p (PV.sc (vz Tp (nV (nP p 0 0) (nE p 0 0) (nF p 0 0)))),AV.p (PV.sc (vz TI 0)),ct,ct,ct]]))))
                   (.out (Out.ret (AV.bn []) [aF.pc [PV.ps k 1 B,PV.sc (vz tl p),PV.sc (vz tl 0),PV.sc (vz tl 0)],aF.ac [AV.p (PV.sc (vz tl op)),AV.p (PV.sc (vz tl 0)),AV.p (PV.sc (vz Tp 0)),AV.p (PV.sc (vz Tp 0)),AV.p (PV.sc (vz TI 0)),ct,ct,ct]]))))))))))))))))))))
theorem Ix (k:Nat) (B:List PV) (p:Int) (op:Int) (al:Int) (st:Bool) (nV:Int→Int→Int→Int) (nP:Int→Int→Int→Int) (nE:Int→Int→Int→Int) (nF:Int→Int→Int→Int) (zV:Int→Int→Int→Int) (zP:Int→Int→Int→Int) (zE:Int→Int→Int→Int) (zF:Int→Int→Int→Int) (wV:Int→Int→Int→Int) (wP:Int→Int→Int→Int) (wE:Int→Int→Int→Int) (wF:Int→Int→Int→Int) (sV:Int→Int) (sN:Int→Int) (sE:Int→Int) (sF:Int→Int):dJ ae env (No k B p op al st nV nP nE nF zV zP zE zF wV wP wE wF sV sN sE sF) 1000000 45 ([AV.mp 0 0,AV.mp 1 0]) ([aF.pc [PV.ps k 1 B,PV.sc (vz tl p),PV.sc (vz tl 0),PV.sc (vz tl 0)],aF.ac [sI tl op,sI tl 0,sI Tp 0,sI Tp 0,sI TI 0,AV.os Ty 0 0 [],AV.os Ty 0 0 [],AV.os Ty 0 0 []]]) Py=cX k B p op al st nV nP nE nF zV zP zE zF wV wP wE wF sV sN sE sF:=by kernel_rfl
def KY (k:Nat) (B:List PV) (p:Int) (e:Int) (fa:Int) (op:Int) (n:Nat) (j:Nat) (kk:Nat) (X:List PV) (nV:Int→Int→Int→Int) (nP:Int→Int→Int→Int) (nE:Int→Int→Int→Int) (nF:Int→Int→Int→Int):hJ:=qa (Nn k B p e fa op n j kk X nV nP nE nF) (Nn k B p e fa op n j kk X nV nP nE nF) [(45,15)] [(45,29,4),(45,0,16)] [(45,0,17)] (Px k B p e fa op n j kk X nV nP nE nF)
def Np:Sc:=(.fork .fin (.lit .fin))
def kM (k:Nat) (B:List PV) (p:Int) (e:Int) (fa:Int) (op:Int) (kk:Nat) (X:List PV) (nV:Int→Int→Int→Int) (nP:Int→Int→Int→Int) (nE:Int→Int→Int→Int) (nF:Int→Int→Int→Int):aP:=
 (.call ⟨37,[AV.mp 0 0],[aF.pc [PV.ps k 1 B,PV.sc (vz tl p),PV.sc (vz tl e),PV.sc (vz tl fa)]],AV.p (PV.sc (vz Tp (nV p e fa))),[aF.pc [PV.ps k 1 B,PV.sc (vz tl (nP p e fa)),PV.sc (vz tl (nE p e fa)),PV.sc (vz tl (nF p e fa))]]⟩ (.out (Out.ret (AV.bn []) [aF.pc [PV.ps k 1 B,PV.sc (vz tl (nP p e fa)),PV.sc (vz tl (nE p e fa)),PV.sc (vz tl (nF p e fa))],aF.ac [AV.p (PV.sc (vz tl op)),AV.p (PV.sc (vz tl 0)),AV.p (PV.sc (vz Tp (nV p e fa))),AV.p (PV.sc (vz Tp 0)),AV.p (PV.sc (vz TI 0)),AV.os (Tz 2) kk 1 X,ct,ct],aF.tok])))
def tQ (k:Nat) (B:List PV) (p:Int) (e:Int) (fa:Int) (op:Int) (n:Nat) (j:Nat) (kk:Nat) (X:List PV) (nV:Int→Int→Int→Int) (nP:Int→Int→Int→Int) (nE:Int→Int→Int→Int) (nF:Int→Int→Int→Int):aP:=
 (.test (decide ((↑j:Int)<(↑n:Int)))
  (.test (!e != 0)
   (.call ⟨37,[AV.mp 0 0],[aF.pc [PV.ps k 1 B,PV.sc (vz tl p),PV.sc (vz tl e),PV.sc (vz tl fa)]],AV.p (PV.sc (vz Tp (nV p e fa))),[aF.pc [PV.ps k 1 B,PV.sc (vz tl (nP p e fa)),PV.sc (vz tl (nE p e fa)),PV.sc (vz tl (nF p e fa))]]⟩
   (.must (((kk+1)*4).ble cE&&(kk+1).ble cE&&true&&true&&true)
    (.need (AV.p (PV.sc (vz Tp (Tp.wrap ((↑j:Int)+1))))=sI Tp (↑(j+1):Int))
     (.at (aj ae env 45 15 [AV.mp 0 0,AV.mp 1 0,AV.p (PV.sc (vz Tp (↑n:Int))),AV.p (PV.sc (vz Tp (↑(j+1):Int)))] ([aF.pc [PV.ps k 1 B,PV.sc (vz tl (nP p e fa)),PV.sc (vz tl (nE p e fa)),PV.sc (vz tl (nF p e fa))],aF.ac [AV.p (PV.sc (vz tl op)),AV.p (PV.sc (vz tl 0)),AV.p (PV.sc (vz Tp 0)),AV.p (PV.sc (vz Tp 0)),AV.p (PV.sc (vz TI 0)),AV.os (Tz 2) (kk+1) 1 (X++[PV.sc (vz Tp (nV p e fa))]),ct,ct],aF.tok]) 2 145)))))
   (kM k B p e fa op kk X nV nP nE nF))
  (kM k B p e fa op kk X nV nP nE nF))
theorem vS (k:Nat) (B:List PV) (p:Int) (e:Int) (fa:Int) (op:Int) (n:Nat) (j:Nat) (kk:Nat) (X:List PV) (nV:Int→Int→Int→Int) (nP:Int→Int→Int→Int) (nE:Int→Int→Int→Int) (nF:Int→Int→Int→Int):grow ae env (KY k B p e fa op n j kk X nV nP nE nF) 1000000 true (aj ae env 45 15 ([AV.mp 0 0,AV.mp 1 0,sI Tp (↑n:Int),sI Tp (↑j:Int)]) ([aF.pc [PV.ps k 1 B,PV.sc (vz tl p),PV.sc (vz tl e),PV.sc (vz tl fa)],aF.ac [sI tl op,sI tl 0,sI Tp 0,sI Tp 0,sI TI 0,AV.os (Tz 2) kk 1 X,AV.os Ty 0 0 [],AV.os Ty 0 0 []],aF.tok]) 2 145) Np atEnd=tQ k B p e fa op n j kk X nV nP nE nF:=by kernel_rfl
def Iy (b:List Nat) (p e fa:Int):Int:=(aQ b ⟨p.toNat,e.toNat,fa.toNat⟩).1
def KZ (b:List Nat) (p e fa:Int):Int:=(aQ b ⟨p.toNat,e.toNat,fa.toNat⟩).2.p
def Iz (b:List Nat) (p e fa:Int):Int:=(aQ b ⟨p.toNat,e.toNat,fa.toNat⟩).2.e
def K0 (b:List Nat) (p e fa:Int):Int:=(aQ b ⟨p.toNat,e.toNat,fa.toNat⟩).2.fa
def LG (ok:Nat→Bool) (b:List Nat) (p e fa:Int):Int:=(eU ok b ⟨p.toNat,e.toNat,fa.toNat⟩).1
def Qv (ok:Nat→Bool) (b:List Nat) (p e fa:Int):Int:=(eU ok b ⟨p.toNat,e.toNat,fa.toNat⟩).2.p
def Qw (ok:Nat→Bool) (b:List Nat) (p e fa:Int):Int:=(eU ok b ⟨p.toNat,e.toNat,fa.toNat⟩).2.e
def Qx (ok:Nat→Bool) (b:List Nat) (p e fa:Int):Int:=(eU ok b ⟨p.toNat,e.toNat,fa.toNat⟩).2.fa
def RH (b:List Nat) (p:Int):Int:=Ho b p.toNat
def RI (b:List Nat) (p:Int):Int:=zJ b p.toNat
def Pz (b:List Nat) (p:Int):Int:=(gS b p.toNat).e
def RJ (b:List Nat) (p:Int):Int:=(gS b p.toNat).fa
def br (b:List Nat):Nat→RS→List Int×RS
 |0,s=>([],s)
 |f+1,s=>if s.e≠0 then([],s) else(((aQ b s).1:Int)::(br b f (aQ b s).2).1,(br b f (aQ b s).2).2)
def ah (b:List Nat) (op:Int) (p:Nat):Ins×RS:=
 if dW op=true then(.mk op (if(eU sC b ⟨p,0,0⟩).1=127 then 1 else 0) 0 0 0 [] [] [],(eU sC b ⟨p,0,0⟩).2)
 else if op=17 then(.mk op 0 (aQ b ⟨p,0,0⟩).1 0 0 [] [] [],(eU xY b (aQ b ⟨p,0,0⟩).2).2)
 else if gI op=true then(.mk op 0 (aQ b ⟨p,0,0⟩).1 0 0 [] [] [],(aQ b ⟨p,0,0⟩).2)
 else if op=14 then
  (.mk op 0 (aQ b (br b (aQ b ⟨p,0,0⟩).1 (if 16384<(aQ b ⟨p,0,0⟩).1∧(aQ b ⟨p,0,0⟩).2.e=0 then⟨(aQ b ⟨p,0,0⟩).2.p,141,p⟩ else(aQ b ⟨p,0,0⟩).2)).2).1 0 0
     (br b (aQ b ⟨p,0,0⟩).1 (if 16384<(aQ b ⟨p,0,0⟩).1∧(aQ b ⟨p,0,0⟩).2.e=0 then⟨(aQ b ⟨p,0,0⟩).2.p,141,p⟩ else(aQ b ⟨p,0,0⟩).2)).1 [] [],
    (aQ b (br b (aQ b ⟨p,0,0⟩).1 (if 16384<(aQ b ⟨p,0,0⟩).1∧(aQ b ⟨p,0,0⟩).2.e=0 then⟨(aQ b ⟨p,0,0⟩).2.p,141,p⟩ else(aQ b ⟨p,0,0⟩).2)).2).2)
 else if op=63∨op=64 then(.mk op 0 0 0 0 [] [] [],(eU xY b ⟨p,0,0⟩).2)
 else if op=65 then(if(gS b p).e≠0 then(.mk op 0 0 0 0 [] [] [],⟨p,(gS b p).e,(gS b p).fa⟩) else(.mk op 0 0 0 (Ho b p) [] [] [],⟨zJ b p,0,0⟩))
 else if dO op=true then(.mk op 0 (aQ b ⟨p,0,0⟩).1 (aQ b (aQ b ⟨p,0,0⟩).2).1 0 [] [] [],(aQ b (aQ b ⟨p,0,0⟩).2).2)
 else(.mk op 0 0 0 0 [] [] [],⟨p,0,0⟩)
def K1 (op:Int):List AV:=[sI .i64 op,sI .i64 0,sI .u32 0,sI .u32 0,sI .i32 0,.os none 0 0 [],.os none 0 0 [],.os none 0 0 []]
def IA:Ins→List AV
 |.mk op r a b nn tg _ _=>[sI .i64 op,sI .i64 r,sI .u32 a,sI .u32 b,sI .i32 nn,.p (.ps tg.length 1 (cD .u32 tg)),.os none 0 0 [],.os none 0 0 []]
theorem IB {b:List Nat} {s:RS}:(aQ b s).1<4294967296:=by
 unfold aQ
 split
 · exact bj _
 · split
   · exact bj _
   · exact Nat.mod_lt _ (by decide)
theorem x7 {b:List Nat} : ∀(f:Nat) {s:RS},dX b s→dX b (br b f s).2
 |0,_,h=>h
 |f+1,s,h=>by
  unfold br
  split
  · exact h
  · exact x7 f (eA h)
theorem Gw {b:List Nat} {op:Int} {n:Nat} (hn:n<4294967296) : ∀(f j:Nat) (s:RS) (X:List PV),dX b s→j+f=n→(s.e=0→n≤16384)→X.length≤j →
  dN ae env (aj ae env 45 15 [.mp 0 0,.mp 1 0,sI .u32 n,sI .u32 j] [s.aN b,.ac [sI .i64 op,sI .i64 0,sI .u32 0,sI .u32 0,sI .i32 0,.os (some 2) X.length 1 X,.os none 0 0 [],.os none 0 0 []],.tok] 2 145)
   (.ret (.bn []) [(aQ b (br b f s).2).2.aN b,.ac [sI .i64 op,sI .i64 0,sI .u32 (aQ b (br b f s).2).1,sI .u32 0,sI .i32 0,.os (some 2) (X++cD .u32 (br b f s).1).length 1 (X++cD .u32 (br b f s).1),.os none 0 0 [],.os none 0 0 []],.tok]):=by
 have dK:cE=70368744177664:=rfl
 intro f
 induction f with
 |zero=>
  intro j s X hs hj he hX
  have IC:=nL hs
  have d:decide ((j:Int)<(n:Int))=false:=decide_eq_false (by omega)
  obtain⟨p,e,fa⟩:=s
  refine aD dy (vS b.length (bt b) p e fa op n j X.length X (Iy b) (KZ b) (Iz b) (K0 b)) ?_
  simp only[tQ,kM,cJ,aP.ok,d,pC,false_implies,true_implies,true_and,Iy,KZ,Iz,K0,TE,br]
  exact⟨IC,by simp[cD,RS.aN]⟩
 |succ f ih=>
  intro j s X hs hj he hX
  have IC:=nL hs
  have d:decide ((j:Int)<(n:Int))=true:=decide_eq_true (by omega)
  have w:Tp.wrap ((j:Int)+1)=((j+1:Nat):Int):=by rw[C5 (by omega) (by omega)];rfl
  by_cases h0:s.e=0
  · have hn2:=he h0
    have k:=ih (j+1) (aQ b s).2 (X++[.sc (.int .u32 ((aQ b s).1:Int))]) (eA hs) (by omega) (fun _=>hn2) (by simp only[dC,od,Tr];omega)
    have e1:br b (f+1) s=(((aQ b s).1:Int)::(br b f (aQ b s).2).1,(br b f (aQ b s).2).2):=by rw[br,if_neg (by simpa using h0)]
    have e2:(X++[.sc (.int .u32 ((aQ b s).1:Int))])++cD .u32 (br b f (aQ b s).2).1=X++cD .u32 (((aQ b s).1:Int)::(br b f (aQ b s).2).1):=by simp[cD]
    rw[e2] at k
    rw[e1]
    dsimp only
    obtain⟨p,e,fa⟩:=s
    dsimp only at h0
    subst h0
    refine aD dy (vS b.length (bt b) p 0 fa op n j X.length X (Iy b) (KZ b) (Iz b) (K0 b)) ?_
    simp only[tQ,kM,cJ,aP.ok,d,show(!((0:Int) != 0))=true from rfl,TJ,pC,false_implies,true_implies,true_and,and_true,Iy,KZ,Iz,K0,TE,Int.toNat_zero,w,dK,Nat.ble_eq,Bool.and_eq_true]
    refine⟨IC,⟨by omega,by omega⟩,?_⟩
    simp only[dC,od,Tr,Nat.zero_add] at k ⊢
    exact k
  · have e1:br b (f+1) s=([],s):=by rw[br,if_pos h0]
    rw[e1]
    obtain⟨p,e,fa⟩:=s
    dsimp only at h0
    have de:(!((e:Int) != 0))=false:=by rw[wU,decide_eq_true h0];rfl
    refine aD dy (vS b.length (bt b) p e fa op n j X.length X (Iy b) (KZ b) (Iz b) (K0 b)) ?_
    simp only[tQ,kM,cJ,aP.ok,d,de,TJ,pC,false_implies,true_implies,true_and,and_true,Iy,KZ,Iz,K0,TE]
    exact⟨IC,by simp[cD,RS.aN]⟩
theorem Gx {g:Gh} {w:World} : ∀(a b c d e:AV) (vs:List Value),bO g w [a,b,c,d,e,.os none 0 0 [],.os none 0 0 [],.os none 0 0 []] vs→bO g w [a,b,c,d,e,.os (some 2) 0 1 [],.os none 0 0 [],.os none 0 0 []] vs
 |_,_,_,_,_,[_,_,_,_,_,_,_,_],⟨h1,h2,h3,h4,h5,h6,h7,h8,h9⟩=>⟨h1,h2,h3,h4,h5,VA.oJ (ch 1) h6,h7,h8,h9⟩
theorem Gy {g:Gh} {w:World} : ∀(a b c d e:AV) (vs:List Value),bO g w [a,b,c,d,e,.os none 0 0 [],.os none 0 0 [],.os none 0 0 []] vs→bO g w [a,b,c,d,e,.p (.ps 0 1 []),.os none 0 0 [],.os none 0 0 []] vs
 |_,_,_,_,_,[_,_,_,_,_,_,_,_],⟨h1,h2,h3,h4,h5,h6,h7,h8,h9⟩=>⟨h1,h2,h3,h4,h5,VA.Nl (ch 1) h6,h7,h8,h9⟩
theorem Gz {g:Gh} {w:World} {t:Option Nat} {n:Nat} {X:List PV} : ∀(a b c d e:AV) (vs:List Value),bO g w [a,b,c,d,e,.os t n 1 X,.os none 0 0 [],.os none 0 0 []] vs→bO g w [a,b,c,d,e,.p (.ps n 1 X),.os none 0 0 [],.os none 0 0 []] vs
 |_,_,_,_,_,[_,_,_,_,_,_,_,_],⟨h1,h2,h3,h4,h5,h6,h7,h8,h9⟩=>⟨h1,h2,h3,h4,h5,VA.bare h6,h7,h8,h9⟩
theorem Cp {b:List Nat} {op:Int} {n:Nat} (hn:n<4294967296) {s2:RS} (He:dX b s2) (he:s2.e=0→n≤16384) :
  dN ae env (aj ae env 45 15 [.mp 0 0,.mp 1 0,sI .u32 n,sI .u32 0] [s2.aN b,.ac [sI .i64 op,sI .i64 0,sI .u32 0,sI .u32 0,sI .i32 0,.os none 0 0 [],.os none 0 0 [],.os none 0 0 []]] 2 145)
   (.ret (.bn []) [(aQ b (br b n s2).2).2.aN b,.ac [sI .i64 op,sI .i64 0,sI .u32 (aQ b (br b n s2).2).1,sI .u32 0,sI .i32 0,.os (some 2) (cD .u32 (br b n s2).1).length 1 (cD .u32 (br b n s2).1),.os none 0 0 [],.os none 0 0 []],.tok]):=by
 have k:=Gw (op:=op) hn n 0 s2 [] He (by omega) he (ch _)
 rw[List.nil_append] at k
 exact dN.Iv (i:=1) (l':=[sI .i64 op,sI .i64 0,sI .u32 0,sI .u32 0,sI .i32 0,.os (some 2) 0 1 [],.os none 0 0 [],.os none 0 0 []]) rfl rfl (fun g w vs=>Gx _ _ _ _ _ vs) k
theorem fC {b:List Nat} {op r a bb nn:Int} {p0:Nat} {s:RS} {m0:Mem} (h:aO ae env 45 [.mp 0 0,.mp 1 0] m0 (.bn []) [s.aN b,.ac [sI .i64 op,sI .i64 r,sI .u32 a,sI .u32 bb,sI .i32 nn,.os none 0 0 [],.os none 0 0 [],.os none 0 0 []]]) :
  aO ae env 45 [.mp 0 0,.mp 1 0] m0 (.bn []) [s.aN b,.ac (IA (.mk op r a bb nn [] [] [])),.dead]:=
 (h.Dj (i:=1) rfl fun g w vs=>Gy _ _ _ _ _ vs).Nk
set_option maxHeartbeats 8000000 in
theorem rq {b:List Nat} {op:Int} {p:Nat} (hf:dX b ⟨p,0,0⟩):aO ae env 45 [.mp 0 0,.mp 1 0] [RS.aN b ⟨p,0,0⟩,.ac (K1 op)] (.bn []) [(ah b op p).2.aN b,.ac (IA (ah b op p).1),.dead]:=by
 have dK:cE=70368744177664:=rfl
 have t1:=Ix b.length (bt b) p op (vJ op) (dO op) (Iy b) (KZ b) (Iz b) (K0 b) (LG xY b) (Qv xY b) (Qw xY b) (Qx xY b) (LG sC b) (Qv sC b) (Qw sC b) (Qx sC b) (RH b) (RI b) (Pz b) (RJ b)
 have a1:=oI op
 have d1:=nL hf
 have d2:=Co hf
 have d3:=vR hf
 have d4:=Eg hf
 have d5:=nL (eA hf)
 have d6:=vR (eA hf)
 cases dj:dW op with
 |true=>
  have hop:(op==2)=true∨((op==2)=false∧(op==3)=true)∨((op==2)=false∧(op==3)=false∧(op==4)=true):=by
   rcases ez.1 dj with rfl | rfl | rfl
   · exact .inl rfl
   · exact .inr (.inl ⟨rfl,rfl⟩)
   · exact .inr (.inr ⟨rfl,rfl,rfl⟩)
  have e:ah b op p=(.mk op (if(eU sC b ⟨p,0,0⟩).1=127 then 1 else 0) 0 0 0 [] [] [],(eU sC b ⟨p,0,0⟩).2):=by rw[ah,if_pos dj]
  rw[e]
  refine fC (p0:=p) (az dy t1 ?_)
  by_cases hw:(eU sC b ⟨p,0,0⟩).1=127
  · have dw:(LG sC b p 0 0==127)=true:=by
     have:LG sC b p 0 0=127:=by show(((eU sC b ⟨p,0,0⟩).1:Nat):Int)=127;omega
     rw[this];rfl
    rcases hop with o2 | ⟨o2,o3⟩ | ⟨o2,o3,o4⟩
    · simp only[cX,bh,bC,bF,bG,cJ,aP.ok,o2,dw,TJ,pC,false_implies,true_implies,true_and,and_true]
      exact⟨d2,by rw[if_pos hw];rfl⟩
    · simp only[cX,bh,bC,bF,bG,cJ,aP.ok,o2,o3,dw,TJ,pC,false_implies,true_implies,true_and,and_true]
      exact⟨d2,by rw[if_pos hw];rfl⟩
    · simp only[cX,bh,bC,bF,bG,cJ,aP.ok,o2,o3,o4,dw,TJ,pC,false_implies,true_implies,true_and,and_true]
      exact⟨d2,by rw[if_pos hw];rfl⟩
  · have dw:(LG sC b p 0 0==127)=false:=by
     cases h:(LG sC b p 0 0==127) with
     |false=>rfl
     |true=>
      have h:=eq_of_beq h
      have:(((eU sC b ⟨p,0,0⟩).1:Nat):Int)=127:=h
      omega
    rcases hop with o2 | ⟨o2,o3⟩ | ⟨o2,o3,o4⟩
    · simp only[cX,bh,bC,bF,bG,cJ,aP.ok,o2,dw,TJ,pC,false_implies,true_implies,true_and,and_true]
      exact⟨d2,by rw[if_neg hw];rfl⟩
    · simp only[cX,bh,bC,bF,bG,cJ,aP.ok,o2,o3,dw,TJ,pC,false_implies,true_implies,true_and,and_true]
      exact⟨d2,by rw[if_neg hw];rfl⟩
    · simp only[cX,bh,bC,bF,bG,cJ,aP.ok,o2,o3,o4,dw,TJ,pC,false_implies,true_implies,true_and,and_true]
      exact⟨d2,by rw[if_neg hw];rfl⟩
 |false=>
  have n2:(op==2)=false:=by cases h:op==2 with | false=>rfl | true=>rw[ez.2 (.inl (eq_of_beq h))] at dj;cases dj
  have n3:(op==3)=false:=by cases h:op==3 with | false=>rfl | true=>rw[ez.2 (.inr (.inl (eq_of_beq h)))] at dj;cases dj
  have n4:(op==4)=false:=by cases h:op==4 with | false=>rfl | true=>rw[ez.2 (.inr (.inr (eq_of_beq h)))] at dj;cases dj
  have ID : ¬dW op=true:=by rw[dj];decide
  by_cases iM:op=17
  · have e:ah b op p=(.mk op 0 (aQ b ⟨p,0,0⟩).1 0 0 [] [] [],(eU xY b (aQ b ⟨p,0,0⟩).2).2):=by rw[ah,if_neg ID,if_pos iM]
    rw[e]
    refine fC (p0:=p) (az dy t1 ?_)
    simp only[cX,bh,bC,bF,bG,cJ,aP.ok,n2,n3,n4,show(op==12)=false from by rw[iM];rfl,show(op==13)=false from by rw[iM];rfl,show(op==16)=false from by rw[iM];rfl,show(op==32)=false from by rw[iM];rfl,show(op==33)=false from by rw[iM];rfl,show(op==34)=false from by rw[iM];rfl,show(op==35)=false from by rw[iM];rfl,show(op==36)=false from by rw[iM];rfl,show(op==17)=true from by rw[iM];rfl,TJ,pC,false_implies,true_implies,true_and,and_true]
    exact⟨d1,d6,rfl⟩
  · have zK:(op==17)=false:=by simpa using iM
    cases oM:gI op with
    |true=>
     have e:ah b op p=(.mk op 0 (aQ b ⟨p,0,0⟩).1 0 0 [] [] [],(aQ b ⟨p,0,0⟩).2):=by rw[ah,if_neg ID,if_neg iM,if_pos oM]
     rw[e]
     refine fC (p0:=p) (az dy t1 ?_)
     have hop:op=12∨op=13∨op=16∨op=32∨op=33∨op=34∨op=35∨op=36:=by
      have:=m4.1 oM
      clear t1 a1 d1 d2 d3 d4 d5 d6 e
      omega
     clear e
     rcases hop with rfl | rfl | rfl | rfl | rfl | rfl | rfl | rfl
     · simp only[cX,bh,bC,bF,bG,cJ,aP.ok,TT,TJ,pC,false_implies,true_implies,true_and,and_true]
       exact⟨d1,rfl⟩
     · simp only[cX,bh,bC,bF,bG,cJ,aP.ok,TT,TJ,pC,false_implies,true_implies,true_and,and_true]
       exact⟨d1,rfl⟩
     · simp only[cX,bh,bC,bF,bG,cJ,aP.ok,TT,TJ,pC,false_implies,true_implies,true_and,and_true]
       exact⟨d1,rfl⟩
     · simp only[cX,bh,bC,bF,bG,cJ,aP.ok,TT,TJ,pC,false_implies,true_implies,true_and,and_true]
       exact⟨d1,rfl⟩
     · simp only[cX,bh,bC,bF,bG,cJ,aP.ok,TT,TJ,pC,false_implies,true_implies,true_and,and_true]
       exact⟨d1,rfl⟩
     · simp only[cX,bh,bC,bF,bG,cJ,aP.ok,TT,TJ,pC,false_implies,true_implies,true_and,and_true]
       exact⟨d1,rfl⟩
     · simp only[cX,bh,bC,bF,bG,cJ,aP.ok,TT,TJ,pC,false_implies,true_implies,true_and,and_true]
       exact⟨d1,rfl⟩
     · simp only[cX,bh,bC,bF,bG,cJ,aP.ok,TT,TJ,pC,false_implies,true_implies,true_and,and_true]
       exact⟨d1,rfl⟩
    |false=>
     have K2 : ¬gI op=true:=by rw[oM];decide
     have m : ∀c:Int,gI c=true→(op==c)=false:=fun c hc=>by cases h:op==c with | false=>rfl | true=>rw[eq_of_beq h,hc] at oM;cases oM
     by_cases oN:op=14
     · have zL:(op==14)=true:=by rw[oN];rfl
       have e:ah b op p=(.mk op 0 (aQ b (br b (aQ b ⟨p,0,0⟩).1 (if 16384<(aQ b ⟨p,0,0⟩).1∧(aQ b ⟨p,0,0⟩).2.e=0 then⟨(aQ b ⟨p,0,0⟩).2.p,141,p⟩ else(aQ b ⟨p,0,0⟩).2)).2).1 0 0
        (br b (aQ b ⟨p,0,0⟩).1 (if 16384<(aQ b ⟨p,0,0⟩).1∧(aQ b ⟨p,0,0⟩).2.e=0 then⟨(aQ b ⟨p,0,0⟩).2.p,141,p⟩ else(aQ b ⟨p,0,0⟩).2)).1 [] [],
        (aQ b (br b (aQ b ⟨p,0,0⟩).1 (if 16384<(aQ b ⟨p,0,0⟩).1∧(aQ b ⟨p,0,0⟩).2.e=0 then⟨(aQ b ⟨p,0,0⟩).2.p,141,p⟩ else(aQ b ⟨p,0,0⟩).2)).2).2):=by
        rw[ah,if_neg ID,if_neg iM,if_neg K2,if_pos oN]
       rw[e]
       have hn:=IB (b:=b) (s:=⟨p,0,0⟩)
       have hfit:=eA hf
       have CU:p≤b.length:=hf.p
       have loop:=fun(s2:RS) (He:dX b s2) (he:s2.e=0→(aQ b ⟨p,0,0⟩).1≤16384)=>Cp (op:=op) hn He he
       have fin : ∀s2:RS,aO ae env 45 [.mp 0 0,.mp 1 0] [RS.aN b ⟨p,0,0⟩,.ac (K1 op)] (.bn []) [(aQ b (br b (aQ b ⟨p,0,0⟩).1 s2).2).2.aN b,.ac [sI .i64 op,sI .i64 0,sI .u32 (aQ b (br b (aQ b ⟨p,0,0⟩).1 s2).2).1,sI .u32 0,sI .i32 0,.os (some 2) (cD .u32 (br b (aQ b ⟨p,0,0⟩).1 s2).1).length 1 (cD .u32 (br b (aQ b ⟨p,0,0⟩).1 s2).1),.os none 0 0 [],.os none 0 0 []],.tok] →
        aO ae env 45 [.mp 0 0,.mp 1 0] [RS.aN b ⟨p,0,0⟩,.ac (K1 op)] (.bn []) [(aQ b (br b (aQ b ⟨p,0,0⟩).1 s2).2).2.aN b,.ac (IA (.mk op 0 (aQ b (br b (aQ b ⟨p,0,0⟩).1 s2).2).1 0 0 (br b (aQ b ⟨p,0,0⟩).1 s2).1 [] [])),.dead]:=fun s2 h=>by
        have h1:=(h.Nj 2).Dj (i:=1) (l':=IA (.mk op 0 (aQ b (br b (aQ b ⟨p,0,0⟩).1 s2).2).1 0 0 (br b (aQ b ⟨p,0,0⟩).1 s2).1 [] [])) rfl (fun g w vs hv=>by
         have:=Gz _ _ _ _ _ vs hv
         rw[show(cD .u32 (br b (aQ b ⟨p,0,0⟩).1 s2).1).length=(br b (aQ b ⟨p,0,0⟩).1 s2).1.length by simp[cD]] at this
         exact this)
        exact h1
       refine fin _ (az dy t1 ?_)
       by_cases BO:16384<(aQ b ⟨p,0,0⟩).1
       · have IE:decide (Iy b p 0 0>16384)=true:=decide_eq_true (by show((aQ b ⟨p,0,0⟩).1:Int)>16384;omega)
         by_cases he:(aQ b ⟨p,0,0⟩).2.e=0
         · have de:(!(Iz b p 0 0 != 0))=true:=by show(!(((aQ b ⟨p,0,0⟩).2.e:Int) != 0))=true;rw[he];rfl
           rw[if_pos ⟨BO,he⟩]
           simp only[cX,bh,bC,bF,bG,cJ,aP.ok,n2,n3,n4,m 12 rfl,m 13 rfl,m 16 rfl,m 32 rfl,m 33 rfl,m 34 rfl,m 35 rfl,m 36 rfl,zK,zL,IE,de,TJ,pC,false_implies,true_implies,true_and,and_true]
           exact⟨d1,loop ⟨(aQ b ⟨p,0,0⟩).2.p,141,p⟩ ⟨hfit.iV,hfit.len,hfit.p⟩ (fun h=>by cases h)⟩
         · have de:(!(Iz b p 0 0 != 0))=false:=by show(!(((aQ b ⟨p,0,0⟩).2.e:Int) != 0))=false;rw[wU,decide_eq_true he];rfl
           rw[if_neg (fun h=>he h.2)]
           simp only[cX,bh,bC,bF,bG,cJ,aP.ok,n2,n3,n4,m 12 rfl,m 13 rfl,m 16 rfl,m 32 rfl,m 33 rfl,m 34 rfl,m 35 rfl,m 36 rfl,zK,zL,IE,de,TJ,pC,false_implies,true_implies,true_and,and_true]
           exact⟨d1,loop (aQ b ⟨p,0,0⟩).2 hfit (fun h=>absurd h he)⟩
       · have IE:decide (Iy b p 0 0>16384)=false:=decide_eq_false (by show ¬((aQ b ⟨p,0,0⟩).1:Int)>16384;omega)
         rw[if_neg (fun h=>BO h.1)]
         simp only[cX,bh,bC,bF,bG,cJ,aP.ok,n2,n3,n4,m 12 rfl,m 13 rfl,m 16 rfl,m 32 rfl,m 33 rfl,m 34 rfl,m 35 rfl,m 36 rfl,zK,zL,IE,TJ,pC,false_implies,true_implies,true_and,and_true]
         exact⟨d1,loop (aQ b ⟨p,0,0⟩).2 hfit (fun _=>by omega)⟩
     · have zL:(op==14)=false:=by simpa using oN
       by_cases h63:op=63
       · have e:ah b op p=(.mk op 0 0 0 0 [] [] [],(eU xY b ⟨p,0,0⟩).2):=by rw[ah,if_neg ID,if_neg iM,if_neg K2,if_neg oN,if_pos (.inl h63)]
         rw[e]
         refine fC (p0:=p) (az dy t1 ?_)
         simp only[cX,bh,bC,bF,bG,cJ,aP.ok,n2,n3,n4,m 12 rfl,m 13 rfl,m 16 rfl,m 32 rfl,m 33 rfl,m 34 rfl,m 35 rfl,m 36 rfl,zK,zL,show(op==63)=true from by rw[h63];rfl,TJ,pC,false_implies,true_implies,true_and,and_true]
         exact⟨d3,rfl⟩
       · have Ex:(op==63)=false:=by simpa using h63
         by_cases Eh:op=64
         · have e:ah b op p=(.mk op 0 0 0 0 [] [] [],(eU xY b ⟨p,0,0⟩).2):=by rw[ah,if_neg ID,if_neg iM,if_neg K2,if_neg oN,if_pos (.inr Eh)]
           rw[e]
           refine fC (p0:=p) (az dy t1 ?_)
           simp only[cX,bh,bC,bF,bG,cJ,aP.ok,n2,n3,n4,m 12 rfl,m 13 rfl,m 16 rfl,m 32 rfl,m 33 rfl,m 34 rfl,m 35 rfl,m 36 rfl,zK,zL,Ex,show(op==64)=true from by rw[Eh];rfl,TJ,pC,false_implies,true_implies,true_and,and_true]
           exact⟨d3,rfl⟩
         · have Hp:(op==64)=false:=by simpa using Eh
           have n6 : ¬(op=63∨op=64):=fun h=>h.elim h63 Eh
           by_cases vT:op=65
           · have Hq:(op==65)=true:=by rw[vT];rfl
             by_cases hg:(gS b p).e≠0
             · have e:ah b op p=(.mk op 0 0 0 0 [] [] [],⟨p,(gS b p).e,(gS b p).fa⟩):=by rw[ah,if_neg ID,if_neg iM,if_neg K2,if_neg oN,if_neg n6,if_pos vT,if_pos hg]
               have de:(Pz b p != 0)=true:=by show(((gS b p).e:Int) != 0)=true;rw[wU];exact decide_eq_true hg
               rw[e]
               refine fC (p0:=p) (az dy t1 ?_)
               simp only[cX,bh,bC,bF,bG,cJ,aP.ok,n2,n3,n4,m 12 rfl,m 13 rfl,m 16 rfl,m 32 rfl,m 33 rfl,m 34 rfl,m 35 rfl,m 36 rfl,zK,zL,Ex,Hp,Hq,de,TJ,pC,false_implies,true_implies,true_and,and_true]
               exact⟨d4,rfl⟩
             · have e:ah b op p=(.mk op 0 0 0 (Ho b p) [] [] [],⟨zJ b p,0,0⟩):=by rw[ah,if_neg ID,if_neg iM,if_neg K2,if_neg oN,if_neg n6,if_pos vT,if_neg hg]
               have de:(Pz b p != 0)=false:=by show(((gS b p).e:Int) != 0)=false;rw[wU];exact decide_eq_false hg
               rw[e]
               refine fC (p0:=p) (az dy t1 ?_)
               simp only[cX,bh,bC,bF,bG,cJ,aP.ok,n2,n3,n4,m 12 rfl,m 13 rfl,m 16 rfl,m 32 rfl,m 33 rfl,m 34 rfl,m 35 rfl,m 36 rfl,zK,zL,Ex,Hp,Hq,de,TJ,pC,false_implies,true_implies,true_and,and_true]
               exact⟨d4,rfl⟩
           · have Hq:(op==65)=false:=by simpa using vT
             cases hst:dO op with
             |true=>
              rw[hst] at a1 t1
              have e:ah b op p=(.mk op 0 (aQ b ⟨p,0,0⟩).1 (aQ b (aQ b ⟨p,0,0⟩).2).1 0 [] [] [],(aQ b (aQ b ⟨p,0,0⟩).2).2):=by rw[ah,if_neg ID,if_neg iM,if_neg K2,if_neg oN,if_neg n6,if_neg vT,if_pos hst]
              rw[e]
              refine fC (p0:=p) (az dy t1 ?_)
              simp only[cX,bh,bC,bF,bG,cJ,aP.ok,n2,n3,n4,m 12 rfl,m 13 rfl,m 16 rfl,m 32 rfl,m 33 rfl,m 34 rfl,m 35 rfl,m 36 rfl,zK,zL,Ex,Hp,Hq,TJ,pC,false_implies,true_implies,true_and,and_true]
              exact⟨a1,d1,d5,rfl⟩
             |false=>
              rw[hst] at a1 t1
              have e:ah b op p=(.mk op 0 0 0 0 [] [] [],⟨p,0,0⟩):=by rw[ah,if_neg ID,if_neg iM,if_neg K2,if_neg oN,if_neg n6,if_neg vT,if_neg (by rw[hst];decide)]
              rw[e]
              refine fC (p0:=p) (az dy t1 ?_)
              simp only[cX,bh,bC,bF,bG,cJ,aP.ok,n2,n3,n4,m 12 rfl,m 13 rfl,m 16 rfl,m 32 rfl,m 33 rfl,m 34 rfl,m 35 rfl,m 36 rfl,zK,zL,Ex,Hp,Hq,TJ,pC,false_implies,true_implies,true_and,and_true]
              exact⟨a1,rfl⟩
end Go.Proofs.YtddfgnmjecogdaaDoor.N
end
