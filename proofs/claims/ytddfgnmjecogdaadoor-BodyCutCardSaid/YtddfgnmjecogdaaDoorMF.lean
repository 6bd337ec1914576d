import Derived.Test.YtddfgnmjecogdaaDoorME
import Derived.RangeFuncLeaves
import Derived.RangeFuncIn
import Derived.RangeFuncRecord
open Option.some renaming injEq→dk,inj→dp
open Prod.mk renaming injEq→kl
open List renaming getD_eq_getElem?_getD→dd,range_eq_range'→S7,cons_append→S8,getElem?_eq_getElem→da,mem_append→o0,nil_append→SX,range'→H2,getElem?_set_self→nd,getElem?_eq_none→ee,getElem?_set_ne→ov,mem_of_getElem?→oe,zip_cons_cons→S9,getElem?_map→fe,mapM_cons→Ta,mem_map→fi,rec→Tb
open Go.Sem renaming run_bind→km,run_pure→kp,runT_eq→Tc
open Go.Result renaming andThen_ok→kv
open Bool renaming and_eq_true→di,false_eq_true→pC,rec→Td
open Nat renaming beq→a6,eq_zero_or_pos→rk,le_refl→ch,eq_of_beq_eq_true→a8,lt_or_ge→gg,le_of_ble_eq_true→ft,beq_refl→zr,zero_le→S3,sub_zero→Te,blt→ba,rec→Tf
open Array renaming getD_eq_getD_getElem?→H5,getElem?_eq_getElem→ie,length_toList→ik,getElem?_eq_none→SD,toList_append→SE
open Go.Steps renaming refl→S6
open Go.Frame renaming enter→If,atR→SA,round→Tg
open Option renaming getD_some→kb,rec→Th
noncomputable section
section
namespace Go.Am
open Go.RowKit
section
variable {P:Program} {E:Env} {g:Gh} {w:World}
def DV (a:Act):ResultVar→Sem Value
 |.tmp t=>pure (a.tmps.getD t undef)
 |.cell x t=>do loadVar t (←asAddr (a.tmps.getD x undef))
theorem iI {st:St} {a:Act} (h:bR E g st a w) : ∀{rs:List ResultVar} {vs:List AV},gQ P st rs=some (vs,true) →
  ∃pT:List Value,(rs.mapM (DV a)).run P w = .ok pT w∧bO g w vs pT
 |[],vs,he=>by
  simp only[gQ,dk,kl,and_true] at he;subst he
  exact⟨[],rfl,trivial⟩
 |.tmp t::rs,vs,he=>by
  simp only[gQ,Option.map_eq_some_iff,kl] at he
  obtain⟨⟨us,ok⟩,h1,rfl,rfl⟩:=he
  obtain⟨pT,k1,k2⟩:=iI h h1
  refine⟨_::pT,?_,h.tm t,k2⟩
  simp only[Ta,km,DV,kp,kv,k1]
 |.cell x t::rs,vs,he=>by
  simp only[gQ] at he
  split at he
  · rename_i v ok us P3 h1 h2
    simp only[dk,kl,di] at he
    obtain⟨rfl,rfl,rfl⟩:=he
    obtain⟨c,o,cv,k1,k2,k3⟩:=pe h.rel (h.tm x) h1
    obtain⟨pT,k4,k5⟩:=iI h h2
    refine⟨cv::pT,?_,k3,k5⟩
    have ha:(asAddr (.pointer (some ⟨c,o,none⟩))).run P w = .ok ⟨c,o,none⟩ w:=rfl
    have hone:(DV a (.cell x t)).run P w = .ok cv w:=by simp only[DV,k1,km,ha,kv,k2]
    simp only[Ta,km,hone,kp,kv,k4]
  · cases he
theorem xM {vs:List AV} {pT:List Value} (h:bO g w vs pT) : ∃cv,(if h:pT.toArray.size=1 then pT.toArray[0] else .tuple pT.toArray)=cv∧VA g w (one vs) cv:=by
 refine⟨_,rfl,?_⟩
 match vs,pT,h with
 |[v],[cv],h=>exact h.1
 |[],[],_=>exact VA.iR.2 trivial
 |v::v'::vs,cv::N3::pT,h=>
  rw[dif_neg (by simp)]
  exact VA.iR.2 h
theorem AR {fn:Func} {a:Act} {pT:List Value} {cv:Value} (h:(fn.results.toList.mapM (DV a)).run P w = .ok pT w)
  (hc:(if h:pT.toArray.size=1 then pT.toArray[0] else .tuple pT.toArray)=cv):(results fn a.tmps).run P w = .ok cv w:=by
 have e:results fn a.tmps=(do let vs ←fn.results.mapM (DV a);pure (if h:vs.size=1 then vs[0] else .tuple vs)):=rfl
 rw[e,Array.mapM_eq_mapM_toList]
 simp only[km,Sem.run_map,h,kv,kp,hc]
theorem Rel.xN {m:Mem} (h:Rel g m w) : ∀(F:List Nat),(∀b∈F,∃l,m[b]? = some (.pc l)) →
  ∃g' m',Rel g' m' w∧Ext g w g' w∧b7 g m w g' m' w∧g'.aN=g.aN∧g'.lo=g.lo∧g'.hi=g.hi∧m'.length=m.length∧(∀i,i∉F→m'[i]? = m[i]?) ∧
   ∀b∈F,∀l c,m[b]? = some (.pc l)→g.aN b=some c → ∀o,o<l.length→g'.pure c o
 |[],_=>⟨g,m,h,Ext.refl _ _,b7.refl _ _ _,rfl,rfl,rfl,rfl,fun _ _=>rfl,fun _ hb=>by cases hb⟩
 |b::F,hF=>by
  obtain⟨g',m',k1,k2,k3,k4,k5,k6,k7,k8,k9⟩:=Rel.xN h F fun b hb=>hF b (.tail _ hb)
  by_cases hb:b∈F
  · refine⟨g',m',k1,k2,k3,k4,k5,k6,k7,fun i hi=>k8 i fun q=>hi (.tail _ q),fun b' hb'=> ?_⟩
    cases hb' with
    |head=>exact k9 b hb
    |tail _ hb'=>exact k9 b' hb'
  · obtain⟨l,hl⟩:=hF b (.head _)
    have hl':m'[b]? = some (.pc l):=(k8 b hb).trans hl
    obtain⟨c,cs,e,n,q1,_⟩:=h.cells b _ _ hl rfl
    obtain⟨r1,r2,r3⟩:=k1.CN hl' (by rw[k4];exact q1)
    refine⟨_,_,r1,k2.trans r2,k3.trans r3,k4,k5,k6,by simp[k7],fun i hi=> ?_,fun b' hb' l' c' Kb dx o ho=> ?_⟩
    · have hne:b≠i:=fun e=>hi (e ▸ .head _)
      rw[ov hne]
      exact k8 i fun q=>hi (.tail _ q)
    · cases hb' with
      |head=>
       rw[hl] at Kb;cases Kb
       rw[q1] at dx;cases dx
       exact .inr ⟨rfl,S3 _,ho⟩
      |tail _ hb'=>exact .inl (k9 b' hb' l' c' Kb dx o ho)
theorem DW {m:Mem} {kept:List Nat} {v:AV} : ∀b∈(freeze m kept v).2.2,∃l,m[b]? = some (.pc l):=by
 intro b hb
 unfold freeze at hb
 split at hb
 · rename_i b' off len sz cap
   cases hk:(has kept b'||a6 len 0) with
   |true=>simp[hk] at hb
   |false=>
    simp only[hk,cond_false] at hb
    split at hb
    · rename_i l hl
      simp only[List.mem_singleton] at hb
      subst hb
      exact⟨l,getD_some hl (by simp)⟩
    · simp at hb
 · simp at hb
theorem vh {m:Mem} {kept:List Nat} : ∀{vs:List AV},∀b∈(fN m kept vs).2.2,∃l,m[b]? = some (.pc l)
 |[],b,hb=>by simp[fN] at hb
 |v::vs,b,hb=>by
  simp only[fN,o0] at hb
  rcases hb with hb | hb
  · exact DW b hb
  · exact vh b hb
theorem zg {m:Mem} (h:Rel g m w) {g':Gh} (he:Ext g w g' w) {kept:List Nat} {v:AV} {cv:Value} (hv:VA g w v cv) (hok:(freeze m kept v).2.1=true)
  (hp : ∀b∈(freeze m kept v).2.2,∀l c,m[b]? = some (.pc l)→g.aN b=some c → ∀o,o<l.length→g'.pure c o):VA g' w (freeze m kept v).1 cv:=by
 unfold freeze at hok hp ⊢
 split at hok
 · rename_i b off len sz cap
   cases hk:(has kept b||a6 len 0) with
   |true=>simp only[cond_true];exact hv.mono he
   |false=>
    simp only[hk,cond_false] at hok hp ⊢
    split at hok
    · rename_i l hl
      simp only[hl] at hp ⊢
      have hl:=getD_some hl (by simp)
      obtain⟨hok,hz⟩:=(di _ _).mp hok
      have hle:=ft hok
      have hz:=ft hz
      cases hv with
      |ms _ _ _ _ cap c hc hcap=>
      obtain⟨c',cs,e,n,k1,k2,k3,k4,k5⟩:=h.cells b _ _ hl rfl
      rw[hc] at k1;cases k1
      have hlen:=k4.1.len
      simp only[List.length_map,ik] at hlen
      have hpure:=hp b (by simp) l c hl hc
      have Ol:rJ g w l cs.toList:=aV.cP (by simpa using k4.1.len) fun i a b=>by
       have:=k4.1.get i (by simpa using a) b
       rw[List.getElem_map,VA.pv] at this
       exact this
      refine .p _ _ (VP.mk (us:=(cs.toList.drop off).take (len*sz)) (aV.mono (fun _ _ q=>VP.mono he.pure q) ((Ol.drop off).take (len*sz))) (by simp;omega) hcap hz fun k v hk=> ?_)
      rw[List.getElem?_take] at hk
      split at hk
      · rename_i hlt
        rw[List.getElem?_drop] at hk
        have hk':=aT hk
        refine⟨by rw[aH k2];simpa using hk,hpure (off+k) (by omega),k4.2 v (oe hk)⟩
      · cases hk
    · exact hv.mono he
 · exact hv.mono he
theorem nX {m:Mem} (h:Rel g m w) {g':Gh} (he:Ext g w g' w) {kept:List Nat} : ∀{vs:List AV} {pT:List Value},bO g w vs pT→(fN m kept vs).2.1=true →
  (∀b∈(fN m kept vs).2.2,∀l c,m[b]? = some (.pc l)→g.aN b=some c → ∀o,o<l.length→g'.pure c o)→bO g' w (fN m kept vs).1 pT
 |[],[],_,_,_=>trivial
 |v::vs,cv::pT,hv,hok,hp=>by
  simp only[fN,di,o0] at hok hp ⊢
  exact⟨zg h he hv.1 hok.1 fun b hb=>hp b (.inl hb),nX h he hv.2 hok.2 fun b hb=>hp b (.inr hb)⟩
 |[],_::_,h,_,_=>h.elim
 |_::_,[],h,_,_=>h.elim
theorem vi : ∀{l ord:List Nat},yz l ord=true → ∀i∈l,i∉ord
 |[],_,_,_,h=>by cases h
 |j::l,ord,h,i,hi=>by
  simp only[yz,di,Bool.not_eq_true'] at h
  cases hi with
  |head=>exact fun q=>by rw[CT.2 q] at h;cases h.1
  |tail _ hi=>exact vi h.2 i hi
theorem vk {c:bA} {b:Frame} {a:Act} {todo:List Item} (hs:bR E g c.st a w) (hrb:dP g c.st.bI b) (uW : ∀i,c.st.bI ≠ .round i) (tM:b.fn=c.f) (hd:a.defers=[]) {fr:Frame}
  (hst : ∀cs,Steps P (lone fr cs w) (lone {b.atR a todo with mode:= .returning} cs w)):y8 P E g c fr w (kT P c):=by
 unfold kT
 split
 · rename_i fn hfn
   split
   · rename_i vs ok hres
     intro hok cs
     simp only[di] at hok
     obtain⟨⟨rfl,hfz⟩,hni⟩:=hok
     obtain⟨pT,k1,k2⟩:=iI hs hres
     obtain⟨g',m',r1,r2,r3,r4,r5,r6,r7,r8,r9⟩:=hs.rel.xN _ (vh (m:=c.st.mem) (kept:=close c.st.mem c.st.fix []) (vs:=vs))
     have k3:=nX hs.rel r2 k2 hfz r9
     obtain⟨cv,nG,_⟩:=xM k2
     obtain⟨N3,OT,k4⟩:=xM k3
     have:N3=cv:=OT.symm.trans nG
     subst this
     have hrun:=AR (P:=P) k1 nG
     generalize Rh:fN c.st.mem (close c.st.mem c.st.fix []) vs=fz at *
     obtain⟨hnd,kF⟩:=eo c.st.mem c.st.fix [one fz.1]
     generalize Fq:close c.st.mem c.st.fix [one fz.1]=ord at *
     have hpk:Am.pack c.st.mem ord=Am.pack m' ord:=by
      unfold Am.pack
      refine List.map_congr_left fun i hi=> ?_
      rw[dd,dd,r8 i fun q=>vi hni i q hi]
     obtain⟨p1,p2⟩:=r1.pack hnd
     have hlen:c.st.fix≤ord.length:=by
      rcases rk c.st.fix with e | e
      · omega
      · have:=aT (kF (c.st.fix-1) (by omega));omega
     refine⟨g'.pack ord,_,w,hst cs,?_,?_,?_,rfl,rfl,rfl⟩
     · refine⟨tM,N3,w,?_,?_,?_,b7.refl _ _ _,?_⟩
       · show DP P c.st.bI {b.atR a todo with mode:= .returning} w N3 w
         have Mn:P.funcs[b.fn]? = some fn:=by rw[tM];exact hfn
         generalize c.st.bI=r at hrb uW
         cases r with
         |call=>exact⟨⟨rfl,hd,hrb.1,fn,Mn,hrun⟩,rfl⟩
         |late=>exact⟨⟨⟨rfl,hd,fn,Mn,hrun⟩,hrb.1⟩,rfl⟩
         |round i=>exact absurd rfl (uW i)
       · simp only[look,zr,cond_true]
         exact k4.jh (cN.pack g' ord)
       · show Rel (g'.pack ord) (Am.pack c.st.mem ord) w
         rw[hpk];exact p1
       · show c.st.fix≤(Am.pack c.st.mem ord).length
         simpa[Am.pack] using hlen
     · refine r3.trans ⟨ch _,fun _ _ _=>rfl,fun _ _ p=>⟨p,rfl⟩,fun _ _ p=> .inl p,fun c' ho=> .inl (p2 c' ?_),rfl,rfl,rfl⟩
       have ho:cj (g'.pack ord) (Am.pack c.st.mem ord) c':=ho
       rw[hpk] at ho;exact ho
     · intro k c' hk dx
       have:=kF k hk
       simp[Gh.pack,this,r4,r5,r6,dx]
   · trivial
 · trivial
theorem pV {r:Nat} {w:World} (h:w.heap[r]? = some (.deferred (some []))):(Instr.takeDeferred r).run P w = .ok [] {w with heap:=w.heap.setIfInBounds r (.deferred none)}:=by
 simp[Instr.takeDeferred,km,getObj,setObj,Sem.run,h,Result.andThen]
theorem CZ {b:Frame} {a:Act} {todo:List Item} : ∀{mk:List Mark} {ds:List Deferred} {st:St} {m:Mem} {w:World},kU mk st.mem=some m→Mk g mk ds→bR E g st a w →
  ∃w',(∀cs,Steps P (lone {b.atR {a with defers:=ds} todo with mode:= .returning} cs w) (lone {b.atR {a with defers:=[]} todo with mode:= .returning} cs w')) ∧
   bR E g {st with mem:=m,bS:=[]} {a with defers:=[]} w'∧b7 g st.mem w g m w'
 |[],[],st,m,w,h,_,hs=>by
  simp only[kU,dk] at h
  subst h
  exact⟨w,fun cs=>S6 _ _,⟨hs.tm,hs.nt,hs.rel,hs.fix,hs.cC⟩,b7.refl _ _ _⟩
 |.late .. :: mk,_,st,m,w,h,hm,hs=>by
  simp only[kU] at h
  cases h
 |.range i::mk,d::ds,st,m,w,h,hm,hs=>by
  simp only[kU] at h
  split at h
  · rename_i hb
    obtain⟨⟨D,hD,rfl⟩,hm⟩:=hm
    have hib:=getD_some hb (by simp)
    obtain⟨c,ob,vs,k1,k2,k3,k4,_⟩:=hs.rel.obs i _ _ hib
    rw[hD] at k1;cases k1
    obtain⟨rfl,_⟩:=k4
    obtain⟨e1,e2,e3⟩:=cw w (o':= .deferred none) k2
    obtain⟨r1,r2,r3⟩:=hs.rel.eM (wh:= .shut) (l':=[]) (vs':=[]) hib hD e1 e2 rfl rfl rfl e3 ⟨rfl,rfl⟩ trivial
    have hs':bR E g {st with mem:=st.mem.set i (.ob .shut [])} a {w with heap:=w.heap.setIfInBounds D (.deferred none)}:=
     ⟨fun k=>(hs.tm k).mono r2,hs.nt,r1,by simpa using hs.fix,hs.cC.mono r2.pure⟩
    obtain⟨w',q1,q2,q3⟩:=CZ (st:={st with mem:=st.mem.set i (.ob .shut [])}) h hm hs'
    refine⟨w',fun cs=> .head ?_ (q1 cs),q2,r3.trans q3⟩
    exact step_collected (fr:={b.atR {a with defers:={target:= .collected D,args:= #[]}::ds} todo with mode:= .returning}) (fun e=>by cases e) rfl rfl (pV k2)
  · cases h
 |[],_::_,_,_,_,_,hm,_=>hm.elim
 |.range _::_,[],_,_,_,_,hm,_=>hm.elim
theorem Fw {f:FuncId} {fa ca:Array Value} {fn:Func} (hf:P.funcs[f]? = some fn) (hb:fn.body.isSome=true) (hn:(fn.name == "runtime.NumGoroutine")=false) :
  (invoke (.fn (.func f) ca) fa).run P w = .ok (.enter f (fa++ca)) w:=by
 have Ma:fn.body.isNone=false:=by cases hq:fn.body<;>simp_all
 simp only[invoke,callFunc,km,run_program,kv,hf,hn,pC,if_false,Ma,kp]
theorem qK : ∀{l:List (Nat×Nat)} {cs:List Value},NZ g l cs→bO g w (mps l) cs
 |[],[],_=>trivial
 |(b,off)::l,_::cs,h=>by
  obtain⟨⟨c,h1,h2⟩,h3⟩:=h
  exact⟨by rw[h2];exact .mp b off c h1,qK h3⟩
 |[],_::_,h=>h.elim
 |_::_,[],h=>h.elim
theorem AS (cv:Option Value):settle (cA cv true) = .returning:=by cases cv<;>rfl
theorem C0 {c:bA} {b:Frame} {a:Act} {todo:List Item} {gf:FuncId} {first caps:List (Nat×Nat)} {pv:Option AV} {pM:Option Value} {d:Deferred}
  (hs:bR E g c.st a w) (hrb:dP g c.st.bI b) (uW : ∀i,c.st.bI ≠ .round i) (tM:b.fn=c.f) (hd:a.defers=[d]) (hm:Mark.Ok g (.late gf first caps) d) (Aq:Fi g w pv pM) {fr:Frame}
  (hst : ∀cs,Steps P (lone fr cs w) (lone {b.atR a todo with mode:=cA pM false} cs w)):y8 P E g c fr w (yA c pv gf first caps):=by
 unfold yA
 obtain⟨fa,ca,h1,h2,rfl⟩:=hm
 have hargs:bO g w (mps first++mps caps) (fa++ca).toList:=by
  rw[SE]
  exact(qK h1).append (qK h2)
 dsimp only
 generalize mps first++mps caps=args at *
 obtain⟨hnd,_⟩:=eo c.st.mem 0 (pv.toList++args)
 generalize close c.st.mem 0 (pv.toList++args)=ord at *
 cases hlt:ig ord c.st.mem.length with
 |false=>trivial
 |true=>
  intro m1 eN cs
  obtain⟨⟨fn,HG,HH,HI⟩,eN⟩:=eN
  obtain⟨Fg,CU⟩:=hs.rel.pack hnd
  have lu:=cN.pack g ord
  have OU:Fi (g.pack ord) w (pv.map (jh (idx ord))) pM:=by
   cases pv with
   |none=>cases pM with
    |none=>exact trivial
    |some v=>exact Aq.elim
   |some u=>cases pM with
    |none=>exact Aq.elim
    |some v=>exact VA.jh lu Aq
  obtain⟨w',g',cv,fr',q1,q2,q3,q5,q6,q7,q8⟩:=eN (g.pack ord) w (fa++ca) pM {b.atR {a with defers:=[]} todo with mode:=cA pM false} cs rfl OU Fg (bO.jh lu hargs) (hs.cC.mono fun _ _ p=>⟨p,rfl⟩)
  have hlen:(Am.pack c.st.mem ord).length=ord.length:=by simp[Am.pack]
  rw[hlen] at q7 q8
  obtain⟨r1,r2,r3,r4⟩:=hs.rel.back hnd (fq hlt) q5 q6 q7 q8
  have B6:=step_defer (P:=P) (fr:={b.atR a todo with mode:=cA pM false}) (cs:=cs) (w:=w) (ds:=[]) (by cases pM<;>exact fun e=>by cases e) hd rfl (Fw HG HH HI)
  have hleave:=step_going_returned (P:=P) (c:={b.atR {a with defers:=[]} todo with mode:=cA pM true}) (cs:=cs) q3 q2
  have mM:c.st.fix≤(cI (aZ ord c.st.mem.length) ord m1 c.st.mem).length:=by
   rw[dm _ _ _ _ q8];have:=hs.fix;omega
  refine⟨_,{b.atR {a with defers:=[]} todo with mode:= .returning},w',(hst cs).trans (.head B6 (q1.trans (.one ?_))),⟨b,{a with defers:=[]},todo,rfl,tM,hrb.ext fun i c q=>(r2.aN i c q).1,uW,rfl,rfl,⟨fun k=>(hs.tm k).mono r2,hs.nt,r1,mM,hs.cC.mono r2.pure⟩⟩,r3,bf.pL r2 _,rfl,rfl,rfl⟩
  rw[hleave]
  simp only[AS]
theorem DX {c:bA} {b:Frame} {a:Act} {todo:List Item} {u:AV} {cv:Value} (hs:bR E g c.st a w) (hrb:dP g c.st.bI b) (tM:b.fn=c.f) (hd:Mk g c.st.bS a.defers) (hu:VA g w u cv) :
  y8 P E g c {b.atR a todo with mode:=cA (some cv) false} w (uf P c u):=by
 unfold uf
 split
 · trivial
 · rename_i uW
   have uW : ∀i,c.st.bI ≠ .round i:=fun i e=>uW i e
   split
   · rename_i hmk
     split
     · rename_i fn hfn
       intro cs
       have hds:a.defers=[]:=by
        rw[hmk] at hd
        cases hq:a.defers with
        |nil=>rfl
        |cons _ _=>rw[hq] at hd;exact hd.elim
       obtain⟨hnd,kF⟩:=eo c.st.mem c.st.fix [u]
       generalize close c.st.mem c.st.fix [u]=ord at *
       obtain⟨p1,p2⟩:=hs.rel.pack hnd
       have hlen:c.st.fix≤ord.length:=by
        rcases rk c.st.fix with e | e
        · omega
        · have:=aT (kF (c.st.fix-1) (by omega));omega
       refine⟨g.pack ord,_,w,S6 _ _,⟨tM,cv,⟨rfl,hds,fn,?_⟩,hu.jh (cN.pack g ord),p1,?_⟩,?_,?_,rfl,rfl,rfl⟩
       · show P.funcs[b.fn]? = some fn
         rw[tM];exact hfn
       · show c.st.fix≤(Am.pack c.st.mem ord).length
         simpa[Am.pack] using hlen
       · exact⟨ch _,fun _ _ _=>rfl,fun _ _ p=>⟨p,rfl⟩,fun _ _ p=> .inl p,fun c' ho=> .inl (p2 c' ho),rfl,rfl,rfl⟩
       · intro k c' hk dx
         have:=kF k hk
         simp[Gh.pack,this,dx]
     · trivial
   · rename_i gf first caps hmk
     rw[hmk] at hd
     cases hq:a.defers with
     |nil=>rw[hq] at hd;exact hd.elim
     |cons d ds=>
      rw[hq] at hd
      obtain⟨Kc,hd2⟩:=hd
      cases ds with
      |nil=>exact C0 (pv:=some u) (pM:=some cv) hs hrb uW tM hq Kc hu fun cs=>S6 _ _
      |cons _ _=>exact hd2.elim
   · trivial
theorem xO {c:bA} {b:Frame} {a:Act} {todo:List Item} (hs:bR E g c.st a w) (hrb:dP g c.st.bI b) (uW : ∀i,c.st.bI ≠ .round i) (tM:b.fn=c.f) (hd:Mk g c.st.bS a.defers) {fr:Frame}
  (hst : ∀cs,Steps P (lone fr cs w) (lone {b.atR a todo with mode:= .returning} cs w)):y8 P E g c fr w (ending P c):=by
 have key : ∀m,kU c.st.bS c.st.mem=some m→y8 P E g c fr w (kT P {c with st:={c.st with mem:=m,bS:=[]}}):=by
  intro m hm
  obtain⟨w',q1,q2,q3⟩:=CZ (P:=P) (b:=b) (todo:=todo) hm hd hs
  have h1:=vk (P:=P) (E:=E) (c:={c with st:={c.st with mem:=m,bS:=[]}}) (b:=b) (a:={a with defers:=[]}) (todo:=todo) q2 hrb uW tM rfl (fr:={b.atR {a with defers:=[]} todo with mode:= .returning}) fun cs=>S6 _ _
  unfold kT at h1 ⊢
  split
  · rename_i fn hfn
    rw[hfn] at h1
    simp only at h1
    split
    · rename_i vs ok hres
      simp only[hres] at h1
      intro hok cs
      obtain⟨g',fr',w2,s1,s2,s3,s4,s5,s6,s7⟩:=h1 hok cs
      exact⟨g',fr',w2,((hst cs).trans (q1 cs)).trans s1,s2,q3.trans s3,s4,s5,s6,s7⟩
    · trivial
  · trivial
 unfold ending
 split
 · rename_i hmk
   have h:=key c.st.mem (by rw[hmk];rfl)
   have e:({c with st:={c.st with mem:=c.st.mem,bS:=[]}}:bA)=c:=by
    obtain⟨f,t,st⟩:=c
    obtain⟨tm,nt,mem,fix,bS,bI⟩:=st
    simp only at hmk
    subst hmk
    rfl
   rw[e] at h
   exact h
 · rename_i gf first caps hmk
   rw[hmk] at hd
   cases hq:a.defers with
   |nil=>rw[hq] at hd;exact hd.elim
   |cons d ds=>
    rw[hq] at hd
    obtain⟨Kc,hd2⟩:=hd
    cases ds with
    |nil=>exact C0 (pv:=none) (pM:=none) hs hrb uW tM hq Kc trivial hst
    |cons _ _=>exact hd2.elim
 · split
   · rename_i m hm
     exact key m hm
   · trivial
end
section
variable {P:Program} {E:Env} {g:Gh} {w:World}
theorem C1 (m:Mem) (b b':aF):(m++[b]).set m.length b'=m++[b']:=by
 rw[List.set_append_right _ _ (ch _)];simp
theorem B7 {st:St} {a:Act} (h:bR E g st a w):bO g w ((upTo st.nt).map (look st.tm)) a.tmps.toList:=by
 refine aV.cP (by simp[h.nt,iA]) fun i hi hi'=> ?_
 have hu:(upTo st.nt)[i]? = some i:=uU st.nt i (by simpa[iA] using hi)
 have e:((upTo st.nt).map (look st.tm))[i]=look st.tm i:=by
  have:((upTo st.nt).map (look st.tm))[i]? = some (look st.tm i):=by rw[fe,hu];rfl
  rw[da hi] at this
  exact dp this
 rw[e]
 have:=h.tm i
 rw[H5,ie (by simpa using hi')] at this
 simpa using this
theorem DY {st:St} {a:Act} (hs:bR E g st a w) (f:FuncId) (ps:Array Tmp) (as bd:Code) :
  ∃g',Rel g' (cY st f ps as bd) ((w.alloc (.deferred (some []))).alloc (.loop {state:= .ready,pending:=none,fn:=f,tmps:=a.tmps,params:=ps,assign:=as,body:=bd,defers:=w.heap.size})) ∧
   Ext g w g' ((w.alloc (.deferred (some []))).alloc (.loop {state:= .ready,pending:=none,fn:=f,tmps:=a.tmps,params:=ps,assign:=as,body:=bd,defers:=w.heap.size})) ∧
   b7 g st.mem w g' (cY st f ps as bd) ((w.alloc (.deferred (some []))).alloc (.loop {state:= .ready,pending:=none,fn:=f,tmps:=a.tmps,params:=ps,assign:=as,body:=bd,defers:=w.heap.size})) ∧
   g'.aN st.mem.length=some w.heap.size∧g'.aN (st.mem.length+1)=some (w.heap.size+1):=by
 obtain⟨r1,s1⟩:=hs.rel.reserve
 obtain⟨r2,e2,s2⟩:=r1.tJ (i:=st.mem.length) (ob:= .DC) (l:=[]) (vs:=[]) (by simp) trivial (dM w (.deferred (some []))) ⟨rfl,rfl⟩
 rw[C1] at r2 s2
 obtain⟨r3,s3⟩:=r2.reserve
 have hv:=(B7 hs).mono e2
 obtain⟨r4,e4,s4⟩:=r3.tJ (i:=st.mem.length+1) (ob:= .loop f ps as bd .ready none) (l:=(upTo st.nt).map (look st.tm)) (vs:=a.tmps.toList)
  (by simp) hv (dM _ (.loop {state:= .ready,pending:=none,fn:=f,tmps:=a.tmps,params:=ps,assign:=as,body:=bd,defers:=w.heap.size})) ⟨w.heap.size,by simp⟩
 have hl:(st.mem++[aF.ob .DC []]).length=st.mem.length+1:=by simp
 have Ql:=C1 (st.mem++[aF.ob .DC []]) .free (.ob (.loop f ps as bd .ready none) ((upTo st.nt).map (look st.tm)))
 rw[hl] at Ql
 rw[Ql] at r4 s4
 refine⟨_,r4,e2.trans e4,s1.trans (s2.trans (s3.trans s4)),?_,?_⟩
 · have:=(e4.aN st.mem.length w.heap.size (by simp[Gh.put])).1
   exact this
 · simp[Gh.put]
theorem wN {a:Act} {x:Operand} {f:FuncId} {fa ca:Array Value} {l:Nat} (hx:a.eval x = .func (.func f) fa ca)
  {fn:Func} (hf:P.funcs[f]? = some fn) (hb:fn.body.isSome=true) (hn:(fn.name == "runtime.NumGoroutine")=false) :
  ∃d,(resolve a.eval (rangeCall x l) 0).run P w = .ok d w∧(invoke d.target d.args).run P w = .ok (.enter f (fa ++ #[.func (.yield l) #[] #[]]++ca)) w:=by
 have Ma:fn.body.isNone=false:=by cases hq:fn.body<;>simp_all
 refine⟨{target:= .fn (.func f) ca,args:=fa ++ #[.func (.yield l) #[] #[]]},?_,?_⟩
 · simp only[resolve,hx,Deferred.ofValue,kp]
   have e:Array.map a.eval #[Operand.const (Value.func (Fn.yield l) #[] #[])] = #[Value.func (Fn.yield l) #[] #[]]:=by simp[Act.eval]
   rw[e]
 · simp only[invoke,callFunc,km,run_program,kv,hf,hn,pC,if_false,Ma,kp]
theorem AT {m m':Mem} {L l:Nat} {pd:Option Code} (h:Rel g m w) (hl:g.aN L=some l) (he:fH m L=some (m',pd)) :
  ∃w',(Instr.endLoop l).run P w = .ok pd w'∧Rel g m' w'∧Ext g w g w'∧b7 g m w g m' w':=by
 unfold fH at he
 split at he
 · rename_i f ps as bd st C2 vals hb
   have hib:=getD_some hb (by simp)
   obtain⟨c,ob,vs,k1,k2,k3,k4,_⟩:=h.obs L _ _ hib
   rw[hl] at k1;cases k1
   obtain⟨D,rfl⟩:=k4
   have fin:st ≠ .busy→some (m.set L (.ob (.loop f ps as bd .exhausted C2) vals),C2)=some (m',pd) → ∃w',(Instr.endLoop l).run P w = .ok pd w'∧Rel g m' w'∧Ext g w g w'∧b7 g m w g m' w':=by
    intro hst e
    simp only[dk,kl] at e
    obtain⟨rfl,rfl⟩:=e
    obtain⟨e1,e2,e3⟩:=cw w (o':= .loop {state:= .exhausted,pending:=C2,fn:=f,tmps:=vs.toArray,params:=ps,assign:=as,body:=bd,defers:=D}) k2
    obtain⟨r1,r2,r3⟩:=h.eM (wh:= .loop f ps as bd .exhausted C2) (l':=vals) (vs':=vs) hib hl e1 e2 rfl rfl rfl e3 ⟨D,rfl⟩ k3
    exact⟨_,run_endLoop k2 hst,r1,r2,r3⟩
   cases st with
   |busy=>cases he
   |ready=>exact fin (fun e=>by cases e) he
   |done=>exact fin (fun e=>by cases e) he
   |exhausted=>exact fin (fun e=>by cases e) he
 · cases he
theorem Fx {st:St} {a:Act} {b:Frame} {k:List Item} {x:Operand} {ps:Array Tmp} {as bd:Code} {gf:FuncId} {first captured:List AV} {v:AV} {m1 m2:Mem} {pd:Option Code}
  (hs:bR E g st a w) (hr:b.roundOf=none) (hd:Mk g st.bS a.defers) (hx:ev E st.tm x = .fn (.func gf) first captured)
  (hlt:ig (close (cY st b.fn ps as bd) 0 (first++[.vy (st.mem.length+1)]++captured)) (cY st b.fn ps as bd).length=true)
  (eN:aO P E gf (ef (idx (close (cY st b.fn ps as bd) 0 (first++[.vy (st.mem.length+1)]++captured))) (first++[.vy (st.mem.length+1)]++captured))
    (pack (cY st b.fn ps as bd) (close (cY st b.fn ps as bd) 0 (first++[.vy (st.mem.length+1)]++captured))) v m1)
  (hend:fH (back (close (cY st b.fn ps as bd) 0 (first++[.vy (st.mem.length+1)]++captured)) none {st with mem:=cY st b.fn ps as bd} v m1).mem (st.mem.length+1)=some (m2,pd)) :
  ∀cs,∃g' a' w',Steps P (lone (b.atR a (.code (.rangeFunc x ps as bd)::k)) cs w) (lone (b.atR a' ((pd.map Item.code).toList++k)) cs w') ∧
   Mk g' (.range st.mem.length::st.bS) a'.defers∧bR E g' {st with mem:=m2,bS:= .range st.mem.length::st.bS} a' w'∧b7 g st.mem w g' m2 w'∧bf g g' st.fix ∧ ∀i c,g.aN i=some c→g'.aN i=some c:=by
 intro cs
 obtain⟨g1,r1,e1,s1,d1,d2⟩:=DY hs b.fn ps as bd
 generalize hM:cY st b.fn ps as bd=M at *
 generalize hW:(w.alloc (.deferred (some []))).alloc (.loop {state:= .ready,pending:=none,fn:=b.fn,tmps:=a.tmps,params:=ps,assign:=as,body:=bd,defers:=w.heap.size})=W at *
 have Sq:st.mem.length+2≤M.length:=by rw[←hM];simp[cY]
 have wB:=fK hs x
 rw[hx,VA.fns] at wB
 obtain⟨fa,ca,wB,zI,hca⟩:=wB
 obtain⟨⟨fn,HG,HH,HI⟩,eN⟩:=eN
 obtain⟨d,hres,hinv⟩:=wN (P:=P) (w:=W) (l:=w.heap.size+1) wB HG HH HI
 have B6:=stepR_rangeFunc (P:=P) (b:=b) (a:=a) (k:=k) (cs:=cs) (w:=w) (g:=x) (ps:=ps) (assign:=as) (body:=bd) (w₁:=W) (by rw[hr,←hW];exact run_enterLoop_outer _ _ _ _ _) hres hinv
 have hargs:bO g1 W (first++[.vy (st.mem.length+1)]++captured) (fa ++ #[Value.func (.yield (w.heap.size+1)) #[] #[]]++ca).toList:=by
  simp only[SE]
  have hy:bO g1 W [.vy (st.mem.length+1)] [Value.func (.yield (w.heap.size+1)) #[] #[]]:=⟨.vy _ _ d2,trivial⟩
  exact((zI.mono e1).append hy).append (hca.mono e1)
 generalize first++[.vy (st.mem.length+1)]++captured=args at *
 obtain⟨hnd,_⟩:=eo M 0 args
 generalize close M 0 args=ord at *
 obtain⟨Fg,CU⟩:=r1.pack hnd
 have lu:=cN.pack g1 ord
 have Mo:fD E g1 W:=hs.cC.mono e1.pure
 obtain⟨w',g',cv,fr,q1,q2,q3,q4,q5,q6,q7,q8⟩:=eN (g1.pack ord) W _ (b.atR {a with defers:=[{target:= .collected w.heap.size,args:= #[]}]++a.defers} (.inRangeFunc (w.heap.size+1)::k)::cs) Fg
  (bO.jh lu hargs) (Mo.mono fun _ _ p=>⟨p,rfl⟩)
 have hlen:(Am.pack M ord).length=ord.length:=by simp[Am.pack]
 rw[hlen] at q7 q8
 obtain⟨r2,e2,s2,r4⟩:=r1.back hnd (fq hlt) q5 q6 q7 q8
 have hmem:(back ord none {st with mem:=M} v m1).mem=cI (aZ ord M.length) ord m1 M:=rfl
 rw[hmem] at hend
 have hL:(g1.back g' ord M.length).aN (st.mem.length+1)=some (w.heap.size+1):=(e2.aN _ _ d2).1
 obtain⟨w2,f1,f2,f3,f4⟩:=AT (P:=P) r2 hL hend
 have hleave:=step_leave_returned (P:=P) (c:=b.atR {a with defers:=[{target:= .collected w.heap.size,args:= #[]}]++a.defers} (.inRangeFunc (w.heap.size+1)::k)) (cs:=cs) q2
 rw[finish_atR_inRangeFunc] at hleave
 have AU:Ext g w (g1.back g' ord M.length) w2:=(e1.trans e2).trans f3
 have hm2:st.fix≤m2.length:=by
  have sJ:=dm (aZ ord M.length) ord m1 M q8
  have Fc:m2.length=(cI (aZ ord M.length) ord m1 M).length:=by
   unfold fH at hend
   split at hend
   · split at hend
     · cases hend
     · simp only[dk,kl] at hend
       obtain⟨rfl,_⟩:=hend
       simp
   · cases hend
  have:=hs.fix
  omega
 refine⟨g1.back g' ord M.length,{a with defers:=[{target:= .collected w.heap.size,args:= #[]}]++a.defers},w2,.head B6 (q1.trans (.head hleave (.one (stepR_endRangeFunc f1)))),?_,?_,s1.trans (s2.trans f4),bf.pL AU _,fun i c q=>(AU.aN i c q).1⟩
 · exact⟨⟨w.heap.size,(e2.aN _ _ d1).1,rfl⟩,hd.ext fun i c q=>(AU.aN i c q).1⟩
 · exact⟨fun j=>(hs.tm j).mono AU,hs.nt,f2,hm2,hs.cC.mono AU.pure⟩
end
section
variable {P:Program} {E:Env} {g:Gh} {w:World}
theorem cV {id:Nat} : ∀{k k':List It},bP id k=some k'→exitTo id (cZ k)=some (cZ k')
 |[],_,h=>by simp[bP] at h
 |.inBlock i::k,k',h=>by
  simp only[bP] at h
  cases hb:a6 i id with
  |true=>
   simp only[hb,cond_true,dk] at h;subst h
   have:=a8 hb
   subst this
   simp[cZ,er,exitTo]
  |false=>
   simp only[hb,cond_false] at h
   have hne:(i==id)=false:=by
    rw[beq_eq_false_iff_ne];intro e;subst e;simp[zr] at hb
   simp only[cZ,er,S8,SX,exitTo,hne,pC,if_false]
   exact cV h
 |.code _ _::k,k',h=>by
  simp only[bP] at h
  simpa[cZ,er,exitTo] using cV h
 |.ops _ _ _ _::k,k',h=>by
  simp only[bP] at h
  simpa[cZ,er,exitTo] using cV h
 |.inLoop _ _::k,k',h=>by
  simp only[bP] at h
  simpa[cZ,er,exitTo] using cV h
 |.forget _::k,k',h=>by
  simp only[bP] at h
  simpa[cZ,er] using cV h
 |.fin::k,k',h=>by
  simp only[bP] at h
  simpa[cZ,er] using cV h
 |.wg _::k,k',h=>by
  simp only[bP] at h
  simpa[cZ,er] using cV h
 |.gA _::k,k',h=>by
  simp only[bP] at h
  simpa[cZ,er] using cV h
 |.leave::k,k',h=>by
  simp only[bP] at h
  simpa[cZ,er] using cV h
 |.begin::k,k',h=>by
  simp only[bP] at h
  simpa[cZ,er,exitTo] using cV h
 |.inScope _::k,k',h=>by
  simp only[bP] at h
  simpa[cZ,er,exitTo] using cV h
theorem cF {id:Nat} : ∀{k:List It},bP id k=none→exitTo id (cZ k)=none
 |[],_=>rfl
 |.inBlock i::k,h=>by
  simp only[bP] at h
  cases hb:a6 i id with
  |true=>simp[hb] at h
  |false=>
   simp only[hb,cond_false] at h
   have hne:(i==id)=false:=by
    rw[beq_eq_false_iff_ne];intro e;subst e;simp[zr] at hb
   simp only[cZ,er,S8,SX,exitTo,hne,pC,if_false]
   exact cF h
 |.code _ _::k,h=>by
  simp only[bP] at h
  simpa[cZ,er,exitTo] using cF h
 |.ops _ _ _ _::k,h=>by
  simp only[bP] at h
  simpa[cZ,er,exitTo] using cF h
 |.inLoop _ _::k,h=>by
  simp only[bP] at h
  simpa[cZ,er,exitTo] using cF h
 |.forget _::k,h=>by
  simp only[bP] at h
  simpa[cZ,er] using cF h
 |.fin::k,h=>by
  simp only[bP] at h
  simpa[cZ,er] using cF h
 |.wg _::k,h=>by
  simp only[bP] at h
  simpa[cZ,er] using cF h
 |.gA _::k,h=>by
  simp only[bP] at h
  simpa[cZ,er] using cF h
 |.leave::k,h=>by
  simp only[bP] at h
  simpa[cZ,er] using cF h
 |.begin::k,h=>by
  simp only[bP] at h
  simpa[cZ,er,exitTo] using cF h
 |.inScope _::k,h=>by
  simp only[bP] at h
  simpa[cZ,er,exitTo] using cF h
theorem cW {l:Nat} : ∀{k k':List It},dU l k=some k'→gotoIn l (cZ k)=some (cZ k')
 |[],_,h=>by simp[dU] at h
 |.inScope b::k,k',h=>by
  simp only[dU] at h
  simp only[cZ,er,S8,SX,gotoIn]
  cases hf:findLabel b l with
  |some rest=>
   simp only[hf,dk] at h;subst h
   rfl
  |none=>
   simp only[hf] at h
   exact cW h
 |.code _ _::k,k',h=>by
  simp only[dU] at h
  simpa[cZ,er,gotoIn] using cW h
 |.ops _ _ _ _::k,k',h=>by
  simp only[dU] at h
  simpa[cZ,er,gotoIn] using cW h
 |.inBlock _::k,k',h=>by
  simp only[dU] at h
  simpa[cZ,er,gotoIn] using cW h
 |.inLoop _ _::k,k',h=>by
  simp only[dU] at h
  simpa[cZ,er,gotoIn] using cW h
 |.forget _::k,k',h=>by
  simp only[dU] at h
  simpa[cZ,er] using cW h
 |.fin::k,k',h=>by
  simp only[dU] at h
  simpa[cZ,er] using cW h
 |.wg _::k,k',h=>by
  simp only[dU] at h
  simpa[cZ,er] using cW h
 |.gA _::k,k',h=>by
  simp only[dU] at h
  simpa[cZ,er] using cW h
 |.leave::k,k',h=>by
  simp only[dU] at h
  simpa[cZ,er] using cW h
 |.begin::k,k',h=>by
  simp only[dU] at h
  simpa[cZ,er,gotoIn] using cW h
theorem ox {l:Nat} : ∀{k k':List It},(∀x∈k,It.pl x)→dU l k=some k' → ∀x∈k',It.pl x
 |[],_,_,h=>by simp[dU] at h
 |x::k,k',hf,h=>by
  have ht : ∀y∈k,It.pl y:=fun y hy=>hf y (.tail _ hy)
  cases x with
  |inScope b=>
   simp only[dU] at h
   cases hl:findLabel b l with
   |some rest=>
    simp only[hl,dk] at h;subst h
    intro y hy
    cases hy with
    |head=>exact trivial
    |tail _ hy=>exact hf y hy
   |none=>
    simp only[hl] at h
    exact ox ht h
  |_=>simp only[dU] at h;exact ox ht h
theorem oy {id:Nat} : ∀{k k':List It},(∀x∈k,It.pl x)→bP id k=some k' → ∀x∈k',It.pl x
 |[],_,_,h=>by simp[bP] at h
 |x::k,k',hf,h=>by
  have ht : ∀y∈k,It.pl y:=fun y hy=>hf y (.tail _ hy)
  cases x with
  |inBlock i=>
   simp only[bP] at h
   cases hb:a6 i id with
   |true=>simp only[hb,cond_true,dk] at h;subst h;exact ht
   |false=>simp only[hb,cond_false] at h;exact oy ht h
  |_=>simp only[bP] at h;exact oy ht h
theorem AW {g':Gh} {ρ:Nat→Option Nat} {f:Nat→Value} : ∀(keep:List Nat) (tm:qo),(∀k,VA g' w (jh ρ (look tm k)) (f k)) → ∀k,VA g' w (look (keep.zip (ef ρ (keep.map (look tm)))) k) (f k)
 |[],tm,_,k=> .af _
 |i::keep,tm,h,k=>by
  simp only[List.map_cons,ef,S9,iX]
  by_cases e:i=k
  · subst e;simp only[if_true];exact h i
  · simp only[e,if_false];exact AW keep tm h k
theorem oz {keep:List Nat} {st:St}:(forget keep st).bI=st.bI:=by
 obtain⟨tm,nt,mem,fix,bS,bI⟩:=st
 cases bS with
 |cons i l=>rfl
 |nil=>cases bI<;>rfl
theorem so {keep:Option (List Nat)} {st:St}:(gW keep st).bI=st.bI:=by
 cases keep with
 |none=>rfl
 |some keep=>exact oz
theorem qM {st:St} {a:Act} (h:bR E g st a w) (keep:List Nat) : ∃g',bR E g' (forget keep st) a w∧b7 g st.mem w g' (forget keep st).mem w∧bf g g' st.fix∧(forget keep st).fix=st.fix∧(∀ds,Mk g st.bS ds→Mk g' (forget keep st).bS ds) ∧ ∀b,dP g st.bI b→dP g' (forget keep st).bI b:=by
 obtain⟨tm,nt,mem,fix,bS,bI⟩:=st
 have stay:forget keep ⟨tm,nt,mem,fix,bS,bI⟩=⟨tm,nt,mem,fix,bS,bI⟩→_:=fun this=>(show ∃g',bR E g' (forget keep ⟨tm,nt,mem,fix,bS,bI⟩) a w∧b7 g mem w g' (forget keep ⟨tm,nt,mem,fix,bS,bI⟩).mem w∧bf g g' fix∧(forget keep ⟨tm,nt,mem,fix,bS,bI⟩).fix=fix∧(∀ds,Mk g bS ds→Mk g' (forget keep ⟨tm,nt,mem,fix,bS,bI⟩).bS ds) ∧ ∀b,dP g bI b→dP g' (forget keep ⟨tm,nt,mem,fix,bS,bI⟩).bI b from by
  rw[this]
  exact⟨g,h,b7.refl _ _ _,bf.refl _ _,rfl,fun _ q=>q,fun _ q=>q⟩)
 cases bS with
 |cons i bS=>exact stay rfl
 |nil=>
  cases bI with
  |round i=>exact stay rfl
  |late=>exact stay rfl
  |call=>
   obtain⟨hnd,kF⟩:=eo mem fix (keep.map (look tm))
   obtain⟨h1,h2⟩:=h.rel.pack hnd
   have hlen:fix≤(close mem fix (keep.map (look tm))).length:=by
    rcases rk fix with e | e
    · omega
    · have:=aT (kF (fix-1) (by omega));omega
   refine⟨g.pack (close mem fix (keep.map (look tm))),⟨AW keep tm fun k=>(h.tm k).jh (cN.pack g _),h.nt,h1,?_,h.cC.mono fun _ _ p=>⟨p,rfl⟩⟩,?_,?_,rfl,?_,fun _ q=>q⟩
   · show fix≤(Am.pack mem _).length
     simpa[Am.pack] using hlen
   · exact⟨ch _,fun _ _ _=>rfl,fun _ _ p=>⟨p,rfl⟩,fun _ _ p=> .inl p,fun c ho=> .inl (h2 c ho),rfl,rfl,rfl⟩
   · intro k c hk hc
     have:=kF k hk
     simp[Gh.pack,this,hc]
   · intro ds hd
     cases ds with
     |nil=>exact trivial
     |cons _ _=>exact hd.elim
theorem vl {st:St} {a:Act} (h:bR E g st a w) (keep:Option (List Nat)) : ∃g',bR E g' (gW keep st) a w∧b7 g st.mem w g' (gW keep st).mem w∧bf g g' st.fix∧(gW keep st).fix=st.fix∧(∀ds,Mk g st.bS ds→Mk g' (gW keep st).bS ds) ∧ ∀b,dP g st.bI b→dP g' (gW keep st).bI b:=by
 cases keep with
 |none=>exact⟨g,h,b7.refl _ _ _,bf.refl _ _,rfl,fun _ q=>q,fun _ q=>q⟩
 |some keep=>exact qM h keep
theorem mQ (keep:Option (List Nat)) (k:List It):cZ (eg keep k)=cZ k:=by cases keep<;>rfl
theorem mR {keep:Option (List Nat)} {k:List It} (h : ∀x∈k,It.pl x) : ∀x∈eg keep k,It.pl x:=by
 cases keep with
 |none=>exact h
 |some keep=>
  intro x hx
  cases hx with
  |head=>exact trivial
  |tail _ hx=>exact h x hx
theorem vn {st:St} {a:Act} {i l:Nat} {f:FuncId} {ps:Array Tmp} {as bd:Code} {s s':LoopState} {pd C2:Option Code} {vals:List AV}
  (h:bR E g st a w) (hl:g.aN i=some l) (hb:st.mem.getD i .dead = .ob (.loop f ps as bd s pd) vals) :
  ∃r:Loop,w.heap[l]? = some (.loop r)∧r.state=s ∧
   Rel g (st.mem.set i (.ob (.loop f ps as bd s' C2) vals)) (w.putObj l (.loop {r with state:=s',pending:=C2})) ∧
   Ext g w g (w.putObj l (.loop {r with state:=s',pending:=C2})) ∧
   b7 g st.mem w g (st.mem.set i (.ob (.loop f ps as bd s' C2) vals)) (w.putObj l (.loop {r with state:=s',pending:=C2})) ∧
   cj g st.mem l:=by
 have hib:=getD_some hb (by simp)
 obtain⟨c,ob,vs,k1,k2,k3,k4,_⟩:=h.rel.obs i _ _ hib
 rw[hl] at k1;cases k1
 obtain⟨D,rfl⟩:=k4
 obtain⟨e1,e2,e3⟩:=cw w (o':= .loop {state:=s',pending:=C2,fn:=f,tmps:=vs.toArray,params:=ps,assign:=as,body:=bd,defers:=D}) k2
 obtain⟨r1,r2,r3⟩:=h.rel.eM (wh:= .loop f ps as bd s' C2) (l':=vals) (vs':=vs) hib hl e1 e2 rfl rfl rfl e3 ⟨D,rfl⟩ k3
 exact⟨_,k2,rfl,r1,r2,r3,i,_,hib,rfl,hl⟩
theorem mS {c:bA} {b:Frame} {a:Act} {i l:Nat} {jump:Option Code} {todo:List Item} (hs:bR E g c.st a w) (Ri:c.st.bI = .round i) (hl:g.aN i=some l) (tM:b.fn=c.f)
  (hst : ∀(v:Value) (w':World),(Instr.endRound l jump).run P w = .ok v w' → ∀(d:Frame) (cs:List Frame),_root_.Go.step P (lone (b.atR a todo) (d::cs) w) = .next (lone (d.finish v) cs w')) :
  y8 P E g c (b.atR a todo) w (l8 c i jump):=by
 unfold l8
 split
 · rename_i f ps as bd s pd vals hb
   dsimp only
   cases hlt:ba i c.st.fix with
   |false=>trivial
   |true=>
   rw[Nat.blt_eq] at hlt
   intro cs
   obtain⟨r,q1,_,q2,q3,q4,q5⟩:=vn (s':=eX jump) (C2:=jump) hs hl hb
   have hrun:=run_endRound (P:=P) jump q1
   have Kd:(if jump.isNone then LoopState.ready else .done)=(eX jump):=by cases jump<;>rfl
   rw[Kd] at hrun
   generalize hm:c.st.mem.set i (.ob (.loop f ps as bd (eX jump) jump) vals)=m at *
   obtain⟨hnd,kF⟩:=eo m c.st.fix []
   generalize Fq:close m c.st.fix []=ord at *
   obtain⟨p1,p2⟩:=q2.pack hnd
   have hlen:c.st.fix≤ord.length:=by
    rcases rk c.st.fix with e | e
    · omega
    · have:=aT (kF (c.st.fix-1) (by omega));omega
   have own : ∀c',cj (g.pack ord) (Am.pack m ord) c'→cj g c.st.mem c':=fun c' ho=>(q4.owned c' (p2 c' ho)).elim id fun hh=>by
    have h1:=q2.fI (p2 c' ho)
    rw[World.putObj_size] at h1
    omega
   refine⟨g.pack ord,_,w,S6 _ _,⟨tM,.bool jump.isNone,_,?_,.p _ _ (.sc _),p1,?_,?_⟩,?_,?_,rfl,rfl,rfl⟩
   · show DP P c.st.bI _ w _ _
     rw[Ri]
     exact fun d cs=> .one (hst _ _ hrun d cs)
   · have Rj:cj (g.pack ord) (Am.pack m ord) l:=by
      have hi:=kF i hlt
      have OE:m[i]? = some (.ob (.loop f ps as bd (eX jump) jump) vals):=by
       rw[←hm,nd (aT (getD_some hb (by simp)))]
      refine⟨i,gj (idx ord) (.ob (.loop f ps as bd (eX jump) jump) vals),?_,rfl,by simp[Gh.pack,hi,hl]⟩
      unfold Am.pack
      rw[fe,hi]
      simp[dd,OE]
     exact⟨by simp,fun c' _ hno=>World.putObj_heap_other fun e=>hno (e▸Rj),fun c' o p=>⟨p,(q4.pure c' o p).2⟩,fun _ _ p=> .inl p,fun _ ho=> .inl ho,rfl,rfl,rfl⟩
   · show c.st.fix≤(Am.pack m ord).length
     simpa[Am.pack] using hlen
   · exact⟨ch _,fun _ _ _=>rfl,fun _ _ p=>⟨p,rfl⟩,fun _ _ p=> .inl p,fun c' ho=> .inl (own c' ho),rfl,rfl,rfl⟩
   · intro k c' hk dx
     have:=kF k hk
     simp[Gh.pack,this,dx]
 · trivial
theorem gD {c:bA} {fr:Frame} (h:bZ P E g c fr w):y8 P E g c fr w (Am.step P E c):=by
 obtain⟨f,todo,st⟩:=c
 cases todo with
 |nil=>
  obtain⟨b,a,rfl,h1,h2,h3,h4,_⟩:=h
  simp only[Am.step]
  split
  · rename_i i hr
    rw[hr] at h2
    obtain⟨hk,l,hl,hro⟩:=h2
    exact mS (c:=⟨f,[],st⟩) h4 hr hl h1 fun v w' hrun d cs=>stepR_round_end hro hk hrun
  · rename_i uW
    have uW : ∀i,st.bI ≠ .round i:=fun i e=>uW i e
    exact xO (c:=⟨f,[],st⟩) (b:=b) (a:=a) (todo:=[]) h4 h2 uW h1 h3 fun cs=> .one (stepR_end (h2.yZ uW))
 |cons x k=>
  by_cases mL:It.pl x
  case neg=>
   cases x with
   |fin=>
    obtain⟨h1,cv,w2,h2,h3,h4,h6,h5⟩:=h
    exact⟨h1,rfl,cv,w2,h2,h3,h4,h6,h5⟩
   |wg u=>
    obtain⟨h1,cv,h2,h3,h4,h5⟩:=h
    exact⟨h1,rfl,cv,h2,h3,h4,h5⟩
   |gA u=>
    obtain⟨b,a,todo,cv,rfl,h1,h2,h3,h4,h5⟩:=h
    exact DX (c:=⟨f,.gA u::k,st⟩) h4 h2 h1 h3 h5
   |leave=>
    obtain⟨b,a,todo,rfl,h1,h2,h3,_,h5,h6⟩:=h
    exact vk (c:=⟨f,.leave::k,st⟩) (b:=b) (a:=a) (todo:=todo) h6 h2 h3 h1 h5 fun cs=>S6 _ _
   |_=>exact absurd trivial mL
  have h' : ∃(b:Frame) (a:Act),fr=b.atR a (er x++cZ k)∧b.fn=f∧dP g st.bI b∧Mk g st.bS a.defers∧bR E g st a w ∧ ∀y∈x::k,It.pl y:=by
   cases x<;>first
    |exact absurd mL id
    |exact h
  obtain⟨b,a,rfl,h1,h2,h3,h4,Rk⟩:=h'
  have hk : ∀y∈k,It.pl y:=fun y hy=>Rk y (.tail _ hy)
  clear h
  cases x with
  |fin=>exact absurd mL id
  |wg u=>exact absurd mL id
  |gA u=>exact absurd mL id
  |leave=>exact absurd mL id
  |begin=>
   simp only[Am.step]
   split
   · rename_i i hr
     unfold ug
     split
     · rename_i f' ps as bd pd vals hb
       intro cs
       have h2':=h2
       rw[hr] at h2'
       obtain⟨_,l,hl,hro⟩:=h2'
       obtain⟨r,q1,q0,q2,q3,q4,_⟩:=vn (s':= .busy) (C2:=pd) h4 hl hb
       have hp:r.pending=pd:=by
        have hib:=getD_some hb (by simp)
        obtain⟨c,ob,vs,k1,k2,k3,k4,_⟩:=h4.rel.obs i _ _ hib
        rw[hl] at k1;cases k1
        obtain⟨D,rfl⟩:=k4
        rw[q1] at k2;cases k2
        rfl
       have hrun:=run_beginRound (P:=P) q1 q0
       rw[show({r with state:= .busy}:Loop)={r with state:= .busy,pending:=pd} by rw[←hp]] at hrun
       refine⟨g,_,_,.one (stepR_beginRound hro hrun),bZ.mk (a:=a) (c:=⟨f,k,{st with mem:=st.mem.set i (.ob (.loop f' ps as bd .busy pd) vals)}⟩) hk h1 h2 h3 ⟨fun j=>(h4.tm j).mono q3,h4.nt,q2,by simpa using h4.fix,h4.cC.mono q3.pure⟩,q4,bf.refl _ _,rfl,rfl,rfl⟩
     · trivial
   · trivial
  |inScope bd=>exact dQ.quiet (fun cs=> .one (step_lone_go (by simp[stepG,stepG.exec,SA,er]))) hk h1 rfl h2 h3 h4 rfl rfl
  |inBlock id=>exact dQ.quiet (fun cs=> .one stepR_inBlock) hk h1 rfl h2 h3 h4 rfl rfl
  |forget keep=>
   intro cs
   obtain⟨g',q1,q2,q3,q4,q5,q6⟩:=qM h4 keep
   exact⟨g',_,w,S6 _ _,bZ.mk (c:=⟨f,k,forget keep st⟩) hk h1 (q6 _ h2) (q5 _ h3) q1,q2,q3,rfl,q4,oz⟩
  |inLoop i body=>
   intro cs
   obtain⟨g',q1,q2,q3,q4,q5,q6⟩:=vl h4 (E.keep f (2*i))
   exact⟨g',_,w,.one stepR_inLoop,bZ.mk (c:=⟨f,.code (i+1) body :: .inLoop i body::k,gW (E.keep f (2*i)) st⟩) (nf trivial (nf trivial hk)) h1 (q6 _ h2) (q5 _ h3) q1,q2,q3,rfl,q4,so⟩
  |ops bJ ops i sure=>
   simp only[Am.step]
   cases ho:ops[i]? with
   |none=>
    have hi:ops.size-i=0:=by
     have:ops.size≤i:=by
      rcases gg i ops.size with q | q
      · rw[ie q] at ho;cases ho
      · exact q
     omega
    refine dQ.quiet (c':=⟨f,k,st⟩) (fun cs=> .one ?_) hk h1 rfl h2 h3 h4 rfl rfl
    simp only[er,hi,List.range'_zero,S8,SX]
    exact stepR_region_end
   |some o=>
    obtain⟨w1,w2,w3⟩:=nC h4 (ops:=ops) (o:=o)
    have hi:i<ops.size:=by
     rcases gg i ops.size with q | q
     · exact q
     · rw[SD q] at ho;cases ho
    have skip:Region.wanted o (yielded ops a.tmps)=false→fits st o.dst=true→dQ P E g ⟨f,.ops bJ ops i sure::k,st⟩ (b.atR a (er (.ops bJ ops i sure)++cZ k)) w ⟨f,.ops bJ ops (i+1) false::k,put st o.dst (.bn [])⟩:=by
     intro hw hf cs
     have hst:=stepR_op_skip (P:=P) (b:=b) (a:=a) (k:=cZ k) (cs:=cs) (w:=w) (ops:=ops) (i:=i) (rest:=H2 (i+1) (ops.size-(i+1))) (by simp[ho,hw])
     simp only[ho,Option.bind_some] at hst
     rw[←mK hi] at hst
     have hp:=h4.put (v:= .bn []) (cv:=undef) hf (VA.iR.2 trivial) (Ext.refl g w) h4.rel h4.fix
     refine⟨g,_,w,.one hst,bZ.mk (a:=a.put o.dst undef) (c:=⟨f,.ops bJ ops (i+1) false::k,put st o.dst (.bn [])⟩) (nf trivial hk) h1 (h2.put (Ext.refl g w) rfl) (h3.put (Ext.refl g w) rfl) hp,?_,bf.refl _ _,rfl,?_,gY⟩
     · have:(put st o.dst (.bn [])).mem=st.mem:=by unfold Am.put;cases o.dst<;>rfl
       show b7 g st.mem w g (put st o.dst (.bn [])).mem w
       rw[this];exact b7.refl _ _ _
     · show(put st o.dst (.bn [])).fix=st.fix
       unfold Am.put;cases o.dst<;>rfl
    dsimp only
    cases DS:dD ops st.tm o with
    |yes=>exact CX (c:=⟨f,.ops bJ ops i sure::k,st⟩) h4 h1 h2 h3 ho (w1 DS) hk
    |no=>
     dsimp only
     cases hf:fits st o.dst with
     |false=>trivial
     |true=>exact skip (w2 DS) hf
    |lost=>trivial
    |ask d bb want=>
     obtain⟨q1,q2⟩:=w3 d bb want DS
     dsimp only
     cases sure with
     |false=>
      have known : ∀b':Bool,bb=b'→dQ P E g ⟨f,.ops bJ ops i false::k,st⟩ (b.atR a (er (.ops bJ ops i false)++cZ k)) w ⟨f,.ops bJ ops i true::k,put st (some d) (sB b')⟩:=by
       intro b' e
       subst e
       refine dQ.quiet (c':=⟨f,.ops bJ ops i true::k,put st (some d) (sB bb)⟩) (fun cs=>S6 _ _) (nf trivial hk) h1 rfl h2 h3 (h4.known ?_) rfl rfl
       rw[q2];exact .p _ _ (.sc _)
      exact⟨known true,known false⟩
     |true=>
      dsimp only
      cases hb:bb==want with
      |true=>exact CX (c:=⟨f,.ops bJ ops i true::k,st⟩) h4 h1 h2 h3 ho (q1.trans hb) hk
      |false=>
       dsimp only
       cases hf:fits st o.dst with
       |false=>trivial
       |true=>exact skip (q1.trans hb) hf
  |code i code=>
   cases code with
   |skip=>exact dQ.quiet (c':=⟨f,k,st⟩) (fun cs=> .one stepR_skip) hk h1 rfl h2 h3 h4 rfl rfl
   |region id ops draw=>
    cases draw with
    |true=>
     simp only[Am.step]
     split
     · rename_i st' ok hq
       intro hok cs
       subst hok
       obtain⟨g',a',w',r1,r2,r3,r4,r5,r6,r7⟩:=HM (b:=b) (k:=cZ k) h4 hq
       refine⟨g',_,w',r1 cs,bZ.mk (a:=a') (c:=⟨f,k,{st' with bS:=st.bS,bI:=st.bI}⟩) hk h1 (h2.ext r7) (by rw[r2];exact h3.ext r7) ⟨r3.tm,r3.nt,r3.rel,r3.fix,r3.cC⟩,r4,r5,rfl,r6,rfl⟩
     · split
       · rename_i OS hq
         obtain⟨st',hm,g',a',w',r1,r2,r3,r4,r5,r6,r7⟩:=HS (b:=b) (k:=cZ k) (bJ:=id) h4 hq
         intro cs
         exact⟨_,fi.2 ⟨st',hm,rfl⟩,g',_,w',r1 cs,bZ.mk (a:=a') (c:=⟨f,k,{st' with bS:=st.bS,bI:=st.bI}⟩) hk h1 (h2.ext r7) (by rw[r2];exact h3.ext r7) ⟨r3.tm,r3.nt,r3.rel,r3.fix,r3.cC⟩,r4,r5,rfl,r6,rfl⟩
       intro O st' hO hq cs
       obtain⟨g',a',w',r1,r2,r3,r4,r5,r6,r7⟩:=Ka (b:=b) (k:=k) hO h4 hq cs
       have hk' : ∀y∈gR id ops k,It.pl y:=by
        unfold gR
        cases qw ops with
        |false=>exact hk
        |true=>exact nf trivial hk
       exact⟨g',_,w',r1,bZ.mk (a:=a') (c:=⟨f,gR id ops k,{st' with bS:=st.bS,bI:=st.bI}⟩) hk' h1 (h2.ext r7) (by rw[r2];exact h3.ext r7) ⟨r3.tm,r3.nt,r3.rel,r3.fix,r3.cC⟩,r4,r5,rfl,r6,rfl⟩
    |false=>
     refine dQ.quiet (c':=⟨f,.ops id ops 0 false::k,st⟩) (fun cs=> .one ?_) (nf trivial hk) h1 rfl h2 h3 h4 rfl rfl
     have:=stepR_region (P:=P) (b:=b) (a:=a) (k:=cZ k) (cs:=cs) (w:=w) (ops:=ops) (id:=id)
     simpa[cZ,er,S7] using this
   |seq x y=>exact dQ.quiet (c':=⟨f,.code i x :: .code (i+nodes x) y::k,st⟩) (fun cs=> .one stepR_seq) (nf trivial (nf trivial hk)) h1 rfl h2 h3 h4 rfl rfl
   |cond x y z=>
    simp only[Am.step]
    split
    · rename_i t hx
      have hv:=fK h4 x
      rw[hx,VA.pv] at hv
      generalize hz:a.eval x=cv at hv
      cases hv
      refine⟨fun e=> ?_,fun e=> ?_⟩<;>subst e
      · refine dQ.quiet (c':=⟨f,.code (i+1) y::eg (E.keep f (2*i)) k,st⟩) (fun cs=> .one ?_) (nf trivial (mR hk)) h1 rfl h2 h3 h4 rfl rfl
        simp only[cZ,mQ];exact stepR_cond hz
      · refine dQ.quiet (c':=⟨f,.code (i+1+nodes y) z::eg (E.keep f (2*i)) k,st⟩) (fun cs=> .one ?_) (nf trivial (mR hk)) h1 rfl h2 h3 h4 rfl rfl
        simp only[cZ,mQ];exact stepR_cond hz
    · trivial
   |block id body=>exact dQ.quiet (c':=⟨f,.code i body :: .inBlock id::k,st⟩) (fun cs=> .one stepR_block) (nf trivial (nf trivial hk)) h1 rfl h2 h3 h4 rfl rfl
   |loop body=>
    intro cs
    obtain⟨g',q1,q2,q3,q4,q5,q6⟩:=vl h4 (E.keep f (2*i))
    refine⟨g',b.atR a (cZ (.code (i+1) body :: .inLoop i body::eg (E.keep f (2*i+1)) k)),w,.one ?_,bZ.mk (c:=⟨f,.code (i+1) body :: .inLoop i body::eg (E.keep f (2*i+1)) k,gW (E.keep f (2*i)) st⟩) (nf trivial (nf trivial (mR hk))) h1 (q6 _ h2) (q5 _ h3) q1,q2,q3,rfl,q4,so⟩
    simp only[cZ,mQ];exact stepR_loop
   |exit id=>
    simp only[Am.step]
    split
    · rename_i k' hk'
      exact dQ.quiet (c':=⟨f,k',st⟩) (fun cs=> .one (stepR_exit (cV hk'))) (oy hk hk') h1 rfl h2 h3 h4 rfl rfl
    · rename_i hx
      split
      · rename_i j hr
        rw[hr] at h2
        obtain⟨hk,l,hl,hro⟩:=h2
        exact mS (c:=⟨f,.code i (.exit id)::k,st⟩) h4 hr hl h1 fun v w' hrun d cs=>stepR_round_exit hro hk (cF hx) hrun
      · trivial
   |scope bd=>exact dQ.quiet (c':=⟨f,.code i bd :: .inScope bd::k,st⟩) (fun cs=> .one (step_lone_go (by simp[stepG,stepG.exec,SA,cZ,er]))) (nf trivial (nf trivial hk)) h1 rfl h2 h3 h4 rfl rfl
   |label l=>exact dQ.quiet (c':=⟨f,k,st⟩) (fun cs=> .one stepR_label) hk h1 rfl h2 h3 h4 rfl rfl
   |goto l=>
    simp only[Am.step]
    split
    · rename_i k' hk'
      exact dQ.quiet (c':=⟨f,k',st⟩) (fun cs=> .one (stepR_goto (cW hk'))) (ox hk hk') h1 rfl h2 h3 h4 rfl rfl
    · trivial
   |rangeFunc x ps as bd=>
    simp only[Am.step]
    split
    · rename_i hr
      have h2':=h2
      rw[hr] at h2'
      unfold CG
      split
      · rename_i gf first captured hx
        dsimp only
        cases hlt:ig (close (cY st f ps as bd) 0 (first++[.vy (st.mem.length+1)]++captured)) (cY st f ps as bd).length with
        |false=>trivial
        |true=>
         subst h1
         intro v m1 hd m2 pd hend cs
         obtain⟨g',a',w',s1,s2,s3,s4,s5,s6⟩:=Fx (P:=P) (k:=cZ k) h4 h2'.2 h3 hx hlt hd hend cs
         have e:(pd.map Item.code).toList++cZ k=cZ (behind ⟨b.fn,k,{st with mem:=cY st b.fn ps as bd,bS:= .range st.mem.length::st.bS}⟩ m2 pd).todo:=by
          cases pd<;>rfl
         rw[e] at s1
         refine⟨g',_,w',s1,bZ.mk (a:=a') (c:=behind ⟨b.fn,k,{st with mem:=cY st b.fn ps as bd,bS:= .range st.mem.length::st.bS}⟩ m2 pd) ?_ rfl (h2.ext s6) s2 s3,s4,s5,rfl,rfl,rfl⟩
         cases pd with
         |none=>exact hk
         |some code=>exact nf trivial hk
      · trivial
    · trivial
   |ret=>
    simp only[Am.step]
    split
    · rename_i j hr
      rw[hr] at h2
      obtain⟨hk,l,hl,hro⟩:=h2
      exact mS (c:=⟨f,.code i .ret::k,st⟩) h4 hr hl h1 fun v w' hrun d cs=>stepR_round_ret hro hk hrun
    · rename_i uW
      have uW : ∀i,st.bI ≠ .round i:=fun i e=>uW i e
      exact xO (c:=⟨f,.code i .ret::k,st⟩) (b:=b) (a:=a) (todo:= .code .ret::cZ k) h4 h2 uW h1 h3 fun cs=> .one (stepR_ret (h2.yZ uW))
   |_=>trivial
end
def eO (P:Program):Prop:= ∀(f:FuncId) (fn:Func),P.funcs[f]? = some fn→(fn.name == "runtime.NumGoroutine")=false
def dN (P:Program) (E:Env) (c:bA) (o:Out):Prop:=
 ∀(g:Gh) (fr:Frame) (w:World) (cs:List Frame),bZ P E g c fr w→match o with
  |.ret v m'=> ∃g' fr' w' cv w2,Steps P (lone fr cs w) (lone fr' cs w')∧DP P c.st.bI fr' w' cv w2∧fr'.fn=c.f∧VA g' w2 v cv∧Rel g' m' w2∧b7 g c.st.mem w g' m' w2∧bf g g' c.st.fix∧c.st.fix≤m'.length
  |.nk v m'=> ∃g' fr' w' cv,Steps P (lone fr cs w) (lone fr' cs w')∧fr'.leaving P w' (.panicked [{v:=cv,recovered:=false}])∧fr'.fn=c.f∧VA g' w' v cv∧Rel g' m' w'∧b7 g c.st.mem w g' m' w'∧bf g g' c.st.fix∧c.st.fix≤m'.length
section
variable {P:Program} {E:Env}
theorem dN.aq {c c':bA} {o:Out} (hg : ∀g fr w,bZ P E g c fr w→dQ P E g c fr w c') (h:dN P E c' o):dN P E c o:=by
 intro g fr w cs hc
 obtain⟨g',fr',w',q1,q2,q3,q4,q5,q6,q7⟩:=hg g fr w hc cs
 cases o with
 |ret v m'=>
  obtain⟨g2,kG,w2,cv,w3,r1,r2,r3,r4,r5,r6,r7,r8⟩:=h g' fr' w' cs q2
  refine⟨g2,kG,w2,cv,w3,q1.trans r1,by rw[←q7];exact r2,r3.trans q5,r4,r5,q3.trans r6,q4.trans ?_,by rw[←q6];exact r8⟩
  rw[←q6];exact r7
 |nk v m'=>
  obtain⟨g2,kG,w2,cv,r1,r2,r3,r4,r5,r6,r7,r8⟩:=h g' fr' w' cs q2
  refine⟨g2,kG,w2,cv,q1.trans r1,r2,r3.trans q5,r4,r5,q3.trans r6,q4.trans ?_,by rw[←q6];exact r8⟩
  rw[←q6];exact r7
theorem oA : ∀n,upTo n=List.range n
 |0=>rfl
 |n+1=>by rw[upTo,oA n,List.range_succ]
theorem oB : ∀(l:List AV) (s k:Nat),look ((H2 s l.length).zip l) k=if s≤k then l.getD (k-s) .af else .af
 |[],s,k=>by simp[look]
 |v::l,s,k=>by
  simp only[List.length_cons,List.range'_succ,S9,iX]
  by_cases e:s=k
  · subst e;simp
  · simp only[e,if_false]
    rw[oB l (s+1) k]
    by_cases h:s+1≤k
    · have h1:s≤k:=by omega
      have h2:k-s=(k-(s+1))+1:=by omega
      simp[h,h1,h2]
    · have h1 : ¬s≤k:=by omega
      simp[h,h1]
def B8:Bool→Jj
 |false=> .call
 |true=> .late
def kindOf:Bool→CallKind
 |false=> .normal
 |true=> .deferred
theorem bZ.Fy {g:Gh} {w:World} {f:FuncId} {args:List AV} {m:Mem} {c:bA} {cM:Array Value} (z:Bool) (hi:init P f args m=some c) (hr:Rel g m w) (ha:bO g w args cM.toList) (hg:fD E g w) :
  bZ P E g {c with st:={c.st with bI:=B8 z}} (If P f cM (kindOf z)) w:=by
 unfold init at hi
 split at hi
 · rename_i fn hf
   split at hi
   · rename_i body hb
     simp only[dk] at hi;subst hi
     have hlen:=ha.len
     simp only[ik] at hlen
     let b:Frame:={(default:Frame) with fn:=f,kind:=kindOf z,roundOf:=none}
     have Mp:If P f cM (kindOf z)=b.atR {tmps:=cM++Array.replicate (fn.ntmps-cM.size) undef,defers:=[]} [.code body]:=by
      simp[If,SA,hf,hb,b]
     rw[Mp]
     refine bZ.mk (c:=⟨f,[.code 0 body],⟨(upTo args.length).zip args,max fn.ntmps args.length,m,m.length,[],B8 z⟩⟩) (nf trivial (fun _ h=>by cases h)) rfl (by cases z<;>exact⟨rfl,rfl⟩) trivial ⟨?_,?_,hr,ch _,hg⟩
     · intro k
       rw[oA,S7,oB]
       simp only[S3,if_true,Te]
       rcases gg k args.length with hk | hk
       · rw[dd,da hk]
         have hk':k<cM.toList.length:=by simp;omega
         have hk2:k<cM.size:=by omega
         have:=ha.get k hk hk'
         simp only[kb,H5]
         rw[Array.getElem?_append_left hk2,ie hk2]
         simpa using this
       · rw[dd,ee hk]
         exact .af _
     · simp;omega
   · cases hi
 · cases hi
theorem pW {f:FuncId} {args:List AV} {m:Mem} {c:bA} (hi:init P f args m=some c):c.st.mem=m∧c.st.fix=m.length∧c.f=f∧c.st.bI = .call:=by
 unfold init at hi
 split at hi
 · split at hi
   · simp only[dk] at hi;subst hi;exact⟨rfl,rfl,rfl,rfl⟩
   · cases hi
 · cases hi
theorem bZ.enter {g:Gh} {w:World} {f:FuncId} {args:List AV} {m:Mem} {c:bA} {cM:Array Value} (hi:init P f args m=some c) (hr:Rel g m w) (ha:bO g w args cM.toList) (hg:fD E g w) :
  bZ P E g c (If P f cM .normal) w:=by
 have h:=bZ.Fy (P:=P) false hi hr ha hg
 have e:({c with st:={c.st with bI:=B8 false}}:bA)=c:=by
  obtain⟨_,_,_,h4⟩:=pW hi
  obtain⟨f,t,tm,nt,mem,fix,bS,bI⟩:=c
  simp only at h4
  subst h4
  rfl
 rw[e] at h
 exact h
theorem qN (hN:eO P) {f:FuncId} {args:List AV} {m:Mem} {c:bA} (hi:init P f args m=some c) : ∃fn,P.funcs[f]? = some fn∧fn.body.isSome=true∧(fn.name == "runtime.NumGoroutine")=false:=by
 unfold init at hi
 split at hi
 · rename_i fn hf
   split at hi
   · rename_i body hb
     exact⟨fn,hf,by simp[hb],hN f fn hf⟩
   · cases hi
 · cases hi
theorem j8 (hN:eO P) {f:FuncId} {args:List AV} {m:Mem} {c:bA} {v:AV} {m':Mem} (hi:init P f args m=some c) (h:dN P E c (.nk v m')):Fh P E f args m v m':=by
 refine⟨qN hN hi,fun g w cM cs hr ha hg=> ?_⟩
 obtain⟨g',fr',w',cv,q1,q2,q3,q4,q5,q6,q7,q8⟩:=h g _ w cs (bZ.enter hi hr ha hg)
 obtain⟨e1,e2,e3,e4⟩:=pW hi
 rw[e1] at q6;rw[e2] at q7 q8;rw[e3] at q3
 exact⟨_,g',cv,fr',q1,q2,q3,q4,q5,q6,q7,q8⟩
theorem dc (hN:eO P) {f:FuncId} {args:List AV} {m:Mem} {c:bA} {v:AV} {m':Mem} (hi:init P f args m=some c) (h:dN P E c (.ret v m')):aO P E f args m v m':=by
 refine⟨qN hN hi,fun g w cM cs hr ha hg=> ?_⟩
 obtain⟨g',fr',w',cv,w2,q1,q2,q3,q4,q5,q6,q7,q8⟩:=h g _ w cs (bZ.enter hi hr ha hg)
 obtain⟨e1,e2,e3,e4⟩:=pW hi
 rw[e1] at q6;rw[e2] at q7 q8;rw[e3] at q3;rw[e4] at q2
 obtain⟨q2,rfl⟩:=q2
 exact⟨_,g',cv,fr',q1,q2,q3,q4,q5,q6,q7,q8⟩
theorem pX {g:Gh} {w:World} : ∀(ds:List Nat) (vs:List AV) (pT:List Value) (tm:qo) (t:Array Value),bO g w vs pT→ds.length=vs.length→(∀d∈ds,d<t.size)→(∀k,VA g w (look tm k) (t.getD k undef)) →
  (∀k,VA g w (look (BI tm ds vs) k) (((ds.zip pT).foldl (fun t (q:Nat×Value)=>t.setIfInBounds q.1 q.2) t).getD k undef))∧((ds.zip pT).foldl (fun t (q:Nat×Value)=>t.setIfInBounds q.1 q.2) t).size=t.size
 |[],[],[],tm,t,_,_,_,h=>⟨h,rfl⟩
 |d::ds,v::vs,cv::pT,tm,t,hv,hl,hd,h=>by
  have hdt:=hd d (.head _)
  obtain⟨q1,q2⟩:=pX ds vs pT ((d,v)::tm) (t.setIfInBounds d cv) hv.2 (by simpa using hl) (fun d' hd'=>by simpa using hd d' (.tail _ hd')) fun k=>by
   simp only[iX]
   by_cases hk:d=k
   · subst hk
     simp only[if_true,H5,Array.getElem?_setIfInBounds_self_of_lt hdt,kb]
     exact hv.1
   · simp only[hk,if_false,H5]
     rw[Array.getElem?_setIfInBounds_ne hk,←H5]
     exact h k
  exact⟨q1,q2.trans (by simp)⟩
 |[],_::_,_,_,_,_,hl,_,_=>by simp at hl
 |_::_,[],_,_,_,_,hl,_,_=>by simp at hl
 |[],[],_::_,_,_,h,_,_,_=>h.elim
 |_::_,_::_,[],_,_,h,_,_,_=>h.elim
theorem j9 {args:List AV} {m:Mem} {c:bA} {v:AV} {m':Mem} (hi:zY args m=some c) (h:dN P E c (.ret v m')):CW P E args m v m':=by
 intro g w i l xs HF d cs hargs hr hl hx hg
 subst hargs
 unfold zY at hi
 dsimp only at hi
 split at hi
 · rename_i f ps as bd s pd vals hb
   cases hc:(a6 xs.length ps.toList.length&&ig ps.toList vals.length) with
   |false=>rw[hc] at hi;cases hi
   |true=>
    rw[hc] at hi
    simp only[cond_true,dk] at hi
    simp only[di] at hc
    have hlen:=a8 hc.1
    have hlt:=fq hc.2
    have hib:=getD_some hb (by simp)
    obtain⟨c0,ob,vs,k1,k2,k3,k4,_⟩:=hr.obs i _ _ hib
    rw[hl] at k1;cases k1
    obtain⟨D,rfl⟩:=k4
    have hxl:=hx.len
    simp only[ik] at hxl
    have hvl:=k3.len
    have B9:=run_yield (P:=P) (args:=HF) k2 (by show HF.size=ps.size;simp at hlen;omega)
    dsimp only at B9
    have CK:(ps.zip HF).foldl (fun tmps (t,a)=>tmps.setIfInBounds t a) vs.toArray=(ps.toList.zip HF.toList).foldl (fun t (q:Nat×Value)=>t.setIfInBounds q.1 q.2) vs.toArray:=by
     rw[←Array.foldl_toList,Array.toList_zip]
    rw[CK] at B9
    obtain⟨t1,t2⟩:=pX ps.toList xs HF.toList ((upTo vals.length).zip vals) vs.toArray hx hlen.symm (fun d hd=>by have:=hlt d hd;simp;omega) fun k=>by
     rw[oA,S7,oB]
     simp only[S3,if_true,Te]
     rcases gg k vals.length with hk | hk
     · rw[dd,da hk]
       have hk':k<vs.length:=by omega
       have:=k3.get k hk hk'
       simp only[kb,H5]
       simpa[hk'] using this
     · rw[dd,ee hk]
       exact .af _
    generalize (ps.toList.zip HF.toList).foldl (fun t (q:Nat×Value)=>t.setIfInBounds q.1 q.2) vs.toArray=T at *
    let b:Frame:={(default:Frame) with fn:=f,kind:= .normal,roundOf:=some l}
    have Mp:Tg l f T as bd .normal=b.atR {tmps:=T,defers:=[]} (cZ c.todo):=by
     rw[←hi]
     simp[Tg,SA,cZ,er,b]
    have gE:bZ P E g c (Tg l f T as bd .normal) w:=by
     rw[Mp]
     subst hi
     exact bZ.mk (nf trivial (nf trivial (nf trivial fun _ h=>by cases h))) rfl ⟨rfl,l,hl,rfl⟩ trivial ⟨t1,by rw[t2];simp;omega,hr,ch _,hg⟩
    have hm:c.st.mem=m∧c.st.fix=m.length∧c.st.bI = .round i:=by subst hi;exact⟨rfl,rfl,rfl⟩
    obtain⟨e1,e2,e3⟩:=hm
    obtain⟨g',fr',w',cv,w2,q1,q2,q3,q4,q5,q6,q7,q8⟩:=h g _ w (d::cs) gE
    rw[e1] at q6;rw[e2] at q7 q8;rw[e3] at q2
    exact⟨f,T,as,bd,w2,g',cv,B9,q1.trans (q2 d cs),q4,q5,q6,q7,q8⟩
 · cases hi
theorem qO {c:bA} {o:Out} (h:Am.step P E c = .done o):dN P E c o:=by
 intro g fr w cs hc
 have hs:=gD hc
 rw[h] at hs
 cases o with
 |ret v m'=>
  obtain⟨h1,rfl,cv,w2,h2,h3,h4,h6,h5⟩:=hs
  exact⟨g,fr,w,cv,w2,S6 _ _,h2,h1,h3,h4,h6,bf.refl _ _,h5⟩
 |nk v m'=>
  obtain⟨h1,rfl,cv,h2,h3,h4,h5⟩:=hs
  exact⟨g,fr,w,cv,S6 _ _,h2,h1,h3,h4,b7.refl _ _ _,bf.refl _ _,h5⟩
theorem kH {c c':bA} (h:Am.step P E c = .next c') : ∀g fr w,bZ P E g c fr w→dQ P E g c fr w c':=by
 intro g fr w hc
 have hs:=gD hc
 rw[h] at hs;exact hs
theorem qP {c c':bA} (h:Am.step P E c = .must true c') : ∀g fr w,bZ P E g c fr w→dQ P E g c fr w c':=by
 intro g fr w hc
 have hs:=gD hc
 rw[h] at hs;exact hs rfl
theorem qQ {c y z:bA} {b:Bool} (h:Am.step P E c = .test b y z) : ∀g fr w,bZ P E g c fr w→dQ P E g c fr w (match b with | true=>y | false=>z):=by
 intro g fr w hc
 have hs:=gD hc
 rw[h] at hs
 cases b with
 |true=>exact hs.1 rfl
 |false=>exact hs.2 rfl
theorem fZ {c c':bA} {f:FuncId} {args:List AV} {m:Mem} {ord:List Nat} {dst:Option Tmp} {v:AV} {m1:Mem} (h:Am.step P E c = .call f args m ord dst c') (hd:aO P E f args m v m1) :
  ∀g fr w,bZ P E g c fr w→dQ P E g c fr w {c' with st:=back ord dst c'.st v m1}:=by
 intro g fr w hc
 have hs:=gD hc
 rw[h] at hs
 exact hs.1 v m1 hd
theorem mT {c c':bA} {f:FuncId} {args:List AV} {m:Mem} {ord:List Nat} {dst:Option Tmp} {v:AV} {m1:Mem} (h:Am.step P E c = .call f args m ord dst c') (hd:Fh P E f args m v m1) :
  ∀g fr w,bZ P E g c fr w→dQ P E g c fr w (l9 ord c' v m1):=by
 intro g fr w hc
 have hs:=gD hc
 rw[h] at hs
 exact hs.2 v m1 hd
theorem qR {c c':bA} {f:FuncId} {args:List AV} {m:Mem} {ord:List Nat} {pv:Option AV} {m1:Mem} (h:Am.step P E c = .late f args m ord pv c') (hd:Fj P E f args m pv m1) :
  ∀g fr w,bZ P E g c fr w→dQ P E g c fr w {c' with st:=back ord none c'.st (.bn []) m1}:=by
 intro g fr w hc
 have hs:=gD hc
 rw[h] at hs
 exact hs m1 hd
theorem jw {b:Frame} {a:Act} {cs:List Frame} {w:World} : ∀(n:Nat) (t t':List It),uk n t=some t'→(∀x∈t,It.pl x)→Steps P (lone (b.atR a (cZ t)) cs w) (lone (b.atR a (cZ t')) cs w) ∧ ∀x∈t',It.pl x
 |0,_,_,h,_=>by cases h
 |n+1,t,t',h,hp=>by
  unfold uk at h
  split at h
  · simp only[dk] at h;subst h
    exact⟨S6 _ _,hp⟩
  · obtain⟨h1,h2⟩:=jw n _ t' h (nf trivial (nf trivial fun y hy=>hp y (.tail _ hy)))
    exact⟨.head stepR_seq h1,h2⟩
  · rename_i id ops k
    obtain⟨h1,h2⟩:=jw n _ t' h (nf trivial fun y hy=>hp y (.tail _ hy))
    refine⟨.head ?_ h1,h2⟩
    have:=stepR_region (P:=P) (b:=b) (a:=a) (k:=cZ k) (cs:=cs) (w:=w) (ops:=ops) (id:=id)
    simpa[cZ,er,S7] using this
  · obtain⟨h1,h2⟩:=jw n _ t' h (nf trivial (nf trivial fun y hy=>hp y (.tail _ hy)))
    exact⟨.head (step_lone_go (by simp[stepG,stepG.exec,SA,cZ,er])) h1,h2⟩
  · obtain⟨h1,h2⟩:=jw n _ t' h (nf trivial (nf trivial fun y hy=>hp y (.tail _ hy)))
    exact⟨.head stepR_block h1,h2⟩
  · cases h
theorem zh {b:Frame} {a:Act} {k:List Item} {c0:Frame} {cs:List Frame} {w:World} {ops:Array Oper} {i:Nat} {rest:List Nat} {o:Oper} {pM:Option Value} (hk:b.kind = .deferred) (hb:b.roundOf=none) (ho:ops[i]? = some o) (hr:isRec o=true)
  (h0:c0.mode=cA pM false) :
  _root_.Go.step P (lone (b.atR a (.inRegion ops (i::rest)::k)) (c0::cs) w) = .next (lone (b.atR (a.put o.dst (pM.getD .nilIface)) (.inRegion ops rest::k)) ({c0 with mode:=cA pM true}::cs) w):=by
 unfold isRec at hr
 split at hr
 · rename_i c hop hgd
   split at hr
   · rename_i wK OV
     have jD:c.args = #[]:=by have:=congrArg List.toArray OV;simpa using this
     have hw:Region.wanted o (yielded ops a.tmps)=true:=by unfold Region.wanted;rw[hgd]
     have hg:=stepGR_op (P:=P) (b:=b) (k:=k) (cs:=c0::cs) (w:=w) (rest:=rest) ho hw
     have hrun:(o.semAt b.roundOf a.eval).run P w = .ok .recover w:=by
      rw[hb]
      simp only[Oper.semAt,execOp,hop,resolve,wK,jD,km,kp,kv,invoke,builtin]
     have mL : ∀v,(b.atR a (.inRegion ops (i::rest)::k)).finish v=b.atR (a.put o.dst v) (.inRegion ops rest::k):=fun v=>by rw[Frame.finish_atR,ho];rfl
     have hkk:(b.atR a (.inRegion ops (i::rest)::k)).kind = .deferred:=hk
     have LD:=tryRecover_deferred hkk (c0::cs)
     have hro:(b.atR a (.inRegion ops (i::rest)::k)).roundOf=none:=hb
     refine step_lone_go ?_
     rw[hg]
     cases pM with
     |none=>
      have e:recoverD (c0::cs)=none:=by unfold recoverD;simp only[h0,cA]
      rw[e] at LD
      have Rl:({c0 with mode:=cA none true}:Frame)=c0:=by rw[show cA none true=c0.mode from h0.symm]
      rw[Rl]
      simp only[stepG.apply,Tc,hrun,hro,LD,GStep.bare_after,GStep.bare_go,mL,Option.getD_none,if_true]
     |some v=>
      have e:recoverD (c0::cs)=some (v,{c0 with mode:=cA (some v) true}::cs):=by unfold recoverD;simp only[h0,cA]
      rw[e] at LD
      simp only[stepG.apply,Tc,hrun,hro,LD,GStep.bare_after,GStep.bare_go,mL,kb,if_true]
   · cases hr
 · cases hr
theorem ke (hN:eO P) {f:FuncId} {args:List AV} {m:Mem} {pv:Option AV} {c:bA} {v:AV} {m':Mem} (hi:Aa P f args m pv=some c) (h:dN P E c (.ret v m')):Fj P E f args m pv m':=by
 unfold Aa at hi
 split at hi
 · rename_i c0 xm
   split at hi
   · rename_i t1 hi1
     refine⟨qN hN xm,fun g w cM pM Qm cs h0 Aq hr ha hg=> ?_⟩
     obtain⟨e1,e2,e3,_⟩:=pW xm
     have Mp:=bZ.Fy (P:=P) true xm hr ha hg
     have Mq : ∃body,c0.todo=[.code 0 body]:=by
      unfold init at xm
      split at xm
      · split at xm
        · simp only[dk] at xm;subst xm;exact⟨_,rfl⟩
        · cases xm
      · cases xm
     obtain⟨body,hbody⟩:=Mq
     obtain⟨f0,t0,fQ⟩:=c0
     simp only at hbody e1 e2 e3 hi1 hi
     subst hbody
     obtain⟨b,a,hfr,h1,h2,h3,h4,hk⟩:=Mp
     simp only at h1 h2 h3 h4 hk
     obtain⟨Ke,Eu⟩:=jw (P:=P) (b:=b) (a:=a) (cs:=Qm::cs) (w:=w) 20 _ _ hi1 hk
     have OW:If P f cM .deferred=b.atR a (cZ [It.code 0 body]):=hfr
     rw[OW]
     unfold Jl at hi
     simp only at hi
     split at hi
     · rename_i bJ ops i sure k
       split at hi
       · rename_i o ho
         have hlt:i<ops.size:=by
          rcases gg i ops.size with q | q
          · exact q
          · rw[SD q] at ho;cases ho
         have hk' : ∀y∈k,It.pl y:=fun y hy=>Eu y (.tail _ hy)
         cases hb:(isRec o&&fits {fQ with bI:= .late} o.dst) with
         |false=>rw[hb] at hi;cases hi
         |true=>
          rw[hb] at hi
          simp only[cond_true,dk] at hi
          simp only[di] at hb
          have hstep:=zh (P:=P) (a:=a) (k:=cZ k) (cs:=cs) (w:=w) (rest:=H2 (i+1) (ops.size-(i+1))) (pM:=pM) h2.1 h2.2 ho hb.1 h0
          have yM:VA g w (pv.getD (.p (.sc .nilIface))) (pM.getD .nilIface):=by
           cases pv with
           |none=>cases pM with
            |none=>exact .p _ _ (.sc _)
            |some _=>exact Aq.elim
           |some u=>cases pM with
            |none=>exact Aq.elim
            |some cv=>exact Aq
          have hput:=h4.put (m':=fQ.mem) hb.2 yM (Ext.refl g w) h4.rel h4.fix
          have Rm:bZ P E g c (b.atR (a.put o.dst (pM.getD .nilIface)) (.inRegion ops (H2 (i+1) (ops.size-(i+1)))::cZ k)) w:=by
           subst hi
           exact bZ.mk (c:=⟨f0,.ops bJ ops (i+1) false::k,put {fQ with bI:= .late} o.dst (pv.getD (.p (.sc .nilIface)))⟩) (nf trivial hk') h1 (by rw[gY];exact h2) (h3.put (st:={fQ with bI:= .late}) (st':={fQ with bI:= .late}) (Ext.refl g w) rfl) hput
          obtain⟨g2,kG,w2,cv,w3,r1,r2,r3,r4,r5,r6,r7,r8⟩:=h g _ w ({Qm with mode:=cA pM true}::cs) Rm
          have hc:c.st.mem=m∧c.st.fix=m.length∧c.st.bI = .late:=by
           subst hi
           refine⟨?_,?_,?_⟩
           · rw[←e1]
             show(put {fQ with bI:= .late} o.dst _).mem=fQ.mem
             unfold Am.put;cases o.dst<;>rfl
           · rw[←e2]
             show(put {fQ with bI:= .late} o.dst _).fix=fQ.fix
             unfold Am.put;cases o.dst<;>rfl
           · show(put {fQ with bI:= .late} o.dst _).bI = .late
             rw[gY]
          obtain⟨c1,c2,c3⟩:=hc
          rw[c3] at r2
          obtain⟨⟨r2,Rn⟩,rfl⟩:=r2
          rw[c1] at r6
          rw[c2] at r7 r8
          refine⟨_,g2,cv,kG,Ke.trans (.head ?_ r1),r2,Rn,r5,r6,r7,r8⟩
          have he:cZ (.ops bJ ops i sure::k) = .inRegion ops (i::H2 (i+1) (ops.size-(i+1)))::cZ k:=by
           simp only[cZ,er,mK hlt,S8,SX]
          rw[he]
          exact hstep
       · cases hi
     · cases hi
   · cases hi
 · cases hi
theorem oC {c c':bA} {args:List AV} {m:Mem} {ord:List Nat} {dst:Option Tmp} {v:AV} {m1:Mem} (h:Am.step P E c = .round args m ord dst c') (hd:CW P E args m v m1) :
  ∀g fr w,bZ P E g c fr w→dQ P E g c fr w {c' with st:=back ord dst c'.st v m1}:=by
 intro g fr w hc
 have hs:=gD hc
 rw[h] at hs
 exact hs v m1 hd
theorem jx {c c':bA} {f:FuncId} {args:List AV} {m:Mem} {ord:List Nat} {L:Nat} {v:AV} {m1 m2:Mem} {pd:Option Code} (h:Am.step P E c = .range f args m ord L c') (hd:aO P E f args m v m1)
  (he:fH (back ord none c'.st v m1).mem L=some (m2,pd)) : ∀g fr w,bZ P E g c fr w→dQ P E g c fr w (behind c' m2 pd):=by
 intro g fr w hc
 have hs:=gD hc
 rw[h] at hs
 exact hs v m1 hd m2 pd he
theorem dN.zi {c:bA} {l:List bA} {o:Out} (hg : ∀g fr w,bZ P E g c fr w→tK P E g c fr w l) (h : ∀c'∈l,dN P E c' o):dN P E c o:=by
 intro g fr w cs hc
 obtain⟨c',hm,g',fr',w',q1,q2,q3,q4,q5,q6,q7⟩:=hg g fr w hc cs
 cases o with
 |ret v m'=>
  obtain⟨g2,kG,w2,cv,w3,r1,r2,r3,r4,r5,r6,r7,r8⟩:=h c' hm g' fr' w' cs q2
  refine⟨g2,kG,w2,cv,w3,q1.trans r1,by rw[←q7];exact r2,r3.trans q5,r4,r5,q3.trans r6,q4.trans ?_,by rw[←q6];exact r8⟩
  rw[←q6];exact r7
 |nk v m'=>
  obtain⟨g2,kG,w2,cv,r1,r2,r3,r4,r5,r6,r7,r8⟩:=h c' hm g' fr' w' cs q2
  refine⟨g2,kG,w2,cv,q1.trans r1,r2,r3.trans q5,r4,r5,q3.trans r6,q4.trans ?_,by rw[←q6];exact r8⟩
  rw[←q6];exact r7
theorem qT {c:bA} {l:List bA} (h:Am.step P E c = .fork l) : ∀g fr w,bZ P E g c fr w→tK P E g c fr w l:=by
 intro g fr w hc
 have hs:=gD hc
 rw[h] at hs;exact hs
theorem kI {c c':bA} {bJ:Nat} {ops:Array Oper} {O:FuncId→List AV→Mem→Option (AV×Mem)} {st':St} (h:Am.step P E c = .draw bJ ops c') (hO : ∀g args m v m1,O g args m=some (v,m1)→aO P E g args m v m1)
  (hq:jk P E c'.f bJ O ops c'.st=some (st',true)) : ∀g fr w,bZ P E g c fr w→dQ P E g c fr w {c' with st:={st' with bS:=c'.st.bS,bI:=c'.st.bI}}:=by
 intro g fr w hc
 have hs:=gD hc
 rw[h] at hs
 exact hs O st' hO hq
def fc (P:Program) (E:Env) (l:List cr):Prop:= ∀q∈l,aO P E q.g q.args q.m q.v q.m'
theorem pY {K:List cr} (hK:fc P E K) {g:FuncId} {args:List AV} {m:Mem} {r:AV×Mem} (h:kV K g args m=some r):aO P E g args m r.1 r.2:=by
 induction K with
 |nil=>cases h
 |cons q K ih=>
  simp only[kV] at h
  cases hb:(a6 q.g g&&(jM args q.args&&rG m q.m)) with
  |true=>
   rw[hb] at h
   simp only[cond_true,dk] at h
   subst h
   simp only[di] at hb
   obtain⟨h1,h2,h3⟩:=hb
   have h1:=a8 h1
   have h2:=eY h2
   have h3:=mh h3
   subst h1;subst h2;subst h3
   exact hK q (.head _)
  |false=>
   rw[hb] at h
   exact ih (fun x hx=>hK x (.tail _ hx)) h
theorem Fz {o p:Out} (h:zZ o p=true):o=p:=by
 cases o with
 |ret v m=>cases p with
  |ret u n=>
   simp only[zZ,di] at h
   rw[kX h.1,mh h.2]
  |nk u n=>cases h
 |nk v m=>cases p with
  |ret u n=>cases h
  |nk u n=>
   simp only[zZ,di] at h
   rw[kX h.1,mh h.2]
theorem xP : ∀{l:List (Option Out)} {o:Out},agree l=some o → ∀x∈l,x=some o
 |[],_,h,_,_=>by cases h
 |[x],o,h,y,hy=>by
  cases hy with
  |head=>exact h
  |tail _ hy=>cases hy
 |x::y::r,o,h,z,hz=>by
  simp only[agree] at h
  split at h
  · rename_i o1 p1 h1
    cases hb:zZ o1 p1 with
    |false=>rw[hb] at h;cases h
    |true=>
     rw[hb] at h
     simp only[cond_true,dk] at h
     subst h
     cases hz with
     |head=>rw[Fz hb]
     |tail _ hz=>exact xP h1 z hz
  · cases h
theorem bH (hN:eO P) {K:List cr} (hK:fc P E K) : ∀(n:Nat) (c:bA) (o:Out),exec P E K n c=some o→dN P E c o
 |0,_,_,h=>by cases h
 |n+1,c,o,h=>by
  unfold exec at h
  split at h
  · rename_i c' hs;exact dN.aq (kH hs) (bH hN hK n c' o h)
  · rename_i b c' hs
    cases b with
    |false=>cases h
    |true=>exact dN.aq (qP hs) (bH hN hK n c' o h)
  · rename_i b y z hs
    have:=qQ hs
    cases b with
    |true=>exact dN.aq this (bH hN hK n y o h)
    |false=>exact dN.aq this (bH hN hK n z o h)
  · rename_i g args m ord dst c' hs
    split at h
    · rename_i v m1 hk
      exact dN.aq (fZ hs (pY hK hk)) (bH hN hK n _ o h)
    · split at h
      · rename_i ci hi
        split at h
        · rename_i v m1 he
          have hd:=dc hN hi (bH hN hK n ci _ he)
          exact dN.aq (fZ hs hd) (bH hN hK n _ o h)
        · rename_i u m1 he
          have hd:=j8 hN hi (bH hN hK n ci _ he)
          exact dN.aq (mT hs hd) (bH hN hK n _ o h)
        · cases h
      · cases h
  · rename_i g args m ord pv c' hs
    split at h
    · rename_i ci hi
      split at h
      · rename_i v m1 he
        have hd:=ke hN hi (bH hN hK n ci _ he)
        exact dN.aq (qR hs hd) (bH hN hK n _ o h)
      · cases h
    · cases h
  · rename_i args m ord dst c' hs
    split at h
    · rename_i ci hi
      split at h
      · rename_i v m1 he
        have hd:=j9 hi (bH hN hK n ci _ he)
        exact dN.aq (oC hs hd) (bH hN hK n _ o h)
      · cases h
    · cases h
  · rename_i g args m ord L c' hs
    split at h
    · rename_i ci hi
      split at h
      · rename_i v m1 he
        split at h
        · rename_i m2 pd hend
          have hd:=dc hN hi (bH hN hK n ci _ he)
          exact dN.aq (jx hs hd hend) (bH hN hK n _ o h)
        · cases h
      · cases h
    · cases h
  · rename_i bJ ops c' hs
    split at h
    · rename_i st' ok hq
      cases ok with
      |false=>cases h
      |true=>
       refine dN.aq (kI hs (fun g args m v m1 hO=> ?_) hq) (bH hN hK n _ o h)
       split at hO
       · rename_i r hk
         simp only[dk] at hO
         subst hO
         exact pY hK hk
       · split at hO
         · rename_i ci hi
           split at hO
           · rename_i v' DO he
             simp only[dk,kl] at hO
             obtain⟨rfl,rfl⟩:=hO
             exact dc hN hi (bH hN hK n ci _ he)
           · cases hO
         · cases hO
    · cases h
  · rename_i l hs
    exact dN.zi (qT hs) fun c' dx=>bH hN hK n c' o (xP h _ (fi.2 ⟨c',dx,rfl⟩))
  · rename_i o' hs
    simp only[dk] at h;subst h
    exact qO hs
  · cases h
theorem wO (hN:eO P) {K:List cr} (hK:fc P E K) {n:Nat} {f:FuncId} {args:List AV} {m m':Mem} {v:AV} (h:CJ P E K n f args m=some (.ret v m')):aO P E f args m v m':=by
 unfold CJ at h
 split at h
 · rename_i c hi;exact dc hN hi (bH hN hK n c _ h)
 · cases h
theorem nH:fc P E []:=fun _ hq=>by cases hq
theorem fU {q:cr} {K:List cr} (h:aO P E q.g q.args q.m q.v q.m') (hK:fc P E K):fc P E (q::K):=by
 intro x hx
 cases hx with
 |head=>exact h
 |tail _ hx=>exact hK x hx
def FA (P:Program) (E:Env) (c:bA):Fin→Prop
 |.out o=>dN P E c o
 |.at c'=> ∀o,dN P E c' o→dN P E c o
theorem FA.aq {c c':bA} {r:Fin} (hg : ∀g fr w,bZ P E g c fr w→dQ P E g c fr w c') (h:FA P E c' r):FA P E c r:=by
 cases r with
 |out o=>exact dN.aq hg h
 | «at» c2=>exact fun o ho=>dN.aq hg (h o ho)
end
end Go.Am
end
section
namespace Go.Am
noncomputable section
abbrev Ro:=Program→(Nat→aF)→Bool→Nat→(Operand→AV)→Oper→jC
def Mr (P:Program) (rd:Nat→aF) (wr:Bool) (aK:Nat) (ρ:Operand→AV) (o:Oper):jC:=rI P rd wr aK ρ o
def Jt (x:Operand) (_:Program) (_:Nat→aF) (_:Bool) (_:Nat) (ρ:Operand→AV) (_:Oper):jC:=some (ρ x,[],true)
def Ms (t:TypeId) (a:Operand) (P:Program) (rd:Nat→aF) (_:Bool) (_:Nat) (ρ:Operand→AV) (_:Oper):jC:=gz (j5 P rd t (ρ a))
def Kf (t:TypeId) (a v:Operand) (P:Program) (rd:Nat→aF) (_:Bool) (_:Nat) (ρ:Operand→AV) (_:Oper):jC:=oQ P rd t (ρ a) (ρ v)
def OX (x:Operand) (P:Program) (_:Nat→aF) (_:Bool) (_:Nat) (ρ:Operand→AV) (o:Oper):jC:=iO (jf P ρ o (ρ x))
def Ca (t:TypeId) (x:Operand) (f:Nat) (P:Program) (_:Nat→aF) (_:Bool) (_:Nat) (ρ:Operand→AV) (_:Oper):jC:=iO (jG P t (ρ x) f)
def Kg (t:TypeId) (x:Operand) (f:Nat) (P:Program) (_:Nat→aF) (_:Bool) (_:Nat) (ρ:Operand→AV) (_:Oper):jC:=gz (tv P t (ρ x) f)
def Cb (t:TypeId) (x i:Operand) (P:Program) (_:Nat→aF) (_:Bool) (_:Nat) (ρ:Operand→AV) (_:Oper):jC:=gz (jH P t (ρ x) (ρ i))
def Kh (t:TypeId) (x i:Operand) (P:Program) (_:Nat→aF) (_:Bool) (_:Nat) (ρ:Operand→AV) (_:Oper):jC:=gz (tw P t (ρ x) (ρ i))
def FB (s d:TypeId) (x:Operand) (P:Program) (rd:Nat→aF) (_:Bool) (aK:Nat) (ρ:Operand→AV) (o:Oper):jC:=convertOp P rd aK ρ o s d (ρ x)
def OY (op:BinOp) (t:TypeId) (x y:Operand) (P:Program) (_:Nat→aF) (_:Bool) (_:Nat) (ρ:Operand→AV) (o:Oper):jC:=match qv y with
    |true=>tC P op t (ρ x)
    |false=>match CD (ρ x) (ρ y) with
     |true=>CE P op t (ρ x) (ρ y)
     |false=>match tB (ρ x) (ρ y) with
      |true=>nj P op t
      |false=>gz (oS P ρ o op (ρ x) (ρ y))
def Rp (op:UnOp) (x:Operand) (P:Program) (_:Nat→aF) (_:Bool) (_:Nat) (ρ:Operand→AV) (o:Oper):jC:=gz (tW P ρ o op (ρ x))
def Ki (t:TypeId) (x:Operand) (lo hi mx:Option Operand) (P:Program) (_:Nat→aF) (_:Bool) (_:Nat) (ρ:Operand→AV) (_:Oper):jC:=gz (nh P ρ t (ρ x) lo hi mx)
def FC (x:Operand) (i:Nat) (_:Program) (_:Nat→aF) (_:Bool) (_:Nat) (ρ:Operand→AV) (_:Oper):jC:=match ρ x with
    |.bn vs=>iO vs[i]?
    |_=>none
def Kj (t:TypeId) (parts:Array (Nat×Operand)) (P:Program) (_:Nat→aF) (_:Bool) (_:Nat) (ρ:Operand→AV) (_:Oper):jC:=gz (tr P t (parts.toList.map fun q=>(q.1,ρ q.2)))
def Mt (c a b:Operand) (_:Program) (_:Nat→aF) (_:Bool) (_:Nat) (ρ:Operand→AV) (_:Oper):jC:=match ρ c with
    |.p (.sc (.bool t))=>some (cond t (ρ a) (ρ b),[],true)
    |_=>none
def OZ:Op→Ro
 |.binOp op t x y _=>OY op t x y
 |.unOp op _ x=>Rp op x
 |.slice t x lo hi mx=>Ki t x lo hi mx
 |.extract x i=>FC x i
 |.build t parts=>Kj t parts
 |.pick c a b=>Mt c a b
 |.move x=>Jt x
 |.assign x=>Jt x
 |.load t a=>Ms t a
 |.store t a v=>Kf t a v
 |.nilCheck x=>OX x
 |.fieldAddr t x f=>Ca t x f
 |.field t x f=>Kg t x f
 |.indexAddr t x i=>Cb t x i
 |.index t x i=>Kh t x i
 |.convert s d x=>FB s d x
 |_=>Mr
def O0 (P:Program) (rd:Nat→aF) (wr:Bool) (aK:Nat) (ρ:Operand→AV) (o:Oper):jC:=OZ o.op P rd wr aK ρ o
theorem Kk (P:Program) (rd:Nat→aF) (wr:Bool) (aK:Nat) (ρ:Operand→AV) (o:Oper):O0 P rd wr aK ρ o=rI P rd wr aK ρ o:=by
 obtain⟨dst,op,type,pos,after,guard⟩:=o
 cases op<;>rfl
def FD (tm:qo) (i:Nat):AV:=Tb (motive:=fun _=>AV) .af (fun p _ ih=>Td (motive:=fun _=>AV) ih p.2 (a6 p.1 i)) tm
theorem AX : ∀(tm:qo) (i:Nat),FD tm i=look tm i
 |[],_=>rfl
 |(k,v)::r,i=>by
  show Td (motive:=fun _=>AV) (FD r i) v (a6 k i)=cond (a6 k i) v (look r i)
  rw[AX r i]
  cases a6 k i<;>rfl
def Mu (t:Nat) (_:Env) (tm:qo):AV:=FD tm t
def Kl (x:Operand) (E:Env) (tm:qo):AV:=ev E tm x
def O1:Operand→Env→qo→AV
 |.tmp t=>Mu t
 |.const v=>fun _ _=>CA v
 |x=>Kl x
def Mv (E:Env) (tm:qo) (x:Operand):AV:=O1 x E tm
theorem FE (E:Env) (tm:qo):Mv E tm=ev E tm:=by
 funext x
 cases x with
 |tmp t=>exact AX tm t
 |const v=>rfl
 |global g=>rfl
 |func f=>rfl
def Cc:Op→Bool
 |.call _ | .defer _ | .panic _=>true
 |_=>false
def zj:Op→Bool
 |.alloc _ | .box .. | .buildSlice .. | .makeSlice .. | .convert .. | .makeMap .. | .range .. =>true
 |.call c=>makes ⟨none,.call c,0,"",#[],none⟩
 |_=>false
def HT (ops:Array Oper) (i:Nat):Option Oper:=Tb (motive:=fun _=>Nat→Option Oper) (fun _=>none) (fun a _ ih i=>Tf (motive:=fun _=>Option Oper) (some a) (fun j _=>ih j) i) ops.toList i
theorem HU (ops:Array Oper) (i:Nat):HT ops i=ops[i]? :=by
 have : ∀(l:List Oper) (i:Nat),Tb (motive:=fun _=>Nat→Option Oper) (fun _=>none) (fun a _ ih i=>Tf (motive:=fun _=>Option Oper) (some a) (fun j _=>ih j) i) l i=l[i]? :=by
  intro l
  induction l with
  |nil=>intro i;rfl
  |cons a l ih=>
   intro i
   cases i with
   |zero=>rfl
   |succ i=>exact(ih i).trans (by simp)
 rw[HT,this]
 simp
def C3:jC→Ev→Option Tmp→FuncId→List It→qo→Nat→Mem→Nat→List Mark→Jj→Ev
 |none=>fun e _ _ _ _ _ _ _ _ _=>e
 |some (v,[],ok)=>fun _ dst f k tm nt mem fix bS bI=>Th (motive:=fun _=>Ev) (.must (ok&&true) ⟨f,k,⟨tm,nt,mem,fix,bS,bI⟩⟩) (fun d=> .must (ok&&ba d nt) ⟨f,k,⟨(d,v)::tm,nt,mem,fix,bS,bI⟩⟩) dst
 |some (v,us,ok)=>fun _ dst f k tm nt mem fix bS bI=>Th (motive:=fun _=>Ev) (.must (ok&&true) ⟨f,k,⟨tm,nt,apply mem us,fix,bS,bI⟩⟩) (fun d=> .must (ok&&ba d nt) ⟨f,k,⟨(d,v)::tm,nt,apply mem us,fix,bS,bI⟩⟩) dst
abbrev By (α:Type):=Program→Env→FuncId→qo→Nat→Mem→Nat→List Mark→Jj→α
def vo (todo:List It):By Ev:=fun P E f tm nt mem fix bS bI=>step P E ⟨f,todo,⟨tm,nt,mem,fix,bS,bI⟩⟩
def HV (o:Oper) (bJ:Nat) (ops:Array Oper) (i:Nat) (sure:Bool) (k:List It):By Ev:=fun P E f tm nt mem fix bS bI=>
 C3 (O0 P (fun i=>mem.getD i .dead) (E.wr f (o.dst.getD 0)) mem.length (Mv E tm) o) (step P E ⟨f,.ops bJ ops i sure::k,⟨tm,nt,mem,fix,bS,bI⟩⟩) o.dst f (.ops bJ ops (i+1) false::k) tm nt mem fix bS bI
def Km (_:Oper) (bJ:Nat) (ops:Array Oper) (i:Nat) (sure:Bool) (k:List It):By Ev:=vo (.ops bJ ops i sure::k)
abbrev Rq:=Oper→Nat→Array Oper→Nat→Bool→List It→By Ev
def Ju:Bool→Bool→Option (Nat×Bool)→Rq
 |false,false,none=>HV
 |_,_,_=>Km
def FF:Option Oper→Nat→Array Oper→Nat→Bool→List It→By Ev
 |none=>fun _ _ _ _ k _ _ f tm nt mem fix bS bI=> .next ⟨f,k,⟨tm,nt,mem,fix,bS,bI⟩⟩
 |some o=>Ju (Cc o.op) (zj o.op) o.guard o
def Kn (i:Nat) (c:Code) (k:List It):By Ev:=vo (.code i c::k)
def Ko (_:Nat) (k:List It):By Ev:=fun _ _ f tm nt mem fix bS bI=> .next ⟨f,k,⟨tm,nt,mem,fix,bS,bI⟩⟩
def Mw (id:Nat) (ops:Array Oper) (_:Nat) (k:List It):By Ev:=fun _ _ f tm nt mem fix bS bI=> .next ⟨f,.ops id ops 0 false::k,⟨tm,nt,mem,fix,bS,bI⟩⟩
def Mx (a b:Code) (i:Nat) (k:List It):By Ev:=fun _ _ f tm nt mem fix bS bI=> .next ⟨f,.code i a :: .code (i+nodes a) b::k,⟨tm,nt,mem,fix,bS,bI⟩⟩
def HW (id:Nat) (b:Code) (i:Nat) (k:List It):By Ev:=fun _ _ f tm nt mem fix bS bI=> .next ⟨f,.code i b :: .inBlock id::k,⟨tm,nt,mem,fix,bS,bI⟩⟩
def FG:AV→bA→bA→Ev
 |.p (.sc (.bool t))=>fun y z=> .test t y z
 |_=>fun _ _=> .fail
def Kp (x:Operand) (a b:Code) (i:Nat) (k:List It):By Ev:=fun _ E f tm nt mem fix bS bI=>
 FG (Mv E tm x) ⟨f,.code (i+1) a::eg (E.keep f (2*i)) k,⟨tm,nt,mem,fix,bS,bI⟩⟩ ⟨f,.code (i+1+nodes a) b::eg (E.keep f (2*i)) k,⟨tm,nt,mem,fix,bS,bI⟩⟩
def Kq (id:Nat) (i:Nat) (k:List It):By Ev:=fun P E f tm nt mem fix bS bI=>Th (motive:=fun _=>Ev) (vo (.code i (.exit id)::k) P E f tm nt mem fix bS bI) (fun k'=> .next ⟨f,k',⟨tm,nt,mem,fix,bS,bI⟩⟩) (bP id k)
def Kr:Code→Nat→List It→By Ev
 |.block id b=>HW id b
 |.cond x a b=>Kp x a b
 |.exit id=>Kq id
 |.skip=>Ko
 |.seq a b=>Mx a b
 |.region id ops false=>Mw id ops
 |c=>fun i k=>Kn i c k
def FH (k:List It):By Ev:=fun _ _ f tm nt mem fix bS bI=> .next ⟨f,k,⟨tm,nt,mem,fix,bS,bI⟩⟩
def O2:It→List It→By Ev
 |.inBlock _=>FH
 |.inScope _=>FH
 |.ops bJ ops i sure=>fun k=>FF (HT ops i) bJ ops i sure k
 |.code i c=>fun k=>Kr c i k
 |x=>fun k=>vo (x::k)
def Ks:List It→By Ev
 |[]=>vo []
 |x::k=>O2 x k
def FI (P:Program) (E:Env) (c:bA):Ev:=bA.rec (motive:=fun _=>Ev) (fun f todo st=>St.rec (motive:=fun _=>Ev) (fun tm nt mem fix bS bI=>Ks todo P E f tm nt mem fix bS bI) st) c
theorem DZ (o:Oper):zj o.op=makes o:=by
 obtain⟨dst,op,type,pos,after,guard⟩:=o
 cases op<;>rfl
theorem FJ (P:Program) (E:Env) (c:bA):FI P E c=step P E c:=by
 obtain⟨f,todo,tm,nt,mem,fix,bS,bI⟩:=c
 cases todo with
 |nil=>rfl
 |cons x k=>
  cases x with
  |code i c=>
   cases c with
   |region id ops b=>cases b<;>rfl
   |cond x a b=>
    show FG (Mv E tm x) _ _=_
    rw[FE]
    simp only[step]
    split
    · rename_i t ht;rw[ht];rfl
    · rename_i hne
      generalize ev E tm x=v at hne
      cases v with
      |p v=>cases v with
       |sc v=>cases v with
        |bool t=>exact absurd rfl (hne t)
        |_=>rfl
       |_=>rfl
      |_=>rfl
   |exit id=>
    show Th (motive:=fun _=>Ev) _ _ (bP id k)=_
    cases he:bP id k with
    |none=>rfl
    |some k'=>simp only[step,he]
   |_=>rfl
  |ops bJ ops i sure=>
   show FF (HT ops i) bJ ops i sure k P E f tm nt mem fix bS bI=_
   rw[HU]
   cases ho:ops[i]? with
   |none=>simp only[FF,step,ho]
   |some o=>
    show Ju (Cc o.op) (zj o.op) o.guard o bJ ops i sure k P E f tm nt mem fix bS bI=_
    cases h1:Cc o.op with
    |true=>rfl
    |false=>
     cases h2:zj o.op with
     |true=>rfl
     |false=>
      cases h3:o.guard with
      |some q=>rfl
      |none=>
       rw[DZ] at h2
       have ht:target (ev E tm) o=none:=by
        obtain⟨dst,op,type,pos,after,guard⟩:=o
        cases op<;>first | rfl | cases h1
       have hy:tD (ev E tm) o=none:=by
        obtain⟨dst,op,type,pos,after,guard⟩:=o
        cases op<;>first | rfl | cases h1
       show C3 (O0 P (fun i=>mem.getD i .dead) (E.wr f (o.dst.getD 0)) mem.length (Mv E tm) o) (step P E ⟨f,.ops bJ ops i sure::k,⟨tm,nt,mem,fix,bS,bI⟩⟩) o.dst f (.ops bJ ops (i+1) false::k) tm nt mem fix bS bI=_
       rw[Kk,FE]
       have hr:reserve o mem=mem:=by simp[reserve,h2]
       cases hop:rI P (fun i=>mem.getD i .dead) (E.wr f (o.dst.getD 0)) mem.length (ev E tm) o with
       |none=>rfl
       |some r=>
        simp only[step,ho,dD,h3,ES,ht,hy,hr,hop]
        obtain⟨v,us,ok⟩:=r
        cases us with
        |nil=>cases hd:o.dst<;>simp[C3,fits,put,apply]
        |cons u us=>cases hd:o.dst<;>simp[C3,fits,put]
  |_=>rfl
abbrev RunT:=Program→Env→List cr→(bA→Option Out)→Option Out
def My (c:bA):RunT:=fun _ _ _ ih=>ih c
def Mz (b:Bool) (c:bA):RunT:=fun _ _ _ ih=>Td (motive:=fun _=>Option Out) none (ih c) b
def MA (b:Bool) (y z:bA):RunT:=fun _ _ _ ih=>Td (motive:=fun _=>Option Out) (ih z) (ih y) b
def MB (g:FuncId) (args:List AV) (m:Mem) (ord:List Nat) (dst:Option Tmp) (c:bA):RunT:=fun P _ K ih=>match kV K g args m with
     |some (v,m1)=>ih {c with st:=back ord dst c.st v m1}
     |none=>match init P g args m with
      |some ci=>match ih ci with
       |some (.ret v m1)=>ih {c with st:=back ord dst c.st v m1}
       |some (.nk u m1)=>ih (l9 ord c u m1)
       |none=>none
      |none=>none
def MC (g:FuncId) (args:List AV) (m:Mem) (ord:List Nat) (pv:Option AV) (c:bA):RunT:=fun P _ _ ih=>match Aa P g args m pv with
     |some ci=>match ih ci with
      |some (.ret _ m1)=>ih {c with st:=back ord none c.st (.bn []) m1}
      |_=>none
     |none=>none
def Kt (args:List AV) (m:Mem) (ord:List Nat) (dst:Option Tmp) (c:bA):RunT:=fun _ _ _ ih=>match zY args m with
     |some ci=>match ih ci with
      |some (.ret v m1)=>ih {c with st:=back ord dst c.st v m1}
      |_=>none
     |none=>none
def Ku (g:FuncId) (args:List AV) (m:Mem) (ord:List Nat) (L:Nat) (c:bA):RunT:=fun P _ _ ih=>match init P g args m with
     |some ci=>match ih ci with
      |some (.ret v m1)=>match fH (back ord none c.st v m1).mem L with
       |some (m2,pd)=>ih (behind c m2 pd)
       |none=>none
      |_=>none
     |none=>none
def MD (bJ:Nat) (ops:Array Oper) (c:bA):RunT:=fun P E K ih=>match jk P E c.f bJ (fun g args m=>match kV K g args m with
       |some r=>some r
       |none=>match init P g args m with
        |some ci=>match ih ci with
         |some (.ret v m1)=>some (v,m1)
         |_=>none
        |none=>none) ops c.st with
     |some (st,ok)=>cond ok (ih {c with st:={st with bS:=c.st.bS,bI:=c.st.bI}}) none
     |none=>none
def ME (l:List bA):RunT:=fun _ _ _ ih=>agree (l.map ih)
def MF (o:Out):RunT:=fun _ _ _ _=>some o
def MG:RunT:=fun _ _ _ _=>none
def Jv:Ev→RunT
 |.next c=>My c
 |.must b c=>Mz b c
 |.test b y z=>MA b y z
 |.call g args m ord dst c=>MB g args m ord dst c
 |.round args m ord dst c=>Kt args m ord dst c
 |.range g args m ord L c=>Ku g args m ord L c
 |.draw bJ ops c=>MD bJ ops c
 |.fork l=>ME l
 |.late g args m ord pv c=>MC g args m ord pv c
 |.done o=>MF o
 |.fail=>MG
def FK (P:Program) (E:Env) (K:List cr) (n:Nat):bA→Option Out:=
 Tf (motive:=fun _=>bA→Option Out) (fun _=>none) (fun _ ih c=>Jv (FI P E c) P E K ih) n
theorem AY (P:Program) (E:Env) (K:List cr) : ∀n,FK P E K n=exec P E K n
 |0=>by funext c;rfl
 |n+1=>by
  funext c
  show Jv (FI P E c) P E K (FK P E K n)=exec P E K (n+1) c
  rw[FJ,AY P E K n]
  unfold exec
  cases step P E c with
  |must b c=>cases b<;>rfl
  |test b y z=>cases b<;>rfl
  |_=>rfl
def Cd (P:Program) (E:Env) (K:List cr) (n:Nat) (g:FuncId) (args:List AV) (m:Mem):Option Out:=
 match init P g args m with
 |some c=>FK P E K n c
 |none=>none
theorem D0 (P:Program) (E:Env) (K:List cr) (n:Nat) (g:FuncId) (args:List AV) (m:Mem):Cd P E K n g args m=CJ P E K n g args m:=by
 unfold Cd CJ
 rw[AY]
 cases init P g args m<;>rfl
theorem fu {P:Program} {E:Env} (hN:eO P) {K:List cr} (hK:fc P E K) {n:Nat} {f:FuncId} {args:List AV} {m m':Mem} {v:AV} (h:Cd P E K n f args m=some (.ret v m')):aO P E f args m v m':=
 wO hN hK (n:=n) (by rw[←D0];exact h)
end
open Go.RowKit
inductive aP where
 |out (o:Out)
 |at(c:bA)
 |must (b:Bool) (t:aP)
 |need (p:Prop) (t:aP)
 |test (b:Bool) (y z:aP)
 |call (q:cr) (t:aP)
 |both (y z:aP)
 |stuck
structure hJ where
 call:FuncId→List AV→Mem→Option (AV×Mem)
 Hh:FuncId→List AV→Mem→Option (AV×Mem):=fun _ _ _=>none
 cut:FuncId→Nat→Bool
 fork:FuncId→Nat→Nat→Bool
 hard:FuncId→Nat→Nat→Bool
 shape:FuncId→Nat→Nat→Option (AV→AV)
def place (c:bA):Nat×Nat:=match c.todo with
 |.code i _::_=>(0,i)
 |.ops bJ _ k _::_=>(bJ+1,k)
 |_=>(0,0)
def cutAt (O:hJ) (c:bA):Bool:=match c.todo with
 |.inLoop i _::_=>O.cut c.f i
 |.code i (.loop _)::_=>O.cut c.f i
 |_=>false
def Ce (c:bA):Option Tmp:=match c.todo with
 |.ops _ ops k _::_=>match ops[k]? with
  |some o=>o.dst
  |none=>none
 |_=>none
def FL (c:bA):Bool:=match c.todo with
 |.ops .. :: _=>true
 |_=>false
def reshape (sh:AV→AV) (d:Tmp) (c:bA):bA:={c with st:=put c.st (some d) (sh (look c.st.tm d))}
def shaped (sh:Option (AV→AV)) (d:Option Tmp) (c:bA) (k:bA→aP):aP:=
 match sh,d,FL c with
 |some sh,some d,true=> .need (look c.st.tm d=sh (look c.st.tm d)) (k (reshape sh d c))
 |_,_,_=>k c
def vp (m:Mem) (i:Nat):List AV:=match m.getD i .dead with
 |.ob _ l=>l
 |_=>[]
def zk (i:Nat) (l:List AV) (m:Mem):Mem:=match m.getD i .dead with
 |.ob k _=>m.set i (.ob k l)
 |_=>m
def pP (sh:Option (AV→AV)) (c:bA) (k:bA→aP):aP:=match sh with
 |none=>k c
 |some sh=>match sh .af with
  |.fn (.func i) _ l=> .need (vp c.st.mem i=l) (k {c with st:={c.st with mem:=zk i l c.st.mem}})
  |_=>k c
def vq (h b:Bool) (t:aP):aP:=
 match h with
 |true=> .must b t
 |false=>match b with
  |true=>t
  |false=> .stuck
inductive Sc where
 |fork (y z:Sc)
 |yes (s:Sc)
 |no (s:Sc)
 |lit (s:Sc)
 |ans (g:FuncId) (v:AV) (m:Mem) (s:Sc)
 |Hh (f bJ:Nat) (L:FuncId→List AV→Mem→Option (AV×Mem)) (s:Sc)
 |fin
def HX (g:FuncId):Sc→Option (AV×Mem×Sc)
 |.ans h v m s=>cond (a6 h g) (some (v,m,s)) none
 |_=>none
def HY (f bJ:Nat):Sc→Option ((FuncId→List AV→Mem→Option (AV×Mem))×Sc)
 |.Hh f' O3 L s=>cond (a6 f f'&&a6 bJ O3) (some (L,s)) none
 |_=>none
def mU (E:Env) (O:FuncId→List AV→Mem→Option (AV×Mem)) (o:Oper) (st:St):List cr:=
 match target (ev E st.tm) o with
 |some (g,args)=>match O g (ef (idx (close st.mem 0 args)) args) (pack st.mem (close st.mem 0 args)) with
  |some (v,m1)=>[⟨g,ef (idx (close st.mem 0 args)) args,pack st.mem (close st.mem 0 args),v,m1⟩]
  |none=>[]
 |none=>[]
def nY (P:Program) (E:Env) (f bJ:Nat) (O:FuncId→List AV→Mem→Option (AV×Mem)) (ops:Array Oper):List Oper→Nat→St→List cr
 |[],_,_=>[]
 |o::r,nx,st=>
  let skip:=nY P E f bJ O ops r nx (put st o.dst (.bn []))
  let oW:=mU E O o st++match iH P E f bJ O nx o st with
   |some (d,jj,_)=>nY P E f bJ O ops r jj (put {st with mem:=apply st.mem d.us} o.dst d.v)
   |none=>[]
  match dD ops st.tm o with
  |.yes=>oW
  |.no=>skip
  |.ask _ b want=>match b==want with
   |true=>oW
   |false=>skip
  |.lost=>[]
def asked (P:Program) (E:Env) (f bJ:Nat) (O:FuncId→List AV→Mem→Option (AV×Mem)) (ops:Array Oper) (st:St):List cr:=
 nY P E f bJ O ops (ops.toList.take (fP ops)) st.mem.length {st with mem:=st.mem++bB (60+ops.size)}
def vr:List cr→aP→aP
 |[],t=>t
 |q::r,t=> .call q (vr r t)
def grow (P:Program) (E:Env) (O:hJ):Nat→Bool→bA→Sc→(Out→Sc→aP)→aP
 |0,_,_,_,_=> .stuck
 |n+1,top,c,s,K=>match cutAt O c with
  |true=>match top,step P E c with
   |true,.next c'=> .at c'
   |_,_=> .stuck
  |false=>match step P E c with
   |.next c'=>grow P E O n top c' s K
   |.must b c'=>
    vq (O.hard c.f (place c).1 (place c).2) b (shaped (O.shape c.f (place c).1 (place c).2) (Ce c) c' fun c1=>pP (O.shape c.f ((place c).1+1000) (place c).2) c1 fun c2=>grow P E O n top c2 s K)
   |.test b y z=>match O.fork c.f (place c).1 (place c).2 with
    |true=>match s with
     |.fork s s'=> .test b (grow P E O n top y s K) (grow P E O n top z s' K)
     |.yes s=> .must b (grow P E O n top y s K)
     |.no s=> .must (!b) (grow P E O n top z s K)
     |.lit s=>match b with
      |true=>grow P E O n top y s K
      |false=>grow P E O n top z s K
     |s=> .test b (grow P E O n top y s K) (grow P E O n top z s K)
    |false=>match b with
     |true=>grow P E O n top y s K
     |false=>grow P E O n top z s K
   |.call g args m ord dst c'=>match HX g s with
    |some (v,m1,s)=> .call ⟨g,args,m,v,m1⟩ (shaped (O.shape c.f (place c).1 (place c).2) (Ce c) {c' with st:=back ord dst c'.st v m1} fun c=>grow P E O n top c s K)
    |none=>match O.call g args m with
     |some (v,m1)=> .call ⟨g,args,m,v,m1⟩ (shaped (O.shape c.f (place c).1 (place c).2) (Ce c) {c' with st:=back ord dst c'.st v m1} fun c=>grow P E O n top c s K)
     |none=>match init P g args m with
      |some ci=>grow P E O n false ci s fun o s=>match o with
       |.ret v m1=>grow P E O n top {c' with st:=back ord dst c'.st v m1} s K
       |.nk u m1=>grow P E O n top (l9 ord c' u m1) s K
      |none=> .stuck
   |.late g args m ord pv c'=>match Aa P g args m pv with
    |some ci=>grow P E O n false ci s fun o s=>match o with
     |.ret _ m1=>grow P E O n top {c' with st:=back ord none c'.st (.bn []) m1} s K
     |.nk .. => .stuck
    |none=> .stuck
   |.round args m ord dst c'=>match zY args m with
    |some ci=>grow P E O n false ci s fun o s=>match o with
     |.ret v m1=>grow P E O n top {c' with st:=back ord dst c'.st v m1} s K
     |.nk .. => .stuck
    |none=> .stuck
   |.range g args m ord L c'=>match O.call g args m with
    |some (v,m1)=>match fH (back ord none c'.st v m1).mem L with
      |some (m2,pd)=> .call ⟨g,args,m,v,m1⟩ (grow P E O n top (behind c' m2 pd) s K)
      |none=> .stuck
    |none=>match init P g args m with
     |some ci=>grow P E O n false ci s fun o s=>match o with
      |.ret v m1=>match fH (back ord none c'.st v m1).mem L with
       |some (m2,pd)=>grow P E O n top (behind c' m2 pd) s K
       |none=> .stuck
      |.nk .. => .stuck
     |none=> .stuck
   |.draw bJ ops c'=>match HY c'.f bJ s with
    |some (L,s)=>match jk P E c'.f bJ L ops c'.st with
     |some (st,ok)=>vr (asked P E c'.f bJ L ops c'.st) (vq (O.hard c.f (place c).1 (place c).2) ok (pP (O.shape c.f ((place c).1+1000) (place c).2) {c' with st:={st with bS:=c'.st.bS,bI:=c'.st.bI}} fun c2=>grow P E O n top c2 s K))
     |none=> .stuck
    |none=>match jk P E c'.f bJ O.Hh ops c'.st with
     |some (st,ok)=>vr (asked P E c'.f bJ O.Hh ops c'.st) (vq (O.hard c.f (place c).1 (place c).2) ok (pP (O.shape c.f ((place c).1+1000) (place c).2) {c' with st:={st with bS:=c'.st.bS,bI:=c'.st.bI}} fun c2=>grow P E O n top c2 s K))
     |none=> .stuck
   |.fork l=>match top,l with
    |true,[y,z]=>match s with
     |.fork s s'=> .both (grow P E O n top y s K) (grow P E O n top z s' K)
     |s=> .both (grow P E O n top y s K) (grow P E O n top z s K)
    |_,_=> .stuck
   |.done o=>K o s
   |_=> .stuck
def aP.ok (P:Program) (E:Env) (o:Out):aP→Prop
 |.out o'=>o'=o
 |.at c=>dN P E c o
 |.must b t=>b=true∧t.ok P E o
 |.need p t=>p∧t.ok P E o
 |.test b y z=>(b=true→y.ok P E o)∧(b=false→z.ok P E o)
 |.call q t=>aO P E q.g q.args q.m q.v q.m'∧t.ok P E o
 |.both y z=>y.ok P E o∧z.ok P E o
 |.stuck=>False
section
variable {P:Program} {E:Env}
theorem vu {sh:AV→AV} {d:Tmp} {c:bA} {o:Out} (hin:FL c=true) (h:look c.st.tm d=sh (look c.st.tm d)) (hg:dN P E (reshape sh d c) o):dN P E c o:=by
 intro g fr w cs hc
 have dx:bZ P E g (reshape sh d c) fr w:=by
  obtain⟨f,todo,st⟩:=c
  cases todo with
  |nil=>cases hin
  |cons x k=>
   cases x with
   |ops bJ ops i sure=>
    obtain⟨b,a,q1,q2,q3,q4,q5,q6⟩:=hc
    exact⟨b,a,q1,q2,q3,q4,q5.known (h▸q5.tm d),q6⟩
   |_=>cases hin
 exact hg g fr w cs dx
theorem qV {h b:Bool} {t:aP} {o:Out} (k:(vq h b t).ok P E o):b=true∧t.ok P E o:=by
 cases h with
 |true=>exact k
 |false=>cases b with
  |true=>exact⟨rfl,k⟩
  |false=>exact k.elim
def dn (P:Program) (E:Env) (top:Bool) (c:bA) (K:Out→Sc→aP) (o:Out):Prop:=(∃o1 s1,dN P E c o1∧(K o1 s1).ok P E o)∨(top=true∧dN P E c o)
theorem dn.aq {top:Bool} {c c':bA} {K:Out→Sc→aP} {o:Out} (hg : ∀g fr w,bZ P E g c fr w→dQ P E g c fr w c') (h:dn P E top c' K o):dn P E top c K o:=by
 rcases h with⟨o1,s1,h1,h2⟩ | ⟨h1,h2⟩
 · exact .inl ⟨o1,s1,dN.aq hg h1,h2⟩
 · exact .inr ⟨h1,dN.aq hg h2⟩
theorem lB {top:Bool} {sh:Option (AV→AV)} {d:Option Tmp} {c:bA} {k:bA→aP} {K:Out→Sc→aP} {o:Out} (hk : ∀c,(k c).ok P E o→dn P E top c K o) (h:(shaped sh d c k).ok P E o):dn P E top c K o:=by
 unfold shaped at h
 split at h
 · rename_i hin
   rcases hk _ h.2 with⟨o1,s1,h1,h2⟩ | ⟨h1,h2⟩
   · exact .inl ⟨o1,s1,vu hin h.1 h1,h2⟩
   · exact .inr ⟨h1,vu hin h.1 h2⟩
 · exact hk c h
theorem pZ {i:Nat} {l:List AV} {m:Mem} (h:vp m i=l):zk i l m=m:=by
 subst h
 unfold zk vp
 split
 · rename_i k l' hk
   refine List.ext_getElem? fun j=> ?_
   by_cases hj:i=j
   · subst hj
     rw[dd] at hk
     cases hm:m[i]? with
     |none=>rw[hm] at hk;cases hk
     |some x=>
      rw[hm] at hk
      have hk:x = .ob k l':=hk
      subst hk
      have hlt:i<m.length:=(List.getElem?_eq_some_iff.1 hm).1
      rw[nd hlt]
   · rw[ov hj]
 · rfl
theorem mV {top:Bool} {sh:Option (AV→AV)} {c:bA} {k:bA→aP} {K:Out→Sc→aP} {o:Out} (hk : ∀c,(k c).ok P E o→dn P E top c K o) (h:(pP sh c k).ok P E o):dn P E top c K o:=by
 unfold pP at h
 split at h
 · exact hk c h
 · split at h
   · obtain⟨h1,h2⟩:=h
     rw[pZ h1] at h2
     exact hk c h2
   · exact hk c h
def MH (P:Program) (E:Env) (call:FuncId→List AV→Mem→Option (AV×Mem)):Prop:= ∀g args m v m1,call g args m=some (v,m1)→aO P E g args m v m1
theorem nI {t:aP} {o:Out} : ∀{l:List cr},(vr l t).ok P E o→fc P E l∧t.ok P E o
 |[],h=>⟨fun _ hq=>(by cases hq),h⟩
 |q::l,h=>⟨fun q' hq=>by
   cases hq with
   |head=>exact h.1
   |tail _ hq=>exact(nI (l:=l) h.2).1 q' hq,(nI (l:=l) h.2).2⟩
open Classical in
def only(O:FuncId→List AV→Mem→Option (AV×Mem)) (l:List cr) (g:FuncId) (args:List AV) (m:Mem):Option (AV×Mem):=
 if ∃q∈l,q.g=g∧q.args=args∧q.m=m then O g args m else none
theorem HZ {O:FuncId→List AV→Mem→Option (AV×Mem)} {l:List cr} {g:FuncId} {args:List AV} {m:Mem} (h : ∃q∈l,q.g=g∧q.args=args∧q.m=m):only O l g args m=O g args m:=by
 unfold only;rw[if_pos h]
theorem zl {f bJ:Nat} {O O':FuncId→List AV→Mem→Option (AV×Mem)} {nx:Nat} {o:Oper} {st:St} (h : ∀q∈mU E O o st,O' q.g q.args q.m=O q.g q.args q.m) {r:fW×Nat×Bool} (hr:nr P E f bJ O nx o st=some r):nr P E f bJ O' nx o st=some r:=by
 unfold nr at hr ⊢
 unfold mU at h
 cases ht:target (ev E st.tm) o with
 |none=>simp only[ht] at hr ⊢;exact hr
 |some ga=>
  obtain⟨g,args⟩:=ga
  simp only[ht] at hr h ⊢
  cases hO:O g (ef (idx (close st.mem 0 args)) args) (pack st.mem (close st.mem 0 args)) with
  |none=>simp only[hO] at hr;cases hr
  |some vm=>
   obtain⟨v,m1⟩:=vm
   simp only[hO] at h hr
   have:=h _ (.head _)
   simp only at this
   rw[this,hO]
   exact hr
theorem AZ {f bJ:Nat} {O O':FuncId→List AV→Mem→Option (AV×Mem)} {nx:Nat} {o:Oper} {st:St} (h : ∀q∈mU E O o st,O' q.g q.args q.m=O q.g q.args q.m) {r:fW×Nat×Bool} (hr:iH P E f bJ O nx o st=some r):iH P E f bJ O' nx o st=some r:=by
 unfold iH at hr ⊢
 cases hl:nr P E f bJ O nx o st with
 |none=>
  rw[hl] at hr
  unfold CI at hr
  split at hr<;>cases hr
 |some x=>
  rw[zl h hl]
  rw[hl] at hr
  exact hr
theorem oD {f bJ:Nat} {O O':FuncId→List AV→Mem→Option (AV×Mem)} {ops:Array Oper} : ∀(l:List Oper) (nx:Nat) (st:St) (r:St×Nat×List fW×Bool),(∀q∈nY P E f bJ O ops l nx st,O' q.g q.args q.m=O q.g q.args q.m)→gK P E f bJ O ops l nx st=some r→gK P E f bJ O' ops l nx st=some r
 |[],_,_,_,_,h=>h
 |o::l,nx,st,r,ha,h=>by
  unfold gK at h ⊢
  unfold nY at ha
  have Jw : ∀r,(∀q∈nY P E f bJ O ops l nx (put st o.dst (.bn [])),O' q.g q.args q.m=O q.g q.args q.m) →
    (match gK P E f bJ O ops l nx (put st o.dst (.bn [])) with
      |some (st',nQ,ds,ok)=>some (st',nQ,(⟨.bn [],[],[],fun _ _=>false⟩:fW)::ds,fits st o.dst&&ok)
      |none=>none)=some r →
    (match gK P E f bJ O' ops l nx (put st o.dst (.bn [])) with
      |some (st',nQ,ds,ok)=>some (st',nQ,(⟨.bn [],[],[],fun _ _=>false⟩:fW)::ds,fits st o.dst&&ok)
      |none=>none)=some r:=by
   intro r hq hr
   cases hg:gK P E f bJ O ops l nx (put st o.dst (.bn [])) with
   |none=>rw[hg] at hr;cases hr
   |some x=>rw[oD l nx _ x hq hg];rw[hg] at hr;exact hr
  have J5 : ∀r,(∀q∈mU E O o st++(match iH P E f bJ O nx o st with
        |some (d,jj,_)=>nY P E f bJ O ops l jj (put {st with mem:=apply st.mem d.us} o.dst d.v)
        |none=>[]),O' q.g q.args q.m=O q.g q.args q.m) →
    (match iH P E f bJ O nx o st with
      |some (d,jj,ok)=>match gK P E f bJ O ops l jj (put {st with mem:=apply st.mem d.us} o.dst d.v) with
       |some (st',nQ,ds,ok')=>some (st',nQ,d::ds,ok&&(fits st o.dst&&ok'))
       |none=>none
      |none=>none)=some r →
    (match iH P E f bJ O' nx o st with
      |some (d,jj,ok)=>match gK P E f bJ O' ops l jj (put {st with mem:=apply st.mem d.us} o.dst d.v) with
       |some (st',nQ,ds,ok')=>some (st',nQ,d::ds,ok&&(fits st o.dst&&ok'))
       |none=>none
      |none=>none)=some r:=by
   intro r hq hr
   cases h1:iH P E f bJ O nx o st with
   |none=>rw[h1] at hr;cases hr
   |some x=>
    obtain⟨d,jj,ok⟩:=x
    rw[AZ (fun q hm=>hq q (o0.2 (.inl hm))) h1]
    rw[h1] at hr hq
    dsimp only at hr hq ⊢
    cases hg:gK P E f bJ O ops l jj (put {st with mem:=apply st.mem d.us} o.dst d.v) with
    |none=>rw[hg] at hr;cases hr
    |some y=>rw[oD l jj _ y (fun q hm=>hq q (o0.2 (.inr hm))) hg];rw[hg] at hr;exact hr
  dsimp only at h ha ⊢
  cases hw:dD ops st.tm o with
  |yes=>simp only[hw] at h ha ⊢;exact J5 r ha h
  |no=>simp only[hw] at h ha ⊢;exact Jw r ha h
  |lost=>simp only[hw] at h;cases h
  |ask d b want=>
   simp only[hw] at h ha ⊢
   cases hb:b==want with
   |true=>simp only[hb] at h ha ⊢;exact J5 r ha h
   |false=>simp only[hb] at h ha ⊢;exact Jw r ha h
theorem nJ {f bJ:Nat} {O:FuncId→List AV→Mem→Option (AV×Mem)} {ops:Array Oper} {st:St} {r:St×Bool} (h:jk P E f bJ O ops st=some r):jk P E f bJ (only O (asked P E f bJ O ops st)) ops st=some r:=by
 unfold jk at h ⊢
 cases hg:gK P E f bJ O ops (ops.toList.take (fP ops)) st.mem.length {st with mem:=st.mem++bB (60+ops.size)} with
 |none=>rw[hg] at h;cases h
 |some x=>
  rw[oD (O':=only O (asked P E f bJ O ops st)) _ _ _ x (fun q hq=>HZ ⟨q,hq,rfl,rfl,rfl⟩) hg]
  rw[hg] at h;exact h
theorem D1 {O:FuncId→List AV→Mem→Option (AV×Mem)} {o:Oper} {st:St} {q:cr} (h:q∈mU E O o st):O q.g q.args q.m=some (q.v,q.m'):=by
 unfold mU at h
 split at h
 · split at h
   · rename_i hO
     cases h with
     |head=>exact hO
     |tail _ h=>cases h
   · cases h
 · cases h
theorem p9 {f bJ:Nat} {O:FuncId→List AV→Mem→Option (AV×Mem)} {ops:Array Oper} : ∀(l:List Oper) (nx:Nat) (st:St) (q:cr),q∈nY P E f bJ O ops l nx st→O q.g q.args q.m=some (q.v,q.m')
 |[],_,_,_,h=>by cases h
 |o::l,nx,st,q,h=>by
  unfold nY at h
  have J5:q∈mU E O o st++(match iH P E f bJ O nx o st with
        |some (d,jj,_)=>nY P E f bJ O ops l jj (put {st with mem:=apply st.mem d.us} o.dst d.v)
        |none=>[])→O q.g q.args q.m=some (q.v,q.m'):=by
   intro h
   rcases o0.1 h with h | h
   · exact D1 h
   · split at h
     · exact p9 l _ _ q h
     · cases h
  dsimp only at h
  split at h
  · exact J5 h
  · exact p9 l _ _ q h
  · split at h
    · exact J5 h
    · exact p9 l _ _ q h
  · cases h
theorem lC {f bJ:Nat} {O:FuncId→List AV→Mem→Option (AV×Mem)} {ops:Array Oper} {st:St} (h:fc P E (asked P E f bJ O ops st)):MH P E (only O (asked P E f bJ O ops st)):=by
 intro g args m v m1 hO
 unfold only at hO
 split at hO
 · rename_i hq
   obtain⟨q,hm,rfl,rfl,rfl⟩:=hq
   have:=p9 _ _ _ q hm
   rw[this] at hO
   obtain⟨rfl,rfl⟩:q.v=v∧q.m'=m1:=by simpa using hO
   exact h q hm
 · cases hO
theorem aR (hN:eO P) {O:hJ} {o:Out} : ∀(n:Nat) (top:Bool) (c:bA) (s:Sc) (K:Out→Sc→aP),(top=true → ∀o1 s1,(K o1 s1).ok P E o→o1=o)→(grow P E O n top c s K).ok P E o→dn P E top c K o
 |0,_,_,_,_,_,h=>h.elim
 |n+1,top,c,s,K,hK,h=>by
  unfold grow at h
  split at h
  · split at h
    · rename_i c' hs;exact .inr ⟨rfl,dN.aq (kH hs) h⟩
    · exact h.elim
  · split at h
    · rename_i c' hs;exact dn.aq (kH hs) (aR hN n top c' s K hK h)
    · rename_i b c' hs
      obtain⟨rfl,hb⟩:=qV h
      exact dn.aq (qP hs) (lB (fun c=>mV fun c=>aR hN n top c s K hK) hb)
    · rename_i b y z hs
      have gt:=qQ hs
      split at h
      · split at h
        · cases b with
          |true=>exact dn.aq gt (aR hN n top y _ K hK (h.1 rfl))
          |false=>exact dn.aq gt (aR hN n top z _ K hK (h.2 rfl))
        · obtain⟨rfl,h⟩:=h
          exact dn.aq gt (aR hN n top y _ K hK h)
        · obtain⟨hb,h⟩:=h
          cases b with
          |true=>cases hb
          |false=>exact dn.aq gt (aR hN n top z _ K hK h)
        · cases b with
          |true=>exact dn.aq gt (aR hN n top y _ K hK h)
          |false=>exact dn.aq gt (aR hN n top z _ K hK h)
        · cases b with
          |true=>exact dn.aq gt (aR hN n top y _ K hK (h.1 rfl))
          |false=>exact dn.aq gt (aR hN n top z _ K hK (h.2 rfl))
      · cases b with
        |true=>exact dn.aq gt (aR hN n top y _ K hK h)
        |false=>exact dn.aq gt (aR hN n top z _ K hK h)
    · rename_i f args m ord dst c' hs
      split at h
      · rename_i v m1 s' _
        exact dn.aq (fZ hs h.1) (lB (fun c=>aR hN n top c s' K hK) h.2)
      split at h
      · exact dn.aq (fZ hs h.1) (lB (fun c=>aR hN n top c s K hK) h.2)
      · split at h
        · rename_i ci hi
          rcases aR hN n false ci s _ nofun h with⟨o1,s1,h1,h2⟩ | ⟨h1,_⟩
          · cases o1 with
            |ret v m1=>exact dn.aq (fZ hs (dc hN hi h1)) (aR hN n top _ s1 K hK h2)
            |nk v m1=>exact dn.aq (mT hs (j8 hN hi h1)) (aR hN n top _ s1 K hK h2)
          · cases h1
        · exact h.elim
    · rename_i g args m ord pv c' hs
      split at h
      · rename_i ci hi
        rcases aR hN n false ci s _ nofun h with⟨o1,s1,h1,h2⟩ | ⟨h1,_⟩
        · cases o1 with
          |ret v m1=>exact dn.aq (qR hs (ke hN hi h1)) (aR hN n top _ s1 K hK h2)
          |nk v m1=>exact h2.elim
        · cases h1
      · exact h.elim
    · rename_i args m ord dst c' hs
      split at h
      · rename_i ci hi
        rcases aR hN n false ci s _ nofun h with⟨o1,s1,h1,h2⟩ | ⟨h1,_⟩
        · cases o1 with
          |ret v m1=>exact dn.aq (oC hs (j9 hi h1)) (aR hN n top _ s1 K hK h2)
          |nk v m1=>exact h2.elim
        · cases h1
      · exact h.elim
    · rename_i g args m ord L c' hs
      split at h
      · split at h
        · rename_i m2 pd hend
          exact dn.aq (jx hs h.1 hend) (aR hN n top _ s K hK h.2)
        · exact h.elim
      split at h
      · rename_i ci hi
        rcases aR hN n false ci s _ nofun h with⟨o1,s1,h1,h2⟩ | ⟨h1,_⟩
        · cases o1 with
          |ret v m1=>
           dsimp only at h2
           split at h2
           · rename_i m2 pd hend
             exact dn.aq (jx hs (dc hN hi h1) hend) (aR hN n top _ s1 K hK h2)
           · exact h2.elim
          |nk v m1=>exact h2.elim
        · cases h1
      · exact h.elim
    · rename_i bJ ops c' hs
      split at h
      · rename_i L s' _
        split at h
        · rename_i st ok hq
          obtain⟨hcs,h⟩:=nI h
          obtain⟨rfl,hb⟩:=qV h
          exact dn.aq (kI hs (lC hcs) (nJ hq)) (mV (fun c=>aR hN n top c s' K hK) hb)
        · exact h.elim
      split at h
      · rename_i st ok hq
        obtain⟨hcs,h⟩:=nI h
        obtain⟨rfl,hb⟩:=qV h
        exact dn.aq (kI hs (lC hcs) (nJ hq)) (mV (fun c=>aR hN n top c s K hK) hb)
      · exact h.elim
    · rename_i l hs
      have both : ∀{y z:bA} {sy sz:Sc},top=true→l=[y,z]→(grow P E O n top y sy K).ok P E o→(grow P E O n top z sz K).ok P E o→dn P E top c K o:=by
       intro y z sy sz ht hl h1 h2
       subst hl
       have one : ∀{x:bA} {sx:Sc},(grow P E O n top x sx K).ok P E o→dN P E x o:=fun hx=>by
        rcases aR hN n top _ _ K hK hx with⟨o1,s1,k1,k2⟩ | ⟨_,k1⟩
        · exact hK ht o1 s1 k2▸k1
        · exact k1
       refine .inr ⟨ht,dN.zi (qT hs) fun c' dx=> ?_⟩
       simp only[List.mem_cons,List.not_mem_nil,or_false] at dx
       rcases dx with rfl | rfl
       · exact one h1
       · exact one h2
      split at h
      · split at h
        · exact both rfl rfl h.1 h.2
        · exact both rfl rfl h.1 h.2
      · exact h.elim
    · rename_i o' hs
      exact .inl ⟨o',s,qO hs,h⟩
    · exact h.elim
def atEnd (o:Out) (_:Sc):aP:= .out o
theorem aD (hN:eO P) {O:hJ} {n:Nat} {c:bA} {s:Sc} {t:aP} {o:Out} (ht:grow P E O n true c s atEnd=t) (h:t.ok P E o):dN P E c o:=by
 subst ht
 rcases aR hN n true c s atEnd (fun _ _ _ h=>h) h with⟨o1,s1,h1,h2⟩ | ⟨_,h1⟩
 · have:o1=o:=h2
   exact this▸h1
 · exact h1
def dJ (P:Program) (E:Env) (O:hJ) (n:Nat) (f:FuncId) (args:List AV) (m:Mem) (s:Sc):aP:=
 match init P f args m with
 |some c=>grow P E O n true c s atEnd
 |none=> .stuck
theorem az (hN:eO P) {O:hJ} {n:Nat} {f:FuncId} {args:List AV} {m m':Mem} {s:Sc} {v:AV} {t:aP} (ht:dJ P E O n f args m s=t) (h:t.ok P E (.ret v m')):aO P E f args m v m':=by
 subst ht
 unfold dJ at h
 split at h
 · rename_i c hi;exact dc hN hi (aD hN rfl h)
 · exact h.elim
theorem Cf {P:Program} (h:(P.funcs.toList.all fun fn=> !(fn.name == "runtime.NumGoroutine"))=true):eO P:=by
 intro f fn hf
 rw[List.all_eq_true] at h
 have:=h fn (by rw[←Array.getElem?_toList] at hf;exact oe hf)
 simpa using this
def iB (E:Env) (f t:Nat):Code→Nat→List It→Option (Code×List It)
 |.loop b,i,k=>match a6 i t with
  |true=>some (b,k)
  |false=>iB E f t b (i+1) (.inLoop i b::eg (E.keep f (2*i+1)) k)
 |.seq a b,i,k=>match iB E f t a i (.code (i+nodes a) b::k) with
  |some r=>some r
  |none=>iB E f t b (i+nodes a) k
 |.cond _ a b,i,k=>match iB E f t a (i+1) (eg (E.keep f (2*i)) k) with
  |some r=>some r
  |none=>iB E f t b (i+1+nodes a) (eg (E.keep f (2*i)) k)
 |.block id b,i,k=>iB E f t b i (.inBlock id::k)
 |.scope b,i,k=>iB E f t b i (.inScope b::k)
 |_,_,_=>none
def aj (P:Program) (E:Env) (f t:Nat) (vs:List AV) (m:Mem) (fix nt:Nat):bA:=
 match P.funcs[f]? with
 |some fn=>match fn.body with
  |some c=>match iB E f t c 0 [] with
   |some (b,k)=>⟨f,.code (t+1) b :: .inLoop t b::eg (E.keep f (2*t+1)) k,⟨((E.keep f (2*t)).getD []).zip vs,nt,m,fix,[],.call⟩⟩
   |none=>⟨f,[],⟨[],0,[],0,[],.call⟩⟩
  |none=>⟨f,[],⟨[],0,[],0,[],.call⟩⟩
 |none=>⟨f,[],⟨[],0,[],0,[],.call⟩⟩
def Cg (l:List (Nat×Nat×Nat)) (f a b:Nat):Bool:=match l with
 |[]=>false
 |(f',a',b')::r=>cond (a6 f f') (cond (a6 a a') (cond (a6 b b') true (Cg r f a b)) (Cg r f a b)) (Cg r f a b)
def C4 (l:List (Nat×Nat)) (f a:Nat):Bool:=match l with
 |[]=>false
 |(f',a')::r=>cond (a6 f f') (cond (a6 a a') true (C4 r f a)) (C4 r f a)
def Ch (rows:List (Nat×Nat×List Nat)) (f j:Nat):Option (List Nat):=match rows with
 |[]=>none
 |(f',j',l)::r=>cond (a6 f f'&&a6 j j') (some l) (Ch r f j)
def cK (_:FuncId) (_:List AV) (_:Mem):Option (AV×Mem):=none
def gk (call Hh:FuncId→List AV→Mem→Option (AV×Mem)) (Kv:List (Nat×Nat)) (FM FN:List (Nat×Nat×Nat)):hJ where
 call:=call
 Hh:=Hh
 cut:=C4 Kv
 fork:=Cg FM
 hard:=Cg FN
 shape _ _ _:=none
def eP (l:List (Nat×Nat×Nat×AV)) (f a b:Nat):Option (AV→AV):=match l with
 |[]=>none
 |(f',a',b',v)::r=>cond (a6 f f'&&(a6 a a'&&a6 b b')) (some fun _=>v) (eP r f a b)
def qa (call Hh:FuncId→List AV→Mem→Option (AV×Mem)) (Kv:List (Nat×Nat)) (FM FN:List (Nat×Nat×Nat)) (shape:FuncId→Nat→Nat→Option (AV→AV)):hJ where
 call:=call
 Hh:=Hh
 cut:=C4 Kv
 fork:=Cg FM
 hard:=Cg FN
 shape:=shape
def gh (t:Nat):Code→Nat→Option (Array Tmp×Code×Code)
 |.rangeFunc _ ps as bd,i=>cond (a6 i t) (some (ps,as,bd)) none
 |.seq a b,i=>match gh t a i with
  |some r=>some r
  |none=>gh t b (i+nodes a)
 |.cond _ a b,i=>match gh t a (i+1) with
  |some r=>some r
  |none=>gh t b (i+1+nodes a)
 |.block _ b,i=>gh t b i
 |.scope b,i=>gh t b i
 |.loop b,i=>gh t b (i+1)
 |_,_=>none
def jy (P:Program) (f t:Nat) (st:LoopState) (pd:Option Code):fF:=
 match P.funcs[f]? with
 |some fn=>match fn.body with
  |some c=>match gh t c 0 with
   |some (ps,as,bd)=> .loop f ps as bd st pd
   |none=> .Jh
  |none=> .Jh
 |none=> .Jh
end
end Go.Am
end
