import Derived.Test.YtncncijedmfpjaaGreatDoorMC
import Derived.WideMake
import Derived.AtR
import Derived.Recover
open Option renaming map_eq_some_iff→im,bind_some→tc
open Prod.mk renaming injEq→kc
open Option.some renaming injEq→dq,inj→dt
open Go.Sem renaming run_bind→kh,run_pure→kl,run→tf
open Go.Result renaming andThen_ok→km,andThen→pw
open Nat renaming eq_of_beq_eq_true→bx,blt_eq→hC,lt_of_succ_lt_succ→ch,beq_refl→tp,not_lt_zero→tz,not_lt→ua,beq→bj
open List renaming map_toArray→ui,map_cons→uv,map_nil→vb,getElem?_eq_none→ei,toArray→vd,mem_of_getElem?→oi,getElem?_eq_some_iff→ee,pairwise_iff_getElem→vj,append_assoc→vt,getElem?_append→vz,getElem?_map→fe,nodup_append→wc,foldlM_cons→xa,range'→xb,foldlM_nil→xc,nodup_cons→xf,length_set→ek
open Array renaming getD_eq_getD_getElem?→xi,toList_map→ik
open Go.Frame renaming enter→xn
open Go.Region renaming wanted→xo
section
namespace Go.Am
open Go.RowKit
section ops
variable {P:Program} {g:Gh} {m:Mem} {w:World}
theorem mX {ρ:Operand→AV} {cz:Operand→Value} (hr : ∀x,VA g w (ρ x) (cz x)) : ∀(l:List (Nat×Operand)),
  bI (fun a b=>a.1=b.1∧VA g w a.2 b.2) (l.map fun q=>(q.1,ρ q.2)) (l.map fun(i,x)=>(i,cz x))
 |[]=>trivial
 |(_,x)::l=>⟨⟨rfl,hr x⟩,mX hr l⟩
theorem gq {ρ:Operand→AV} {cz:Operand→Value} (hr : ∀x,VA g w (ρ x) (cz x)) : ∀(l:List Operand),cY g w (l.map ρ) (l.map cz)
 |[]=>trivial
 |x::l=>⟨hr x,gq hr l⟩
theorem cr.of {h:Rel g m w} {s:Sem Value} {r:Result Next} {a:AV} (hr:r=(s.run P w).andThen fun v w'=> .ok (.value v) w') (hs : ∃v,s.run P w = .ok v w∧VA g w a v):cr g m w r a m:=by
 obtain⟨v,h1,h2⟩:=hs
 exact cr.quiet h (by rw[hr,h1];rfl) h2
theorem fU {r:Option AV} {a:AV} {us:nF} {ok:Bool} (h:jy r=some (a,us,ok)):r=some a∧us=[]:=by
 simp only[jy,im,kc] at h
 obtain⟨v,h1,rfl,rfl,_⟩:=h
 exact⟨h1,rfl⟩
theorem iN {r:Option (AV×Bool)} {a:AV} {us:nF} {ok:Bool} (h:gL r=some (a,us,ok)):r=some (a,ok)∧us=[]:=by
 simp only[gL,im,kc] at h
 obtain⟨⟨v,b⟩,h1,rfl,rfl,rfl⟩:=h
 exact⟨h1,rfl⟩
theorem xQ (h:Rel g m w) {cz:Operand→Value} {o:Oper} {aV:Nat} (hn:m[aV]? = some .free) {t:TypeId} {x:Operand} {ax a:AV} {us:nF} (hx:VA g w ax (cz x)) (ho:o.op = .range t x)
  (he:Aj P aV t ax=some (a,us,true)):cr g m w ((execOp cz o).run P w) a (apply m us):=by
 unfold Aj at he
 split at he
 · rename_i s hd
   simp only[dq,kc,and_true] at he
   obtain⟨rfl,rfl⟩:=he
   rw[VA.pv] at hx
   generalize hz:cz x=z at hx
   cases hx
   obtain⟨h1,h2,h3⟩:=h.uc (ob:= .iter s 0) (l:=[]) (vs:=[]) hn trivial (ew w (.stringIter s 0)) ⟨rfl,rfl⟩
   refine⟨.pointer (some ⟨w.heap.size,0,none⟩),_,_,.inl ?_,.mp aV 0 _ (by simp[Gh.put]),h1,h2,h3⟩
   simp[execOp,ho,hz,Instr.range,kh,run_underlying hd,pw]
 · cases he
theorem AF (h:Rel g m w) {cz:Operand→Value} {o:Oper} {x:Operand} {s:Bool} {ax a:AV} {us:nF} (hx:VA g w ax (cz x)) (ho:o.op = .next x s)
  (he:Ey (fun i=>m.getD i .dead) ax s=some (a,us,true)):cr g m w ((execOp cz o).run P w) a (apply m us):=by
 cases s with
 |false=>cases he
 |true=>
  simp only[Ey] at he
  split at he
  · rename_i b
    split at he
    · rename_i str pos l hb
      have hib:=getD_some hb (by simp)
      obtain⟨c,ob,vs,k1,k2,k3,k4,_⟩:=h.obs b _ _ hib
      obtain⟨rfl,rfl⟩:=k4
      generalize hz:cz x=z at hx
      cases hx with
      |mp _ _ c' hc=>
       rw[k1] at hc;cases hc
       have kP:(getObj c).run P w = .ok (.stringIter str pos) w:=by simp[getObj,tf,k2]
       split at he
       · rename_i hlt
         rw[hC] at hlt
         generalize R3:Utf8.decode str pos=q at he
         obtain⟨cc,width⟩:=q
         simp only[dq,kc,and_true] at he
         obtain⟨rfl,rfl⟩:=he
         obtain⟨e1,e2,e3⟩:=fC w (o':= .stringIter str (pos+width)) k2
         obtain⟨r1,r2,r3⟩:=h.j8 (JB:= .iter str (pos+width)) (l':=[]) (vs':=[]) hib k1 e1 e2 rfl rfl rfl e3 ⟨rfl,rfl⟩ trivial
         have xH:(setObj c (.stringIter str (pos+width))).run P w = .ok () {w with heap:=w.heap.setIfInBounds c (.stringIter str (pos+width))}:=by simp[setObj,tf,k2]
         refine⟨.tuple #[.bool true,goInt pos,.int .i32 cc],_,g,.inl ?_,VA.mA.2 ⟨.p _ _ (.sc _),.p _ _ (.sc _),.p _ _ (.sc _),trivial⟩,r1,r2,r3⟩
         simp only[execOp,ho,hz,Instr.next,kh,kP,km,hlt,if_true,R3,xH,kl]
       · rename_i hlt
         have hlt' : ¬pos<str.size:=fun q=>by rw[←hC] at q;rw[q] at hlt;cases hlt
         simp only[dq,kc,and_true] at he
         obtain⟨rfl,rfl⟩:=he
         refine cr.quiet h (v:= .tuple #[.bool false]) ?_ (VA.mA.2 ⟨.p _ _ (.sc _),trivial⟩)
         simp only[execOp,ho,hz,Instr.next,kh,kP,km,hlt',if_false,kl]
    · rename_i str pos more l hb
      have hib:=getD_some hb (by simp)
      obtain⟨c,ob,vs,k1,k2,k3,k4,_⟩:=h.obs b _ _ hib
      obtain⟨rfl,rfl,k5⟩:=k4
      generalize hz:cz x=z at hx
      cases hx with
      |mp _ _ c' hc=>
       rw[k1] at hc;cases hc
       have kP:(getObj c).run P w = .ok (.stringIter str pos) w:=by simp[getObj,tf,k2]
       split at he
       · have hlt:pos<str.size:=by rw[hC] at k5;exact k5
         generalize R3:Utf8.decode str pos=q at he
         obtain⟨cc,width⟩:=q
         simp only[dq,kc,and_true] at he
         obtain⟨rfl,rfl⟩:=he
         obtain⟨e1,e2,e3⟩:=fC w (o':= .stringIter str (pos+width)) k2
         obtain⟨r1,r2,r3⟩:=h.j8 (JB:= .iter str (pos+width)) (l':=[]) (vs':=[]) hib k1 e1 e2 rfl rfl rfl e3 ⟨rfl,rfl⟩ trivial
         have xH:(setObj c (.stringIter str (pos+width))).run P w = .ok () {w with heap:=w.heap.setIfInBounds c (.stringIter str (pos+width))}:=by simp[setObj,tf,k2]
         refine⟨.tuple #[.bool true,goInt pos,.int .i32 cc],_,g,.inl ?_,VA.mA.2 ⟨.p _ _ (.sc _),.p _ _ (.sc _),.p _ _ (.sc _),trivial⟩,r1,r2,r3⟩
         simp only[execOp,ho,hz,Instr.next,kh,kP,km,hlt,if_true,R3,xH,kl]
       · have hlt' : ¬pos<str.size:=fun q=>by rw[←hC,k5] at q;cases q
         simp only[dq,kc,and_true] at he
         obtain⟨rfl,rfl⟩:=he
         refine cr.quiet h (v:= .tuple #[.bool false]) ?_ (VA.mA.2 ⟨.p _ _ (.sc _),trivial⟩)
         simp only[execOp,ho,hz,Instr.next,kh,kP,km,hlt',if_false,kl]
    · cases he
  · cases he
theorem xR {ρ:Operand→AV} {cz:Operand→Value} (hr : ∀x,VA g w (ρ x) (cz x)) {o:Oper} {op:BinOp} {t yt:TypeId} {x y:Operand} {l c:Nat} (hy:cz y = .slice none l c) (ho:o.op = .binOp op t x y yt) {a:AV} {us:nF} {ok:Bool} (he:tT P op t (ρ x)=some (a,us,ok)) :
  us=[] ∧ ∃v,(execOp cz o).run P w = .ok (.value v) w∧VA g w a v:=by
 unfold tT at he
 split at he
 · rename_i e hd
   have key : ∀{b:Bool},FT (ρ x)=some b→(∀op':BinOp,(eqGuard op' t x y (cz x) (cz y)).run P w = .ok () w)∧(Op.equal t (cz x) (cz y)).run P w = .ok b w ∧ ∀op',op' = .eql∨op' = .neq→binOp op' t (cz x) (cz y)=(do let r ←Op.equal t (cz x) (cz y);pure (.bool (if op' = .eql then r else !r)):Sem Value):=by
    intro b hb
    obtain⟨ad,len,cap,hx,hn⟩:=Ck (hr x) hb
    rw[hx,hy]
    refine⟨fun op'=>by unfold eqGuard;cases op'<;>rfl,?_,fun op' hop=>by rcases hop with rfl | rfl<;>rfl⟩
    show(Op.equalIn (9999+1) t _ _).run P w = .ok b w
    rw[Op.equalIn];simp only[kh,run_underlying hd,km]
    subst hn
    cases ad<;>rfl
   split at he
   · rename_i b hb
     obtain⟨k1,k2,k3⟩:=key hb
     simp only[dq,kc] at he
     obtain⟨rfl,rfl,_⟩:=he
     refine⟨rfl,.bool b,?_,.p _ _ (.sc _)⟩
     simp only[execOp,ho,kh,k1,km,k3 _ (.inl rfl),k2,kl]
     rfl
   · rename_i b hb
     obtain⟨k1,k2,k3⟩:=key hb
     simp only[dq,kc] at he
     obtain⟨rfl,rfl,_⟩:=he
     refine⟨rfl,.bool (!b),?_,.p _ _ (.sc _)⟩
     simp only[execOp,ho,kh,k1,km,k3 _ (.inr rfl),k2,kl]
     rfl
   · cases he
 · cases he
theorem R4 (x y:Int):(if y<x then y else x)=min x y:=by
 rcases Int.lt_or_le y x with h | h
 · rw[if_pos h];omega
 · rw[if_neg (by omega)];omega
theorem R5 (x y:Int):(if y>x then y else x)=max x y:=by
 rcases Int.lt_or_le x y with h | h
 · rw[if_pos h];omega
 · rw[if_neg (by omega)];omega
theorem yP {ρ:Operand→AV} {cz:Operand→Value} (hr : ∀x,VA g w (ρ x) (cz x)) {mn:Bool} {l:List Operand} {v:AV} (h:Hz mn (l.map ρ)=some v) :
  ∃cx cy k k' x y,l=[cx,cy]∧cz cx = .int k x∧cz cy = .int k' y∧v = .p (.sc (.int k (cond mn (min x y) (max x y)))):=by
 match l,h with
 |[cx,cy],h=>
  have h1:=hr cx
  have h2:=hr cy
  simp only[uv,vb] at h
  generalize ρ cx=ax at h h1
  generalize ρ cy=ay at h h2
  unfold Hz at h
  split at h
  · rename_i k a k' b heq
    simp only[List.cons.injEq,and_true] at heq
    obtain⟨rfl,rfl⟩:=heq
    simp only[dq] at h
    rw[VA.pv] at h1 h2
    generalize fQ:cz cx=c1 at h1
    generalize gH:cz cy=c2 at h2
    cases h1;cases h2
    exact⟨cx,cy,k,k',a,b,rfl,fQ,gH,h.symm⟩
  · cases h
 |[],h=>simp[Hz] at h
 |[_],h=>simp[Hz] at h
 |_::_::_::_,h=>simp[Hz] at h
theorem nO (h:Rel g m w) {ρ:Operand→AV} {cz:Operand→Value} (hr : ∀x,VA g w (ρ x) (cz x)) (hrc : ∀v,cz (.const v)=v) {o:Oper} {aV:Nat} (hn:makes o=true→m[aV]? = some .free) {wr:Bool} {a:AV} {us:nF}
  (he:sv P (fun i=>m.getD i .dead) wr aV ρ o=some (a,us,true)):cr g m w ((execOp cz o).run P w) a (apply m us):=by
 have he' : ∀y,Ai y=true → ∃l c,cz y = .slice none l c:=by
  intro y hy
  unfold Ai at hy
  split at hy
  · exact⟨_,_,hrc _⟩
  · cases hy
 have hmk : ∀{b:Bool},makes o=b→b=true→m[aV]? = some .free:=fun e e'=>hn (e.trans e')
 unfold sv at he
 split at he
 · rename_i x ho
   simp only[dq,kc,and_true] at he
   obtain⟨rfl,rfl⟩:=he
   exact cr.quiet h (v:=cz x) (by simp[execOp,ho]) (hr x)
 · rename_i x ho
   simp only[dq,kc,and_true] at he
   obtain⟨rfl,rfl⟩:=he
   exact cr.quiet h (v:=cz x) (by simp[execOp,ho]) (hr x)
 · rename_i c x y ho
   split at he
   · rename_i t hc
     simp only[dq,kc,and_true] at he
     obtain⟨rfl,rfl⟩:=he
     have hb:cz c = .bool t:=by have:=hr c;rw[hc,VA.pv] at this;generalize cz c=z at this;cases this;rfl
     cases t
     · exact cr.quiet h (v:=cz y) (by simp[execOp,ho,hb,asBool]) (hr y)
     · exact cr.quiet h (v:=cz x) (by simp[execOp,ho,hb,asBool]) (hr x)
   · cases he
 · rename_i t ho
   split at he
   · exact uR h (hmk (by simp only[makes,ho]) rfl) he ho
   · exact xK h (hmk (by simp only[makes,ho]) rfl) he (ty:=0) (pos:= "") ho rfl rfl
 · rename_i t x ho
   exact Cd h (hmk (by simp only[makes,ho]) rfl) (hr x) he (t:=t) (by simp[execOp,ho,Instr.box,newVar,newRow])
 · rename_i t parts ho
   obtain⟨h1,rfl⟩:=iN he
   refine cr.of (h:=h) (s:=Instr.build t (parts.map fun(i,x)=>(i,cz x))) (P:=P) (by simp only[execOp,ho,kh,kl]) (xI h1 ?_)
   rw[ik];exact mX hr parts.toList
 · rename_i t len parts ho
   have:=oN (jF:=parts.map fun(i,x)=>(i,cz x)) h (hmk (by simp only[makes,ho]) rfl) he (by rw[ik];exact mX hr parts.toList)
   simpa only[execOp,ho] using this
 · rename_i t x ho
   obtain⟨h1,rfl⟩:=iN he
   obtain⟨c,o',cv,k1,k2,k3⟩:=pQ h (hr x) h1
   exact cr.quiet h (v:=cv) (by simp[execOp,ho,Instr.loadAt,k1,Instr.sureAddr,k2]) k3
 · rename_i t x v ho
   obtain⟨w',k1,rfl,k2,k3,k4⟩:=xJ h (hr x) (hr v) he
   exact⟨undef,w',g,.inr ⟨by simp[execOp,ho,k1],rfl⟩,VA.mA.2 trivial,k2,k3,k4⟩
 · rename_i x ho
   obtain⟨h1,rfl⟩:=fU he
   obtain⟨v,k1,k2⟩:=rj hr ho h1
   exact cr.quiet h k1 k2
 · rename_i op t x y yt ho
   split at he
   · rename_i hy
     obtain⟨l,c,hyc⟩:=he' y hy
     obtain⟨rfl,v,k1,k2⟩:=xR hr hyc ho he
     exact cr.quiet h k1 k2
   · split at he
     · obtain⟨rfl,v,k1,k2⟩:=Cg hr ho he
       exact cr.quiet h k1 k2
     · split at he
       · rename_i hsame
         obtain⟨rfl,v,k1,k2⟩:=tF hr ho hsame he
         exact cr.quiet h k1 k2
       · obtain⟨h1,rfl⟩:=iN he
         obtain⟨v,k1,k2⟩:=xG hr ho h1
         exact cr.quiet h k1 k2
 · rename_i t x ho
   exact xQ h (hmk (by simp only[makes,ho]) rfl) (hr x) ho he
 · rename_i x s ho
   exact AF h (hr x) ho he
 · rename_i t ho
   have fin : ∀ob:dV,ob.is (.map #[] 0) []→ob.room (.map #[] 0) 0→some (AV.vm aV,[(aV,aN.ob ob [])],true)=some (a,us,true)→cr g m w ((execOp cz o).run P w) a (apply m us):=by
    intro ob hob hroom he
    simp only[dq,kc,and_true] at he
    obtain⟨rfl,rfl⟩:=he
    obtain⟨h1,h2,h3⟩:=h.uc (ob:=ob) (l:=[]) (vs:=[]) (hmk (by simp only[makes,ho]) rfl) trivial (ew w (.map #[] 0)) hob hroom
    exact⟨.map (some w.heap.size),_,_,.inl (by simp[execOp,ho,run_makeMap_plain,pw]),.vm aV _ (by simp[Gh.put]),h1,h2,h3⟩
   unfold yw at he
   split at he
   · split at he
     · exact fin (.JS []) ⟨_,_,[],rfl,rfl,rfl,.refl _⟩ trivial he
     · exact fin (.map [] [] 0) rfl trivial he
   · exact fin (.map [] [] 0) rfl trivial he
 · rename_i t x i ok ho
   obtain⟨h1,rfl⟩:=fU he
   exact cr.of (h:=h) (s:=Instr.lookup t (cz x) (cz i) ok) (P:=P) (by simp only[execOp,ho,kh,kl]) (uV h (hr x) (hr i) h1)
 · rename_i t x k v ho
   obtain⟨w',k1,rfl,k2,k3,k4⟩:=kg h (hr x) (hr k) (hr v) he
   exact⟨undef,w',g,.inr ⟨by simp[execOp,ho,k1],rfl⟩,VA.mA.2 trivial,k2,k3,k4⟩
 · rename_i t x k v ho
   obtain⟨w',k1,rfl,k2,k3,k4⟩:=kg h (hr x) (hr k) (hr v) he
   exact⟨undef,w',g,.inr ⟨by simp[execOp,ho,k1],rfl⟩,VA.mA.2 trivial,k2,k3,k4⟩
 · rename_i op t x ho
   obtain⟨h1,rfl⟩:=iN he
   obtain⟨v,k1,k2⟩:=Aw hr ho h1
   exact cr.quiet h k1 k2
 · rename_i src dst x ho
   exact tE h (hmk (by simp only[makes,ho]) rfl) hr ho he
 · rename_i t x ho
   obtain⟨h1,rfl⟩:=fU he
   exact cr.of (h:=h) (s:=Instr.makeInterface t (cz x)) (P:=P) (by simp only[execOp,ho,kh,kl]) (pX h1 (hr x))
 · rename_i f first captured ho
   simp only[dq,kc,and_true] at he
   obtain⟨rfl,rfl⟩:=he
   refine cr.quiet h (v:= .func f (first.map cz) (captured.map cz)) (by simp[execOp,ho,Instr.makeFunc]) (VA.fns.2 ⟨_,_,rfl,?_,?_⟩)
   · rw[ik];exact gq hr _
   · rw[ik];exact gq hr _
 · rename_i t l c ho
   split at he
   · have:=rA h (hr l) (hr c) he
     simpa only[execOp,ho] using this
   · have:=pY h (hmk (by simp only[makes,ho]) rfl) (hr l) (hr c) he
     simpa only[execOp,ho] using this
 · rename_i t x lo hi mx ho
   obtain⟨h1,rfl⟩:=iN he
   exact cr.of (h:=h) (s:=Instr.sliceAt t (cz x) (lo.map cz) (hi.map cz) (mx.map cz)) (P:=P) (by simp only[execOp,ho,kh,kl]) (xE hr h1 (hr x))
 · rename_i t x f ho
   obtain⟨h1,rfl⟩:=fU he
   exact cr.of (h:=h) (s:=Instr.fieldAt t (cz x) f) (P:=P) (by simp only[execOp,ho,kh,kl]) (pR h1 (hr x))
 · rename_i t x f ho
   obtain⟨h1,rfl⟩:=iN he
   exact cr.of (h:=h) (s:=Instr.field t (cz x) f) (P:=P) (by simp only[execOp,ho,kh,kl]) (xC h1 (hr x))
 · rename_i t x i ho
   obtain⟨h1,rfl⟩:=iN he
   exact cr.of (h:=h) (s:=Instr.indexAt t (cz x) (cz i)) (P:=P) (by simp only[execOp,ho,kh,kl]) (pV h1 (hr x) (hr i))
 · rename_i t x i ho
   obtain⟨h1,rfl⟩:=iN he
   exact cr.of (h:=h) (s:=Instr.index t (cz x) (cz i)) (P:=P) (by simp only[execOp,ho,kh,kl]) (xD h1 (hr x) (hr i))
 · rename_i x i ho
   split at he
   · rename_i vs hx
     obtain⟨h1,rfl⟩:=fU he
     have hv:=hr x
     rw[hx] at hv
     generalize hz:cz x=z at hv
     cases hv with
     |aK _ cs hl hh=>
      obtain⟨b,hb,hv⟩:=bI.get? (bI.dz hl hh) h1
      exact cr.quiet h (v:=b) (by simp only[execOp,ho,hz,Instr.extract];simp at hb;simp[hb]) hv
   · cases he
 · rename_i x xt t ok ho
   obtain⟨h1,rfl⟩:=fU he
   obtain⟨cv,k1,k2⟩:=uU (xt:=xt) h1 (hr x)
   exact cr.quiet h (v:=cv) (by simp only[execOp,ho,kh,k1,km,kl]) k2
 · rename_i c ho
   split at he
   · rename_i s x hc ha
     have jR:c.args = #[s,x]:=by have:=congrArg vd ha;simpa using this
     have WV:makes o=true:=by simp only[makes,ho,hc]
     split at he
     · have:=uZ (ty:=o.type) h (hn WV) (sE (hr s)) (hr x) he
       simpa only[execOp,ho,resolve,hc,jR,kh,kl,km,invoke,builtin,ui,uv,vb] using this
     · have:=uS (ty:=o.type) h (hn WV) (sE (hr s)) (hr x) he
       simpa only[execOp,ho,resolve,hc,jR,kh,kl,km,invoke,builtin,ui,uv,vb] using this
   · rename_i d s hc ha
     have jR:c.args = #[d,s]:=by have:=congrArg vd ha;simpa using this
     have:=AA (ty:=o.type) h (hr d) (hr s) he
     simpa only[execOp,ho,resolve,hc,jR,kh,kl,km,invoke,builtin,ui,uv,vb] using this
   · rename_i x hc ha
     have jR:c.args = #[x]:=by have:=congrArg vd ha;simpa using this
     obtain⟨h1,rfl⟩:=fU he
     refine cr.of (h:=h) (s:=Builtin.len_ c.argTypes o.type #[cz x]) (P:=P) ?_ (B6 h1 (hr x))
     simp only[execOp,ho,resolve,hc,jR,kh,kl,km,invoke,builtin,ui,uv,vb]
   · rename_i x hc ha
     have jR:c.args = #[x]:=by have:=congrArg vd ha;simpa using this
     obtain⟨h1,rfl⟩:=fU he
     refine cr.of (h:=h) (s:=Builtin.cap_ c.argTypes o.type #[cz x]) (P:=P) ?_ (B7 h1 (hr x))
     simp only[execOp,ho,resolve,hc,jR,kh,kl,km,invoke,builtin,ui,uv,vb]
   · rename_i x hc ha
     have jR:c.args = #[x]:=by have:=congrArg vd ha;simpa using this
     obtain⟨rfl,v,k1,k2⟩:=p9 (P:=P) (ts:=c.argTypes) (ty:=o.type) (hr x) he
     refine cr.quiet h (v:=v) ?_ k2
     simp only[execOp,ho,resolve,hc,jR,kh,kl,km,invoke,builtin,ui,uv,vb,k1]
   · rename_i x n hc ha
     have jR:c.args = #[x,n]:=by have:=congrArg vd ha;simpa using this
     have:=mW (ty:=o.type) h (hr x) (hr n) he
     simpa only[execOp,ho,resolve,hc,jR,kh,kl,km,invoke,builtin,ui,uv,vb] using this
   · rename_i hc
     obtain⟨h1,rfl⟩:=fU he
     unfold jz at h1
     split at h1
     · rename_i v hm
       simp only[dq] at h1;subst h1
       obtain⟨cx,cy,k,k',x,y,ha,e1,e2,rfl⟩:=yP hr hm
       have jR:c.args = #[cx,cy]:=by have:=congrArg vd ha;simpa using this
       refine cr.quiet h (v:= .int k (min x y)) ?_ (.p _ _ (.sc _))
       simp only[execOp,ho,resolve,hc,jR,kh,kl,km,invoke,builtin,ui,uv,vb,e1,e2,Builtin.min_,xa,xc,Builtin.min2,R4]
     · obtain⟨v,k1,k2⟩:=eP hr (fun _ _=>by rw[ho];exact fun e=>by cases e) h1
       exact cr.quiet h k1 k2
   · rename_i hc
     obtain⟨h1,rfl⟩:=fU he
     unfold jz at h1
     split at h1
     · rename_i v hm
       simp only[dq] at h1;subst h1
       obtain⟨cx,cy,k,k',x,y,ha,e1,e2,rfl⟩:=yP hr hm
       have jR:c.args = #[cx,cy]:=by have:=congrArg vd ha;simpa using this
       refine cr.quiet h (v:= .int k (max x y)) ?_ (.p _ _ (.sc _))
       simp only[execOp,ho,resolve,hc,jR,kh,kl,km,invoke,builtin,ui,uv,vb,e1,e2,Builtin.max_,xa,xc,Builtin.max2,R5]
     · obtain⟨v,k1,k2⟩:=eP hr (fun _ _=>by rw[ho];exact fun e=>by cases e) h1
       exact cr.quiet h k1 k2
   · cases he
 · cases he
end ops
end Go.Am
end
section
namespace Go.Am
open Go.RowKit
structure dn (ρ:Nat→Option Nat) (g g':Gh):Prop where
 at' : ∀i k,ρ i=some k→g'.bL k=g.bL i∧g'.lo k=g.lo i∧g'.hi k=g.hi i
 pure:g'.pure=g.pure
theorem VP.EG {g g':Gh} {w:World} (h:g'.pure=g.pure) {v:PV} {cv:Value} (hv:VP g w v cv):VP g' w v cv:=hv.mono fun c o p=>⟨by rw[h];exact p,rfl⟩
theorem ej (ρ:Nat→Option Nat) : ∀l:List AV,(eE ρ l).length=l.length
 |[]=>rfl
 |a::l=>by simp[eE,ej ρ l]
theorem mY (ρ:Nat→Option Nat) : ∀(l:List AV) (i:Nat) (h:i<(eE ρ l).length) (h':i<l.length),(eE ρ l)[i]=iI ρ l[i]
 |_::_,0,_,_=>rfl
 |_::l,i+1,h,h'=>mY ρ l i (ch h) (ch h')
 |[],_,_,h'=>absurd h' (tz _)
theorem VA.iI {ρ:Nat→Option Nat} {g g':Gh} {w:World} (hr:dn ρ g g') {a:AV} {v:Value} (h:VA g w a v):VA g' w (Am.iI ρ a) v:=by
 induction h with
 |aT v=>exact .aT v
 |p v cv h=>exact .p v cv (h.EG hr.pure)
 |os tok len sz cells a cap h ht=>
  have h':=h.EG hr.pure
  cases tok with
  |none=>exact .os none len sz cells a cap h' (ht.imp id fun⟨t,_,_,e,_⟩=>by cases e)
  |some t=>
   simp only[Am.iI]
   cases hρ:ρ t with
   |none=>exact .p _ _ h'
   |some k=>
    obtain⟨e1,e2,e3⟩:=hr.at' t k hρ
    refine .os (some k) len sz cells a cap h' (ht.imp id ?_)
    rintro ⟨t',b,o,e,rfl,q1,q2,q3,q4⟩
    cases e
    exact⟨k,b,o,rfl,rfl,e1.trans q1,e2.trans q2,e3.trans q3,q4⟩
 |mp b off c h=>
  simp only[Am.iI]
  cases hρ:ρ b with
  |none=>exact .aT _
  |some k=>exact .mp k off c ((hr.at' b k hρ).1.trans h)
 |ms b off len sz cap c h hc=>
  simp only[Am.iI]
  cases hρ:ρ b with
  |none=>exact .aT _
  |some k=>exact .ms k off len sz cap c ((hr.at' b k hρ).1.trans h) hc
 |mg b off len sz cap c h hc hh=>
  simp only[Am.iI]
  cases hρ:ρ b with
  |none=>exact .aT _
  |some k=>exact .mg k off len sz cap c ((hr.at' b k hρ).1.trans h) hc (by rw[(hr.at' b k hρ).2.2];exact hh)
 |vm b c h=>
  simp only[Am.iI]
  cases hρ:ρ b with
  |none=>exact .aT _
  |some k=>exact .vm k c ((hr.at' b k hρ).1.trans h)
 |vy b c h=>
  simp only[Am.iI]
  cases hρ:ρ b with
  |none=>exact .aT _
  |some k=>exact .vy k c ((hr.at' b k hρ).1.trans h)
 |fn f l k fa ca hl hk h h2 ih ih2=>
  simp only[Am.iI]
  exact .fn f _ _ fa ca (by rw[ej];exact hl) (by rw[ej];exact hk)
   (fun i a b=>by rw[mY ρ l i a (by rwa [ej] at a)];exact ih i _ b) (fun i a b=>by rw[mY ρ k i a (by rwa [ej] at a)];exact ih2 i _ b)
 |agg l cs hl h ih=>
  simp only[Am.iI]
  exact .agg _ cs (by rw[ej];exact hl) (fun i a b=>by rw[mY ρ l i a (by rwa [ej] at a)];exact ih i _ b)
 |aK l cs hl h ih=>
  simp only[Am.iI]
  exact .aK _ cs (by rw[ej];exact hl) (fun i a b=>by rw[mY ρ l i a (by rwa [ej] at a)];exact ih i _ b)
 |mD t v cv h ih=>exact .mD t _ cv ih
theorem cY.iI {ρ:Nat→Option Nat} {g g':Gh} {w:World} (hr:dn ρ g g') : ∀{l:List AV} {vs:List Value},cY g w l vs→cY g' w (eE ρ l) vs
 |[],[],_=>trivial
 |_::_,_::_,h=>⟨h.1.iI hr,cY.iI hr h.2⟩
 |[],_::_,h=>h.elim
 |_::_,[],h=>h.elim
theorem cY.aj {ρ:Nat→Option Nat} {g g':Gh} {w:World} (hr:dn ρ g g') : ∀{l:List AV} {vs:List Value},cY g w l vs→cY g' w (l.map aj) vs
 |[],[],_=>trivial
 |a::_,_::_,h=>⟨by
   cases a with
   |p v=>exact h.1.iI hr
   |_=>exact .aT _,cY.aj hr h.2⟩
 |[],_::_,h=>h.elim
 |_::_,[],h=>h.elim
theorem cY.Ro {ρ:Nat→Option Nat} {g g':Gh} {w:World} (hr:dn ρ g g') {l l':List AV} {vs:List Value} (h:cY g w l vs) (hl:l'=eE ρ l∨l'=l.map Am.aj):cY g' w l' vs:=by
 rcases hl with rfl | rfl
 · exact h.iI hr
 · exact cY.aj hr h
theorem Ko (ρ:Nat→Option Nat) : ∀l:List PV,eE ρ (l.map .p)=l.map .p
 |[]=>rfl
 |v::l=>by simp[eE,Am.iI,Ko ρ l]
theorem HF (ρ:Nat→Option Nat) (k:dV) (vals:List AV) : ∃l,fq ρ (.ob k vals) = .ob k l:=by
 cases k with
 |gr t q=>cases q<;>exact⟨_,rfl⟩
 |_=>exact⟨_,rfl⟩
theorem va {ρ:Nat→Option Nat} {b:aN} {l':List AV} (h:(fq ρ b).cells?=some l') : ∃l,b.cells?=some l∧l'=eE ρ l:=by
 cases b with
 |pc l=>simp only[fq,aN.cells?,dq] at h;exact⟨_,rfl,by rw[Ko];exact h.symm⟩
 |ac l=>simp only[fq,aN.cells?,dq] at h;exact⟨l,rfl,h.symm⟩
 |ob k vals=>
  obtain⟨l0,e⟩:=HF ρ k vals
  rw[e] at h
  cases h
 |_=>simp[fq,aN.cells?] at h
theorem kQ {ρ:Nat→Option Nat} {b:aN}:(fq ρ b).cP=b.cP:=by unfold fq;split<;>rfl
theorem F4 {ρ:Nat→Option Nat} {b:aN} {k:dV} {l:List AV} (h:fq ρ b = .ob k l) : ∃l0,b = .ob k l0∧(l=eE ρ l0∨l=l0.map aj):=by
 unfold fq at h
 split at h<;>cases h
 · exact⟨_,rfl,.inr rfl⟩
 · exact⟨_,rfl,.inr rfl⟩
 · exact⟨_,rfl,.inl rfl⟩
 · rename_i hne
   exact(hne _ _ rfl).elim
theorem rC {ρ:Nat→Option Nat} {b:aN} (h:fq ρ b = .free):b = .free:=by unfold fq at h;split at h<;>first | exact h | cases h
theorem Cl {ρ:Nat→Option Nat} {b:aN} (h:fq ρ b = .tok):b = .tok:=by unfold fq at h;split at h<;>first | exact h | cases h
theorem F5 {ord:List Nat} {i k:Nat} (h:idx ord i=some k):ord[k]? = some i:=by
 induction ord generalizing k with
 |nil=>simp[idx] at h
 |cons j ord ih=>
  simp only[idx] at h
  cases hb:bj i j with
  |true=>simp only[hb,cond_true,dq] at h;subst h;rw[bx hb];rfl
  |false=>
   simp only[hb,cond_false,im] at h
   obtain⟨k',h1,rfl⟩:=h
   exact ih h1
def Gh.pack (g:Gh) (ord:List Nat):Gh where
 bL k:=(ord[k]?).bind g.bL
 lo k:=match ord[k]? with | some i=>g.lo i | none=>0
 hi k:=match ord[k]? with | some i=>g.hi i | none=>0
 pure:=g.pure
theorem dn.pack (g:Gh) (ord:List Nat):dn (idx ord) g (g.pack ord):=
 ⟨fun i k h=>by have:=F5 h;simp[Gh.pack,this],rfl⟩
theorem jI {m:Mem} {ord:List Nat} {k:Nat} {b:aN} (h:(pack m ord)[k]? = some b) : ∃i,ord[k]? = some i∧b=fq (idx ord) (m.getD i .dead):=by
 simp only[pack,fe,im] at h
 obtain⟨i,h1,h2⟩:=h
 exact⟨i,h1,h2.symm⟩
theorem EH {m:Mem} {i:Nat} {l:List AV} (h:(m.getD i .dead).cells?=some l):m[i]? = some (m.getD i .dead):=
 getD_some rfl fun e=>by rw[e] at h;cases h
theorem yQ {m:Mem} {i:Nat} (h:(m.getD i .dead).cP=true):m[i]? = some (m.getD i .dead):=
 getD_some rfl fun e=>by rw[e] at h;cases h
theorem HG {l:List Nat} (h:l.Nodup) {j k i:Nat} (hj:l[j]? = some i) (hk:l[k]? = some i):j=k:=by
 obtain⟨a,ha⟩:=ee.1 hj
 obtain⟨b,hb⟩:=ee.1 hk
 rcases Nat.lt_trichotomy j k with q | q | q
 · exact absurd (ha.trans hb.symm) (vj.1 h j k a b q)
 · exact q
 · exact absurd (hb.trans ha.symm) (vj.1 h k j b a q)
theorem Rel.pack {g:Gh} {m:Mem} {w:World} (h:Rel g m w) {ord:List Nat} (hnd:ord.Nodup) :
  Rel (g.pack ord) (Am.pack m ord) w∧(∀c,fP (g.pack ord) (Am.pack m ord) c→fP g m c):=by
 have own : ∀k b c,(Am.pack m ord)[k]? = some b→b.cP=true→(g.pack ord).bL k=some c → ∃i,ord[k]? = some i∧m[i]? = some (m.getD i .dead)∧(m.getD i .dead).cP=true∧g.bL i=some c:=by
  intro k b c hk ho hc
  obtain⟨i,h1,rfl⟩:=jI hk
  rw[kQ] at ho
  exact⟨i,h1,yQ ho,ho,by simpa[Gh.pack,h1] using hc⟩
 refine⟨⟨fun k hk=> ?_,fun k hk=> ?_,fun k b l hk hl=> ?_,fun k c hk hc=> ?_,fun j k b b' c hj hk ho ho' hc eB=> ?_,h.there,fun k ob l hk=> ?_⟩,fun c ho=> ?_⟩
 · have:ord[k]? = none:=ei (by simpa[Am.pack] using hk)
   simp[Gh.pack,this]
 · obtain⟨i,h1,h2⟩:=jI hk
   have h2:=rC h2.symm
   have:=h.free i (getD_some h2 (by simp))
   simp[Gh.pack,h1,this]
 · obtain⟨i,h1,rfl⟩:=jI hk
   obtain⟨l0,h2,rfl⟩:=va hl
   obtain⟨c,cs,e,n,k1,k2,k3,k4,k5⟩:=h.cells i _ _ (EH h2) h2
   exact⟨c,cs,e,n,by simpa[Gh.pack,h1] using k1,k2,k3,⟨k4.1.iI (dn.pack g ord),k4.2⟩,k5⟩
 · obtain⟨i,h1,h2⟩:=jI hk
   have h2:=Cl h2.symm
   have hc:g.bL i=some c:=by simpa[Gh.pack,h1] using hc
   have:=h.tok i c (getD_some h2 (by simp)) hc
   simpa[Gh.pack,h1] using this
 · obtain⟨i,h1,h2,h3,h4⟩:=own j b c hj ho hc
   obtain⟨i',h1',h2',h3',h4'⟩:=own k b' c hk ho' eB
   have:=h.inj i i' _ _ c h2 h2' h3 h3' h4 h4'
   subst this
   exact HG hnd h1 h1'
 · obtain⟨i,h1,h2⟩:=jI hk
   obtain⟨l0,h3,hl0⟩:=F4 h2.symm
   obtain⟨c,o,vs,k1,k2,k3,k4,k5,k6⟩:=h.obs i ob l0 (getD_some h3 (by simp))
   exact⟨c,o,vs,by simpa[Gh.pack,h1] using k1,k2,k3.Ro (dn.pack g ord) hl0,k4,k5,by simpa[Gh.pack,h1] using k6⟩
 · obtain⟨k,b,hk,ho,hc⟩:=ho
   obtain⟨i,_,h2,h3,h4⟩:=own k b c hk ho hc
   exact⟨i,_,h2,h3,h4⟩
theorem F6 {l:List Nat} {i:Nat}:has l i=true↔i∈l:=by
 induction l with
 |nil=>simp[has]
 |cons j l ih=>
  simp only[has]
  cases hb:bj j i with
  |true=>simp[bx hb]
  |false=>
   have:j≠i:=fun e=>by subst e;simp[tp] at hb
   simp[ih,Ne.symm this]
theorem dQ : ∀(l ord:List Nat),ord.Nodup→(hJ ord l).Nodup ∧ ∃t,hJ ord l=ord++t
 |[],ord,h=>⟨h,[],by simp[hJ]⟩
 |i::l,ord,h=>by
  simp only[hJ]
  cases hb:has ord i with
  |true=>exact dQ l ord h
  |false=>
   have hni:i∉ord:=fun k=>by rw[F6.2 k] at hb;cases hb
   obtain⟨h1,t,h2⟩:=dQ l (ord++[i]) (wc.2 ⟨h,by simp,fun a ha b hb=>by simp at hb;subst hb;exact fun e=>hni (e▸ha)⟩)
   exact⟨h1,i::t,by simp only[cond_false,h2,vt,List.singleton_append]⟩
theorem lP (m:Mem) : ∀(f:Nat) (ord:List Nat) (k:Nat),ord.Nodup→(reach m f ord k).Nodup ∧ ∃t,reach m f ord k=ord++t
 |0,ord,_,h=>⟨h,[],by simp[reach]⟩
 |f+1,ord,k,h=>by
  simp only[reach]
  cases hk:ord[k]? with
  |none=>exact⟨h,[],by simp⟩
  |some i=>
   obtain⟨h1,t,h2⟩:=dQ (yx (m.getD i .dead)) ord h
   obtain⟨h3,t',h4⟩:=lP m f (hJ ord (yx (m.getD i .dead))) (k+1) h1
   refine⟨h3,t++t',?_⟩
   show reach m f (hJ ord (yx (m.getD i .dead))) (k+1)=_
   rw[h4,h2,vt]
theorem iO : ∀n,(upTo n).length=n
 |0=>rfl
 |n+1=>by simp[upTo,iO n]
theorem vc : ∀(n k:Nat),k<n→(upTo n)[k]? = some k
 |0,_,h=>absurd h (tz _)
 |n+1,k,h=>by
  simp only[upTo,vz,iO]
  by_cases hk:k<n
  · rw[if_pos hk,vc n k hk]
  · have:k=n:=by omega
    subst this;simp
theorem Kp {n i:Nat} (h:i∈upTo n):i<n:=by
 induction n with
 |zero=>simp[upTo] at h
 |succ n ih=>
  simp only[upTo,List.mem_append,List.mem_singleton] at h
  rcases h with h | rfl
  · have:=ih h;omega
  · omega
theorem jJ : ∀n,(upTo n).Nodup
 |0=>by simp[upTo]
 |n+1=>wc.2 ⟨jJ n,by simp,fun a ha b hb=>by simp at hb;subst hb;have:=Kp ha;omega⟩
theorem eR (m:Mem) (fix:Nat) (vs:List AV):(close m fix vs).Nodup ∧ ∀k,k<fix→(close m fix vs)[k]? = some k:=by
 obtain⟨h1,t,h2⟩:=dQ (gY vs) (upTo fix) (jJ fix)
 obtain⟨h3,t',h4⟩:=lP m (m.length+1) (hJ (upTo fix) (gY vs)) 0 h1
 refine⟨h3,fun k hk=> ?_⟩
 unfold close
 rw[h4,h2,vt,List.getElem?_append_left (by rw[iO];exact hk),vc fix k hk]
end Go.Am
end
section
namespace Go.Am
open Go.RowKit
theorem fL : ∀{l:List Nat} {n:Nat},iJ l n=true → ∀i∈l,i<n
 |[],_,_,_,h=>by cases h
 |j::l,n,h,i,hi=>by
  simp only[iJ,Bool.and_eq_true] at h
  cases hi with
  |head=>simpa[hC] using h.1
  |tail _ hi=>exact fL h.2 i hi
theorem sF (ρ:Nat→Option Nat) : ∀(ord:List Nat) (m1 m:Mem),ord.Nodup→(∀i∈ord,i<m.length)→ord.length≤m1.length → ∀(i:Nat) (b:aN),(dj ρ ord m1 m)[i]? = some b →
  (i<m.length∧i∉ord∧m[i]? = some b)∨(∃(k:Nat) (b1:aN),ord[k]? = some i∧m1[k]? = some b1∧b=fq ρ b1)∨(m.length≤i ∧ ∃b1:aN,m1[ord.length+(i-m.length)]? = some b1∧b=fq ρ b1)
 |[],m1,m,_,_,_,i,b,h=>by
  simp only[dj,vz] at h
  by_cases hi:i<m.length
  · rw[if_pos hi] at h;exact .inl ⟨hi,by simp,h⟩
  · rw[if_neg hi,fe,im] at h
    obtain⟨b1,h1,h2⟩:=h
    exact .inr (.inr ⟨by omega,b1,by simpa using h1,h2.symm⟩)
 |j::ord,[],m,_,_,hl,_,_,_=>by simp at hl
 |j::ord,b0::m1,m,hnd,hlt,hl,i,b,h=>by
  simp only[dj] at h
  have EI:=xf.1 hnd
  rcases sF ρ ord m1 (m.set j (fq ρ b0)) EI.2 (fun i hi=>by simpa using hlt i (.tail _ hi)) (by simpa using hl) i b h with⟨h1,h2,h3⟩ | ⟨k,b1,h1,h2,h3⟩ | ⟨h1,b1,h2,h3⟩
  · rw[ek] at h1
    rcases aD h3 with⟨rfl,e⟩ | ⟨hne,e⟩
    · exact .inr (.inl ⟨0,b0,rfl,rfl,e⟩)
    · exact .inl ⟨h1,fun hm=>by cases hm with
       |head=>exact hne rfl
       |tail _ hm=>exact h2 hm,e⟩
  · exact .inr (.inl ⟨k+1,b1,h1,h2,h3⟩)
  · rw[ek] at h1 h2
    exact .inr (.inr ⟨h1,b1,by rw[show(j::ord).length+(i-m.length)=(ord.length+(i-m.length))+1 by simp;omega];exact h2,h3⟩)
theorem dW (ρ:Nat→Option Nat) : ∀(ord:List Nat) (m1 m:Mem),ord.length≤m1.length→(dj ρ ord m1 m).length=m.length+(m1.length-ord.length)
 |[],m1,m,_=>by simp[dj]
 |_::_,[],_,h=>by simp at h
 |j::ord,b::m1,m,h=>by
  simp only[dj]
  rw[dW ρ ord m1 _ (by simpa using h)]
  simp
theorem oO : ∀{ord:List Nat} {k i:Nat},ord.Nodup→ord[k]? = some i→idx ord i=some k
 |[],_,_,_,h=>by simp at h
 |j::ord,0,i,_,h=>by
  simp only[List.getElem?_cons_zero,dq] at h;subst h
  simp[idx,tp]
 |j::ord,k+1,i,hnd,h=>by
  have EI:=xf.1 hnd
  simp only[List.getElem?_cons_succ] at h
  have hne:bj i j=false:=by
   rw[Bool.eq_false_iff];intro e
   have:=bx e
   subst this
   exact EI.1 (oi h)
  simp[idx,hne,oO EI.2 h]
theorem Cm {ord:List Nat} {i:Nat} (h:i∉ord):idx ord i=none:=by
 cases hq:idx ord i with
 |none=>rfl
 |some k=>exact absurd (oi (F5 hq)) h
def Gh.back (g g1:Gh) (ord:List Nat) (n:Nat):Gh where
 bL i:=match idx ord i with | some k=>g1.bL k | none=>if i<n then g.bL i else g1.bL (ord.length+(i-n))
 lo i:=match idx ord i with | some k=>g1.lo k | none=>if i<n then g.lo i else g1.lo (ord.length+(i-n))
 hi i:=match idx ord i with | some k=>g1.hi k | none=>if i<n then g.hi i else g1.hi (ord.length+(i-n))
 pure:=g1.pure
def bO (g g':Gh) (n:Nat):Prop:= ∀k c,k<n→g.bL k=some c→g'.bL k=some c∧g'.lo k=g.lo k∧g'.hi k=g.hi k
theorem bO.refl (g:Gh) (n:Nat):bO g g n:=fun _ _ _ h=>⟨h,rfl,rfl⟩
theorem bO.trans {g g' g'':Gh} {n:Nat} (h:bO g g' n) (k:bO g' g'' n):bO g g'' n:=fun i c hi hc=>
 let⟨h1,h2,h3⟩:=h i c hi hc
 let⟨k1,k2,k3⟩:=k i c hi h1
 ⟨k1,k2.trans h2,k3.trans h3⟩
theorem bO.qa {g g':Gh} {w w':World} (h:Ext g w g' w') (n:Nat):bO g g' n:=fun i c _ hc=>h.bL i c hc
theorem Rel.back {g kI:Gh} {m HH:Mem} {w w':World} (h:Rel g m w) {ord:List Nat} (hnd:ord.Nodup) (hlt : ∀i∈ord,i<m.length)
  (h1:Rel kI HH w') (hs:dm (g.pack ord) (Am.pack m ord) w kI HH w') (hf:bO (g.pack ord) kI ord.length) (hl:ord.length≤HH.length) :
  Rel (g.back kI ord m.length) (dj (bC ord m.length) ord HH m) w'∧Ext g w (g.back kI ord m.length) w'∧dm g m w (g.back kI ord m.length) (dj (bC ord m.length) ord HH m) w' ∧
   dn (bC ord m.length) kI (g.back kI ord m.length):=by
 obtain⟨Kq,Kr⟩:=h.pack hnd
 have F7 : ∀k i,ord[k]? = some i→i<m.length∧k<ord.length∧(g.back kI ord m.length).bL i=kI.bL k∧(g.back kI ord m.length).lo i=kI.lo k∧(g.back kI ord m.length).hi i=kI.hi k:=by
  intro k i hk
  have hx:=oO hnd hk
  exact⟨hlt i (oi hk),bG hk,by simp only[Gh.back,hx],by simp only[Gh.back,hx],by simp only[Gh.back,hx]⟩
 have EJ : ∀i,i∉ord→i<m.length→(g.back kI ord m.length).bL i=g.bL i∧(g.back kI ord m.length).lo i=g.lo i∧(g.back kI ord m.length).hi i=g.hi i:=by
  intro i hi hlt
  have hx:=Cm hi
  simp only[Gh.back,hx,hlt,if_true,and_self]
 have Of : ∀i,m.length≤i→(g.back kI ord m.length).bL i=kI.bL (ord.length+(i-m.length))∧(g.back kI ord m.length).lo i=kI.lo (ord.length+(i-m.length))∧(g.back kI ord m.length).hi i=kI.hi (ord.length+(i-m.length)):=by
  intro i hi
  have hx:=Cm (ord:=ord) (i:=i) fun hm=>by have:=hlt i hm;omega
  simp only[Gh.back,hx,ua.2 hi,if_false,and_self]
 have lQ:dn (bC ord m.length) kI (g.back kI ord m.length):=by
  refine⟨fun j k hj=> ?_,rfl⟩
  unfold bC at hj
  cases ho:ord[j]? with
  |some i=>
   simp only[ho,dq] at hj;subst hj
   exact(F7 j i ho).2.2
  |none=>
   simp only[ho,dq] at hj;subst hj
   have:ord.length≤j:=List.getElem?_eq_none_iff.1 ho
   have e:ord.length+(m.length+(j-ord.length)-m.length)=j:=by omega
   have:=Of (m.length+(j-ord.length)) (by omega)
   rwa [e] at this
 have R6:Ext g w (g.back kI ord m.length) w':=by
  refine⟨fun i c hc=> ?_,fun c o p=>hs.pure c o p⟩
  have hi:i<m.length:=by
   rcases Nat.lt_or_ge i m.length with q | q
   · exact q
   · rw[h.sw i q] at hc;cases hc
  by_cases hm:i∈ord
  · obtain⟨k,hk1,hk2⟩:=List.getElem_of_mem hm
    have hk:ord[k]? = some i:=by rw[List.getElem?_eq_getElem hk1,hk2]
    obtain⟨_,_,e1,e2,e3⟩:=F7 k i hk
    obtain⟨f1,f2,f3⟩:=hf k c hk1 (by simpa[Gh.pack,hk] using hc)
    rw[e1,e2,e3,f1,f2,f3]
    simp[Gh.pack,hk]
  · obtain⟨e1,e2,e3⟩:=EJ i hm hi
    exact⟨e1.trans hc,e2,e3⟩
 have mZ : ∀i b c,i∉ord→m[i]? = some b→b.cP=true→g.bL i=some c → ¬fP (g.pack ord) (Am.pack m ord) c:=by
  intro i b c hi hb ho hc hO
  obtain⟨k,b',hk,ho',eB⟩:=hO
  obtain⟨i',q1,rfl⟩:=jI hk
  rw[kQ] at ho'
  have eB:g.bL i'=some c:=by simpa[Gh.pack,q1] using eB
  have:=h.inj i i' _ _ c hb (yQ ho') ho ho' hc eB
  subst this
  exact hi (oi q1)
 have AG : ∀i b c,i∉ord→m[i]? = some b→b.cP=true→g.bL i=some c → ∀o,kI.pure c o→g.pure c o:=by
  intro i b c hi hb ho hc o p
  rcases hs.fresh c o p with q | q | q
  · exact q
  · exact absurd q (mZ i b c hi hb ho hc)
  · exact absurd (h.kL ⟨i,b,hb,ho,hc⟩) (ua.2 q)
 have get:=sF (bC ord m.length) ord HH m hnd hlt hl
 have R7 : ∀i b c,(dj (bC ord m.length) ord HH m)[i]? = some b→b.cP=true→(g.back kI ord m.length).bL i=some c →
   (i∉ord∧m[i]? = some b∧g.bL i=some c)∨(∃k b1,bC ord m.length k=some i∧HH[k]? = some b1∧b1.cP=true∧kI.bL k=some c):=by
  intro i b c hi ho hc
  rcases get i b hi with⟨q1,q2,q3⟩ | ⟨k,b1,q1,q2,rfl⟩ | ⟨q1,b1,q2,rfl⟩
  · exact .inl ⟨q2,q3,by rw[(EJ i q2 q1).1] at hc;exact hc⟩
  · rw[kQ] at ho
    exact .inr ⟨k,b1,by simp[bC,q1],q2,ho,by rw[(F7 k i q1).2.2.1] at hc;exact hc⟩
  · rw[kQ] at ho
    rw[(Of i q1).1] at hc
    have hn:ord[ord.length+(i-m.length)]? = none:=ei (by omega)
    refine .inr ⟨_,b1,?_,q2,ho,hc⟩
    simp only[bC,hn,dq];omega
 refine⟨⟨fun i hi=> ?_,fun i hi=> ?_,fun i b l hi hb=> ?_,fun i c hi hc=> ?_,fun i j b b' c hi hj ho ho' hc eB=> ?_,h1.there,fun i ob l hi=> ?_⟩,R6,⟨hs.size,fun c hc hn=>hs.keep c hc fun ho=>hn (Kr c ho),hs.pure,fun c o p=> ?_,fun c ho=> ?_,hs.os,hs.tape,hs.output⟩,lQ⟩
 · rw[dW _ _ _ _ hl] at hi
   rw[(Of i (by omega)).1]
   exact h1.sw _ (by omega)
 · rcases get i _ hi with⟨q1,q0,q3⟩ | ⟨k,b1,q1,q2,q3⟩ | ⟨q1,b1,q2,q3⟩
   · rw[(EJ i q0 q1).1];exact h.free i q3
   · have q3:=rC q3.symm
     subst q3
     rw[(F7 k i q1).2.2.1];exact h1.free k q2
   · have q3:=rC q3.symm
     subst q3
     rw[(Of i q1).1];exact h1.free _ q2
 · have back : ∀k b1,bC ord m.length k=some i→HH[k]? = some b1→b=fq (bC ord m.length) b1 →
    ∃c cs e n,(g.back kI ord m.length).bL i=some c∧w'.heap[c]? = some (.cells cs e n)∧n.2≤n.1∧Ej (g.back kI ord m.length) w' l cs.toList ∧ ∀o,¬(g.back kI ord m.length).pure c o:=by
    rintro k b1 hk Kn rfl
    obtain⟨l0,q,rfl⟩:=va hb
    obtain⟨c,cs,e,n,k1,k2,k3,k4,k5⟩:=h1.cells k b1 l0 Kn q
    exact⟨c,cs,e,n,(lQ.at' k i hk).1.trans k1,k2,k3,⟨k4.1.iI lQ,k4.2⟩,k5⟩
   rcases get i _ hi with⟨q1,q2,q3⟩ | ⟨k,b1,q1,q2,q3⟩ | ⟨q1,b1,q2,q3⟩
   · obtain⟨c,cs,e,n,k1,k2,k3,k4,k5⟩:=h.cells i b l q3 hb
     have ho:=cT hb
     exact⟨c,cs,e,n,(EJ i q2 q1).1.trans k1,(hs.keep c (bQ k2) (mZ i b c q2 q3 ho k1)).trans k2,k3,k4.mono R6,fun o p=>k5 o (AG i b c q2 q3 ho k1 o p)⟩
   · exact back k b1 (by simp[bC,q1]) q2 q3
   · have hn:ord[ord.length+(i-m.length)]? = none:=ei (by omega)
     exact back _ b1 (by simp only[bC,hn,dq];omega) q2 q3
 · have back : ∀k b1,bC ord m.length k=some i→HH[k]? = some b1→aN.tok=fq (bC ord m.length) b1 →
    ∃cs e n,w'.heap[c]? = some (.cells cs e n)∧(g.back kI ord m.length).hi i≤cs.size∧(n.2≤n.1∨(g.back kI ord m.length).hi i≤n.1) ∧ ∀o,(g.back kI ord m.length).lo i≤o→o<(g.back kI ord m.length).hi i → ¬(g.back kI ord m.length).pure c o:=by
    intro k b1 hk Kn hq
    have hq:=Cl hq.symm
    subst hq
    obtain⟨e1,e2,e3⟩:=lQ.at' k i hk
    rw[e2,e3]
    rw[e1] at hc
    exact h1.tok k c Kn hc
   rcases get i _ hi with⟨q1,q2,q3⟩ | ⟨k,b1,q1,q2,q3⟩ | ⟨q1,b1,q2,q3⟩
   · obtain⟨e0,e2,e1⟩:=EJ i q2 q1
     have hc:g.bL i=some c:=e0.symm.trans hc
     obtain⟨cs,e,n,k2,k3,k4,k5⟩:=h.tok i c q3 hc
     rw[e1,e2]
     exact⟨cs,e,n,(hs.keep c (bQ k2) (mZ i _ c q2 q3 rfl hc)).trans k2,k3,k4,fun o a b p=>k5 o a b (AG i _ c q2 q3 rfl hc o p)⟩
   · exact back k b1 (by simp[bC,q1]) q2 q3
   · have hn:ord[ord.length+(i-m.length)]? = none:=ei (by omega)
     exact back _ b1 (by simp only[bC,hn,dq];omega) q2 q3
 · have apart : ∀i b,i∉ord→m[i]? = some b→b.cP=true→g.bL i=some c → ∀k b1,HH[k]? = some b1→b1.cP=true→kI.bL k=some c→False:=by
    intro i b q2 q3 ho hc k b1 hk ho1 fQ
    rcases hs.owned c ⟨k,b1,hk,ho1,fQ⟩ with q | q
    · exact mZ i b c q2 q3 ho hc q
    · exact absurd (h.kL ⟨i,b,q3,ho,hc⟩) (ua.2 q)
   rcases R7 i b c hi ho hc with⟨p1,p2,p3⟩ | ⟨k,b1,p1,p2,p3,p4⟩<;>rcases R7 j b' c hj ho' eB with⟨q1,q2,q3⟩ | ⟨k',b1',q1,q2,q3,q4⟩
   · exact h.inj i j b b' c p2 q2 ho ho' p3 q3
   · exact(apart i b p1 p2 ho p3 k' b1' q2 q3 q4).elim
   · exact(apart j b' q1 q2 ho' q3 k b1 p2 p3 p4).elim
   · have:=h1.inj k k' b1 b1' c p2 q2 p3 q3 p4 q4
     subst this
     rw[p1] at q1;exact dt q1
 · have back : ∀k b1,bC ord m.length k=some i→HH[k]? = some b1→aN.ob ob l=fq (bC ord m.length) b1 →
    ∃c o vs,(g.back kI ord m.length).bL i=some c∧w'.heap[c]? = some o∧cY (g.back kI ord m.length) w' l vs∧ob.is o vs∧(∀o',¬(g.back kI ord m.length).pure c o')∧ob.room o ((g.back kI ord m.length).hi i):=by
    intro k b1 hk Kn hq
    obtain⟨l0,rfl,hl0⟩:=F4 hq.symm
    obtain⟨c,o,vs,k1,k2,k3,k4,k5,k6⟩:=h1.obs k ob l0 Kn
    exact⟨c,o,vs,(lQ.at' k i hk).1.trans k1,k2,k3.Ro lQ hl0,k4,k5,by rw[(lQ.at' k i hk).2.2];exact k6⟩
   rcases get i _ hi with⟨q1,q2,q3⟩ | ⟨k,b1,q1,q2,q3⟩ | ⟨q1,b1,q2,q3⟩
   · obtain⟨c,o,vs,k1,k2,k3,k4,k5,k6⟩:=h.obs i ob l q3
     exact⟨c,o,vs,(EJ i q2 q1).1.trans k1,(hs.keep c (bQ k2) (mZ i _ c q2 q3 rfl k1)).trans k2,k3.mono R6,k4,fun o' p=>k5 o' (AG i _ c q2 q3 rfl k1 o' p),by rw[(EJ i q2 q1).2.2];exact k6⟩
   · exact back k b1 (by simp[bC,q1]) q2 q3
   · have hn:ord[ord.length+(i-m.length)]? = none:=ei (by omega)
     exact back _ b1 (by simp only[bC,hn,dq];omega) q2 q3
 · rcases hs.fresh c o p with q | q | q
   · exact .inl q
   · exact .inr (.inl (Kr c q))
   · exact .inr (.inr q)
 · obtain⟨i,b,hi,hb,hc⟩:=ho
   rcases R7 i b c hi hb hc with⟨_,p2,p3⟩ | ⟨k,b1,p1,p2,p3,p4⟩
   · exact .inl ⟨i,b,p2,hb,p3⟩
   · rcases hs.owned c ⟨k,b1,p2,p3,p4⟩ with q | q
     · exact .inl (Kr c q)
     · exact .inr q
end Go.Am
end
section
namespace Go.Am
open Go.RowKit
def er:It→List Item
 |.code _ c=>[.code c]
 |.ops _ ops k _=>[.inRegion ops (xb k (ops.size-k))]
 |.inBlock id=>[.inBlock id]
 |.inLoop _ b=>[.inLoop b]
 |.inScope b=>[.inScope b]
 |.forget _=>[]
 |.fin=>[]
 |.begin=>[.beginRound]
 |.xB _=>[]
 |.gM _=>[]
 |.leave=>[]
def It.pl:It→Prop
 |.fin | .xB _ | .gM _ | .leave=>False
 |_=>True
def dR:List It→List Item
 |[]=>[]
 |x::k=>er x++dR k
def fR (E:Env) (g:Gh) (w:World):Prop:= ∀i cs,E.dS i=some cs→VP g w (.pp 0 cs) (.pointer (some ⟨i,0,none⟩))
theorem fR.mono {E:Env} {g g':Gh} {w w':World} (h:fR E g w) (e : ∀c o,g.pure c o→g'.pure c o∧w'.cell? ⟨c,o,none⟩=w.cell? ⟨c,o,none⟩):fR E g' w':=fun i cs hi=>(h i cs hi).mono e
structure cA (E:Env) (g:Gh) (st:St) (a:Act) (w:World):Prop where
 tm : ∀k,VA g w (look st.tm k) (a.tmps.getD k undef)
 nt:a.tmps.size=st.nt
 rel:Rel g st.mem w
 fix:st.fix≤st.mem.length
 dS:fR E g w
def eA (g:Gh) (r:Rk) (b:Frame):Prop:=match r with
 |.call=>b.kind = .normal∧b.roundOf=none
 |.round i=>b.kind = .normal ∧ ∃l,g.bL i=some l∧b.roundOf=some l
 |.late=>b.kind = .deferred∧b.roundOf=none
theorem eA.ext {g g':Gh} (e : ∀i c,g.bL i=some c→g'.bL i=some c) {r:Rk} {b:Frame} (h:eA g r b):eA g' r b:=by
 cases r with
 |call=>exact h
 |late=>exact h
 |round i=>
  obtain⟨h1,l,q1,q2⟩:=h
  exact⟨h1,l,e i l q1,q2⟩
theorem eA.AH {g:Gh} {r:Rk} {b:Frame} (h:eA g r b) (hn : ∀i,r ≠ .round i):b.roundOf=none:=by
 cases r with
 |call=>exact h.2
 |late=>exact h.2
 |round i=>exact absurd rfl (hn i)
def ZO (g:Gh) (l:List (Nat×Nat)) (cs:List Value):Prop:=bI (fun q v=> ∃c,g.bL q.1=some c∧v = .pointer (some ⟨c,q.2,none⟩)) l cs
def Mark.Ok (g:Gh):Mark→Deferred→Prop
 |.range b,d=> ∃D,g.bL b=some D∧d={target:= .collected D,args:= #[]}
 |.late f l m,d=> ∃fa ca:Array Value,ZO g l fa.toList∧ZO g m ca.toList∧d={target:= .fn (.func f) ca,args:=fa}
theorem Mark.Ok.ext {g g':Gh} (e : ∀i c,g.bL i=some c→g'.bL i=some c) {mk:Mark} {d:Deferred} (h:mk.Ok g d):mk.Ok g' d:=by
 cases mk with
 |range b=>
  obtain⟨D,q1,q2⟩:=h
  exact⟨D,e _ D q1,q2⟩
 |late f l m=>
  obtain⟨fa,ca,q1,q2,q3⟩:=h
  exact⟨fa,ca,bI.mono (fun _ _ ⟨c,k1,k2⟩=>⟨c,e _ c k1,k2⟩) q1,bI.mono (fun _ _ ⟨c,k1,k2⟩=>⟨c,e _ c k1,k2⟩) q2,q3⟩
def Mk (g:Gh) (mk:List Mark) (ds:List Deferred):Prop:=bI (fun b d=>b.Ok g d) mk ds
theorem Mk.ext {g g':Gh} (e : ∀i c,g.bL i=some c→g'.bL i=some c) {mk:List Mark} {ds:List Deferred} (h:Mk g mk ds):Mk g' mk ds:=
 bI.mono (fun _ _ q=>q.ext e) h
def Ks (P:Program) (r:Rk) (fr:Frame) (w:World) (cv:Value) (w2:World):Prop:=match r with
 |.call=>fr.leaving P w (.returned cv)∧w2=w
 |.late=>(fr.going P w (.returned cv)∧fr.kind = .deferred)∧w2=w
 |.round _=> ∀(c:Frame) (cs:List Frame),Steps P (lone fr (c::cs) w) (lone (c.finish cv) cs w2)
def cU:Option Value→Bool→FrameMode
 |none,_=> .returning
 |some v,b=> .panicking [{v:=v,recovered:=b}]
def dA (P:Program) (E:Env) (g:Gh) (c:cg) (fr:Frame) (w:World):Prop:=
 match c.todo with
 |.fin::_=>fr.fn=c.f ∧ ∃cv w2,Ks P c.st.bZ fr w cv w2∧VA g w2 (look c.st.tm 0) cv∧Rel g c.st.mem w2∧dm g c.st.mem w g c.st.mem w2∧c.st.fix≤c.st.mem.length
 |.xB u::_=>fr.fn=c.f ∧ ∃cv,fr.leaving P w (.panicked [{v:=cv,recovered:=false}])∧VA g w u cv∧Rel g c.st.mem w∧c.st.fix≤c.st.mem.length
 |.gM u::_=> ∃(b:Frame) (a:Act) (todo:List Item) (cv:Value),fr={b.atR a todo with mode:=cU (some cv) false}∧b.fn=c.f∧eA g c.st.bZ b∧Mk g c.st.cJ a.defers∧cA E g c.st a w∧VA g w u cv
 |.leave::_=> ∃(b:Frame) (a:Act) (todo:List Item),fr={b.atR a todo with mode:= .returning}∧b.fn=c.f∧eA g c.st.bZ b∧(∀i,c.st.bZ ≠ .round i)∧c.st.cJ=[]∧a.defers=[]∧cA E g c.st a w
 |_=> ∃(b:Frame) (a:Act),fr=b.atR a (dR c.todo)∧b.fn=c.f∧eA g c.st.bZ b∧Mk g c.st.cJ a.defers∧cA E g c.st a w ∧ ∀x∈c.todo,It.pl x
def eG (P:Program) (E:Env) (g:Gh) (c:cg) (fr:Frame) (w:World) (c':cg):Prop:=
 ∀cs,∃g' fr' w',Steps P (lone fr cs w) (lone fr' cs w')∧dA P E g' c' fr' w'∧dm g c.st.mem w g' c'.st.mem w'∧bO g g' c.st.fix∧c'.f=c.f∧c'.st.fix=c.st.fix∧c'.st.bZ=c.st.bZ
def au (P:Program) (E:Env) (f:FuncId) (args:List AV) (m:Mem) (v:AV) (m':Mem):Prop:=
 (∃fn,P.funcs[f]? = some fn∧fn.body.isSome=true∧(fn.name == "runtime.NumGoroutine")=false) ∧
 ∀(g:Gh) (w:World) (cV:Array Value) (cs:List Frame),Rel g m w→cY g w args cV.toList→fR E g w →
  ∃w' g' cv fr,Steps P (lone (xn P f cV .normal) cs w) (lone fr cs w')∧fr.leaving P w' (.returned cv)∧fr.fn=f ∧
   VA g' w' v cv∧Rel g' m' w'∧dm g m w g' m' w'∧bO g g' m.length∧m.length≤m'.length
def Kt (P:Program) (E:Env) (f:FuncId) (args:List AV) (m:Mem) (v:AV) (m':Mem):Prop:=
 (∃fn,P.funcs[f]? = some fn∧fn.body.isSome=true∧(fn.name == "runtime.NumGoroutine")=false) ∧
 ∀(g:Gh) (w:World) (cV:Array Value) (cs:List Frame),Rel g m w→cY g w args cV.toList→fR E g w →
  ∃w' g' cv fr,Steps P (lone (xn P f cV .normal) cs w) (lone fr cs w')∧fr.leaving P w' (.panicked [{v:=cv,recovered:=false}])∧fr.fn=f ∧
   VA g' w' v cv∧Rel g' m' w'∧dm g m w g' m' w'∧bO g g' m.length∧m.length≤m'.length
def Ku (g:Gh) (w:World):Option AV→Option Value→Prop
 |none,none=>True
 |some u,some v=>VA g w u v
 |_,_=>False
def Kv (P:Program) (E:Env) (f:FuncId) (args:List AV) (m:Mem) (pv:Option AV) (m':Mem):Prop:=
 (∃fn,P.funcs[f]? = some fn∧fn.body.isSome=true∧(fn.name == "runtime.NumGoroutine")=false) ∧
 ∀(g:Gh) (w:World) (cV:Array Value) (qb:Option Value) (c0:Frame) (cs:List Frame),c0.mode=cU qb false→Ku g w pv qb→Rel g m w→cY g w args cV.toList→fR E g w →
  ∃w' g' cv fr,Steps P (lone (xn P f cV .deferred) (c0::cs) w) (lone fr ({c0 with mode:=cU qb true}::cs) w')∧fr.going P w' (.returned cv)∧fr.kind = .deferred ∧
   Rel g' m' w'∧dm g m w g' m' w'∧bO g g' m.length∧m.length≤m'.length
def F8 (P:Program) (E:Env) (args:List AV) (m:Mem) (v:AV) (m':Mem):Prop:=
 ∀(g:Gh) (w:World) (i l:Nat) (xs:List AV) (Og:Array Value) (c:Frame) (cs:List Frame),args = .vy i::xs→Rel g m w→g.bL i=some l→cY g w xs Og.toList→fR E g w →
  ∃f tmps as bd w' g' cv,(Instr.yield l Og).run P w = .ok (.round l f tmps as bd) w∧Steps P (lone (Frame.round l f tmps as bd .normal) (c::cs) w) (lone (c.finish cv) cs w') ∧
   VA g' w' v cv∧Rel g' m' w'∧dm g m w g' m' w'∧bO g g' m.length∧m.length≤m'.length
section
variable {P:Program} {E:Env} {g:Gh} {w:World}
theorem fV {st:St} {a:Act} (h:cA E g st a w) (x:Operand):VA g w (ev E st.tm x) (a.eval x):=by
 cases x with
 |tmp t=>exact h.tm t
 |const v=>exact VA.Rh v
 |global i=>
  simp only[ev,Act.eval]
  cases hg:E.dS i with
  |none=>exact .p _ _ (.sc _)
  |some cs=>exact .p _ _ (h.dS i cs hg)
 |func f=>exact VA.fns.2 ⟨#[],#[],rfl,trivial,trivial⟩
theorem jt (tm:qK) (d k:Nat) (v:AV):look ((d,v)::tm) k=if d=k then v else look tm k:=by
 simp only[look]
 by_cases h:d=k
 · subst h;simp[tp]
 · have:bj d k=false:=by rw[Bool.eq_false_iff];intro e;exact h (bx e)
   simp[this,h]
theorem cA.put {st:St} {a:Act} {g':Gh} {w':World} {m':Mem} (h:cA E g st a w) {dst:Option Tmp} {v:AV} {cv:Value} (hf:fits st dst=true) (hv:VA g' w' v cv) (he:Ext g w g' w') (hr:Rel g' m' w') (hx:st.fix≤m'.length) :
  cA E g' (Am.put {st with mem:=m'} dst v) (a.put dst cv) w':=by
 cases dst with
 |none=>exact⟨fun k=>(h.tm k).mono he,h.nt,hr,hx,h.dS.mono he.pure⟩
 |some d=>
  have hd:d<a.tmps.size:=by rw[h.nt];simpa[fits,hC] using hf
  refine⟨fun k=> ?_,by simp[Act.put,Am.put,h.nt],hr,hx,h.dS.mono he.pure⟩
  simp only[Am.put,jt,Act.put]
  by_cases hk:d=k
  · subst hk
    simp only[if_true,xi,Array.getElem?_setIfInBounds_self_of_lt hd,Option.getD_some]
    exact hv
  · simp only[hk,if_false,xi]
    rw[Array.getElem?_setIfInBounds_ne hk,←xi]
    exact(h.tm k).mono he
theorem cA.known {st:St} {a:Act} (h:cA E g st a w) {d:Nat} {v:AV} (hv:VA g w v (a.tmps.getD d undef)):cA E g (Am.put st (some d) v) a w:=by
 refine⟨fun k=> ?_,h.nt,h.rel,h.fix,h.dS⟩
 simp only[Am.put,jt]
 by_cases hk:d=k
 · subst hk;simp only[if_true];exact hv
 · simp only[hk,if_false];exact h.tm k
theorem m0 {k n:Nat} (h:k<n):xb k (n-k)=k::xb (k+1) (n-(k+1)):=by
 rw[show n-k=(n-(k+1))+1 by omega,List.range'_succ]
theorem semAt_eq {o:Oper} {ro:Option Nat} {ρ:Operand→Value} {n:Next} {w':World} (hr:(execOp ρ o).run P w = .ok n w') (hn : ∀d,n ≠ .defer d):o.semAt ro ρ=execOp ρ o:=by
 unfold Oper.semAt
 cases ro with
 |none=>rfl
 |some l=>
  cases ho:o.op<;>first
   |rfl
   |(exfalso
     simp only[execOp,ho,kh] at hr
     revert hr
     cases(resolve ρ _ o.type).run P w<;>intro hr<;>simp[pw] at hr
     exact hn _ hr.1.symm)
theorem qc {b:Frame} {a:Act} {k:List Item} {cs:List Frame} {w':World} {ops:Array Oper} {i:Nat} {rest:List Nat} {o:Oper} {v:Value} (ho:ops[i]? = some o) (hw:xo o (yielded ops a.tmps)=true)
  (hr:(execOp a.eval o).run P w = .ok (.value v) w'∨((execOp a.eval o).run P w = .ok .skip w'∧v=undef)) :
  _root_.Go.step P (lone (b.atR a (.inRegion ops (i::rest)::k)) cs w) = .next (lone (b.atR (a.put o.dst v) (.inRegion ops rest::k)) cs w'):=by
 have hg:=stepGR_op (P:=P) (b:=b) (k:=k) (cs:=cs) (w:=w) (rest:=rest) ho hw
 have m4:(b.atR a (.inRegion ops (i::rest)::k)).finish v=b.atR (a.put o.dst v) (.inRegion ops rest::k):=by rw[Frame.finish_atR,ho];rfl
 refine step_lone_go ?_
 rw[hg,←m4]
 rcases hr with hr | ⟨hr,rfl⟩
 · rw[semAt_eq hr fun _ e=>by cases e];simp[stepG.apply,hr]
 · rw[semAt_eq hr fun _ e=>by cases e];simp[stepG.apply,hr]
theorem oP {b:Frame} {a:Act} {k:List Item} {cs:List Frame} {w':World} {ops:Array Oper} {i:Nat} {rest:List Nat} {o:Oper} {f:FuncId} {args:Array Value} (ho:ops[i]? = some o) (hw:xo o (yielded ops a.tmps)=true)
  (hr:(execOp a.eval o).run P w = .ok (.enter f args) w') :
  _root_.Go.step P (lone (b.atR a (.inRegion ops (i::rest)::k)) cs w) = .next (lone (xn P f args .normal) (b.atR a (.inRegion ops (i::rest)::k)::cs) w'):=by
 have hg:=stepGR_op (P:=P) (b:=b) (k:=k) (cs:=cs) (w:=w) (rest:=rest) ho hw
 exact step_lone_go (by rw[hg,semAt_eq hr fun _ e=>by cases e];simp[stepG.apply,hr,Frame.atR])
theorem nP {st:St} {a:Act} (h:cA E g st a w) {ops:Array Oper} {o:Oper} :
  (ec ops st.tm o = .yes→xo o (yielded ops a.tmps)=true)∧(ec ops st.tm o = .no→xo o (yielded ops a.tmps)=false) ∧
  (∀d b want,ec ops st.tm o = .ask d b want→xo o (yielded ops a.tmps)=(b==want)∧a.tmps.getD d undef = .bool b):=by
 unfold ec xo
 cases hg:o.guard with
 |none=>simp
 |some q=>
  obtain⟨j,want⟩:=q
  simp only[yielded]
  cases hj:ops[j]? with
  |none=>simp
  |some oj=>
   simp only[tc]
   cases hd:oj.dst with
   |none=>simp
   |some d=>
    simp only[tc]
    have hv:=h.tm d
    have kP:a.tmps.getD d undef=(a.tmps[d]?).getD undef:=by rw[xi]
    generalize hz:a.tmps.getD d undef=z at hv kP
    generalize hl:look st.tm d=x at hv
    cases hv with
    |p pv cv hp=>
     cases hp with
     |sc=>
      cases z with
      |bool b=>
       have:a.tmps[d]? = some (.bool b):=by
        cases ha:a.tmps[d]? with
        |none=>rw[ha] at kP;cases kP
        |some u=>rw[ha] at kP;simp at kP;rw[kP]
       refine⟨fun h=>(by cases h),fun h=>(by cases h),?_⟩
       rintro d' b' w' e
       cases e
       refine⟨?_,hz⟩
       simp only[this]
       cases b<;>cases want<;>rfl
      |_=>exact⟨fun h=>(by cases h),fun h=>(by cases h),fun _ _ _ h=>(by cases h)⟩
     |_=>exact⟨fun h=>(by cases h),fun h=>(by cases h),fun _ _ _ h=>(by cases h)⟩
    |aK l cs hl' hh=>
     refine⟨fun h=>(by cases h),fun _=> ?_,fun _ _ _ h=>(by cases h)⟩
     cases ha:a.tmps[d]? with
     |none=>simp
     |some u=>
      rw[ha] at kP;simp at kP
      subst kP
      simp
    |_=>exact⟨fun h=>(by cases h),fun h=>(by cases h),fun _ _ _ h=>(by cases h)⟩
end
end Go.Am
end
