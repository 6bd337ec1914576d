/-
Each operation that is no call of a function: what the executor tells is what the model does.
Blocks by other numbers: the relations last.
Blocks that are lent to a call, and come back.
The executor's steps are the machine's: the relation, operations, ends.
-/
import Derived.Test.YtdmmllcjgjmbbaaGreatDoorMC
import Derived.WideMake
import Derived.AtR
import Derived.Recover
section
namespace Go.Am
open Go.RowKit
section ops
variable {P:Program} {g:Gh} {m:Mem} {w:World}
theorem lG {ρ:Operand→AV} {bL:Operand→Value} (hr : ∀x,VA g w (ρ x) (bL x)) : ∀(l:List (Nat×Operand)),
  bq (fun a b=>a.1=b.1∧VA g w a.2 b.2) (l.map fun q=>(q.1,ρ q.2)) (l.map fun(i,x)=>(i,bL x))
 |[]=>trivial
 |(_,x)::l=>⟨⟨rfl,hr x⟩,lG hr l⟩
theorem fk {ρ:Operand→AV} {bL:Operand→Value} (hr : ∀x,VA g w (ρ x) (bL x)) : ∀(l:List Operand),cj g w (l.map ρ) (l.map bL)
 |[]=>trivial
 |x::l=>⟨hr x,fk hr l⟩
theorem bR.of {h:Rel g m w} {s:Sem Value} {r:Result Next} {a:AV} (hr:r=(s.run P w).andThen fun v w'=> .ok (.value v) w') (hs : ∃v,s.run P w = .ok v w∧VA g w a v):bR g m w r a m:=by
 obtain⟨v,h1,h2⟩:=hs
 exact bR.quiet h (by rw[hr,h1];rfl) h2
theorem fM {r:Option AV} {a:AV} {us:kQ} {ok:Bool} (h:iq r=some (a,us,ok)):r=some a∧us=[]:=by
 simp only[iq,Option.map_eq_some_iff,Prod.mk.injEq] at h
 obtain⟨v,h1,rfl,rfl,_⟩:=h
 exact⟨h1,rfl⟩
theorem gC {r:Option (AV×Bool)} {a:AV} {us:kQ} {ok:Bool} (h:fG r=some (a,us,ok)):r=some (a,ok)∧us=[]:=by
 simp only[fG,Option.map_eq_some_iff,Prod.mk.injEq] at h
 obtain⟨⟨v,b⟩,h1,rfl,rfl,rfl⟩:=h
 exact⟨h1,rfl⟩
theorem wo (h:Rel g m w) {bL:Operand→Value} {o:Oper} {bw:Nat} (hn:m[bw]? = some .free) {t:TypeId} {x:Operand} {ax a:AV} {us:kQ} (hx:VA g w ax (bL x)) (ho:o.op = .range t x)
  (he:zq P bw t ax=some (a,us,true)):bR g m w ((execOp bL o).run P w) a (apply m us):=by
 unfold zq at he
 split at he
 · rename_i s hd
   simp only[Option.some.injEq,Prod.mk.injEq,and_true] at he
   obtain⟨rfl,rfl⟩:=he
   rw[VA.pv] at hx
   generalize hz:bL x=z at hx
   cases hx
   obtain⟨h1,h2,h3⟩:=h.rT (ob:= .iter s 0) (l:=[]) (vs:=[]) hn trivial (dz w (.stringIter s 0)) ⟨rfl,rfl⟩
   refine⟨.pointer (some ⟨w.heap.size,0,none⟩),_,_,.inl ?_,.mp bw 0 _ (by simp[Gh.put]),h1,h2,h3⟩
   simp[execOp,ho,hz,Instr.range,Sem.run_bind,run_underlying hd,Result.andThen]
 · cases he
theorem zS (h:Rel g m w) {bL:Operand→Value} {o:Oper} {x:Operand} {s:Bool} {ax a:AV} {us:kQ} (hx:VA g w ax (bL x)) (ho:o.op = .next x s)
  (he:C1 (fun i=>m.getD i .dead) ax s=some (a,us,true)):bR g m w ((execOp bL o).run P w) a (apply m us):=by
 cases s with
 |false=>cases he
 |true=>
  simp only[C1] at he
  split at he
  · rename_i b
    split at he
    · rename_i str pos l hb
      have hib:=getD_some hb (by simp)
      obtain⟨c,ob,vs,k1,k2,k3,k4,_⟩:=h.obs b _ _ hib
      obtain⟨rfl,rfl⟩:=k4
      generalize hz:bL x=z at hx
      cases hx with
      |mp _ _ c' hc=>
       rw[k1] at hc;cases hc
       have jB:(getObj c).run P w = .ok (.stringIter str pos) w:=by simp[getObj,Sem.run,k2]
       split at he
       · rename_i hlt
         rw[Nat.blt_eq] at hlt
         generalize Q8:Utf8.decode str pos=q at he
         obtain⟨cc,width⟩:=q
         simp only[Option.some.injEq,Prod.mk.injEq,and_true] at he
         obtain⟨rfl,rfl⟩:=he
         obtain⟨e1,e2,e3⟩:=dc w (o':= .stringIter str (pos+width)) k2
         obtain⟨r1,r2,r3⟩:=h.fJ (C4:= .iter str (pos+width)) (l':=[]) (vs':=[]) hib k1 e1 e2 rfl rfl rfl e3 ⟨rfl,rfl⟩ trivial
         have vY:(setObj c (.stringIter str (pos+width))).run P w = .ok () {w with heap:=w.heap.setIfInBounds c (.stringIter str (pos+width))}:=by simp[setObj,Sem.run,k2]
         refine⟨.tuple #[.bool true,goInt pos,.int .i32 cc],_,g,.inl ?_,VA.iA.2 ⟨.p _ _ (.sc _),.p _ _ (.sc _),.p _ _ (.sc _),trivial⟩,r1,r2,r3⟩
         simp only[execOp,ho,hz,Instr.next,Sem.run_bind,jB,Result.andThen_ok,hlt,if_true,Q8,vY,Sem.run_pure]
       · rename_i hlt
         have hlt' : ¬pos<str.size:=fun q=>by rw[←Nat.blt_eq] at q;rw[q] at hlt;cases hlt
         simp only[Option.some.injEq,Prod.mk.injEq,and_true] at he
         obtain⟨rfl,rfl⟩:=he
         refine bR.quiet h (v:= .tuple #[.bool false]) ?_ (VA.iA.2 ⟨.p _ _ (.sc _),trivial⟩)
         simp only[execOp,ho,hz,Instr.next,Sem.run_bind,jB,Result.andThen_ok,hlt',if_false,Sem.run_pure]
    · rename_i str pos more l hb
      have hib:=getD_some hb (by simp)
      obtain⟨c,ob,vs,k1,k2,k3,k4,_⟩:=h.obs b _ _ hib
      obtain⟨rfl,rfl,k5⟩:=k4
      generalize hz:bL x=z at hx
      cases hx with
      |mp _ _ c' hc=>
       rw[k1] at hc;cases hc
       have jB:(getObj c).run P w = .ok (.stringIter str pos) w:=by simp[getObj,Sem.run,k2]
       split at he
       · have hlt:pos<str.size:=by rw[Nat.blt_eq] at k5;exact k5
         generalize Q8:Utf8.decode str pos=q at he
         obtain⟨cc,width⟩:=q
         simp only[Option.some.injEq,Prod.mk.injEq,and_true] at he
         obtain⟨rfl,rfl⟩:=he
         obtain⟨e1,e2,e3⟩:=dc w (o':= .stringIter str (pos+width)) k2
         obtain⟨r1,r2,r3⟩:=h.fJ (C4:= .iter str (pos+width)) (l':=[]) (vs':=[]) hib k1 e1 e2 rfl rfl rfl e3 ⟨rfl,rfl⟩ trivial
         have vY:(setObj c (.stringIter str (pos+width))).run P w = .ok () {w with heap:=w.heap.setIfInBounds c (.stringIter str (pos+width))}:=by simp[setObj,Sem.run,k2]
         refine⟨.tuple #[.bool true,goInt pos,.int .i32 cc],_,g,.inl ?_,VA.iA.2 ⟨.p _ _ (.sc _),.p _ _ (.sc _),.p _ _ (.sc _),trivial⟩,r1,r2,r3⟩
         simp only[execOp,ho,hz,Instr.next,Sem.run_bind,jB,Result.andThen_ok,hlt,if_true,Q8,vY,Sem.run_pure]
       · have hlt' : ¬pos<str.size:=fun q=>by rw[←Nat.blt_eq,k5] at q;cases q
         simp only[Option.some.injEq,Prod.mk.injEq,and_true] at he
         obtain⟨rfl,rfl⟩:=he
         refine bR.quiet h (v:= .tuple #[.bool false]) ?_ (VA.iA.2 ⟨.p _ _ (.sc _),trivial⟩)
         simp only[execOp,ho,hz,Instr.next,Sem.run_bind,jB,Result.andThen_ok,hlt',if_false,Sem.run_pure]
    · cases he
  · cases he
theorem wq {ρ:Operand→AV} {bL:Operand→Value} (hr : ∀x,VA g w (ρ x) (bL x)) {o:Oper} {op:BinOp} {t yt:TypeId} {x y:Operand} {l c:Nat} (hy:bL y = .slice none l c) (ho:o.op = .binOp op t x y yt) {a:AV} {us:kQ} {ok:Bool} (he:rN P op t (ρ x)=some (a,us,ok)) :
  us=[] ∧ ∃v,(execOp bL o).run P w = .ok (.value v) w∧VA g w a v:=by
 unfold rN at he
 split at he
 · rename_i e hd
   have key : ∀{b:Bool},wO (ρ x)=some b→(∀op':BinOp,(eqGuard op' t x y (bL x) (bL y)).run P w = .ok () w)∧(Op.equal t (bL x) (bL y)).run P w = .ok b w ∧ ∀op',op' = .eql∨op' = .neq→binOp op' t (bL x) (bL y)=(do let r ←Op.equal t (bL x) (bL y);pure (.bool (if op' = .eql then r else !r)):Sem Value):=by
    intro b hb
    obtain⟨ad,len,cap,hx,hn⟩:=qB (hr x) hb
    rw[hx,hy]
    refine⟨fun op'=>by unfold eqGuard;cases op'<;>rfl,?_,fun op' hop=>by rcases hop with rfl | rfl<;>rfl⟩
    show(Op.equalIn (9999+1) t _ _).run P w = .ok b w
    rw[Op.equalIn];simp only[Sem.run_bind,run_underlying hd,Result.andThen_ok]
    subst hn
    cases ad<;>rfl
   split at he
   · rename_i b hb
     obtain⟨k1,k2,k3⟩:=key hb
     simp only[Option.some.injEq,Prod.mk.injEq] at he
     obtain⟨rfl,rfl,_⟩:=he
     refine⟨rfl,.bool b,?_,.p _ _ (.sc _)⟩
     simp only[execOp,ho,Sem.run_bind,k1,Result.andThen_ok,k3 _ (.inl rfl),k2,Sem.run_pure]
     rfl
   · rename_i b hb
     obtain⟨k1,k2,k3⟩:=key hb
     simp only[Option.some.injEq,Prod.mk.injEq] at he
     obtain⟨rfl,rfl,_⟩:=he
     refine⟨rfl,.bool (!b),?_,.p _ _ (.sc _)⟩
     simp only[execOp,ho,Sem.run_bind,k1,Result.andThen_ok,k3 _ (.inr rfl),k2,Sem.run_pure]
     rfl
   · cases he
 · cases he
theorem Q9 (x y:Int):(if y<x then y else x)=min x y:=by
 rcases Int.lt_or_le y x with h | h
 · rw[if_pos h];omega
 · rw[if_neg (by omega)];omega
theorem Ra (x y:Int):(if y>x then y else x)=max x y:=by
 rcases Int.lt_or_le x y with h | h
 · rw[if_pos h];omega
 · rw[if_neg (by omega)];omega
theorem xk {ρ:Operand→AV} {bL:Operand→Value} (hr : ∀x,VA g w (ρ x) (bL x)) {mn:Bool} {l:List Operand} {v:AV} (h:Ge mn (l.map ρ)=some v) :
  ∃cx cy k k' x y,l=[cx,cy]∧bL cx = .int k x∧bL cy = .int k' y∧v = .p (.sc (.int k (cond mn (min x y) (max x y)))):=by
 match l,h with
 |[cx,cy],h=>
  have h1:=hr cx
  have h2:=hr cy
  simp only[List.map_cons,List.map_nil] at h
  generalize ρ cx=ax at h h1
  generalize ρ cy=ay at h h2
  unfold Ge at h
  split at h
  · rename_i k a k' b heq
    simp only[List.cons.injEq,and_true] at heq
    obtain⟨rfl,rfl⟩:=heq
    simp only[Option.some.injEq] at h
    rw[VA.pv] at h1 h2
    generalize ff:bL cx=c1 at h1
    generalize fI:bL cy=c2 at h2
    cases h1;cases h2
    exact⟨cx,cy,k,k',a,b,rfl,ff,fI,h.symm⟩
  · cases h
 |[],h=>simp[Ge] at h
 |[_],h=>simp[Ge] at h
 |_::_::_::_,h=>simp[Ge] at h
theorem mG (h:Rel g m w) {ρ:Operand→AV} {bL:Operand→Value} (hr : ∀x,VA g w (ρ x) (bL x)) (hrc : ∀v,bL (.const v)=v) {o:Oper} {bw:Nat} (hn:makes o=true→m[bw]? = some .free) {wr:Bool} {a:AV} {us:kQ}
  (he:qo P (fun i=>m.getD i .dead) wr bw ρ o=some (a,us,true)):bR g m w ((execOp bL o).run P w) a (apply m us):=by
 have he' : ∀y,zp y=true → ∃l c,bL y = .slice none l c:=by
  intro y hy
  unfold zp at hy
  split at hy
  · exact⟨_,_,hrc _⟩
  · cases hy
 have hmk : ∀{b:Bool},makes o=b→b=true→m[bw]? = some .free:=fun e e'=>hn (e.trans e')
 unfold qo at he
 split at he
 · rename_i x ho
   simp only[Option.some.injEq,Prod.mk.injEq,and_true] at he
   obtain⟨rfl,rfl⟩:=he
   exact bR.quiet h (v:=bL x) (by simp[execOp,ho]) (hr x)
 · rename_i x ho
   simp only[Option.some.injEq,Prod.mk.injEq,and_true] at he
   obtain⟨rfl,rfl⟩:=he
   exact bR.quiet h (v:=bL x) (by simp[execOp,ho]) (hr x)
 · rename_i c x y ho
   split at he
   · rename_i t hc
     simp only[Option.some.injEq,Prod.mk.injEq,and_true] at he
     obtain⟨rfl,rfl⟩:=he
     have hb:bL c = .bool t:=by have:=hr c;rw[hc,VA.pv] at this;generalize bL c=z at this;cases this;rfl
     cases t
     · exact bR.quiet h (v:=bL y) (by simp[execOp,ho,hb,asBool]) (hr y)
     · exact bR.quiet h (v:=bL x) (by simp[execOp,ho,hb,asBool]) (hr x)
   · cases he
 · rename_i t ho
   split at he
   · exact sQ h (hmk (by simp only[makes,ho]) rfl) he ho
   · exact wg h (hmk (by simp only[makes,ho]) rfl) he (ty:=0) (pos:= "") ho rfl rfl
 · rename_i t x ho
   exact Bj h (hmk (by simp only[makes,ho]) rfl) (hr x) he (t:=t) (by simp[execOp,ho,Instr.box,newVar,newRow])
 · rename_i t parts ho
   obtain⟨h1,rfl⟩:=gC he
   refine bR.of (h:=h) (s:=Instr.build t (parts.map fun(i,x)=>(i,bL x))) (P:=P) (by simp only[execOp,ho,Sem.run_bind,Sem.run_pure]) (vZ h1 ?_)
   rw[Array.toList_map];exact lG hr parts.toList
 · rename_i t len parts ho
   have:=nr (iC:=parts.map fun(i,x)=>(i,bL x)) h (hmk (by simp only[makes,ho]) rfl) he (by rw[Array.toList_map];exact lG hr parts.toList)
   simpa only[execOp,ho] using this
 · rename_i t x ho
   obtain⟨h1,rfl⟩:=gC he
   obtain⟨c,o',cv,k1,k2,k3⟩:=oa h (hr x) h1
   exact bR.quiet h (v:=cv) (by simp[execOp,ho,Instr.loadAt,k1,Instr.sureAddr,k2]) k3
 · rename_i t x v ho
   obtain⟨w',k1,rfl,k2,k3,k4⟩:=we h (hr x) (hr v) he
   exact⟨undef,w',g,.inr ⟨by simp[execOp,ho,k1],rfl⟩,VA.iA.2 trivial,k2,k3,k4⟩
 · rename_i x ho
   obtain⟨h1,rfl⟩:=fM he
   obtain⟨v,k1,k2⟩:=pN hr ho h1
   exact bR.quiet h k1 k2
 · rename_i op t x y yt ho
   split at he
   · rename_i hy
     obtain⟨l,c,ZD⟩:=he' y hy
     obtain⟨rfl,v,k1,k2⟩:=wq hr ZD ho he
     exact bR.quiet h k1 k2
   · split at he
     · obtain⟨rfl,v,k1,k2⟩:=Bo hr ho he
       exact bR.quiet h k1 k2
     · split at he
       · rename_i hsame
         obtain⟨rfl,v,k1,k2⟩:=rz hr ho hsame he
         exact bR.quiet h k1 k2
       · obtain⟨h1,rfl⟩:=gC he
         obtain⟨v,k1,k2⟩:=vX hr ho h1
         exact bR.quiet h k1 k2
 · rename_i t x ho
   exact wo h (hmk (by simp only[makes,ho]) rfl) (hr x) ho he
 · rename_i x s ho
   exact zS h (hr x) ho he
 · rename_i t ho
   have fin : ∀ob:jQ,ob.is (.map #[] 0) []→ob.room (.map #[] 0) 0→some (AV.vm bw,[(bw,bg.ob ob [])],true)=some (a,us,true)→bR g m w ((execOp bL o).run P w) a (apply m us):=by
    intro ob hob hroom he
    simp only[Option.some.injEq,Prod.mk.injEq,and_true] at he
    obtain⟨rfl,rfl⟩:=he
    obtain⟨h1,h2,h3⟩:=h.rT (ob:=ob) (l:=[]) (vs:=[]) (hmk (by simp only[makes,ho]) rfl) trivial (dz w (.map #[] 0)) hob hroom
    exact⟨.map (some w.heap.size),_,_,.inl (by simp[execOp,ho,run_makeMap_plain,Result.andThen]),.vm bw _ (by simp[Gh.put]),h1,h2,h3⟩
   unfold wM at he
   split at he
   · split at he
     · exact fin (.zi []) ⟨_,_,[],rfl,rfl,rfl,.refl _⟩ trivial he
     · exact fin (.map [] [] 0) rfl trivial he
   · exact fin (.map [] [] 0) rfl trivial he
 · rename_i t x i ok ho
   obtain⟨h1,rfl⟩:=fM he
   exact bR.of (h:=h) (s:=Instr.lookup t (bL x) (bL i) ok) (P:=P) (by simp only[execOp,ho,Sem.run_bind,Sem.run_pure]) (sY h (hr x) (hr i) h1)
 · rename_i t x k v ho
   obtain⟨w',k1,rfl,k2,k3,k4⟩:=jg h (hr x) (hr k) (hr v) he
   exact⟨undef,w',g,.inr ⟨by simp[execOp,ho,k1],rfl⟩,VA.iA.2 trivial,k2,k3,k4⟩
 · rename_i t x k v ho
   obtain⟨w',k1,rfl,k2,k3,k4⟩:=jg h (hr x) (hr k) (hr v) he
   exact⟨undef,w',g,.inr ⟨by simp[execOp,ho,k1],rfl⟩,VA.iA.2 trivial,k2,k3,k4⟩
 · rename_i op t x ho
   obtain⟨h1,rfl⟩:=gC he
   obtain⟨v,k1,k2⟩:=zF hr ho h1
   exact bR.quiet h k1 k2
 · rename_i src dst x ho
   exact ru h (hmk (by simp only[makes,ho]) rfl) hr ho he
 · rename_i t x ho
   obtain⟨h1,rfl⟩:=fM he
   exact bR.of (h:=h) (s:=Instr.makeInterface t (bL x)) (P:=P) (by simp only[execOp,ho,Sem.run_bind,Sem.run_pure]) (om h1 (hr x))
 · rename_i f first captured ho
   simp only[Option.some.injEq,Prod.mk.injEq,and_true] at he
   obtain⟨rfl,rfl⟩:=he
   refine bR.quiet h (v:= .func f (first.map bL) (captured.map bL)) (by simp[execOp,ho,Instr.makeFunc]) (VA.fns.2 ⟨_,_,rfl,?_,?_⟩)
   · rw[Array.toList_map];exact fk hr _
   · rw[Array.toList_map];exact fk hr _
 · rename_i t l c ho
   split at he
   · have:=pR h (hr l) (hr c) he
     simpa only[execOp,ho] using this
   · have:=oo h (hmk (by simp only[makes,ho]) rfl) (hr l) (hr c) he
     simpa only[execOp,ho] using this
 · rename_i t x lo hi mx ho
   obtain⟨h1,rfl⟩:=gC he
   exact bR.of (h:=h) (s:=Instr.sliceAt t (bL x) (lo.map bL) (hi.map bL) (mx.map bL)) (P:=P) (by simp only[execOp,ho,Sem.run_bind,Sem.run_pure]) (vW hr h1 (hr x))
 · rename_i t x f ho
   obtain⟨h1,rfl⟩:=fM he
   exact bR.of (h:=h) (s:=Instr.fieldAt t (bL x) f) (P:=P) (by simp only[execOp,ho,Sem.run_bind,Sem.run_pure]) (oc h1 (hr x))
 · rename_i t x f ho
   obtain⟨h1,rfl⟩:=gC he
   exact bR.of (h:=h) (s:=Instr.field t (bL x) f) (P:=P) (by simp only[execOp,ho,Sem.run_bind,Sem.run_pure]) (vU h1 (hr x))
 · rename_i t x i ho
   obtain⟨h1,rfl⟩:=gC he
   exact bR.of (h:=h) (s:=Instr.indexAt t (bL x) (bL i)) (P:=P) (by simp only[execOp,ho,Sem.run_bind,Sem.run_pure]) (og h1 (hr x) (hr i))
 · rename_i t x i ho
   obtain⟨h1,rfl⟩:=gC he
   exact bR.of (h:=h) (s:=Instr.index t (bL x) (bL i)) (P:=P) (by simp only[execOp,ho,Sem.run_bind,Sem.run_pure]) (vV h1 (hr x) (hr i))
 · rename_i x i ho
   split at he
   · rename_i vs hx
     obtain⟨h1,rfl⟩:=fM he
     have hv:=hr x
     rw[hx] at hv
     generalize hz:bL x=z at hv
     cases hv with
     |aS _ cs hl hh=>
      obtain⟨b,hb,hv⟩:=bq.get? (bq.ct hl hh) h1
      exact bR.quiet h (v:=b) (by simp only[execOp,ho,hz,Instr.extract];simp at hb;simp[hb]) hv
   · cases he
 · rename_i x xt t ok ho
   obtain⟨h1,rfl⟩:=fM he
   obtain⟨cv,k1,k2⟩:=sX (xt:=xt) h1 (hr x)
   exact bR.quiet h (v:=cv) (by simp only[execOp,ho,Sem.run_bind,k1,Result.andThen_ok,Sem.run_pure]) k2
 · rename_i c ho
   split at he
   · rename_i s x hc ha
     have jC:c.args = #[s,x]:=by have:=congrArg List.toArray ha;simpa using this
     have Wn:makes o=true:=by simp only[makes,ho,hc]
     split at he
     · have:=tj (ty:=o.type) h (hn Wn) (qA (hr s)) (hr x) he
       simpa only[execOp,ho,resolve,hc,jC,Sem.run_bind,Sem.run_pure,Result.andThen_ok,invoke,builtin,List.map_toArray,List.map_cons,List.map_nil] using this
     · have:=sS (ty:=o.type) h (hn Wn) (qA (hr s)) (hr x) he
       simpa only[execOp,ho,resolve,hc,jC,Sem.run_bind,Sem.run_pure,Result.andThen_ok,invoke,builtin,List.map_toArray,List.map_cons,List.map_nil] using this
   · rename_i d s hc ha
     have jC:c.args = #[d,s]:=by have:=congrArg List.toArray ha;simpa using this
     have:=zJ (ty:=o.type) h (hr d) (hr s) he
     simpa only[execOp,ho,resolve,hc,jC,Sem.run_bind,Sem.run_pure,Result.andThen_ok,invoke,builtin,List.map_toArray,List.map_cons,List.map_nil] using this
   · rename_i x hc ha
     have jC:c.args = #[x]:=by have:=congrArg List.toArray ha;simpa using this
     obtain⟨h1,rfl⟩:=fM he
     refine bR.of (h:=h) (s:=Builtin.len_ c.argTypes o.type #[bL x]) (P:=P) ?_ (Bc h1 (hr x))
     simp only[execOp,ho,resolve,hc,jC,Sem.run_bind,Sem.run_pure,Result.andThen_ok,invoke,builtin,List.map_toArray,List.map_cons,List.map_nil]
   · rename_i x hc ha
     have jC:c.args = #[x]:=by have:=congrArg List.toArray ha;simpa using this
     obtain⟨rfl,v,k1,k2⟩:=ot (P:=P) (ts:=c.argTypes) (ty:=o.type) (hr x) he
     refine bR.quiet h (v:=v) ?_ k2
     simp only[execOp,ho,resolve,hc,jC,Sem.run_bind,Sem.run_pure,Result.andThen_ok,invoke,builtin,List.map_toArray,List.map_cons,List.map_nil,k1]
   · rename_i x n hc ha
     have jC:c.args = #[x,n]:=by have:=congrArg List.toArray ha;simpa using this
     have:=lF (ty:=o.type) h (hr x) (hr n) he
     simpa only[execOp,ho,resolve,hc,jC,Sem.run_bind,Sem.run_pure,Result.andThen_ok,invoke,builtin,List.map_toArray,List.map_cons,List.map_nil] using this
   · rename_i hc
     obtain⟨h1,rfl⟩:=fM he
     unfold ir at h1
     split at h1
     · rename_i v hm
       simp only[Option.some.injEq] at h1;subst h1
       obtain⟨cx,cy,k,k',x,y,ha,e1,e2,rfl⟩:=xk hr hm
       have jC:c.args = #[cx,cy]:=by have:=congrArg List.toArray ha;simpa using this
       refine bR.quiet h (v:= .int k (min x y)) ?_ (.p _ _ (.sc _))
       simp only[execOp,ho,resolve,hc,jC,Sem.run_bind,Sem.run_pure,Result.andThen_ok,invoke,builtin,List.map_toArray,List.map_cons,List.map_nil,e1,e2,Builtin.min_,List.foldlM_cons,List.foldlM_nil,Builtin.min2,Q9]
     · obtain⟨v,k1,k2⟩:=dP hr (fun _ _=>by rw[ho];exact fun e=>by cases e) h1
       exact bR.quiet h k1 k2
   · rename_i hc
     obtain⟨h1,rfl⟩:=fM he
     unfold ir at h1
     split at h1
     · rename_i v hm
       simp only[Option.some.injEq] at h1;subst h1
       obtain⟨cx,cy,k,k',x,y,ha,e1,e2,rfl⟩:=xk hr hm
       have jC:c.args = #[cx,cy]:=by have:=congrArg List.toArray ha;simpa using this
       refine bR.quiet h (v:= .int k (max x y)) ?_ (.p _ _ (.sc _))
       simp only[execOp,ho,resolve,hc,jC,Sem.run_bind,Sem.run_pure,Result.andThen_ok,invoke,builtin,List.map_toArray,List.map_cons,List.map_nil,e1,e2,Builtin.max_,List.foldlM_cons,List.foldlM_nil,Builtin.max2,Ra]
     · obtain⟨v,k1,k2⟩:=dP hr (fun _ _=>by rw[ho];exact fun e=>by cases e) h1
       exact bR.quiet h k1 k2
   · cases he
 · cases he
end ops
end Go.Am
end
section
namespace Go.Am
open Go.RowKit
structure cJ (ρ:Nat→Option Nat) (g g':Gh):Prop where
 at' : ∀i k,ρ i=some k→g'.bE k=g.bE i∧g'.lo k=g.lo i∧g'.hi k=g.hi i
 pure:g'.pure=g.pure
theorem VP.Db {g g':Gh} {w:World} (h:g'.pure=g.pure) {v:PV} {cv:Value} (hv:VP g w v cv):VP g' w v cv:=hv.mono fun c o p=>⟨by rw[h];exact p,rfl⟩
theorem dn (ρ:Nat→Option Nat) : ∀l:List AV,(dO ρ l).length=l.length
 |[]=>rfl
 |a::l=>by simp[dO,dn ρ l]
theorem lH (ρ:Nat→Option Nat) : ∀(l:List AV) (i:Nat) (h:i<(dO ρ l).length) (h':i<l.length),(dO ρ l)[i]=fV ρ l[i]
 |_::_,0,_,_=>rfl
 |_::l,i+1,h,h'=>lH ρ l i (Nat.lt_of_succ_lt_succ h) (Nat.lt_of_succ_lt_succ h')
 |[],_,_,h'=>absurd h' (Nat.not_lt_zero _)
theorem VA.fV {ρ:Nat→Option Nat} {g g':Gh} {w:World} (hr:cJ ρ g g') {a:AV} {v:Value} (h:VA g w a v):VA g' w (Am.fV ρ a) v:=by
 induction h with
 |an v=>exact .an v
 |p v cv h=>exact .p v cv (h.Db hr.pure)
 |os tok len sz cells a cap h ht=>
  have h':=h.Db hr.pure
  cases tok with
  |none=>exact .os none len sz cells a cap h' (ht.imp id fun⟨t,_,_,e,_⟩=>by cases e)
  |some t=>
   simp only[Am.fV]
   cases hρ:ρ t with
   |none=>exact .p _ _ h'
   |some k=>
    obtain⟨e1,e2,e3⟩:=hr.at' t k hρ
    refine .os (some k) len sz cells a cap h' (ht.imp id ?_)
    rintro ⟨t',b,o,e,rfl,q1,q2,q3,q4⟩
    cases e
    exact⟨k,b,o,rfl,rfl,e1.trans q1,e2.trans q2,e3.trans q3,q4⟩
 |mp b off c h=>
  simp only[Am.fV]
  cases hρ:ρ b with
  |none=>exact .an _
  |some k=>exact .mp k off c ((hr.at' b k hρ).1.trans h)
 |ms b off len sz cap c h hc=>
  simp only[Am.fV]
  cases hρ:ρ b with
  |none=>exact .an _
  |some k=>exact .ms k off len sz cap c ((hr.at' b k hρ).1.trans h) hc
 |mg b off len sz cap c h hc hh=>
  simp only[Am.fV]
  cases hρ:ρ b with
  |none=>exact .an _
  |some k=>exact .mg k off len sz cap c ((hr.at' b k hρ).1.trans h) hc (by rw[(hr.at' b k hρ).2.2];exact hh)
 |vm b c h=>
  simp only[Am.fV]
  cases hρ:ρ b with
  |none=>exact .an _
  |some k=>exact .vm k c ((hr.at' b k hρ).1.trans h)
 |vy b c h=>
  simp only[Am.fV]
  cases hρ:ρ b with
  |none=>exact .an _
  |some k=>exact .vy k c ((hr.at' b k hρ).1.trans h)
 |fn f l k fa ca hl hk h h2 ih ih2=>
  simp only[Am.fV]
  exact .fn f _ _ fa ca (by rw[dn];exact hl) (by rw[dn];exact hk)
   (fun i a b=>by rw[lH ρ l i a (by rwa [dn] at a)];exact ih i _ b) (fun i a b=>by rw[lH ρ k i a (by rwa [dn] at a)];exact ih2 i _ b)
 |agg l cs hl h ih=>
  simp only[Am.fV]
  exact .agg _ cs (by rw[dn];exact hl) (fun i a b=>by rw[lH ρ l i a (by rwa [dn] at a)];exact ih i _ b)
 |aS l cs hl h ih=>
  simp only[Am.fV]
  exact .aS _ cs (by rw[dn];exact hl) (fun i a b=>by rw[lH ρ l i a (by rwa [dn] at a)];exact ih i _ b)
 |iR t v cv h ih=>exact .iR t _ cv ih
theorem cj.fV {ρ:Nat→Option Nat} {g g':Gh} {w:World} (hr:cJ ρ g g') : ∀{l:List AV} {vs:List Value},cj g w l vs→cj g' w (dO ρ l) vs
 |[],[],_=>trivial
 |_::_,_::_,h=>⟨h.1.fV hr,cj.fV hr h.2⟩
 |[],_::_,h=>h.elim
 |_::_,[],h=>h.elim
theorem cj.dL {ρ:Nat→Option Nat} {g g':Gh} {w:World} (hr:cJ ρ g g') : ∀{l:List AV} {vs:List Value},cj g w l vs→cj g' w (l.map dL) vs
 |[],[],_=>trivial
 |a::_,_::_,h=>⟨by
   cases a with
   |p v=>exact h.1.fV hr
   |_=>exact .an _,cj.dL hr h.2⟩
 |[],_::_,h=>h.elim
 |_::_,[],h=>h.elim
theorem cj.QC {ρ:Nat→Option Nat} {g g':Gh} {w:World} (hr:cJ ρ g g') {l l':List AV} {vs:List Value} (h:cj g w l vs) (hl:l'=dO ρ l∨l'=l.map Am.dL):cj g' w l' vs:=by
 rcases hl with rfl | rfl
 · exact h.fV hr
 · exact cj.dL hr h
theorem I0 (ρ:Nat→Option Nat) : ∀l:List PV,dO ρ (l.map .p)=l.map .p
 |[]=>rfl
 |v::l=>by simp[dO,Am.fV,I0 ρ l]
theorem Gp (ρ:Nat→Option Nat) (k:jQ) (vals:List AV) : ∃l,ew ρ (.ob k vals) = .ob k l:=by
 cases k with
 |gr t q=>cases q<;>exact⟨_,rfl⟩
 |_=>exact⟨_,rfl⟩
theorem tq {ρ:Nat→Option Nat} {b:bg} {l':List AV} (h:(ew ρ b).cells?=some l') : ∃l,b.cells?=some l∧l'=dO ρ l:=by
 cases b with
 |pc l=>simp only[ew,bg.cells?,Option.some.injEq] at h;exact⟨_,rfl,by rw[I0];exact h.symm⟩
 |ac l=>simp only[ew,bg.cells?,Option.some.injEq] at h;exact⟨l,rfl,h.symm⟩
 |ob k vals=>
  obtain⟨l0,e⟩:=Gp ρ k vals
  rw[e] at h
  cases h
 |_=>simp[ew,bg.cells?] at h
theorem jD {ρ:Nat→Option Nat} {b:bg}:(ew ρ b).cP=b.cP:=by unfold ew;split<;>rfl
theorem EN {ρ:Nat→Option Nat} {b:bg} {k:jQ} {l:List AV} (h:ew ρ b = .ob k l) : ∃l0,b = .ob k l0∧(l=dO ρ l0∨l=l0.map dL):=by
 unfold ew at h
 split at h<;>cases h
 · exact⟨_,rfl,.inr rfl⟩
 · exact⟨_,rfl,.inl rfl⟩
 · rename_i hne
   exact(hne _ _ rfl).elim
theorem pU {ρ:Nat→Option Nat} {b:bg} (h:ew ρ b = .free):b = .free:=by unfold ew at h;split at h<;>first | exact h | cases h
theorem Br {ρ:Nat→Option Nat} {b:bg} (h:ew ρ b = .tok):b = .tok:=by unfold ew at h;split at h<;>first | exact h | cases h
theorem EO {ord:List Nat} {i k:Nat} (h:idx ord i=some k):ord[k]? = some i:=by
 induction ord generalizing k with
 |nil=>simp[idx] at h
 |cons j ord ih=>
  simp only[idx] at h
  cases hb:Nat.beq i j with
  |true=>simp only[hb,cond_true,Option.some.injEq] at h;subst h;rw[Nat.eq_of_beq_eq_true hb];rfl
  |false=>
   simp only[hb,cond_false,Option.map_eq_some_iff] at h
   obtain⟨k',h1,rfl⟩:=h
   exact ih h1
def Gh.pack (g:Gh) (ord:List Nat):Gh where
 bE k:=(ord[k]?).bind g.bE
 lo k:=match ord[k]? with | some i=>g.lo i | none=>0
 hi k:=match ord[k]? with | some i=>g.hi i | none=>0
 pure:=g.pure
theorem cJ.pack (g:Gh) (ord:List Nat):cJ (idx ord) g (g.pack ord):=
 ⟨fun i k h=>by have:=EO h;simp[Gh.pack,this],rfl⟩
theorem iE {m:Mem} {ord:List Nat} {k:Nat} {b:bg} (h:(pack m ord)[k]? = some b) : ∃i,ord[k]? = some i∧b=ew (idx ord) (m.getD i .dead):=by
 simp only[pack,List.getElem?_map,Option.map_eq_some_iff] at h
 obtain⟨i,h1,h2⟩:=h
 exact⟨i,h1,h2.symm⟩
theorem Dc {m:Mem} {i:Nat} {l:List AV} (h:(m.getD i .dead).cells?=some l):m[i]? = some (m.getD i .dead):=
 getD_some rfl fun e=>by rw[e] at h;cases h
theorem xl {m:Mem} {i:Nat} (h:(m.getD i .dead).cP=true):m[i]? = some (m.getD i .dead):=
 getD_some rfl fun e=>by rw[e] at h;cases h
theorem Gq {l:List Nat} (h:l.Nodup) {j k i:Nat} (hj:l[j]? = some i) (hk:l[k]? = some i):j=k:=by
 obtain⟨a,ha⟩:=List.getElem?_eq_some_iff.1 hj
 obtain⟨b,hb⟩:=List.getElem?_eq_some_iff.1 hk
 rcases Nat.lt_trichotomy j k with q | q | q
 · exact absurd (ha.trans hb.symm) (List.pairwise_iff_getElem.1 h j k a b q)
 · exact q
 · exact absurd (hb.trans ha.symm) (List.pairwise_iff_getElem.1 h k j b a q)
theorem Rel.pack {g:Gh} {m:Mem} {w:World} (h:Rel g m w) {ord:List Nat} (hnd:ord.Nodup) :
  Rel (g.pack ord) (Am.pack m ord) w∧(∀c,eN (g.pack ord) (Am.pack m ord) c→eN g m c):=by
 have own : ∀k b c,(Am.pack m ord)[k]? = some b→b.cP=true→(g.pack ord).bE k=some c → ∃i,ord[k]? = some i∧m[i]? = some (m.getD i .dead)∧(m.getD i .dead).cP=true∧g.bE i=some c:=by
  intro k b c hk ho hc
  obtain⟨i,h1,rfl⟩:=iE hk
  rw[jD] at ho
  exact⟨i,h1,xl ho,ho,by simpa[Gh.pack,h1] using hc⟩
 refine⟨⟨fun k hk=> ?_,fun k hk=> ?_,fun k b l hk hl=> ?_,fun k c hk hc=> ?_,fun j k b b' c hj hk ho ho' hc eP=> ?_,h.there,fun k ob l hk=> ?_⟩,fun c ho=> ?_⟩
 · have:ord[k]? = none:=List.getElem?_eq_none (by simpa[Am.pack] using hk)
   simp[Gh.pack,this]
 · obtain⟨i,h1,h2⟩:=iE hk
   have h2:=pU h2.symm
   have:=h.free i (getD_some h2 (by simp))
   simp[Gh.pack,h1,this]
 · obtain⟨i,h1,rfl⟩:=iE hk
   obtain⟨l0,h2,rfl⟩:=tq hl
   obtain⟨c,cs,e,n,k1,k2,k3,k4,k5⟩:=h.cells i _ _ (Dc h2) h2
   exact⟨c,cs,e,n,by simpa[Gh.pack,h1] using k1,k2,k3,⟨k4.1.fV (cJ.pack g ord),k4.2⟩,k5⟩
 · obtain⟨i,h1,h2⟩:=iE hk
   have h2:=Br h2.symm
   have hc:g.bE i=some c:=by simpa[Gh.pack,h1] using hc
   have:=h.tok i c (getD_some h2 (by simp)) hc
   simpa[Gh.pack,h1] using this
 · obtain⟨i,h1,h2,h3,h4⟩:=own j b c hj ho hc
   obtain⟨i',h1',h2',h3',h4'⟩:=own k b' c hk ho' eP
   have:=h.inj i i' _ _ c h2 h2' h3 h3' h4 h4'
   subst this
   exact Gq hnd h1 h1'
 · obtain⟨i,h1,h2⟩:=iE hk
   obtain⟨l0,h3,ZE⟩:=EN h2.symm
   obtain⟨c,o,vs,k1,k2,k3,k4,k5,k6⟩:=h.obs i ob l0 (getD_some h3 (by simp))
   exact⟨c,o,vs,by simpa[Gh.pack,h1] using k1,k2,k3.QC (cJ.pack g ord) ZE,k4,k5,by simpa[Gh.pack,h1] using k6⟩
 · obtain⟨k,b,hk,ho,hc⟩:=ho
   obtain⟨i,_,h2,h3,h4⟩:=own k b c hk ho hc
   exact⟨i,_,h2,h3,h4⟩
theorem EP {l:List Nat} {i:Nat}:has l i=true↔i∈l:=by
 induction l with
 |nil=>simp[has]
 |cons j l ih=>
  simp only[has]
  cases hb:Nat.beq j i with
  |true=>simp[Nat.eq_of_beq_eq_true hb]
  |false=>
   have:j≠i:=fun e=>by subst e;simp[Nat.beq_refl] at hb
   simp[ih,Ne.symm this]
theorem cX : ∀(l ord:List Nat),ord.Nodup→(fU ord l).Nodup ∧ ∃t,fU ord l=ord++t
 |[],ord,h=>⟨h,[],by simp[fU]⟩
 |i::l,ord,h=>by
  simp only[fU]
  cases hb:has ord i with
  |true=>exact cX l ord h
  |false=>
   have hni:i∉ord:=fun k=>by rw[EP.2 k] at hb;cases hb
   obtain⟨h1,t,h2⟩:=cX l (ord++[i]) (List.nodup_append.2 ⟨h,by simp,fun a ha b hb=>by simp at hb;subst hb;exact fun e=>hni (e▸ha)⟩)
   exact⟨h1,i::t,by simp only[cond_false,h2,List.append_assoc,List.singleton_append]⟩
theorem j5 (m:Mem) : ∀(f:Nat) (ord:List Nat) (k:Nat),ord.Nodup→(reach m f ord k).Nodup ∧ ∃t,reach m f ord k=ord++t
 |0,ord,_,h=>⟨h,[],by simp[reach]⟩
 |f+1,ord,k,h=>by
  simp only[reach]
  cases hk:ord[k]? with
  |none=>exact⟨h,[],by simp⟩
  |some i=>
   obtain⟨h1,t,h2⟩:=cX (wP (m.getD i .dead)) ord h
   obtain⟨h3,t',h4⟩:=j5 m f (fU ord (wP (m.getD i .dead))) (k+1) h1
   refine⟨h3,t++t',?_⟩
   show reach m f (fU ord (wP (m.getD i .dead))) (k+1)=_
   rw[h4,h2,List.append_assoc]
theorem gD : ∀n,(upTo n).length=n
 |0=>rfl
 |n+1=>by simp[upTo,gD n]
theorem tr : ∀(n k:Nat),k<n→(upTo n)[k]? = some k
 |0,_,h=>absurd h (Nat.not_lt_zero _)
 |n+1,k,h=>by
  simp only[upTo,List.getElem?_append,gD]
  by_cases hk:k<n
  · rw[if_pos hk,tr n k hk]
  · have:k=n:=by omega
    subst this;simp
theorem I1 {n i:Nat} (h:i∈upTo n):i<n:=by
 induction n with
 |zero=>simp[upTo] at h
 |succ n ih=>
  simp only[upTo,List.mem_append,List.mem_singleton] at h
  rcases h with h | rfl
  · have:=ih h;omega
  · omega
theorem iF : ∀n,(upTo n).Nodup
 |0=>by simp[upTo]
 |n+1=>List.nodup_append.2 ⟨iF n,by simp,fun a ha b hb=>by simp at hb;subst hb;have:=I1 ha;omega⟩
theorem dR (m:Mem) (fix:Nat) (vs:List AV):(close m fix vs).Nodup ∧ ∀k,k<fix→(close m fix vs)[k]? = some k:=by
 obtain⟨h1,t,h2⟩:=cX (fQ vs) (upTo fix) (iF fix)
 obtain⟨h3,t',h4⟩:=j5 m (m.length+1) (fU (upTo fix) (fQ vs)) 0 h1
 refine⟨h3,fun k hk=> ?_⟩
 unfold close
 rw[h4,h2,List.append_assoc,List.getElem?_append_left (by rw[gD];exact hk),tr fix k hk]
end Go.Am
end
section
namespace Go.Am
open Go.RowKit
theorem eF : ∀{l:List Nat} {n:Nat},gy l n=true → ∀i∈l,i<n
 |[],_,_,_,h=>by cases h
 |j::l,n,h,i,hi=>by
  simp only[gy,Bool.and_eq_true] at h
  cases hi with
  |head=>simpa[Nat.blt_eq] using h.1
  |tail _ hi=>exact eF h.2 i hi
theorem qD (ρ:Nat→Option Nat) : ∀(ord:List Nat) (m1 m:Mem),ord.Nodup→(∀i∈ord,i<m.length)→ord.length≤m1.length → ∀(i:Nat) (b:bg),(cr ρ ord m1 m)[i]? = some b →
  (i<m.length∧i∉ord∧m[i]? = some b)∨(∃(k:Nat) (b1:bg),ord[k]? = some i∧m1[k]? = some b1∧b=ew ρ b1)∨(m.length≤i ∧ ∃b1:bg,m1[ord.length+(i-m.length)]? = some b1∧b=ew ρ b1)
 |[],m1,m,_,_,_,i,b,h=>by
  simp only[cr,List.getElem?_append] at h
  by_cases hi:i<m.length
  · rw[if_pos hi] at h;exact .inl ⟨hi,by simp,h⟩
  · rw[if_neg hi,List.getElem?_map,Option.map_eq_some_iff] at h
    obtain⟨b1,h1,h2⟩:=h
    exact .inr (.inr ⟨by omega,b1,by simpa using h1,h2.symm⟩)
 |j::ord,[],m,_,_,hl,_,_,_=>by simp at hl
 |j::ord,b0::m1,m,hnd,hlt,hl,i,b,h=>by
  simp only[cr] at h
  have Dd:=List.nodup_cons.1 hnd
  rcases qD ρ ord m1 (m.set j (ew ρ b0)) Dd.2 (fun i hi=>by simpa using hlt i (.tail _ hi)) (by simpa using hl) i b h with⟨h1,h2,h3⟩ | ⟨k,b1,h1,h2,h3⟩ | ⟨h1,b1,h2,h3⟩
  · rw[List.length_set] at h1
    rcases aX h3 with⟨rfl,e⟩ | ⟨hne,e⟩
    · exact .inr (.inl ⟨0,b0,rfl,rfl,e⟩)
    · exact .inl ⟨h1,fun hm=>by cases hm with
       |head=>exact hne rfl
       |tail _ hm=>exact h2 hm,e⟩
  · exact .inr (.inl ⟨k+1,b1,h1,h2,h3⟩)
  · rw[List.length_set] at h1 h2
    exact .inr (.inr ⟨h1,b1,by rw[show(j::ord).length+(i-m.length)=(ord.length+(i-m.length))+1 by simp;omega];exact h2,h3⟩)
theorem dg (ρ:Nat→Option Nat) : ∀(ord:List Nat) (m1 m:Mem),ord.length≤m1.length→(cr ρ ord m1 m).length=m.length+(m1.length-ord.length)
 |[],m1,m,_=>by simp[cr]
 |_::_,[],_,h=>by simp at h
 |j::ord,b::m1,m,h=>by
  simp only[cr]
  rw[dg ρ ord m1 _ (by simpa using h)]
  simp
theorem nu : ∀{ord:List Nat} {k i:Nat},ord.Nodup→ord[k]? = some i→idx ord i=some k
 |[],_,_,_,h=>by simp at h
 |j::ord,0,i,_,h=>by
  simp only[List.getElem?_cons_zero,Option.some.injEq] at h;subst h
  simp[idx,Nat.beq_refl]
 |j::ord,k+1,i,hnd,h=>by
  have Dd:=List.nodup_cons.1 hnd
  simp only[List.getElem?_cons_succ] at h
  have hne:Nat.beq i j=false:=by
   rw[Bool.eq_false_iff];intro e
   have:=Nat.eq_of_beq_eq_true e
   subst this
   exact Dd.1 (List.mem_of_getElem? h)
  simp[idx,hne,nu Dd.2 h]
theorem Bs {ord:List Nat} {i:Nat} (h:i∉ord):idx ord i=none:=by
 cases hq:idx ord i with
 |none=>rfl
 |some k=>exact absurd (List.mem_of_getElem? (EO hq)) h
def Gh.back (g g1:Gh) (ord:List Nat) (n:Nat):Gh where
 bE i:=match idx ord i with | some k=>g1.bE k | none=>if i<n then g.bE i else g1.bE (ord.length+(i-n))
 lo i:=match idx ord i with | some k=>g1.lo k | none=>if i<n then g.lo i else g1.lo (ord.length+(i-n))
 hi i:=match idx ord i with | some k=>g1.hi k | none=>if i<n then g.hi i else g1.hi (ord.length+(i-n))
 pure:=g1.pure
def bB (g g':Gh) (n:Nat):Prop:= ∀k c,k<n→g.bE k=some c→g'.bE k=some c∧g'.lo k=g.lo k∧g'.hi k=g.hi k
theorem bB.refl (g:Gh) (n:Nat):bB g g n:=fun _ _ _ h=>⟨h,rfl,rfl⟩
theorem bB.trans {g g' g'':Gh} {n:Nat} (h:bB g g' n) (k:bB g' g'' n):bB g g'' n:=fun i c hi hc=>
 let⟨h1,h2,h3⟩:=h i c hi hc
 let⟨k1,k2,k3⟩:=k i c hi h1
 ⟨k1,k2.trans h2,k3.trans h3⟩
theorem bB.ou {g g':Gh} {w w':World} (h:Ext g w g' w') (n:Nat):bB g g' n:=fun i c _ hc=>h.bE i c hc
theorem Rel.back {g jv:Gh} {m Gr:Mem} {w w':World} (h:Rel g m w) {ord:List Nat} (hnd:ord.Nodup) (hlt : ∀i∈ord,i<m.length)
  (h1:Rel jv Gr w') (hs:cM (g.pack ord) (Am.pack m ord) w jv Gr w') (hf:bB (g.pack ord) jv ord.length) (hl:ord.length≤Gr.length) :
  Rel (g.back jv ord m.length) (cr (bp ord m.length) ord Gr m) w'∧Ext g w (g.back jv ord m.length) w'∧cM g m w (g.back jv ord m.length) (cr (bp ord m.length) ord Gr m) w' ∧
   cJ (bp ord m.length) jv (g.back jv ord m.length):=by
 obtain⟨I2,ER⟩:=h.pack hnd
 have ES : ∀k i,ord[k]? = some i→i<m.length∧k<ord.length∧(g.back jv ord m.length).bE i=jv.bE k∧(g.back jv ord m.length).lo i=jv.lo k∧(g.back jv ord m.length).hi i=jv.hi k:=by
  intro k i hk
  have hx:=nu hnd hk
  exact⟨hlt i (List.mem_of_getElem? hk),bA hk,by simp only[Gh.back,hx],by simp only[Gh.back,hx],by simp only[Gh.back,hx]⟩
 have De : ∀i,i∉ord→i<m.length→(g.back jv ord m.length).bE i=g.bE i∧(g.back jv ord m.length).lo i=g.lo i∧(g.back jv ord m.length).hi i=g.hi i:=by
  intro i hi hlt
  have hx:=Bs hi
  simp only[Gh.back,hx,hlt,if_true,and_self]
 have Nu : ∀i,m.length≤i→(g.back jv ord m.length).bE i=jv.bE (ord.length+(i-m.length))∧(g.back jv ord m.length).lo i=jv.lo (ord.length+(i-m.length))∧(g.back jv ord m.length).hi i=jv.hi (ord.length+(i-m.length)):=by
  intro i hi
  have hx:=Bs (ord:=ord) (i:=i) fun hm=>by have:=hlt i hm;omega
  simp only[Gh.back,hx,Nat.not_lt.2 hi,if_false,and_self]
 have j6:cJ (bp ord m.length) jv (g.back jv ord m.length):=by
  refine⟨fun j k hj=> ?_,rfl⟩
  unfold bp at hj
  cases ho:ord[j]? with
  |some i=>
   simp only[ho,Option.some.injEq] at hj;subst hj
   exact(ES j i ho).2.2
  |none=>
   simp only[ho,Option.some.injEq] at hj;subst hj
   have:ord.length≤j:=List.getElem?_eq_none_iff.1 ho
   have e:ord.length+(m.length+(j-ord.length)-m.length)=j:=by omega
   have:=Nu (m.length+(j-ord.length)) (by omega)
   rwa [e] at this
 have Rb:Ext g w (g.back jv ord m.length) w':=by
  refine⟨fun i c hc=> ?_,fun c o p=>hs.pure c o p⟩
  have hi:i<m.length:=by
   rcases Nat.lt_or_ge i m.length with q | q
   · exact q
   · rw[h.vT i q] at hc;cases hc
  by_cases hm:i∈ord
  · obtain⟨k,hk1,hk2⟩:=List.getElem_of_mem hm
    have hk:ord[k]? = some i:=by rw[List.getElem?_eq_getElem hk1,hk2]
    obtain⟨_,_,e1,e2,e3⟩:=ES k i hk
    obtain⟨f1,f2,f3⟩:=hf k c hk1 (by simpa[Gh.pack,hk] using hc)
    rw[e1,e2,e3,f1,f2,f3]
    simp[Gh.pack,hk]
  · obtain⟨e1,e2,e3⟩:=De i hm hi
    exact⟨e1.trans hc,e2,e3⟩
 have lI : ∀i b c,i∉ord→m[i]? = some b→b.cP=true→g.bE i=some c → ¬eN (g.pack ord) (Am.pack m ord) c:=by
  intro i b c hi hb ho hc hO
  obtain⟨k,b',hk,ho',eP⟩:=hO
  obtain⟨i',q1,rfl⟩:=iE hk
  rw[jD] at ho'
  have eP:g.bE i'=some c:=by simpa[Gh.pack,q1] using eP
  have:=h.inj i i' _ _ c hb (xl ho') ho ho' hc eP
  subst this
  exact hi (List.mem_of_getElem? q1)
 have zT : ∀i b c,i∉ord→m[i]? = some b→b.cP=true→g.bE i=some c → ∀o,jv.pure c o→g.pure c o:=by
  intro i b c hi hb ho hc o p
  rcases hs.fresh c o p with q | q | q
  · exact q
  · exact absurd q (lI i b c hi hb ho hc)
  · exact absurd (h.jy ⟨i,b,hb,ho,hc⟩) (Nat.not_lt.2 q)
 have get:=qD (bp ord m.length) ord Gr m hnd hlt hl
 have Rc : ∀i b c,(cr (bp ord m.length) ord Gr m)[i]? = some b→b.cP=true→(g.back jv ord m.length).bE i=some c →
   (i∉ord∧m[i]? = some b∧g.bE i=some c)∨(∃k b1,bp ord m.length k=some i∧Gr[k]? = some b1∧b1.cP=true∧jv.bE k=some c):=by
  intro i b c hi ho hc
  rcases get i b hi with⟨q1,q2,q3⟩ | ⟨k,b1,q1,q2,rfl⟩ | ⟨q1,b1,q2,rfl⟩
  · exact .inl ⟨q2,q3,by rw[(De i q2 q1).1] at hc;exact hc⟩
  · rw[jD] at ho
    exact .inr ⟨k,b1,by simp[bp,q1],q2,ho,by rw[(ES k i q1).2.2.1] at hc;exact hc⟩
  · rw[jD] at ho
    rw[(Nu i q1).1] at hc
    have hn:ord[ord.length+(i-m.length)]? = none:=List.getElem?_eq_none (by omega)
    refine .inr ⟨_,b1,?_,q2,ho,hc⟩
    simp only[bp,hn,Option.some.injEq];omega
 refine⟨⟨fun i hi=> ?_,fun i hi=> ?_,fun i b l hi hb=> ?_,fun i c hi hc=> ?_,fun i j b b' c hi hj ho ho' hc eP=> ?_,h1.there,fun i ob l hi=> ?_⟩,Rb,⟨hs.size,fun c hc hn=>hs.keep c hc fun ho=>hn (ER c ho),hs.pure,fun c o p=> ?_,fun c ho=> ?_,hs.os,hs.tape,hs.output⟩,j6⟩
 · rw[dg _ _ _ _ hl] at hi
   rw[(Nu i (by omega)).1]
   exact h1.vT _ (by omega)
 · rcases get i _ hi with⟨q1,q0,q3⟩ | ⟨k,b1,q1,q2,q3⟩ | ⟨q1,b1,q2,q3⟩
   · rw[(De i q0 q1).1];exact h.free i q3
   · have q3:=pU q3.symm
     subst q3
     rw[(ES k i q1).2.2.1];exact h1.free k q2
   · have q3:=pU q3.symm
     subst q3
     rw[(Nu i q1).1];exact h1.free _ q2
 · have back : ∀k b1,bp ord m.length k=some i→Gr[k]? = some b1→b=ew (bp ord m.length) b1 →
    ∃c cs e n,(g.back jv ord m.length).bE i=some c∧w'.heap[c]? = some (.cells cs e n)∧n.2≤n.1∧A7 (g.back jv ord m.length) w' l cs.toList ∧ ∀o,¬(g.back jv ord m.length).pure c o:=by
    rintro k b1 hk Rd rfl
    obtain⟨l0,q,rfl⟩:=tq hb
    obtain⟨c,cs,e,n,k1,k2,k3,k4,k5⟩:=h1.cells k b1 l0 Rd q
    exact⟨c,cs,e,n,(j6.at' k i hk).1.trans k1,k2,k3,⟨k4.1.fV j6,k4.2⟩,k5⟩
   rcases get i _ hi with⟨q1,q2,q3⟩ | ⟨k,b1,q1,q2,q3⟩ | ⟨q1,b1,q2,q3⟩
   · obtain⟨c,cs,e,n,k1,k2,k3,k4,k5⟩:=h.cells i b l q3 hb
     have ho:=b8 hb
     exact⟨c,cs,e,n,(De i q2 q1).1.trans k1,(hs.keep c (bz k2) (lI i b c q2 q3 ho k1)).trans k2,k3,k4.mono Rb,fun o p=>k5 o (zT i b c q2 q3 ho k1 o p)⟩
   · exact back k b1 (by simp[bp,q1]) q2 q3
   · have hn:ord[ord.length+(i-m.length)]? = none:=List.getElem?_eq_none (by omega)
     exact back _ b1 (by simp only[bp,hn,Option.some.injEq];omega) q2 q3
 · have back : ∀k b1,bp ord m.length k=some i→Gr[k]? = some b1→bg.tok=ew (bp ord m.length) b1 →
    ∃cs e n,w'.heap[c]? = some (.cells cs e n)∧(g.back jv ord m.length).hi i≤cs.size∧(n.2≤n.1∨(g.back jv ord m.length).hi i≤n.1) ∧ ∀o,(g.back jv ord m.length).lo i≤o→o<(g.back jv ord m.length).hi i → ¬(g.back jv ord m.length).pure c o:=by
    intro k b1 hk Rd hq
    have hq:=Br hq.symm
    subst hq
    obtain⟨e1,e2,e3⟩:=j6.at' k i hk
    rw[e2,e3]
    rw[e1] at hc
    exact h1.tok k c Rd hc
   rcases get i _ hi with⟨q1,q2,q3⟩ | ⟨k,b1,q1,q2,q3⟩ | ⟨q1,b1,q2,q3⟩
   · obtain⟨e0,e2,e1⟩:=De i q2 q1
     have hc:g.bE i=some c:=e0.symm.trans hc
     obtain⟨cs,e,n,k2,k3,k4,k5⟩:=h.tok i c q3 hc
     rw[e1,e2]
     exact⟨cs,e,n,(hs.keep c (bz k2) (lI i _ c q2 q3 rfl hc)).trans k2,k3,k4,fun o a b p=>k5 o a b (zT i _ c q2 q3 rfl hc o p)⟩
   · exact back k b1 (by simp[bp,q1]) q2 q3
   · have hn:ord[ord.length+(i-m.length)]? = none:=List.getElem?_eq_none (by omega)
     exact back _ b1 (by simp only[bp,hn,Option.some.injEq];omega) q2 q3
 · have apart : ∀i b,i∉ord→m[i]? = some b→b.cP=true→g.bE i=some c → ∀k b1,Gr[k]? = some b1→b1.cP=true→jv.bE k=some c→False:=by
    intro i b q2 q3 ho hc k b1 hk ho1 ff
    rcases hs.owned c ⟨k,b1,hk,ho1,ff⟩ with q | q
    · exact lI i b c q2 q3 ho hc q
    · exact absurd (h.jy ⟨i,b,q3,ho,hc⟩) (Nat.not_lt.2 q)
   rcases Rc i b c hi ho hc with⟨p1,p2,p3⟩ | ⟨k,b1,p1,p2,p3,p4⟩<;>rcases Rc j b' c hj ho' eP with⟨q1,q2,q3⟩ | ⟨k',b1',q1,q2,q3,q4⟩
   · exact h.inj i j b b' c p2 q2 ho ho' p3 q3
   · exact(apart i b p1 p2 ho p3 k' b1' q2 q3 q4).elim
   · exact(apart j b' q1 q2 ho' q3 k b1 p2 p3 p4).elim
   · have:=h1.inj k k' b1 b1' c p2 q2 p3 q3 p4 q4
     subst this
     rw[p1] at q1;exact Option.some.inj q1
 · have back : ∀k b1,bp ord m.length k=some i→Gr[k]? = some b1→bg.ob ob l=ew (bp ord m.length) b1 →
    ∃c o vs,(g.back jv ord m.length).bE i=some c∧w'.heap[c]? = some o∧cj (g.back jv ord m.length) w' l vs∧ob.is o vs∧(∀o',¬(g.back jv ord m.length).pure c o')∧ob.room o ((g.back jv ord m.length).hi i):=by
    intro k b1 hk Rd hq
    obtain⟨l0,rfl,ZE⟩:=EN hq.symm
    obtain⟨c,o,vs,k1,k2,k3,k4,k5,k6⟩:=h1.obs k ob l0 Rd
    exact⟨c,o,vs,(j6.at' k i hk).1.trans k1,k2,k3.QC j6 ZE,k4,k5,by rw[(j6.at' k i hk).2.2];exact k6⟩
   rcases get i _ hi with⟨q1,q2,q3⟩ | ⟨k,b1,q1,q2,q3⟩ | ⟨q1,b1,q2,q3⟩
   · obtain⟨c,o,vs,k1,k2,k3,k4,k5,k6⟩:=h.obs i ob l q3
     exact⟨c,o,vs,(De i q2 q1).1.trans k1,(hs.keep c (bz k2) (lI i _ c q2 q3 rfl k1)).trans k2,k3.mono Rb,k4,fun o' p=>k5 o' (zT i _ c q2 q3 rfl k1 o' p),by rw[(De i q2 q1).2.2];exact k6⟩
   · exact back k b1 (by simp[bp,q1]) q2 q3
   · have hn:ord[ord.length+(i-m.length)]? = none:=List.getElem?_eq_none (by omega)
     exact back _ b1 (by simp only[bp,hn,Option.some.injEq];omega) q2 q3
 · rcases hs.fresh c o p with q | q | q
   · exact .inl q
   · exact .inr (.inl (ER c q))
   · exact .inr (.inr q)
 · obtain⟨i,b,hi,hb,hc⟩:=ho
   rcases Rc i b c hi hb hc with⟨_,p2,p3⟩ | ⟨k,b1,p1,p2,p3,p4⟩
   · exact .inl ⟨i,b,p2,hb,p3⟩
   · rcases hs.owned c ⟨k,b1,p2,p3,p4⟩ with q | q
     · exact .inl (ER c q)
     · exact .inr q
end Go.Am
end
section
namespace Go.Am
open Go.RowKit
def er:It→List Item
 |.code _ c=>[.code c]
 |.ops _ ops k _=>[.inRegion ops (List.range' k (ops.size-k))]
 |.inBlock id=>[.inBlock id]
 |.inLoop _ b=>[.inLoop b]
 |.inScope b=>[.inScope b]
 |.forget _=>[]
 |.fin=>[]
 |.begin=>[.beginRound]
 |.vS _=>[]
 |.fH _=>[]
 |.leave=>[]
def It.pl:It→Prop
 |.fin | .vS _ | .fH _ | .leave=>False
 |_=>True
def cY:List It→List Item
 |[]=>[]
 |x::k=>er x++cY k
def eI (E:Env) (g:Gh) (w:World):Prop:= ∀i cs,E.dj i=some cs→VP g w (.pp 0 cs) (.pointer (some ⟨i,0,none⟩))
theorem eI.mono {E:Env} {g g':Gh} {w w':World} (h:eI E g w) (e : ∀c o,g.pure c o→g'.pure c o∧w'.cell? ⟨c,o,none⟩=w.cell? ⟨c,o,none⟩):eI E g' w':=fun i cs hi=>(h i cs hi).mono e
structure bS (E:Env) (g:Gh) (st:St) (a:Act) (w:World):Prop where
 tm : ∀k,VA g w (look st.tm k) (a.tmps.getD k undef)
 nt:a.tmps.size=st.nt
 rel:Rel g st.mem w
 fix:st.fix≤st.mem.length
 dj:eI E g w
def dA (g:Gh) (r:Qy) (b:Frame):Prop:=match r with
 |.call=>b.kind = .normal∧b.roundOf=none
 |.round i=>b.kind = .normal ∧ ∃l,g.bE i=some l∧b.roundOf=some l
 |.late=>b.kind = .deferred∧b.roundOf=none
theorem dA.ext {g g':Gh} (e : ∀i c,g.bE i=some c→g'.bE i=some c) {r:Qy} {b:Frame} (h:dA g r b):dA g' r b:=by
 cases r with
 |call=>exact h
 |late=>exact h
 |round i=>
  obtain⟨h1,l,q1,q2⟩:=h
  exact⟨h1,l,e i l q1,q2⟩
theorem dA.zU {g:Gh} {r:Qy} {b:Frame} (h:dA g r b) (hn : ∀i,r ≠ .round i):b.roundOf=none:=by
 cases r with
 |call=>exact h.2
 |late=>exact h.2
 |round i=>exact absurd rfl (hn i)
def Zj (g:Gh) (l:List (Nat×Nat)) (cs:List Value):Prop:=bq (fun q v=> ∃c,g.bE q.1=some c∧v = .pointer (some ⟨c,q.2,none⟩)) l cs
def Mark.Ok (g:Gh):Mark→Deferred→Prop
 |.range b,d=> ∃D,g.bE b=some D∧d={target:= .collected D,args:= #[]}
 |.late f l m,d=> ∃fa ca:Array Value,Zj g l fa.toList∧Zj g m ca.toList∧d={target:= .fn (.func f) ca,args:=fa}
theorem Mark.Ok.ext {g g':Gh} (e : ∀i c,g.bE i=some c→g'.bE i=some c) {mk:Mark} {d:Deferred} (h:mk.Ok g d):mk.Ok g' d:=by
 cases mk with
 |range b=>
  obtain⟨D,q1,q2⟩:=h
  exact⟨D,e _ D q1,q2⟩
 |late f l m=>
  obtain⟨fa,ca,q1,q2,q3⟩:=h
  exact⟨fa,ca,bq.mono (fun _ _ ⟨c,k1,k2⟩=>⟨c,e _ c k1,k2⟩) q1,bq.mono (fun _ _ ⟨c,k1,k2⟩=>⟨c,e _ c k1,k2⟩) q2,q3⟩
def Mk (g:Gh) (mk:List Mark) (ds:List Deferred):Prop:=bq (fun b d=>b.Ok g d) mk ds
theorem Mk.ext {g g':Gh} (e : ∀i c,g.bE i=some c→g'.bE i=some c) {mk:List Mark} {ds:List Deferred} (h:Mk g mk ds):Mk g' mk ds:=
 bq.mono (fun _ _ q=>q.ext e) h
def I3 (P:Program) (r:Qy) (fr:Frame) (w:World) (cv:Value) (w2:World):Prop:=match r with
 |.call=>fr.leaving P w (.returned cv)∧w2=w
 |.late=>(fr.going P w (.returned cv)∧fr.kind = .deferred)∧w2=w
 |.round _=> ∀(c:Frame) (cs:List Frame),Steps P (lone fr (c::cs) w) (lone (c.finish cv) cs w2)
def cg:Option Value→Bool→FrameMode
 |none,_=> .returning
 |some v,b=> .panicking [{v:=v,recovered:=b}]
def cw (P:Program) (E:Env) (g:Gh) (c:bJ) (fr:Frame) (w:World):Prop:=
 match c.todo with
 |.fin::_=>fr.fn=c.f ∧ ∃cv w2,I3 P c.st.bM fr w cv w2∧VA g w2 (look c.st.tm 0) cv∧Rel g c.st.mem w2∧cM g c.st.mem w g c.st.mem w2∧c.st.fix≤c.st.mem.length
 |.vS u::_=>fr.fn=c.f ∧ ∃cv,fr.leaving P w (.panicked [{v:=cv,recovered:=false}])∧VA g w u cv∧Rel g c.st.mem w∧c.st.fix≤c.st.mem.length
 |.fH u::_=> ∃(b:Frame) (a:Act) (todo:List Item) (cv:Value),fr={b.atR a todo with mode:=cg (some cv) false}∧b.fn=c.f∧dA g c.st.bM b∧Mk g c.st.bU a.defers∧bS E g c.st a w∧VA g w u cv
 |.leave::_=> ∃(b:Frame) (a:Act) (todo:List Item),fr={b.atR a todo with mode:= .returning}∧b.fn=c.f∧dA g c.st.bM b∧(∀i,c.st.bM ≠ .round i)∧c.st.bU=[]∧a.defers=[]∧bS E g c.st a w
 |_=> ∃(b:Frame) (a:Act),fr=b.atR a (cY c.todo)∧b.fn=c.f∧dA g c.st.bM b∧Mk g c.st.bU a.defers∧bS E g c.st a w ∧ ∀x∈c.todo,It.pl x
def dI (P:Program) (E:Env) (g:Gh) (c:bJ) (fr:Frame) (w:World) (c':bJ):Prop:=
 ∀cs,∃g' fr' w',Steps P (lone fr cs w) (lone fr' cs w')∧cw P E g' c' fr' w'∧cM g c.st.mem w g' c'.st.mem w'∧bB g g' c.st.fix∧c'.f=c.f∧c'.st.fix=c.st.fix∧c'.st.bM=c.st.bM
def aC (P:Program) (E:Env) (f:FuncId) (args:List AV) (m:Mem) (v:AV) (m':Mem):Prop:=
 (∃fn,P.funcs[f]? = some fn∧fn.body.isSome=true∧(fn.name == "runtime.NumGoroutine")=false) ∧
 ∀(g:Gh) (w:World) (cN:Array Value) (cs:List Frame),Rel g m w→cj g w args cN.toList→eI E g w →
  ∃w' g' cv fr,Steps P (lone (Frame.enter P f cN .normal) cs w) (lone fr cs w')∧fr.leaving P w' (.returned cv)∧fr.fn=f ∧
   VA g' w' v cv∧Rel g' m' w'∧cM g m w g' m' w'∧bB g g' m.length∧m.length≤m'.length
def I4 (P:Program) (E:Env) (f:FuncId) (args:List AV) (m:Mem) (v:AV) (m':Mem):Prop:=
 (∃fn,P.funcs[f]? = some fn∧fn.body.isSome=true∧(fn.name == "runtime.NumGoroutine")=false) ∧
 ∀(g:Gh) (w:World) (cN:Array Value) (cs:List Frame),Rel g m w→cj g w args cN.toList→eI E g w →
  ∃w' g' cv fr,Steps P (lone (Frame.enter P f cN .normal) cs w) (lone fr cs w')∧fr.leaving P w' (.panicked [{v:=cv,recovered:=false}])∧fr.fn=f ∧
   VA g' w' v cv∧Rel g' m' w'∧cM g m w g' m' w'∧bB g g' m.length∧m.length≤m'.length
def I5 (g:Gh) (w:World):Option AV→Option Value→Prop
 |none,none=>True
 |some u,some v=>VA g w u v
 |_,_=>False
def I6 (P:Program) (E:Env) (f:FuncId) (args:List AV) (m:Mem) (pv:Option AV) (m':Mem):Prop:=
 (∃fn,P.funcs[f]? = some fn∧fn.body.isSome=true∧(fn.name == "runtime.NumGoroutine")=false) ∧
 ∀(g:Gh) (w:World) (cN:Array Value) (ow:Option Value) (c0:Frame) (cs:List Frame),c0.mode=cg ow false→I5 g w pv ow→Rel g m w→cj g w args cN.toList→eI E g w →
  ∃w' g' cv fr,Steps P (lone (Frame.enter P f cN .deferred) (c0::cs) w) (lone fr ({c0 with mode:=cg ow true}::cs) w')∧fr.going P w' (.returned cv)∧fr.kind = .deferred ∧
   Rel g' m' w'∧cM g m w g' m' w'∧bB g g' m.length∧m.length≤m'.length
def ET (P:Program) (E:Env) (args:List AV) (m:Mem) (v:AV) (m':Mem):Prop:=
 ∀(g:Gh) (w:World) (i l:Nat) (xs:List AV) (Nv:Array Value) (c:Frame) (cs:List Frame),args = .vy i::xs→Rel g m w→g.bE i=some l→cj g w xs Nv.toList→eI E g w →
  ∃f tmps as bd w' g' cv,(Instr.yield l Nv).run P w = .ok (.round l f tmps as bd) w∧Steps P (lone (Frame.round l f tmps as bd .normal) (c::cs) w) (lone (c.finish cv) cs w') ∧
   VA g' w' v cv∧Rel g' m' w'∧cM g m w g' m' w'∧bB g g' m.length∧m.length≤m'.length
section
variable {P:Program} {E:Env} {g:Gh} {w:World}
theorem eS {st:St} {a:Act} (h:bS E g st a w) (x:Operand):VA g w (ev E st.tm x) (a.eval x):=by
 cases x with
 |tmp t=>exact h.tm t
 |const v=>exact VA.Et v
 |global i=>
  simp only[ev,Act.eval]
  cases hg:E.dj i with
  |none=>exact .p _ _ (.sc _)
  |some cs=>exact .p _ _ (h.dj i cs hg)
 |func f=>exact VA.fns.2 ⟨#[],#[],rfl,trivial,trivial⟩
theorem hY (tm:rG) (d k:Nat) (v:AV):look ((d,v)::tm) k=if d=k then v else look tm k:=by
 simp only[look]
 by_cases h:d=k
 · subst h;simp[Nat.beq_refl]
 · have:Nat.beq d k=false:=by rw[Bool.eq_false_iff];intro e;exact h (Nat.eq_of_beq_eq_true e)
   simp[this,h]
theorem bS.put {st:St} {a:Act} {g':Gh} {w':World} {m':Mem} (h:bS E g st a w) {dst:Option Tmp} {v:AV} {cv:Value} (hf:fits st dst=true) (hv:VA g' w' v cv) (he:Ext g w g' w') (hr:Rel g' m' w') (hx:st.fix≤m'.length) :
  bS E g' (Am.put {st with mem:=m'} dst v) (a.put dst cv) w':=by
 cases dst with
 |none=>exact⟨fun k=>(h.tm k).mono he,h.nt,hr,hx,h.dj.mono he.pure⟩
 |some d=>
  have hd:d<a.tmps.size:=by rw[h.nt];simpa[fits,Nat.blt_eq] using hf
  refine⟨fun k=> ?_,by simp[Act.put,Am.put,h.nt],hr,hx,h.dj.mono he.pure⟩
  simp only[Am.put,hY,Act.put]
  by_cases hk:d=k
  · subst hk
    simp only[if_true,Array.getD_eq_getD_getElem?,Array.getElem?_setIfInBounds_self_of_lt hd,Option.getD_some]
    exact hv
  · simp only[hk,if_false,Array.getD_eq_getD_getElem?]
    rw[Array.getElem?_setIfInBounds_ne hk,←Array.getD_eq_getD_getElem?]
    exact(h.tm k).mono he
theorem bS.known {st:St} {a:Act} (h:bS E g st a w) {d:Nat} {v:AV} (hv:VA g w v (a.tmps.getD d undef)):bS E g (Am.put st (some d) v) a w:=by
 refine⟨fun k=> ?_,h.nt,h.rel,h.fix,h.dj⟩
 simp only[Am.put,hY]
 by_cases hk:d=k
 · subst hk;simp only[if_true];exact hv
 · simp only[hk,if_false];exact h.tm k
theorem lJ {k n:Nat} (h:k<n):List.range' k (n-k)=k::List.range' (k+1) (n-(k+1)):=by
 rw[show n-k=(n-(k+1))+1 by omega,List.range'_succ]
theorem semAt_eq {o:Oper} {ro:Option Nat} {ρ:Operand→Value} {n:Next} {w':World} (hr:(execOp ρ o).run P w = .ok n w') (hn : ∀d,n ≠ .defer d):o.semAt ro ρ=execOp ρ o:=by
 unfold Oper.semAt
 cases ro with
 |none=>rfl
 |some l=>
  cases ho:o.op<;>first
   |rfl
   |(exfalso
     simp only[execOp,ho,Sem.run_bind] at hr
     revert hr
     cases(resolve ρ _ o.type).run P w<;>intro hr<;>simp[Result.andThen] at hr
     exact hn _ hr.1.symm)
theorem ox {b:Frame} {a:Act} {k:List Item} {cs:List Frame} {w':World} {ops:Array Oper} {i:Nat} {rest:List Nat} {o:Oper} {v:Value} (ho:ops[i]? = some o) (hw:Region.wanted o (yielded ops a.tmps)=true)
  (hr:(execOp a.eval o).run P w = .ok (.value v) w'∨((execOp a.eval o).run P w = .ok .skip w'∧v=undef)) :
  _root_.Go.step P (lone (b.atR a (.inRegion ops (i::rest)::k)) cs w) = .next (lone (b.atR (a.put o.dst v) (.inRegion ops rest::k)) cs w'):=by
 have hg:=stepGR_op (P:=P) (b:=b) (k:=k) (cs:=cs) (w:=w) (rest:=rest) ho hw
 have lK:(b.atR a (.inRegion ops (i::rest)::k)).finish v=b.atR (a.put o.dst v) (.inRegion ops rest::k):=by rw[Frame.finish_atR,ho];rfl
 refine step_lone_go ?_
 rw[hg,←lK]
 rcases hr with hr | ⟨hr,rfl⟩
 · rw[semAt_eq hr fun _ e=>by cases e];simp[stepG.apply,hr]
 · rw[semAt_eq hr fun _ e=>by cases e];simp[stepG.apply,hr]
theorem nv {b:Frame} {a:Act} {k:List Item} {cs:List Frame} {w':World} {ops:Array Oper} {i:Nat} {rest:List Nat} {o:Oper} {f:FuncId} {args:Array Value} (ho:ops[i]? = some o) (hw:Region.wanted o (yielded ops a.tmps)=true)
  (hr:(execOp a.eval o).run P w = .ok (.enter f args) w') :
  _root_.Go.step P (lone (b.atR a (.inRegion ops (i::rest)::k)) cs w) = .next (lone (Frame.enter P f args .normal) (b.atR a (.inRegion ops (i::rest)::k)::cs) w'):=by
 have hg:=stepGR_op (P:=P) (b:=b) (k:=k) (cs:=cs) (w:=w) (rest:=rest) ho hw
 exact step_lone_go (by rw[hg,semAt_eq hr fun _ e=>by cases e];simp[stepG.apply,hr,Frame.atR])
theorem mH {st:St} {a:Act} (h:bS E g st a w) {ops:Array Oper} {o:Oper} :
  (dm ops st.tm o = .yes→Region.wanted o (yielded ops a.tmps)=true)∧(dm ops st.tm o = .no→Region.wanted o (yielded ops a.tmps)=false) ∧
  (∀d b want,dm ops st.tm o = .ask d b want→Region.wanted o (yielded ops a.tmps)=(b==want)∧a.tmps.getD d undef = .bool b):=by
 unfold dm Region.wanted
 cases hg:o.guard with
 |none=>simp
 |some q=>
  obtain⟨j,want⟩:=q
  simp only[yielded]
  cases hj:ops[j]? with
  |none=>simp
  |some oj=>
   simp only[Option.bind_some]
   cases hd:oj.dst with
   |none=>simp
   |some d=>
    simp only[Option.bind_some]
    have hv:=h.tm d
    have jB:a.tmps.getD d undef=(a.tmps[d]?).getD undef:=by rw[Array.getD_eq_getD_getElem?]
    generalize hz:a.tmps.getD d undef=z at hv jB
    generalize hl:look st.tm d=x at hv
    cases hv with
    |p pv cv hp=>
     cases hp with
     |sc=>
      cases z with
      |bool b=>
       have:a.tmps[d]? = some (.bool b):=by
        cases ha:a.tmps[d]? with
        |none=>rw[ha] at jB;cases jB
        |some u=>rw[ha] at jB;simp at jB;rw[jB]
       refine⟨fun h=>(by cases h),fun h=>(by cases h),?_⟩
       rintro d' b' w' e
       cases e
       refine⟨?_,hz⟩
       simp only[this]
       cases b<;>cases want<;>rfl
      |_=>exact⟨fun h=>(by cases h),fun h=>(by cases h),fun _ _ _ h=>(by cases h)⟩
     |_=>exact⟨fun h=>(by cases h),fun h=>(by cases h),fun _ _ _ h=>(by cases h)⟩
    |aS l cs hl' hh=>
     refine⟨fun h=>(by cases h),fun _=> ?_,fun _ _ _ h=>(by cases h)⟩
     cases ha:a.tmps[d]? with
     |none=>simp
     |some u=>
      rw[ha] at jB;simp at jB
      subst jB
      simp
    |_=>exact⟨fun h=>(by cases h),fun h=>(by cases h),fun _ _ _ h=>(by cases h)⟩
end
end Go.Am
end
