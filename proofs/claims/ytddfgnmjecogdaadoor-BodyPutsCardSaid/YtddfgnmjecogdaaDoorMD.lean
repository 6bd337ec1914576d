/-
Each operation that is no call of a function: what the executor tells is what the model does.
Blocks by other numbers: the relations last.
Blocks that are lent to a call, and come back.
The executor's steps are the machine's: the relation, operations, ends.
-/
import Derived.Test.YtddfgnmjecogdaaDoorMC
import Derived.WideMake
import Derived.AtR
import Derived.Recover
section
namespace Go.Am
open Go.RowKit
section ops
variable {P:Program} {g:Gh} {m:Mem} {w:World}
theorem jw {ρ:Operand→AV} {aV:Operand→Value} (hr : ∀x,VA g w (ρ x) (aV x)) : ∀(l:List (Nat×Operand)),
  aK (fun a b=>a.1=b.1∧VA g w a.2 b.2) (l.map fun q=>(q.1,ρ q.2)) (l.map fun(i,x)=>(i,aV x))
 |[]=>trivial
 |(_,x)::l=>⟨⟨rfl,hr x⟩,jw hr l⟩
theorem eg {ρ:Operand→AV} {aV:Operand→Value} (hr : ∀x,VA g w (ρ x) (aV x)) : ∀(l:List Operand),bM g w (l.map ρ) (l.map aV)
 |[]=>trivial
 |x::l=>⟨hr x,eg hr l⟩
theorem bh.of {h:Rel g m w} {s:Sem Value} {r:Result Next} {a:AV} (hr:r=(s.run P w).andThen fun v w'=> .ok (.value v) w') (hs : ∃v,s.run P w = .ok v w∧VA g w a v):bh g m w r a m:=by
 obtain⟨v,h1,h2⟩:=hs
 exact bh.quiet h (by rw[hr,h1];rfl) h2
theorem eH {r:Option AV} {a:AV} {us:iX} {ok:Bool} (h:fS r=some (a,us,ok)):r=some a∧us=[]:=by
 simp only[fS,Option.map_eq_some_iff,Prod.mk.injEq] at h
 obtain⟨v,h1,rfl,rfl,_⟩:=h
 exact⟨h1,rfl⟩
theorem fB {r:Option (AV×Bool)} {a:AV} {us:iX} {ok:Bool} (h:eC r=some (a,us,ok)):r=some (a,ok)∧us=[]:=by
 simp only[eC,Option.map_eq_some_iff,Prod.mk.injEq] at h
 obtain⟨⟨v,b⟩,h1,rfl,rfl,rfl⟩:=h
 exact⟨h1,rfl⟩
theorem rT (h:Rel g m w) {aV:Operand→Value} {o:Oper} {aF:Nat} (hn:m[aF]? = some .free) {t:TypeId} {x:Operand} {ax a:AV} {us:iX} (hx:VA g w ax (aV x)) (ho:o.op = .range t x)
  (he:ud P aF t ax=some (a,us,true)):bh g m w ((execOp aV o).run P w) a (apply m us):=by
 unfold ud at he
 split at he
 · rename_i s hd
   simp only[Option.some.injEq,Prod.mk.injEq,and_true] at he
   obtain⟨rfl,rfl⟩:=he
   rw[VA.pv] at hx
   generalize hz:aV x=z at hx
   cases hx
   obtain⟨h1,h2,h3⟩:=h.oO (ob:= .iter s 0) (l:=[]) (vs:=[]) hn trivial (cE w (.stringIter s 0)) ⟨rfl,rfl⟩
   refine⟨.pointer (some ⟨w.heap.size,0,none⟩),_,_,.inl ?_,.mp aF 0 _ (by simp[Gh.put]),h1,h2,h3⟩
   simp[execOp,ho,hz,Instr.range,Sem.run_bind,run_underlying hd,Result.andThen]
 · cases he
theorem uI (h:Rel g m w) {aV:Operand→Value} {o:Oper} {x:Operand} {s:Bool} {ax a:AV} {us:iX} (hx:VA g w ax (aV x)) (ho:o.op = .next x s)
  (he:xL (fun i=>m.getD i .dead) ax s=some (a,us,true)):bh g m w ((execOp aV o).run P w) a (apply m us):=by
 cases s with
 |false=>cases he
 |true=>
  simp only[xL] at he
  split at he
  · rename_i b
    split at he
    · rename_i str pos l hb
      have hib:=getD_some hb (by simp)
      obtain⟨c,ob,vs,k1,k2,k3,k4,_⟩:=h.obs b _ _ hib
      obtain⟨rfl,rfl⟩:=k4
      generalize hz:aV x=z at hx
      cases hx with
      |mp _ _ c' hc=>
       rw[k1] at hc;cases hc
       have jx:(getObj c).run P w = .ok (.stringIter str pos) w:=by simp[getObj,Sem.run,k2]
       split at he
       · rename_i hlt
         rw[Nat.blt_eq] at hlt
         generalize Fh:Utf8.decode str pos=q at he
         obtain⟨cc,width⟩:=q
         simp only[Option.some.injEq,Prod.mk.injEq,and_true] at he
         obtain⟨rfl,rfl⟩:=he
         obtain⟨e1,e2,e3⟩:=cj w (o':= .stringIter str (pos+width)) k2
         obtain⟨r1,r2,r3⟩:=h.eE (xO:= .iter str (pos+width)) (l':=[]) (vs':=[]) hib k1 e1 e2 rfl rfl rfl e3 ⟨rfl,rfl⟩ trivial
         have rL:(setObj c (.stringIter str (pos+width))).run P w = .ok () {w with heap:=w.heap.setIfInBounds c (.stringIter str (pos+width))}:=by simp[setObj,Sem.run,k2]
         refine⟨.tuple #[.bool true,goInt pos,.int .i32 cc],_,g,.inl ?_,VA.fY.2 ⟨.p _ _ (.sc _),.p _ _ (.sc _),.p _ _ (.sc _),trivial⟩,r1,r2,r3⟩
         simp only[execOp,ho,hz,Instr.next,Sem.run_bind,jx,Result.andThen_ok,hlt,if_true,Fh,rL,Sem.run_pure]
       · rename_i hlt
         have hlt' : ¬pos<str.size:=fun q=>by rw[←Nat.blt_eq] at q;rw[q] at hlt;cases hlt
         simp only[Option.some.injEq,Prod.mk.injEq,and_true] at he
         obtain⟨rfl,rfl⟩:=he
         refine bh.quiet h (v:= .tuple #[.bool false]) ?_ (VA.fY.2 ⟨.p _ _ (.sc _),trivial⟩)
         simp only[execOp,ho,hz,Instr.next,Sem.run_bind,jx,Result.andThen_ok,hlt',if_false,Sem.run_pure]
    · rename_i str pos more l hb
      have hib:=getD_some hb (by simp)
      obtain⟨c,ob,vs,k1,k2,k3,k4,_⟩:=h.obs b _ _ hib
      obtain⟨rfl,rfl,k5⟩:=k4
      generalize hz:aV x=z at hx
      cases hx with
      |mp _ _ c' hc=>
       rw[k1] at hc;cases hc
       have jx:(getObj c).run P w = .ok (.stringIter str pos) w:=by simp[getObj,Sem.run,k2]
       split at he
       · have hlt:pos<str.size:=by rw[Nat.blt_eq] at k5;exact k5
         generalize Fh:Utf8.decode str pos=q at he
         obtain⟨cc,width⟩:=q
         simp only[Option.some.injEq,Prod.mk.injEq,and_true] at he
         obtain⟨rfl,rfl⟩:=he
         obtain⟨e1,e2,e3⟩:=cj w (o':= .stringIter str (pos+width)) k2
         obtain⟨r1,r2,r3⟩:=h.eE (xO:= .iter str (pos+width)) (l':=[]) (vs':=[]) hib k1 e1 e2 rfl rfl rfl e3 ⟨rfl,rfl⟩ trivial
         have rL:(setObj c (.stringIter str (pos+width))).run P w = .ok () {w with heap:=w.heap.setIfInBounds c (.stringIter str (pos+width))}:=by simp[setObj,Sem.run,k2]
         refine⟨.tuple #[.bool true,goInt pos,.int .i32 cc],_,g,.inl ?_,VA.fY.2 ⟨.p _ _ (.sc _),.p _ _ (.sc _),.p _ _ (.sc _),trivial⟩,r1,r2,r3⟩
         simp only[execOp,ho,hz,Instr.next,Sem.run_bind,jx,Result.andThen_ok,hlt,if_true,Fh,rL,Sem.run_pure]
       · have hlt' : ¬pos<str.size:=fun q=>by rw[←Nat.blt_eq,k5] at q;cases q
         simp only[Option.some.injEq,Prod.mk.injEq,and_true] at he
         obtain⟨rfl,rfl⟩:=he
         refine bh.quiet h (v:= .tuple #[.bool false]) ?_ (VA.fY.2 ⟨.p _ _ (.sc _),trivial⟩)
         simp only[execOp,ho,hz,Instr.next,Sem.run_bind,jx,Result.andThen_ok,hlt',if_false,Sem.run_pure]
    · cases he
  · cases he
theorem rU {ρ:Operand→AV} {aV:Operand→Value} (hr : ∀x,VA g w (ρ x) (aV x)) {o:Oper} {op:BinOp} {t yt:TypeId} {x y:Operand} {l c:Nat} (hy:aV y = .slice none l c) (ho:o.op = .binOp op t x y yt) {a:AV} {us:iX} {ok:Bool} (he:oH P op t (ρ x)=some (a,us,ok)) :
  us=[] ∧ ∃v,(execOp aV o).run P w = .ok (.value v) w∧VA g w a v:=by
 unfold oH at he
 split at he
 · rename_i e hd
   have key : ∀{b:Bool},sw (ρ x)=some b→(∀op':BinOp,(eqGuard op' t x y (aV x) (aV y)).run P w = .ok () w)∧(Op.equal t (aV x) (aV y)).run P w = .ok b w ∧ ∀op',op' = .eql∨op' = .neq→binOp op' t (aV x) (aV y)=(do let r ←Op.equal t (aV x) (aV y);pure (.bool (if op' = .eql then r else !r)):Sem Value):=by
    intro b hb
    obtain⟨ad,len,cap,hx,hn⟩:=nQ (hr x) hb
    rw[hx,hy]
    refine⟨fun op'=>by unfold eqGuard;cases op'<;>rfl,?_,fun op' hop=>by rcases hop with rfl | rfl<;>rfl⟩
    show(Op.equalIn (9999+1) t _ _).run P w = .ok b w
    rw[Op.equalIn];simp only[Sem.run_bind,run_underlying hd,Result.andThen_ok]
    subst hn
    cases ad<;>rfl
   split at he
   · rename_i b hb
     obtain⟨k1,k2,k3⟩:=key hb
     simp only[Option.some.injEq,Prod.mk.injEq] at he
     obtain⟨rfl,rfl,_⟩:=he
     refine⟨rfl,.bool b,?_,.p _ _ (.sc _)⟩
     simp only[execOp,ho,Sem.run_bind,k1,Result.andThen_ok,k3 _ (.inl rfl),k2,Sem.run_pure]
     rfl
   · rename_i b hb
     obtain⟨k1,k2,k3⟩:=key hb
     simp only[Option.some.injEq,Prod.mk.injEq] at he
     obtain⟨rfl,rfl,_⟩:=he
     refine⟨rfl,.bool (!b),?_,.p _ _ (.sc _)⟩
     simp only[execOp,ho,Sem.run_bind,k1,Result.andThen_ok,k3 _ (.inr rfl),k2,Sem.run_pure]
     rfl
   · cases he
 · cases he
theorem Fi (x y:Int):(if y<x then y else x)=min x y:=by
 rcases Int.lt_or_le y x with h | h
 · rw[if_pos h];omega
 · rw[if_neg (by omega)];omega
theorem Fj (x y:Int):(if y>x then y else x)=max x y:=by
 rcases Int.lt_or_le x y with h | h
 · rw[if_pos h];omega
 · rw[if_neg (by omega)];omega
theorem sS {ρ:Operand→AV} {aV:Operand→Value} (hr : ∀x,VA g w (ρ x) (aV x)) {mn:Bool} {l:List Operand} {v:AV} (h:Aa mn (l.map ρ)=some v) :
  ∃cx cy k k' x y,l=[cx,cy]∧aV cx = .int k x∧aV cy = .int k' y∧v = .p (.sc (.int k (cond mn (min x y) (max x y)))):=by
 match l,h with
 |[cx,cy],h=>
  have h1:=hr cx
  have h2:=hr cy
  simp only[List.map_cons,List.map_nil] at h
  generalize ρ cx=ax at h h1
  generalize ρ cy=ay at h h2
  unfold Aa at h
  split at h
  · rename_i k a k' b heq
    simp only[List.cons.injEq,and_true] at heq
    obtain⟨rfl,rfl⟩:=heq
    simp only[Option.some.injEq] at h
    rw[VA.pv] at h1 h2
    generalize dO:aV cx=c1 at h1
    generalize dY:aV cy=c2 at h2
    cases h1;cases h2
    exact⟨cx,cy,k,k',a,b,rfl,dO,dY,h.symm⟩
  · cases h
 |[],h=>simp[Aa] at h
 |[_],h=>simp[Aa] at h
 |_::_::_::_,h=>simp[Aa] at h
theorem ke (h:Rel g m w) {ρ:Operand→AV} {aV:Operand→Value} (hr : ∀x,VA g w (ρ x) (aV x)) (hrc : ∀v,aV (.const v)=v) {o:Oper} {aF:Nat} (hn:makes o=true→m[aF]? = some .free) {wr:Bool} {a:AV} {us:iX}
  (he:nH P (fun i=>m.getD i .dead) wr aF ρ o=some (a,us,true)):bh g m w ((execOp aV o).run P w) a (apply m us):=by
 have he' : ∀y,uc y=true → ∃l c,aV y = .slice none l c:=by
  intro y hy
  unfold uc at hy
  split at hy
  · exact⟨_,_,hrc _⟩
  · cases hy
 have hmk : ∀{b:Bool},makes o=b→b=true→m[aF]? = some .free:=fun e e'=>hn (e.trans e')
 unfold nH at he
 split at he
 · rename_i x ho
   simp only[Option.some.injEq,Prod.mk.injEq,and_true] at he
   obtain⟨rfl,rfl⟩:=he
   exact bh.quiet h (v:=aV x) (by simp[execOp,ho]) (hr x)
 · rename_i x ho
   simp only[Option.some.injEq,Prod.mk.injEq,and_true] at he
   obtain⟨rfl,rfl⟩:=he
   exact bh.quiet h (v:=aV x) (by simp[execOp,ho]) (hr x)
 · rename_i c x y ho
   split at he
   · rename_i t hc
     simp only[Option.some.injEq,Prod.mk.injEq,and_true] at he
     obtain⟨rfl,rfl⟩:=he
     have hb:aV c = .bool t:=by have:=hr c;rw[hc,VA.pv] at this;generalize aV c=z at this;cases this;rfl
     cases t
     · exact bh.quiet h (v:=aV y) (by simp[execOp,ho,hb,asBool]) (hr y)
     · exact bh.quiet h (v:=aV x) (by simp[execOp,ho,hb,asBool]) (hr x)
   · cases he
 · rename_i t ho
   split at he
   · exact pQ h (hmk (by simp only[makes,ho]) rfl) he ho
   · exact rO h (hmk (by simp only[makes,ho]) rfl) he (ty:=0) (pos:= "") ho rfl rfl
 · rename_i t x ho
   exact vV h (hmk (by simp only[makes,ho]) rfl) (hr x) he (t:=t) (by simp[execOp,ho,Instr.box,newVar,newRow])
 · rename_i t parts ho
   obtain⟨h1,rfl⟩:=fB he
   refine bh.of (h:=h) (s:=Instr.build t (parts.map fun(i,x)=>(i,aV x))) (P:=P) (by simp only[execOp,ho,Sem.run_bind,Sem.run_pure]) (rM h1 ?_)
   rw[Array.toList_map];exact jw hr parts.toList
 · rename_i t len parts ho
   have:=kZ (gb:=parts.map fun(i,x)=>(i,aV x)) h (hmk (by simp only[makes,ho]) rfl) he (by rw[Array.toList_map];exact jw hr parts.toList)
   simpa only[execOp,ho] using this
 · rename_i t x ho
   obtain⟨h1,rfl⟩:=fB he
   obtain⟨c,o',cv,k1,k2,k3⟩:=lW h (hr x) h1
   exact bh.quiet h (v:=cv) (by simp[execOp,ho,Instr.loadAt,k1,Instr.sureAddr,k2]) k3
 · rename_i t x v ho
   obtain⟨w',k1,rfl,k2,k3,k4⟩:=rN h (hr x) (hr v) he
   exact⟨undef,w',g,.inr ⟨by simp[execOp,ho,k1],rfl⟩,VA.fY.2 trivial,k2,k3,k4⟩
 · rename_i x ho
   obtain⟨h1,rfl⟩:=eH he
   obtain⟨v,k1,k2⟩:=mT hr ho h1
   exact bh.quiet h k1 k2
 · rename_i op t x y yt ho
   split at he
   · rename_i hy
     obtain⟨l,c,JS⟩:=he' y hy
     obtain⟨rfl,v,k1,k2⟩:=rU hr JS ho he
     exact bh.quiet h k1 k2
   · split at he
     · obtain⟨rfl,v,k1,k2⟩:=v7 hr ho he
       exact bh.quiet h k1 k2
     · split at he
       · rename_i hsame
         obtain⟨rfl,v,k1,k2⟩:=oq hr ho hsame he
         exact bh.quiet h k1 k2
       · obtain⟨h1,rfl⟩:=fB he
         obtain⟨v,k1,k2⟩:=rK hr ho h1
         exact bh.quiet h k1 k2
 · rename_i t x ho
   exact rT h (hmk (by simp only[makes,ho]) rfl) (hr x) ho he
 · rename_i x s ho
   exact uI h (hr x) ho he
 · rename_i t ho
   have fin : ∀ob:mN,ob.is (.map #[] 0) []→ob.room (.map #[] 0) 0→some (AV.vm aF,[(aF,av.ob ob [])],true)=some (a,us,true)→bh g m w ((execOp aV o).run P w) a (apply m us):=by
    intro ob L2 hroom he
    simp only[Option.some.injEq,Prod.mk.injEq,and_true] at he
    obtain⟨rfl,rfl⟩:=he
    obtain⟨h1,h2,h3⟩:=h.oO (ob:=ob) (l:=[]) (vs:=[]) (hmk (by simp only[makes,ho]) rfl) trivial (cE w (.map #[] 0)) L2 hroom
    exact⟨.map (some w.heap.size),_,_,.inl (by simp[execOp,ho,run_makeMap_plain,Result.andThen]),.vm aF _ (by simp[Gh.put]),h1,h2,h3⟩
   unfold su at he
   split at he
   · split at he
     · exact fin (.tT []) ⟨_,_,[],rfl,rfl,rfl,.refl _⟩ trivial he
     · exact fin (.map [] [] 0) rfl trivial he
   · exact fin (.map [] [] 0) rfl trivial he
 · rename_i t x i ok ho
   obtain⟨h1,rfl⟩:=eH he
   exact bh.of (h:=h) (s:=Instr.lookup t (aV x) (aV i) ok) (P:=P) (by simp only[execOp,ho,Sem.run_bind,Sem.run_pure]) (pY h (hr x) (hr i) h1)
 · rename_i t x k v ho
   obtain⟨w',k1,rfl,k2,k3,k4⟩:=gK h (hr x) (hr k) (hr v) he
   exact⟨undef,w',g,.inr ⟨by simp[execOp,ho,k1],rfl⟩,VA.fY.2 trivial,k2,k3,k4⟩
 · rename_i t x k v ho
   obtain⟨w',k1,rfl,k2,k3,k4⟩:=gK h (hr x) (hr k) (hr v) he
   exact⟨undef,w',g,.inr ⟨by simp[execOp,ho,k1],rfl⟩,VA.fY.2 trivial,k2,k3,k4⟩
 · rename_i op t x ho
   obtain⟨h1,rfl⟩:=fB he
   obtain⟨v,k1,k2⟩:=uw hr ho h1
   exact bh.quiet h k1 k2
 · rename_i src dst x ho
   exact oo h (hmk (by simp only[makes,ho]) rfl) hr ho he
 · rename_i t x ho
   obtain⟨h1,rfl⟩:=eH he
   exact bh.of (h:=h) (s:=Instr.makeInterface t (aV x)) (P:=P) (by simp only[execOp,ho,Sem.run_bind,Sem.run_pure]) (l5 h1 (hr x))
 · rename_i f first captured ho
   simp only[Option.some.injEq,Prod.mk.injEq,and_true] at he
   obtain⟨rfl,rfl⟩:=he
   refine bh.quiet h (v:= .func f (first.map aV) (captured.map aV)) (by simp[execOp,ho,Instr.makeFunc]) (VA.fns.2 ⟨_,_,rfl,?_,?_⟩)
   · rw[Array.toList_map];exact eg hr _
   · rw[Array.toList_map];exact eg hr _
 · rename_i t l c ho
   split at he
   · have:=mX h (hr l) (hr c) he
     simpa only[execOp,ho] using this
   · have:=l6 h (hmk (by simp only[makes,ho]) rfl) (hr l) (hr c) he
     simpa only[execOp,ho] using this
 · rename_i t x lo hi mx ho
   obtain⟨h1,rfl⟩:=fB he
   exact bh.of (h:=h) (s:=Instr.sliceAt t (aV x) (lo.map aV) (hi.map aV) (mx.map aV)) (P:=P) (by simp only[execOp,ho,Sem.run_bind,Sem.run_pure]) (rJ hr h1 (hr x))
 · rename_i t x f ho
   obtain⟨h1,rfl⟩:=eH he
   exact bh.of (h:=h) (s:=Instr.fieldAt t (aV x) f) (P:=P) (by simp only[execOp,ho,Sem.run_bind,Sem.run_pure]) (lX h1 (hr x))
 · rename_i t x f ho
   obtain⟨h1,rfl⟩:=fB he
   exact bh.of (h:=h) (s:=Instr.field t (aV x) f) (P:=P) (by simp only[execOp,ho,Sem.run_bind,Sem.run_pure]) (rH h1 (hr x))
 · rename_i t x i ho
   obtain⟨h1,rfl⟩:=fB he
   exact bh.of (h:=h) (s:=Instr.indexAt t (aV x) (aV i)) (P:=P) (by simp only[execOp,ho,Sem.run_bind,Sem.run_pure]) (lY h1 (hr x) (hr i))
 · rename_i t x i ho
   obtain⟨h1,rfl⟩:=fB he
   exact bh.of (h:=h) (s:=Instr.index t (aV x) (aV i)) (P:=P) (by simp only[execOp,ho,Sem.run_bind,Sem.run_pure]) (rI h1 (hr x) (hr i))
 · rename_i x i ho
   split at he
   · rename_i vs hx
     obtain⟨h1,rfl⟩:=eH he
     have hv:=hr x
     rw[hx] at hv
     generalize hz:aV x=z at hv
     cases hv with
     |aO _ cs hl hh=>
      obtain⟨b,hb,hv⟩:=aK.get? (aK.bV hl hh) h1
      exact bh.quiet h (v:=b) (by simp only[execOp,ho,hz,Instr.extract];simp at hb;simp[hb]) hv
   · cases he
 · rename_i x xt t ok ho
   obtain⟨h1,rfl⟩:=eH he
   obtain⟨cv,k1,k2⟩:=pX (xt:=xt) h1 (hr x)
   exact bh.quiet h (v:=cv) (by simp only[execOp,ho,Sem.run_bind,k1,Result.andThen_ok,Sem.run_pure]) k2
 · rename_i c ho
   split at he
   · rename_i s x hc ha
     have gZ:c.args = #[s,x]:=by have:=congrArg List.toArray ha;simpa using this
     have HP:makes o=true:=by simp only[makes,ho,hc]
     split at he
     · have:=qb (ty:=o.type) h (hn HP) (nP (hr s)) (hr x) he
       simpa only[execOp,ho,resolve,hc,gZ,Sem.run_bind,Sem.run_pure,Result.andThen_ok,invoke,builtin,List.map_toArray,List.map_cons,List.map_nil] using this
     · have:=pR (ty:=o.type) h (hn HP) (nP (hr s)) (hr x) he
       simpa only[execOp,ho,resolve,hc,gZ,Sem.run_bind,Sem.run_pure,Result.andThen_ok,invoke,builtin,List.map_toArray,List.map_cons,List.map_nil] using this
   · rename_i d s hc ha
     have gZ:c.args = #[d,s]:=by have:=congrArg List.toArray ha;simpa using this
     have:=uA (ty:=o.type) h (hr d) (hr s) he
     simpa only[execOp,ho,resolve,hc,gZ,Sem.run_bind,Sem.run_pure,Result.andThen_ok,invoke,builtin,List.map_toArray,List.map_cons,List.map_nil] using this
   · rename_i x hc ha
     have gZ:c.args = #[x]:=by have:=congrArg List.toArray ha;simpa using this
     obtain⟨h1,rfl⟩:=eH he
     refine bh.of (h:=h) (s:=Builtin.len_ c.argTypes o.type #[aV x]) (P:=P) ?_ (vP h1 (hr x))
     simp only[execOp,ho,resolve,hc,gZ,Sem.run_bind,Sem.run_pure,Result.andThen_ok,invoke,builtin,List.map_toArray,List.map_cons,List.map_nil]
   · rename_i x hc ha
     have gZ:c.args = #[x]:=by have:=congrArg List.toArray ha;simpa using this
     obtain⟨rfl,v,k1,k2⟩:=l9 (P:=P) (ts:=c.argTypes) (ty:=o.type) (hr x) he
     refine bh.quiet h (v:=v) ?_ k2
     simp only[execOp,ho,resolve,hc,gZ,Sem.run_bind,Sem.run_pure,Result.andThen_ok,invoke,builtin,List.map_toArray,List.map_cons,List.map_nil,k1]
   · rename_i x n hc ha
     have gZ:c.args = #[x,n]:=by have:=congrArg List.toArray ha;simpa using this
     have:=jv (ty:=o.type) h (hr x) (hr n) he
     simpa only[execOp,ho,resolve,hc,gZ,Sem.run_bind,Sem.run_pure,Result.andThen_ok,invoke,builtin,List.map_toArray,List.map_cons,List.map_nil] using this
   · rename_i hc
     obtain⟨h1,rfl⟩:=eH he
     unfold fT at h1
     split at h1
     · rename_i v hm
       simp only[Option.some.injEq] at h1;subst h1
       obtain⟨cx,cy,k,k',x,y,ha,e1,e2,rfl⟩:=sS hr hm
       have gZ:c.args = #[cx,cy]:=by have:=congrArg List.toArray ha;simpa using this
       refine bh.quiet h (v:= .int k (min x y)) ?_ (.p _ _ (.sc _))
       simp only[execOp,ho,resolve,hc,gZ,Sem.run_bind,Sem.run_pure,Result.andThen_ok,invoke,builtin,List.map_toArray,List.map_cons,List.map_nil,e1,e2,Builtin.min_,List.foldlM_cons,List.foldlM_nil,Builtin.min2,Fi]
     · obtain⟨v,k1,k2⟩:=cQ hr (fun _ _=>by rw[ho];exact fun e=>by cases e) h1
       exact bh.quiet h k1 k2
   · rename_i hc
     obtain⟨h1,rfl⟩:=eH he
     unfold fT at h1
     split at h1
     · rename_i v hm
       simp only[Option.some.injEq] at h1;subst h1
       obtain⟨cx,cy,k,k',x,y,ha,e1,e2,rfl⟩:=sS hr hm
       have gZ:c.args = #[cx,cy]:=by have:=congrArg List.toArray ha;simpa using this
       refine bh.quiet h (v:= .int k (max x y)) ?_ (.p _ _ (.sc _))
       simp only[execOp,ho,resolve,hc,gZ,Sem.run_bind,Sem.run_pure,Result.andThen_ok,invoke,builtin,List.map_toArray,List.map_cons,List.map_nil,e1,e2,Builtin.max_,List.foldlM_cons,List.foldlM_nil,Builtin.max2,Fj]
     · obtain⟨v,k1,k2⟩:=cQ hr (fun _ _=>by rw[ho];exact fun e=>by cases e) h1
       exact bh.quiet h k1 k2
   · cases he
 · cases he
end ops
end Go.Am
end
section
namespace Go.Am
open Go.RowKit
structure bK (ρ:Nat→Option Nat) (g g':Gh):Prop where
 at' : ∀i k,ρ i=some k→g'.aN k=g.aN i∧g'.lo k=g.lo i∧g'.hi k=g.hi i
 pure:g'.pure=g.pure
theorem VP.xU {g g':Gh} {w:World} (h:g'.pure=g.pure) {v:PV} {cv:Value} (hv:VP g w v cv):VP g' w v cv:=hv.mono fun c o p=>⟨by rw[h];exact p,rfl⟩
theorem cA (ρ:Nat→Option Nat) : ∀l:List AV,(cO ρ l).length=l.length
 |[]=>rfl
 |a::l=>by simp[cO,cA ρ l]
theorem jy (ρ:Nat→Option Nat) : ∀(l:List AV) (i:Nat) (h:i<(cO ρ l).length) (h':i<l.length),(cO ρ l)[i]=fU ρ l[i]
 |_::_,0,_,_=>rfl
 |_::l,i+1,h,h'=>jy ρ l i (Nat.lt_of_succ_lt_succ h) (Nat.lt_of_succ_lt_succ h')
 |[],_,_,h'=>absurd h' (Nat.not_lt_zero _)
theorem VA.fU {ρ:Nat→Option Nat} {g g':Gh} {w:World} (hr:bK ρ g g') {a:AV} {v:Value} (h:VA g w a v):VA g' w (Am.fU ρ a) v:=by
 induction h with
 |ah v=>exact .ah v
 |p v cv h=>exact .p v cv (h.xU hr.pure)
 |os tok len sz cells a cap h ht=>
  have h':=h.xU hr.pure
  cases tok with
  |none=>exact .os none len sz cells a cap h' (ht.imp id fun⟨t,_,_,e,_⟩=>by cases e)
  |some t=>
   simp only[Am.fU]
   cases hρ:ρ t with
   |none=>exact .p _ _ h'
   |some k=>
    obtain⟨e1,e2,e3⟩:=hr.at' t k hρ
    refine .os (some k) len sz cells a cap h' (ht.imp id ?_)
    rintro ⟨t',b,o,e,rfl,q1,q2,q3,q4⟩
    cases e
    exact⟨k,b,o,rfl,rfl,e1.trans q1,e2.trans q2,e3.trans q3,q4⟩
 |mp b off c h=>
  simp only[Am.fU]
  cases hρ:ρ b with
  |none=>exact .ah _
  |some k=>exact .mp k off c ((hr.at' b k hρ).1.trans h)
 |ms b off len sz cap c h hc=>
  simp only[Am.fU]
  cases hρ:ρ b with
  |none=>exact .ah _
  |some k=>exact .ms k off len sz cap c ((hr.at' b k hρ).1.trans h) hc
 |mg b off len sz cap c h hc hh=>
  simp only[Am.fU]
  cases hρ:ρ b with
  |none=>exact .ah _
  |some k=>exact .mg k off len sz cap c ((hr.at' b k hρ).1.trans h) hc (by rw[(hr.at' b k hρ).2.2];exact hh)
 |vm b c h=>
  simp only[Am.fU]
  cases hρ:ρ b with
  |none=>exact .ah _
  |some k=>exact .vm k c ((hr.at' b k hρ).1.trans h)
 |vy b c h=>
  simp only[Am.fU]
  cases hρ:ρ b with
  |none=>exact .ah _
  |some k=>exact .vy k c ((hr.at' b k hρ).1.trans h)
 |fn f l k fa ca hl hk h h2 ih ih2=>
  simp only[Am.fU]
  exact .fn f _ _ fa ca (by rw[cA];exact hl) (by rw[cA];exact hk)
   (fun i a b=>by rw[jy ρ l i a (by rwa [cA] at a)];exact ih i _ b) (fun i a b=>by rw[jy ρ k i a (by rwa [cA] at a)];exact ih2 i _ b)
 |agg l cs hl h ih=>
  simp only[Am.fU]
  exact .agg _ cs (by rw[cA];exact hl) (fun i a b=>by rw[jy ρ l i a (by rwa [cA] at a)];exact ih i _ b)
 |aO l cs hl h ih=>
  simp only[Am.fU]
  exact .aO _ cs (by rw[cA];exact hl) (fun i a b=>by rw[jy ρ l i a (by rwa [cA] at a)];exact ih i _ b)
 |gx t v cv h ih=>exact .gx t _ cv ih
theorem bM.fU {ρ:Nat→Option Nat} {g g':Gh} {w:World} (hr:bK ρ g g') : ∀{l:List AV} {vs:List Value},bM g w l vs→bM g' w (cO ρ l) vs
 |[],[],_=>trivial
 |_::_,_::_,h=>⟨h.1.fU hr,bM.fU hr h.2⟩
 |[],_::_,h=>h.elim
 |_::_,[],h=>h.elim
theorem bM.fo {ρ:Nat→Option Nat} {g g':Gh} {w:World} (hr:bK ρ g g') : ∀{l:List AV} {vs:List Value},bM g w l vs→bM g' w (l.map fo) vs
 |[],[],_=>trivial
 |a::_,_::_,h=>⟨by
   cases a with
   |p v=>exact h.1.fU hr
   |_=>exact .ah _,bM.fo hr h.2⟩
 |[],_::_,h=>h.elim
 |_::_,[],h=>h.elim
theorem bM.EP {ρ:Nat→Option Nat} {g g':Gh} {w:World} (hr:bK ρ g g') {l l':List AV} {vs:List Value} (h:bM g w l vs) (hl:l'=cO ρ l∨l'=l.map Am.fo):bM g' w l' vs:=by
 rcases hl with rfl | rfl
 · exact h.fU hr
 · exact bM.fo hr h
theorem BC (ρ:Nat→Option Nat) : ∀l:List PV,cO ρ (l.map .p)=l.map .p
 |[]=>rfl
 |v::l=>by simp[cO,Am.fU,BC ρ l]
theorem Ai (ρ:Nat→Option Nat) (k:mN) (vals:List AV) : ∃l,ez ρ (.ob k vals) = .ob k l:=by
 cases k with
 |gr t q=>cases q<;>exact⟨_,rfl⟩
 |_=>exact⟨_,rfl⟩
theorem qc {ρ:Nat→Option Nat} {b:av} {l':List AV} (h:(ez ρ b).cells?=some l') : ∃l,b.cells?=some l∧l'=cO ρ l:=by
 cases b with
 |pc l=>simp only[ez,av.cells?,Option.some.injEq] at h;exact⟨_,rfl,by rw[BC];exact h.symm⟩
 |ac l=>simp only[ez,av.cells?,Option.some.injEq] at h;exact⟨l,rfl,h.symm⟩
 |ob k vals=>
  obtain⟨l0,e⟩:=Ai ρ k vals
  rw[e] at h
  cases h
 |_=>simp[ez,av.cells?] at h
theorem hG {ρ:Nat→Option Nat} {b:av}:(ez ρ b).bG=b.bG:=by unfold ez;split<;>rfl
theorem zf {ρ:Nat→Option Nat} {b:av} {k:mN} {l:List AV} (h:ez ρ b = .ob k l) : ∃l0,b = .ob k l0∧(l=cO ρ l0∨l=l0.map fo):=by
 unfold ez at h
 split at h<;>cases h
 · exact⟨_,rfl,.inr rfl⟩
 · exact⟨_,rfl,.inl rfl⟩
 · rename_i hne
   exact(hne _ _ rfl).elim
theorem mZ {ρ:Nat→Option Nat} {b:av} (h:ez ρ b = .free):b = .free:=by unfold ez at h;split at h<;>first | exact h | cases h
theorem wg {ρ:Nat→Option Nat} {b:av} (h:ez ρ b = .tok):b = .tok:=by unfold ez at h;split at h<;>first | exact h | cases h
theorem zg {ord:List Nat} {i k:Nat} (h:idx ord i=some k):ord[k]? = some i:=by
 induction ord generalizing k with
 |nil=>simp[idx] at h
 |cons j ord ih=>
  simp only[idx] at h
  cases hb:Nat.beq i j with
  |true=>simp only[hb,cond_true,Option.some.injEq] at h;subst h;rw[Nat.eq_of_beq_eq_true hb];rfl
  |false=>
   simp only[hb,cond_false,Option.map_eq_some_iff] at h
   obtain⟨k',h1,rfl⟩:=h
   exact ih h1
def Gh.pack (g:Gh) (ord:List Nat):Gh where
 aN k:=(ord[k]?).bind g.aN
 lo k:=match ord[k]? with | some i=>g.lo i | none=>0
 hi k:=match ord[k]? with | some i=>g.hi i | none=>0
 pure:=g.pure
theorem bK.pack (g:Gh) (ord:List Nat):bK (idx ord) g (g.pack ord):=
 ⟨fun i k h=>by have:=zg h;simp[Gh.pack,this],rfl⟩
theorem gh {m:Mem} {ord:List Nat} {k:Nat} {b:av} (h:(pack m ord)[k]? = some b) : ∃i,ord[k]? = some i∧b=ez (idx ord) (m.getD i .dead):=by
 simp only[pack,List.getElem?_map,Option.map_eq_some_iff] at h
 obtain⟨i,h1,h2⟩:=h
 exact⟨i,h1,h2.symm⟩
theorem xV {m:Mem} {i:Nat} {l:List AV} (h:(m.getD i .dead).cells?=some l):m[i]? = some (m.getD i .dead):=
 getD_some rfl fun e=>by rw[e] at h;cases h
theorem sU {m:Mem} {i:Nat} (h:(m.getD i .dead).bG=true):m[i]? = some (m.getD i .dead):=
 getD_some rfl fun e=>by rw[e] at h;cases h
theorem Aj {l:List Nat} (h:l.Nodup) {j k i:Nat} (hj:l[j]? = some i) (hk:l[k]? = some i):j=k:=by
 obtain⟨a,ha⟩:=List.getElem?_eq_some_iff.1 hj
 obtain⟨b,hb⟩:=List.getElem?_eq_some_iff.1 hk
 rcases Nat.lt_trichotomy j k with q | q | q
 · exact absurd (ha.trans hb.symm) (List.pairwise_iff_getElem.1 h j k a b q)
 · exact q
 · exact absurd (hb.trans ha.symm) (List.pairwise_iff_getElem.1 h k j b a q)
theorem Rel.pack {g:Gh} {m:Mem} {w:World} (h:Rel g m w) {ord:List Nat} (hnd:ord.Nodup) :
  Rel (g.pack ord) (Am.pack m ord) w∧(∀c,dH (g.pack ord) (Am.pack m ord) c→dH g m c):=by
 have own : ∀k b c,(Am.pack m ord)[k]? = some b→b.bG=true→(g.pack ord).aN k=some c → ∃i,ord[k]? = some i∧m[i]? = some (m.getD i .dead)∧(m.getD i .dead).bG=true∧g.aN i=some c:=by
  intro k b c hk ho hc
  obtain⟨i,h1,rfl⟩:=gh hk
  rw[hG] at ho
  exact⟨i,h1,sU ho,ho,by simpa[Gh.pack,h1] using hc⟩
 refine⟨⟨fun k hk=> ?_,fun k hk=> ?_,fun k b l hk hl=> ?_,fun k c hk hc=> ?_,fun j k b b' c hj hk ho ho' hc cY=> ?_,h.there,fun k ob l hk=> ?_⟩,fun c ho=> ?_⟩
 · have:ord[k]? = none:=List.getElem?_eq_none (by simpa[Am.pack] using hk)
   simp[Gh.pack,this]
 · obtain⟨i,h1,h2⟩:=gh hk
   have h2:=mZ h2.symm
   have:=h.free i (getD_some h2 (by simp))
   simp[Gh.pack,h1,this]
 · obtain⟨i,h1,rfl⟩:=gh hk
   obtain⟨l0,h2,rfl⟩:=qc hl
   obtain⟨c,cs,e,n,k1,k2,k3,k4,k5⟩:=h.cells i _ _ (xV h2) h2
   exact⟨c,cs,e,n,by simpa[Gh.pack,h1] using k1,k2,k3,⟨k4.1.fU (bK.pack g ord),k4.2⟩,k5⟩
 · obtain⟨i,h1,h2⟩:=gh hk
   have h2:=wg h2.symm
   have hc:g.aN i=some c:=by simpa[Gh.pack,h1] using hc
   have:=h.tok i c (getD_some h2 (by simp)) hc
   simpa[Gh.pack,h1] using this
 · obtain⟨i,h1,h2,h3,h4⟩:=own j b c hj ho hc
   obtain⟨i',h1',h2',h3',h4'⟩:=own k b' c hk ho' cY
   have:=h.inj i i' _ _ c h2 h2' h3 h3' h4 h4'
   subst this
   exact Aj hnd h1 h1'
 · obtain⟨i,h1,h2⟩:=gh hk
   obtain⟨l0,h3,JT⟩:=zf h2.symm
   obtain⟨c,o,vs,k1,k2,k3,k4,k5,k6⟩:=h.obs i ob l0 (getD_some h3 (by simp))
   exact⟨c,o,vs,by simpa[Gh.pack,h1] using k1,k2,k3.EP (bK.pack g ord) JT,k4,k5,by simpa[Gh.pack,h1] using k6⟩
 · obtain⟨k,b,hk,ho,hc⟩:=ho
   obtain⟨i,_,h2,h3,h4⟩:=own k b c hk ho hc
   exact⟨i,_,h2,h3,h4⟩
theorem zh {l:List Nat} {i:Nat}:has l i=true↔i∈l:=by
 induction l with
 |nil=>simp[has]
 |cons j l ih=>
  simp only[has]
  cases hb:Nat.beq j i with
  |true=>simp[Nat.eq_of_beq_eq_true hb]
  |false=>
   have:j≠i:=fun e=>by subst e;simp[Nat.beq_refl] at hb
   simp[ih,Ne.symm this]
theorem b9 : ∀(l ord:List Nat),ord.Nodup→(eR ord l).Nodup ∧ ∃t,eR ord l=ord++t
 |[],ord,h=>⟨h,[],by simp[eR]⟩
 |i::l,ord,h=>by
  simp only[eR]
  cases hb:has ord i with
  |true=>exact b9 l ord h
  |false=>
   have hni:i∉ord:=fun k=>by rw[zh.2 k] at hb;cases hb
   obtain⟨h1,t,h2⟩:=b9 l (ord++[i]) (List.nodup_append.2 ⟨h,by simp,fun a ha b hb=>by simp at hb;subst hb;exact fun e=>hni (e▸ha)⟩)
   exact⟨h1,i::t,by simp only[cond_false,h2,List.append_assoc,List.singleton_append]⟩
theorem iE (m:Mem) : ∀(f:Nat) (ord:List Nat) (k:Nat),ord.Nodup→(reach m f ord k).Nodup ∧ ∃t,reach m f ord k=ord++t
 |0,ord,_,h=>⟨h,[],by simp[reach]⟩
 |f+1,ord,k,h=>by
  simp only[reach]
  cases hk:ord[k]? with
  |none=>exact⟨h,[],by simp⟩
  |some i=>
   obtain⟨h1,t,h2⟩:=b9 (sx (m.getD i .dead)) ord h
   obtain⟨h3,t',h4⟩:=iE m f (eR ord (sx (m.getD i .dead))) (k+1) h1
   refine⟨h3,t++t',?_⟩
   show reach m f (eR ord (sx (m.getD i .dead))) (k+1)=_
   rw[h4,h2,List.append_assoc]
theorem fC : ∀n,(upTo n).length=n
 |0=>rfl
 |n+1=>by simp[upTo,fC n]
theorem qd : ∀(n k:Nat),k<n→(upTo n)[k]? = some k
 |0,_,h=>absurd h (Nat.not_lt_zero _)
 |n+1,k,h=>by
  simp only[upTo,List.getElem?_append,fC]
  by_cases hk:k<n
  · rw[if_pos hk,qd n k hk]
  · have:k=n:=by omega
    subst this;simp
theorem BD {n i:Nat} (h:i∈upTo n):i<n:=by
 induction n with
 |zero=>simp[upTo] at h
 |succ n ih=>
  simp only[upTo,List.mem_append,List.mem_singleton] at h
  rcases h with h | rfl
  · have:=ih h;omega
  · omega
theorem gi : ∀n,(upTo n).Nodup
 |0=>by simp[upTo]
 |n+1=>List.nodup_append.2 ⟨gi n,by simp,fun a ha b hb=>by simp at hb;subst hb;have:=BD ha;omega⟩
theorem cS (m:Mem) (fix:Nat) (vs:List AV):(close m fix vs).Nodup ∧ ∀k,k<fix→(close m fix vs)[k]? = some k:=by
 obtain⟨h1,t,h2⟩:=b9 (eM vs) (upTo fix) (gi fix)
 obtain⟨h3,t',h4⟩:=iE m (m.length+1) (eR (upTo fix) (eM vs)) 0 h1
 refine⟨h3,fun k hk=> ?_⟩
 unfold close
 rw[h4,h2,List.append_assoc,List.getElem?_append_left (by rw[fC];exact hk),qd fix k hk]
end Go.Am
end
section
namespace Go.Am
open Go.RowKit
theorem dG : ∀{l:List Nat} {n:Nat},fq l n=true → ∀i∈l,i<n
 |[],_,_,_,h=>by cases h
 |j::l,n,h,i,hi=>by
  simp only[fq,Bool.and_eq_true] at h
  cases hi with
  |head=>simpa[Nat.blt_eq] using h.1
  |tail _ hi=>exact dG h.2 i hi
theorem nS (ρ:Nat→Option Nat) : ∀(ord:List Nat) (m1 m:Mem),ord.Nodup→(∀i∈ord,i<m.length)→ord.length≤m1.length → ∀(i:Nat) (b:av),(bF ρ ord m1 m)[i]? = some b →
  (i<m.length∧i∉ord∧m[i]? = some b)∨(∃(k:Nat) (b1:av),ord[k]? = some i∧m1[k]? = some b1∧b=ez ρ b1)∨(m.length≤i ∧ ∃b1:av,m1[ord.length+(i-m.length)]? = some b1∧b=ez ρ b1)
 |[],m1,m,_,_,_,i,b,h=>by
  simp only[bF,List.getElem?_append] at h
  by_cases hi:i<m.length
  · rw[if_pos hi] at h;exact .inl ⟨hi,by simp,h⟩
  · rw[if_neg hi,List.getElem?_map,Option.map_eq_some_iff] at h
    obtain⟨b1,h1,h2⟩:=h
    exact .inr (.inr ⟨by omega,b1,by simpa using h1,h2.symm⟩)
 |j::ord,[],m,_,_,hl,_,_,_=>by simp at hl
 |j::ord,b0::m1,m,hnd,hlt,hl,i,b,h=>by
  simp only[bF] at h
  have xW:=List.nodup_cons.1 hnd
  rcases nS ρ ord m1 (m.set j (ez ρ b0)) xW.2 (fun i hi=>by simpa using hlt i (.tail _ hi)) (by simpa using hl) i b h with⟨h1,h2,h3⟩ | ⟨k,b1,h1,h2,h3⟩ | ⟨h1,b1,h2,h3⟩
  · rw[List.length_set] at h1
    rcases aC h3 with⟨rfl,e⟩ | ⟨hne,e⟩
    · exact .inr (.inl ⟨0,b0,rfl,rfl,e⟩)
    · exact .inl ⟨h1,fun hm=>by cases hm with
       |head=>exact hne rfl
       |tail _ hm=>exact h2 hm,e⟩
  · exact .inr (.inl ⟨k+1,b1,h1,h2,h3⟩)
  · rw[List.length_set] at h1 h2
    exact .inr (.inr ⟨h1,b1,by rw[show(j::ord).length+(i-m.length)=(ord.length+(i-m.length))+1 by simp;omega];exact h2,h3⟩)
theorem cm (ρ:Nat→Option Nat) : ∀(ord:List Nat) (m1 m:Mem),ord.length≤m1.length→(bF ρ ord m1 m).length=m.length+(m1.length-ord.length)
 |[],m1,m,_=>by simp[bF]
 |_::_,[],_,h=>by simp at h
 |j::ord,b::m1,m,h=>by
  simp only[bF]
  rw[cm ρ ord m1 _ (by simpa using h)]
  simp
theorem lf : ∀{ord:List Nat} {k i:Nat},ord.Nodup→ord[k]? = some i→idx ord i=some k
 |[],_,_,_,h=>by simp at h
 |j::ord,0,i,_,h=>by
  simp only[List.getElem?_cons_zero,Option.some.injEq] at h;subst h
  simp[idx,Nat.beq_refl]
 |j::ord,k+1,i,hnd,h=>by
  have xW:=List.nodup_cons.1 hnd
  simp only[List.getElem?_cons_succ] at h
  have hne:Nat.beq i j=false:=by
   rw[Bool.eq_false_iff];intro e
   have:=Nat.eq_of_beq_eq_true e
   subst this
   exact xW.1 (List.mem_of_getElem? h)
  simp[idx,hne,lf xW.2 h]
theorem wj {ord:List Nat} {i:Nat} (h:i∉ord):idx ord i=none:=by
 cases hq:idx ord i with
 |none=>rfl
 |some k=>exact absurd (List.mem_of_getElem? (zg hq)) h
def Gh.back (g g1:Gh) (ord:List Nat) (n:Nat):Gh where
 aN i:=match idx ord i with | some k=>g1.aN k | none=>if i<n then g.aN i else g1.aN (ord.length+(i-n))
 lo i:=match idx ord i with | some k=>g1.lo k | none=>if i<n then g.lo i else g1.lo (ord.length+(i-n))
 hi i:=match idx ord i with | some k=>g1.hi k | none=>if i<n then g.hi i else g1.hi (ord.length+(i-n))
 pure:=g1.pure
def aP (g g':Gh) (n:Nat):Prop:= ∀k c,k<n→g.aN k=some c→g'.aN k=some c∧g'.lo k=g.lo k∧g'.hi k=g.hi k
theorem aP.refl (g:Gh) (n:Nat):aP g g n:=fun _ _ _ h=>⟨h,rfl,rfl⟩
theorem aP.trans {g g' g'':Gh} {n:Nat} (h:aP g g' n) (k:aP g' g'' n):aP g g'' n:=fun i c hi hc=>
 let⟨h1,h2,h3⟩:=h i c hi hc
 let⟨k1,k2,k3⟩:=k i c hi h1
 ⟨k1,k2.trans h2,k3.trans h3⟩
theorem aP.me {g g':Gh} {w w':World} (h:Ext g w g' w') (n:Nat):aP g g' n:=fun i c _ hc=>h.aN i c hc
theorem Rel.back {g gT:Gh} {m Ak:Mem} {w w':World} (h:Rel g m w) {ord:List Nat} (hnd:ord.Nodup) (hlt : ∀i∈ord,i<m.length)
  (h1:Rel gT Ak w') (hs:bO (g.pack ord) (Am.pack m ord) w gT Ak w') (hf:aP (g.pack ord) gT ord.length) (hl:ord.length≤Ak.length) :
  Rel (g.back gT ord m.length) (bF (aI ord m.length) ord Ak m) w'∧Ext g w (g.back gT ord m.length) w'∧bO g m w (g.back gT ord m.length) (bF (aI ord m.length) ord Ak m) w' ∧
   bK (aI ord m.length) gT (g.back gT ord m.length):=by
 obtain⟨BE,BF⟩:=h.pack hnd
 have zi : ∀k i,ord[k]? = some i→i<m.length∧k<ord.length∧(g.back gT ord m.length).aN i=gT.aN k∧(g.back gT ord m.length).lo i=gT.lo k∧(g.back gT ord m.length).hi i=gT.hi k:=by
  intro k i hk
  have hx:=lf hnd hk
  exact⟨hlt i (List.mem_of_getElem? hk),aM hk,by simp only[Gh.back,hx],by simp only[Gh.back,hx],by simp only[Gh.back,hx]⟩
 have xX : ∀i,i∉ord→i<m.length→(g.back gT ord m.length).aN i=g.aN i∧(g.back gT ord m.length).lo i=g.lo i∧(g.back gT ord m.length).hi i=g.hi i:=by
  intro i hi hlt
  have hx:=wj hi
  simp only[Gh.back,hx,hlt,if_true,and_self]
 have Dy : ∀i,m.length≤i→(g.back gT ord m.length).aN i=gT.aN (ord.length+(i-m.length))∧(g.back gT ord m.length).lo i=gT.lo (ord.length+(i-m.length))∧(g.back gT ord m.length).hi i=gT.hi (ord.length+(i-m.length)):=by
  intro i hi
  have hx:=wj (ord:=ord) (i:=i) fun hm=>by have:=hlt i hm;omega
  simp only[Gh.back,hx,Nat.not_lt.2 hi,if_false,and_self]
 have iF:bK (aI ord m.length) gT (g.back gT ord m.length):=by
  refine⟨fun j k hj=> ?_,rfl⟩
  unfold aI at hj
  cases ho:ord[j]? with
  |some i=>
   simp only[ho,Option.some.injEq] at hj;subst hj
   exact(zi j i ho).2.2
  |none=>
   simp only[ho,Option.some.injEq] at hj;subst hj
   have:ord.length≤j:=List.getElem?_eq_none_iff.1 ho
   have e:ord.length+(m.length+(j-ord.length)-m.length)=j:=by omega
   have:=Dy (m.length+(j-ord.length)) (by omega)
   rwa [e] at this
 have Fk:Ext g w (g.back gT ord m.length) w':=by
  refine⟨fun i c hc=> ?_,fun c o p=>hs.pure c o p⟩
  have hi:i<m.length:=by
   rcases Nat.lt_or_ge i m.length with q | q
   · exact q
   · rw[h.pF i q] at hc;cases hc
  by_cases hm:i∈ord
  · obtain⟨k,hk1,hk2⟩:=List.getElem_of_mem hm
    have hk:ord[k]? = some i:=by rw[List.getElem?_eq_getElem hk1,hk2]
    obtain⟨_,_,e1,e2,e3⟩:=zi k i hk
    obtain⟨f1,f2,f3⟩:=hf k c hk1 (by simpa[Gh.pack,hk] using hc)
    rw[e1,e2,e3,f1,f2,f3]
    simp[Gh.pack,hk]
  · obtain⟨e1,e2,e3⟩:=xX i hm hi
    exact⟨e1.trans hc,e2,e3⟩
 have jz : ∀i b c,i∉ord→m[i]? = some b→b.bG=true→g.aN i=some c → ¬dH (g.pack ord) (Am.pack m ord) c:=by
  intro i b c hi hb ho hc hO
  obtain⟨k,b',hk,ho',cY⟩:=hO
  obtain⟨i',q1,rfl⟩:=gh hk
  rw[hG] at ho'
  have cY:g.aN i'=some c:=by simpa[Gh.pack,q1] using cY
  have:=h.inj i i' _ _ c hb (sU ho') ho ho' hc cY
  subst this
  exact hi (List.mem_of_getElem? q1)
 have uJ : ∀i b c,i∉ord→m[i]? = some b→b.bG=true→g.aN i=some c → ∀o,gT.pure c o→g.pure c o:=by
  intro i b c hi hb ho hc o p
  rcases hs.fresh c o p with q | q | q
  · exact q
  · exact absurd q (jz i b c hi hb ho hc)
  · exact absurd (h.gW ⟨i,b,hb,ho,hc⟩) (Nat.not_lt.2 q)
 have get:=nS (aI ord m.length) ord Ak m hnd hlt hl
 have Fl : ∀i b c,(bF (aI ord m.length) ord Ak m)[i]? = some b→b.bG=true→(g.back gT ord m.length).aN i=some c →
   (i∉ord∧m[i]? = some b∧g.aN i=some c)∨(∃k b1,aI ord m.length k=some i∧Ak[k]? = some b1∧b1.bG=true∧gT.aN k=some c):=by
  intro i b c hi ho hc
  rcases get i b hi with⟨q1,q2,q3⟩ | ⟨k,b1,q1,q2,rfl⟩ | ⟨q1,b1,q2,rfl⟩
  · exact .inl ⟨q2,q3,by rw[(xX i q2 q1).1] at hc;exact hc⟩
  · rw[hG] at ho
    exact .inr ⟨k,b1,by simp[aI,q1],q2,ho,by rw[(zi k i q1).2.2.1] at hc;exact hc⟩
  · rw[hG] at ho
    rw[(Dy i q1).1] at hc
    have hn:ord[ord.length+(i-m.length)]? = none:=List.getElem?_eq_none (by omega)
    refine .inr ⟨_,b1,?_,q2,ho,hc⟩
    simp only[aI,hn,Option.some.injEq];omega
 refine⟨⟨fun i hi=> ?_,fun i hi=> ?_,fun i b l hi hb=> ?_,fun i c hi hc=> ?_,fun i j b b' c hi hj ho ho' hc cY=> ?_,h1.there,fun i ob l hi=> ?_⟩,Fk,⟨hs.size,fun c hc hn=>hs.keep c hc fun ho=>hn (BF c ho),hs.pure,fun c o p=> ?_,fun c ho=> ?_,hs.os,hs.tape,hs.output⟩,iF⟩
 · rw[cm _ _ _ _ hl] at hi
   rw[(Dy i (by omega)).1]
   exact h1.pF _ (by omega)
 · rcases get i _ hi with⟨q1,q0,q3⟩ | ⟨k,b1,q1,q2,q3⟩ | ⟨q1,b1,q2,q3⟩
   · rw[(xX i q0 q1).1];exact h.free i q3
   · have q3:=mZ q3.symm
     subst q3
     rw[(zi k i q1).2.2.1];exact h1.free k q2
   · have q3:=mZ q3.symm
     subst q3
     rw[(Dy i q1).1];exact h1.free _ q2
 · have back : ∀k b1,aI ord m.length k=some i→Ak[k]? = some b1→b=ez (aI ord m.length) b1 →
    ∃c cs e n,(g.back gT ord m.length).aN i=some c∧w'.heap[c]? = some (.cells cs e n)∧n.2≤n.1∧vK (g.back gT ord m.length) w' l cs.toList ∧ ∀o,¬(g.back gT ord m.length).pure c o:=by
    rintro k b1 hk Fm rfl
    obtain⟨l0,q,rfl⟩:=qc hb
    obtain⟨c,cs,e,n,k1,k2,k3,k4,k5⟩:=h1.cells k b1 l0 Fm q
    exact⟨c,cs,e,n,(iF.at' k i hk).1.trans k1,k2,k3,⟨k4.1.fU iF,k4.2⟩,k5⟩
   rcases get i _ hi with⟨q1,q2,q3⟩ | ⟨k,b1,q1,q2,q3⟩ | ⟨q1,b1,q2,q3⟩
   · obtain⟨c,cs,e,n,k1,k2,k3,k4,k5⟩:=h.cells i b l q3 hb
     have ho:=bz hb
     exact⟨c,cs,e,n,(xX i q2 q1).1.trans k1,(hs.keep c (aQ k2) (jz i b c q2 q3 ho k1)).trans k2,k3,k4.mono Fk,fun o p=>k5 o (uJ i b c q2 q3 ho k1 o p)⟩
   · exact back k b1 (by simp[aI,q1]) q2 q3
   · have hn:ord[ord.length+(i-m.length)]? = none:=List.getElem?_eq_none (by omega)
     exact back _ b1 (by simp only[aI,hn,Option.some.injEq];omega) q2 q3
 · have back : ∀k b1,aI ord m.length k=some i→Ak[k]? = some b1→av.tok=ez (aI ord m.length) b1 →
    ∃cs e n,w'.heap[c]? = some (.cells cs e n)∧(g.back gT ord m.length).hi i≤cs.size∧(n.2≤n.1∨(g.back gT ord m.length).hi i≤n.1) ∧ ∀o,(g.back gT ord m.length).lo i≤o→o<(g.back gT ord m.length).hi i → ¬(g.back gT ord m.length).pure c o:=by
    intro k b1 hk Fm hq
    have hq:=wg hq.symm
    subst hq
    obtain⟨e1,e2,e3⟩:=iF.at' k i hk
    rw[e2,e3]
    rw[e1] at hc
    exact h1.tok k c Fm hc
   rcases get i _ hi with⟨q1,q2,q3⟩ | ⟨k,b1,q1,q2,q3⟩ | ⟨q1,b1,q2,q3⟩
   · obtain⟨e0,e2,e1⟩:=xX i q2 q1
     have hc:g.aN i=some c:=e0.symm.trans hc
     obtain⟨cs,e,n,k2,k3,k4,k5⟩:=h.tok i c q3 hc
     rw[e1,e2]
     exact⟨cs,e,n,(hs.keep c (aQ k2) (jz i _ c q2 q3 rfl hc)).trans k2,k3,k4,fun o a b p=>k5 o a b (uJ i _ c q2 q3 rfl hc o p)⟩
   · exact back k b1 (by simp[aI,q1]) q2 q3
   · have hn:ord[ord.length+(i-m.length)]? = none:=List.getElem?_eq_none (by omega)
     exact back _ b1 (by simp only[aI,hn,Option.some.injEq];omega) q2 q3
 · have apart : ∀i b,i∉ord→m[i]? = some b→b.bG=true→g.aN i=some c → ∀k b1,Ak[k]? = some b1→b1.bG=true→gT.aN k=some c→False:=by
    intro i b q2 q3 ho hc k b1 hk L3 dO
    rcases hs.owned c ⟨k,b1,hk,L3,dO⟩ with q | q
    · exact jz i b c q2 q3 ho hc q
    · exact absurd (h.gW ⟨i,b,q3,ho,hc⟩) (Nat.not_lt.2 q)
   rcases Fl i b c hi ho hc with⟨p1,p2,p3⟩ | ⟨k,b1,p1,p2,p3,p4⟩<;>rcases Fl j b' c hj ho' cY with⟨q1,q2,q3⟩ | ⟨k',Lq,q1,q2,q3,q4⟩
   · exact h.inj i j b b' c p2 q2 ho ho' p3 q3
   · exact(apart i b p1 p2 ho p3 k' Lq q2 q3 q4).elim
   · exact(apart j b' q1 q2 ho' q3 k b1 p2 p3 p4).elim
   · have:=h1.inj k k' b1 Lq c p2 q2 p3 q3 p4 q4
     subst this
     rw[p1] at q1;exact Option.some.inj q1
 · have back : ∀k b1,aI ord m.length k=some i→Ak[k]? = some b1→av.ob ob l=ez (aI ord m.length) b1 →
    ∃c o vs,(g.back gT ord m.length).aN i=some c∧w'.heap[c]? = some o∧bM (g.back gT ord m.length) w' l vs∧ob.is o vs∧(∀o',¬(g.back gT ord m.length).pure c o')∧ob.room o ((g.back gT ord m.length).hi i):=by
    intro k b1 hk Fm hq
    obtain⟨l0,rfl,JT⟩:=zf hq.symm
    obtain⟨c,o,vs,k1,k2,k3,k4,k5,k6⟩:=h1.obs k ob l0 Fm
    exact⟨c,o,vs,(iF.at' k i hk).1.trans k1,k2,k3.EP iF JT,k4,k5,by rw[(iF.at' k i hk).2.2];exact k6⟩
   rcases get i _ hi with⟨q1,q2,q3⟩ | ⟨k,b1,q1,q2,q3⟩ | ⟨q1,b1,q2,q3⟩
   · obtain⟨c,o,vs,k1,k2,k3,k4,k5,k6⟩:=h.obs i ob l q3
     exact⟨c,o,vs,(xX i q2 q1).1.trans k1,(hs.keep c (aQ k2) (jz i _ c q2 q3 rfl k1)).trans k2,k3.mono Fk,k4,fun o' p=>k5 o' (uJ i _ c q2 q3 rfl k1 o' p),by rw[(xX i q2 q1).2.2];exact k6⟩
   · exact back k b1 (by simp[aI,q1]) q2 q3
   · have hn:ord[ord.length+(i-m.length)]? = none:=List.getElem?_eq_none (by omega)
     exact back _ b1 (by simp only[aI,hn,Option.some.injEq];omega) q2 q3
 · rcases hs.fresh c o p with q | q | q
   · exact .inl q
   · exact .inr (.inl (BF c q))
   · exact .inr (.inr q)
 · obtain⟨i,b,hi,hb,hc⟩:=ho
   rcases Fl i b c hi hb hc with⟨_,p2,p3⟩ | ⟨k,b1,p1,p2,p3,p4⟩
   · exact .inl ⟨i,b,p2,hb,p3⟩
   · rcases hs.owned c ⟨k,b1,p2,p3,p4⟩ with q | q
     · exact .inl (BF c q)
     · exact .inr q
end Go.Am
end
section
namespace Go.Am
open Go.RowKit
def er:It→List Item
 |.code _ c=>[.code c]
 |.ops _ ops k _=>[.inRegion ops (List.range' k (ops.size-k))]
 |.inBlock id=>[.inBlock id]
 |.inLoop _ b=>[.inLoop b]
 |.inScope b=>[.inScope b]
 |.forget _=>[]
 |.fin=>[]
 |.begin=>[.beginRound]
 |.rG _=>[]
 |.eD _=>[]
 |.leave=>[]
def It.pl:It→Prop
 |.fin | .rG _ | .eD _ | .leave=>False
 |_=>True
def cg:List It→List Item
 |[]=>[]
 |x::k=>er x++cg k
def dJ (E:Env) (g:Gh) (w:World):Prop:= ∀i cs,E.ct i=some cs→VP g w (.pp 0 cs) (.pointer (some ⟨i,0,none⟩))
theorem dJ.mono {E:Env} {g g':Gh} {w w':World} (h:dJ E g w) (e : ∀c o,g.pure c o→g'.pure c o∧w'.cell? ⟨c,o,none⟩=w.cell? ⟨c,o,none⟩):dJ E g' w':=fun i cs hi=>(h i cs hi).mono e
structure bn (E:Env) (g:Gh) (st:St) (a:Act) (w:World):Prop where
 tm : ∀k,VA g w (look st.tm k) (a.tmps.getD k undef)
 nt:a.tmps.size=st.nt
 rel:Rel g st.mem w
 fix:st.fix≤st.mem.length
 ct:dJ E g w
def cF (g:Gh) (r:EM) (b:Frame):Prop:=match r with
 |.call=>b.kind = .normal∧b.roundOf=none
 |.round i=>b.kind = .normal ∧ ∃l,g.aN i=some l∧b.roundOf=some l
 |.late=>b.kind = .deferred∧b.roundOf=none
theorem cF.ext {g g':Gh} (e : ∀i c,g.aN i=some c→g'.aN i=some c) {r:EM} {b:Frame} (h:cF g r b):cF g' r b:=by
 cases r with
 |call=>exact h
 |late=>exact h
 |round i=>
  obtain⟨h1,l,q1,q2⟩:=h
  exact⟨h1,l,e i l q1,q2⟩
theorem cF.uK {g:Gh} {r:EM} {b:Frame} (h:cF g r b) (hn : ∀i,r ≠ .round i):b.roundOf=none:=by
 cases r with
 |call=>exact h.2
 |late=>exact h.2
 |round i=>exact absurd rfl (hn i)
def Jz (g:Gh) (l:List (Nat×Nat)) (cs:List Value):Prop:=aK (fun q v=> ∃c,g.aN q.1=some c∧v = .pointer (some ⟨c,q.2,none⟩)) l cs
def Mark.Ok (g:Gh):Mark→Deferred→Prop
 |.range b,d=> ∃D,g.aN b=some D∧d={target:= .collected D,args:= #[]}
 |.late f l m,d=> ∃fa ca:Array Value,Jz g l fa.toList∧Jz g m ca.toList∧d={target:= .fn (.func f) ca,args:=fa}
theorem Mark.Ok.ext {g g':Gh} (e : ∀i c,g.aN i=some c→g'.aN i=some c) {mk:Mark} {d:Deferred} (h:mk.Ok g d):mk.Ok g' d:=by
 cases mk with
 |range b=>
  obtain⟨D,q1,q2⟩:=h
  exact⟨D,e _ D q1,q2⟩
 |late f l m=>
  obtain⟨fa,ca,q1,q2,q3⟩:=h
  exact⟨fa,ca,aK.mono (fun _ _ ⟨c,k1,k2⟩=>⟨c,e _ c k1,k2⟩) q1,aK.mono (fun _ _ ⟨c,k1,k2⟩=>⟨c,e _ c k1,k2⟩) q2,q3⟩
def Mk (g:Gh) (mk:List Mark) (ds:List Deferred):Prop:=aK (fun b d=>b.Ok g d) mk ds
theorem Mk.ext {g g':Gh} (e : ∀i c,g.aN i=some c→g'.aN i=some c) {mk:List Mark} {ds:List Deferred} (h:Mk g mk ds):Mk g' mk ds:=
 aK.mono (fun _ _ q=>q.ext e) h
def BG (P:Program) (r:EM) (fr:Frame) (w:World) (cv:Value) (w2:World):Prop:=match r with
 |.call=>fr.leaving P w (.returned cv)∧w2=w
 |.late=>(fr.going P w (.returned cv)∧fr.kind = .deferred)∧w2=w
 |.round _=> ∀(c:Frame) (cs:List Frame),Steps P (lone fr (c::cs) w) (lone (c.finish cv) cs w2)
def bB:Option Value→Bool→FrameMode
 |none,_=> .returning
 |some v,b=> .panicking [{v:=v,recovered:=b}]
def bH (P:Program) (E:Env) (g:Gh) (c:bD) (fr:Frame) (w:World):Prop:=
 match c.todo with
 |.fin::_=>fr.fn=c.f ∧ ∃cv w2,BG P c.st.aZ fr w cv w2∧VA g w2 (look c.st.tm 0) cv∧Rel g c.st.mem w2∧bO g c.st.mem w g c.st.mem w2∧c.st.fix≤c.st.mem.length
 |.rG u::_=>fr.fn=c.f ∧ ∃cv,fr.leaving P w (.panicked [{v:=cv,recovered:=false}])∧VA g w u cv∧Rel g c.st.mem w∧c.st.fix≤c.st.mem.length
 |.eD u::_=> ∃(b:Frame) (a:Act) (todo:List Item) (cv:Value),fr={b.atR a todo with mode:=bB (some cv) false}∧b.fn=c.f∧cF g c.st.aZ b∧Mk g c.st.bq a.defers∧bn E g c.st a w∧VA g w u cv
 |.leave::_=> ∃(b:Frame) (a:Act) (todo:List Item),fr={b.atR a todo with mode:= .returning}∧b.fn=c.f∧cF g c.st.aZ b∧(∀i,c.st.aZ ≠ .round i)∧c.st.bq=[]∧a.defers=[]∧bn E g c.st a w
 |_=> ∃(b:Frame) (a:Act),fr=b.atR a (cg c.todo)∧b.fn=c.f∧cF g c.st.aZ b∧Mk g c.st.bq a.defers∧bn E g c.st a w ∧ ∀x∈c.todo,It.pl x
def cL (P:Program) (E:Env) (g:Gh) (c:bD) (fr:Frame) (w:World) (c':bD):Prop:=
 ∀cs,∃g' fr' w',Steps P (lone fr cs w) (lone fr' cs w')∧bH P E g' c' fr' w'∧bO g c.st.mem w g' c'.st.mem w'∧aP g g' c.st.fix∧c'.f=c.f∧c'.st.fix=c.st.fix∧c'.st.aZ=c.st.aZ
def aB (P:Program) (E:Env) (f:FuncId) (args:List AV) (m:Mem) (v:AV) (m':Mem):Prop:=
 (∃fn,P.funcs[f]? = some fn∧fn.body.isSome=true∧(fn.name == "runtime.NumGoroutine")=false) ∧
 ∀(g:Gh) (w:World) (bS:Array Value) (cs:List Frame),Rel g m w→bM g w args bS.toList→dJ E g w →
  ∃w' g' cv fr,Steps P (lone (Frame.enter P f bS .normal) cs w) (lone fr cs w')∧fr.leaving P w' (.returned cv)∧fr.fn=f ∧
   VA g' w' v cv∧Rel g' m' w'∧bO g m w g' m' w'∧aP g g' m.length∧m.length≤m'.length
def BH (P:Program) (E:Env) (f:FuncId) (args:List AV) (m:Mem) (v:AV) (m':Mem):Prop:=
 (∃fn,P.funcs[f]? = some fn∧fn.body.isSome=true∧(fn.name == "runtime.NumGoroutine")=false) ∧
 ∀(g:Gh) (w:World) (bS:Array Value) (cs:List Frame),Rel g m w→bM g w args bS.toList→dJ E g w →
  ∃w' g' cv fr,Steps P (lone (Frame.enter P f bS .normal) cs w) (lone fr cs w')∧fr.leaving P w' (.panicked [{v:=cv,recovered:=false}])∧fr.fn=f ∧
   VA g' w' v cv∧Rel g' m' w'∧bO g m w g' m' w'∧aP g g' m.length∧m.length≤m'.length
def BI (g:Gh) (w:World):Option AV→Option Value→Prop
 |none,none=>True
 |some u,some v=>VA g w u v
 |_,_=>False
def BJ (P:Program) (E:Env) (f:FuncId) (args:List AV) (m:Mem) (pv:Option AV) (m':Mem):Prop:=
 (∃fn,P.funcs[f]? = some fn∧fn.body.isSome=true∧(fn.name == "runtime.NumGoroutine")=false) ∧
 ∀(g:Gh) (w:World) (bS:Array Value) (mh:Option Value) (c0:Frame) (cs:List Frame),c0.mode=bB mh false→BI g w pv mh→Rel g m w→bM g w args bS.toList→dJ E g w →
  ∃w' g' cv fr,Steps P (lone (Frame.enter P f bS .deferred) (c0::cs) w) (lone fr ({c0 with mode:=bB mh true}::cs) w')∧fr.going P w' (.returned cv)∧fr.kind = .deferred ∧
   Rel g' m' w'∧bO g m w g' m' w'∧aP g g' m.length∧m.length≤m'.length
def zj (P:Program) (E:Env) (args:List AV) (m:Mem) (v:AV) (m':Mem):Prop:=
 ∀(g:Gh) (w:World) (i l:Nat) (xs:List AV) (Dz:Array Value) (c:Frame) (cs:List Frame),args = .vy i::xs→Rel g m w→g.aN i=some l→bM g w xs Dz.toList→dJ E g w →
  ∃f tmps as bd w' g' cv,(Instr.yield l Dz).run P w = .ok (.round l f tmps as bd) w∧Steps P (lone (Frame.round l f tmps as bd .normal) (c::cs) w) (lone (c.finish cv) cs w') ∧
   VA g' w' v cv∧Rel g' m' w'∧bO g m w g' m' w'∧aP g g' m.length∧m.length≤m'.length
section
variable {P:Program} {E:Env} {g:Gh} {w:World}
theorem dQ {st:St} {a:Act} (h:bn E g st a w) (x:Operand):VA g w (ev E st.tm x) (a.eval x):=by
 cases x with
 |tmp t=>exact h.tm t
 |const v=>exact VA.yR v
 |global i=>
  simp only[ev,Act.eval]
  cases hg:E.ct i with
  |none=>exact .p _ _ (.sc _)
  |some cs=>exact .p _ _ (h.ct i cs hg)
 |func f=>exact VA.fns.2 ⟨#[],#[],rfl,trivial,trivial⟩
theorem fP (tm:mO) (d k:Nat) (v:AV):look ((d,v)::tm) k=if d=k then v else look tm k:=by
 simp only[look]
 by_cases h:d=k
 · subst h;simp[Nat.beq_refl]
 · have:Nat.beq d k=false:=by rw[Bool.eq_false_iff];intro e;exact h (Nat.eq_of_beq_eq_true e)
   simp[this,h]
theorem bn.put {st:St} {a:Act} {g':Gh} {w':World} {m':Mem} (h:bn E g st a w) {dst:Option Tmp} {v:AV} {cv:Value} (hf:fits st dst=true) (hv:VA g' w' v cv) (he:Ext g w g' w') (hr:Rel g' m' w') (hx:st.fix≤m'.length) :
  bn E g' (Am.put {st with mem:=m'} dst v) (a.put dst cv) w':=by
 cases dst with
 |none=>exact⟨fun k=>(h.tm k).mono he,h.nt,hr,hx,h.ct.mono he.pure⟩
 |some d=>
  have hd:d<a.tmps.size:=by rw[h.nt];simpa[fits,Nat.blt_eq] using hf
  refine⟨fun k=> ?_,by simp[Act.put,Am.put,h.nt],hr,hx,h.ct.mono he.pure⟩
  simp only[Am.put,fP,Act.put]
  by_cases hk:d=k
  · subst hk
    simp only[if_true,Array.getD_eq_getD_getElem?,Array.getElem?_setIfInBounds_self_of_lt hd,Option.getD_some]
    exact hv
  · simp only[hk,if_false,Array.getD_eq_getD_getElem?]
    rw[Array.getElem?_setIfInBounds_ne hk,←Array.getD_eq_getD_getElem?]
    exact(h.tm k).mono he
theorem bn.known {st:St} {a:Act} (h:bn E g st a w) {d:Nat} {v:AV} (hv:VA g w v (a.tmps.getD d undef)):bn E g (Am.put st (some d) v) a w:=by
 refine⟨fun k=> ?_,h.nt,h.rel,h.fix,h.ct⟩
 simp only[Am.put,fP]
 by_cases hk:d=k
 · subst hk;simp only[if_true];exact hv
 · simp only[hk,if_false];exact h.tm k
theorem jA {k n:Nat} (h:k<n):List.range' k (n-k)=k::List.range' (k+1) (n-(k+1)):=by
 rw[show n-k=(n-(k+1))+1 by omega,List.range'_succ]
theorem semAt_eq {o:Oper} {ro:Option Nat} {ρ:Operand→Value} {n:Next} {w':World} (hr:(execOp ρ o).run P w = .ok n w') (hn : ∀d,n ≠ .defer d):o.semAt ro ρ=execOp ρ o:=by
 unfold Oper.semAt
 cases ro with
 |none=>rfl
 |some l=>
  cases ho:o.op<;>first
   |rfl
   |(exfalso
     simp only[execOp,ho,Sem.run_bind] at hr
     revert hr
     cases(resolve ρ _ o.type).run P w<;>intro hr<;>simp[Result.andThen] at hr
     exact hn _ hr.1.symm)
theorem mj {b:Frame} {a:Act} {k:List Item} {cs:List Frame} {w':World} {ops:Array Oper} {i:Nat} {rest:List Nat} {o:Oper} {v:Value} (ho:ops[i]? = some o) (hw:Region.wanted o (yielded ops a.tmps)=true)
  (hr:(execOp a.eval o).run P w = .ok (.value v) w'∨((execOp a.eval o).run P w = .ok .skip w'∧v=undef)) :
  _root_.Go.step P (lone (b.atR a (.inRegion ops (i::rest)::k)) cs w) = .next (lone (b.atR (a.put o.dst v) (.inRegion ops rest::k)) cs w'):=by
 have hg:=stepGR_op (P:=P) (b:=b) (k:=k) (cs:=cs) (w:=w) (rest:=rest) ho hw
 have jB:(b.atR a (.inRegion ops (i::rest)::k)).finish v=b.atR (a.put o.dst v) (.inRegion ops rest::k):=by rw[Frame.finish_atR,ho];rfl
 refine step_lone_go ?_
 rw[hg,←jB]
 rcases hr with hr | ⟨hr,rfl⟩
 · rw[semAt_eq hr fun _ e=>by cases e];simp[stepG.apply,hr]
 · rw[semAt_eq hr fun _ e=>by cases e];simp[stepG.apply,hr]
theorem lg {b:Frame} {a:Act} {k:List Item} {cs:List Frame} {w':World} {ops:Array Oper} {i:Nat} {rest:List Nat} {o:Oper} {f:FuncId} {args:Array Value} (ho:ops[i]? = some o) (hw:Region.wanted o (yielded ops a.tmps)=true)
  (hr:(execOp a.eval o).run P w = .ok (.enter f args) w') :
  _root_.Go.step P (lone (b.atR a (.inRegion ops (i::rest)::k)) cs w) = .next (lone (Frame.enter P f args .normal) (b.atR a (.inRegion ops (i::rest)::k)::cs) w'):=by
 have hg:=stepGR_op (P:=P) (b:=b) (k:=k) (cs:=cs) (w:=w) (rest:=rest) ho hw
 exact step_lone_go (by rw[hg,semAt_eq hr fun _ e=>by cases e];simp[stepG.apply,hr,Frame.atR])
theorem kf {st:St} {a:Act} (h:bn E g st a w) {ops:Array Oper} {o:Oper} :
  (cw ops st.tm o = .yes→Region.wanted o (yielded ops a.tmps)=true)∧(cw ops st.tm o = .no→Region.wanted o (yielded ops a.tmps)=false) ∧
  (∀d b want,cw ops st.tm o = .ask d b want→Region.wanted o (yielded ops a.tmps)=(b==want)∧a.tmps.getD d undef = .bool b):=by
 unfold cw Region.wanted
 cases hg:o.guard with
 |none=>simp
 |some q=>
  obtain⟨j,want⟩:=q
  simp only[yielded]
  cases hj:ops[j]? with
  |none=>simp
  |some oj=>
   simp only[Option.bind_some]
   cases hd:oj.dst with
   |none=>simp
   |some d=>
    simp only[Option.bind_some]
    have hv:=h.tm d
    have jx:a.tmps.getD d undef=(a.tmps[d]?).getD undef:=by rw[Array.getD_eq_getD_getElem?]
    generalize hz:a.tmps.getD d undef=z at hv jx
    generalize hl:look st.tm d=x at hv
    cases hv with
    |p pv cv hp=>
     cases hp with
     |sc=>
      cases z with
      |bool b=>
       have:a.tmps[d]? = some (.bool b):=by
        cases ha:a.tmps[d]? with
        |none=>rw[ha] at jx;cases jx
        |some u=>rw[ha] at jx;simp at jx;rw[jx]
       refine⟨fun h=>(by cases h),fun h=>(by cases h),?_⟩
       rintro d' b' w' e
       cases e
       refine⟨?_,hz⟩
       simp only[this]
       cases b<;>cases want<;>rfl
      |_=>exact⟨fun h=>(by cases h),fun h=>(by cases h),fun _ _ _ h=>(by cases h)⟩
     |_=>exact⟨fun h=>(by cases h),fun h=>(by cases h),fun _ _ _ h=>(by cases h)⟩
    |aO l cs hl' hh=>
     refine⟨fun h=>(by cases h),fun _=> ?_,fun _ _ _ h=>(by cases h)⟩
     cases ha:a.tmps[d]? with
     |none=>simp
     |some u=>
      rw[ha] at jx;simp at jx
      subst jx
      simp
    |_=>exact⟨fun h=>(by cases h),fun h=>(by cases h),fun _ _ _ h=>(by cases h)⟩
end
end Go.Am
end
