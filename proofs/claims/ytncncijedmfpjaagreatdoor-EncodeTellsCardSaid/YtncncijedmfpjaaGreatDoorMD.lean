import Derived.Test.YtncncijedmfpjaaGreatDoorMC
import Derived.WideMake
import Derived.AtR
import Derived.Recover
open Option renaming map_eq_some_iff→ib,bind_some→sg
open Prod.mk renaming injEq→ja
open Option.some renaming injEq→dk,inj→dp
open Go.Sem renaming run_bind→jb,run_pure→jn,run→si
open Go.Result renaming andThen_ok→j1,andThen→pf
open Nat renaming eq_of_beq_eq_true→be,blt_eq→gg,lt_of_succ_lt_succ→bm,beq_refl→sm,not_lt_zero→ss,not_lt→sR,beq→ba
open List renaming map_toArray→sT,map_cons→s0,map_nil→ta,getElem?_eq_none→eb,toArray→tc,mem_of_getElem?→mv,getElem?_eq_some_iff→dT,pairwise_iff_getElem→tf,append_assoc→tl,getElem?_append→tp,getElem?_map→ek,nodup_append→tz,foldlM_cons→ua,range'→ui,foldlM_nil→uv,nodup_cons→vb,length_set→ed
open Array renaming getD_eq_getD_getElem?→vd,toList_map→hP
open Go.Frame renaming enter→vj
open Go.Region renaming wanted→vt
section
namespace Go.Am
open Go.RowKit
section ops
variable {P:Program} {g:Gh} {m:Mem} {w:World}
theorem oo {ρ:Operand→AV} {cQ:Operand→Value} (hr : ∀x,VA g w (ρ x) (cQ x)) : ∀(l:List (Nat×Operand)),
  bP (fun a b=>a.1=b.1∧VA g w a.2 b.2) (l.map fun q=>(q.1,ρ q.2)) (l.map fun(i,x)=>(i,cQ x))
 |[]=>trivial
 |(_,x)::l=>⟨⟨rfl,hr x⟩,oo hr l⟩
theorem gS {ρ:Operand→AV} {cQ:Operand→Value} (hr : ∀x,VA g w (ρ x) (cQ x)) : ∀(l:List Operand),dj g w (l.map ρ) (l.map cQ)
 |[]=>trivial
 |x::l=>⟨hr x,gS hr l⟩
theorem cO.of {h:Rel g m w} {s:Sem Value} {r:Result Next} {a:AV} (hr:r=(s.run P w).andThen fun v w'=> .ok (.value v) w') (hs : ∃v,s.run P w = .ok v w∧VA g w a v):cO g m w r a m:=by
 obtain⟨v,h1,h2⟩:=hs
 exact cO.quiet h (by rw[hr,h1];rfl) h2
theorem gC {r:Option AV} {a:AV} {us:oX} {ok:Bool} (h:j9 r=some (a,us,ok)):r=some a∧us=[]:=by
 simp only[j9,ib,ja] at h
 obtain⟨v,h1,rfl,rfl,_⟩:=h
 exact⟨h1,rfl⟩
theorem jm {r:Option (AV×Bool)} {a:AV} {us:oX} {ok:Bool} (h:iq r=some (a,us,ok)):r=some (a,ok)∧us=[]:=by
 simp only[iq,ib,ja] at h
 obtain⟨⟨v,b⟩,h1,rfl,rfl,rfl⟩:=h
 exact⟨h1,rfl⟩
theorem Ar (h:Rel g m w) {cQ:Operand→Value} {o:Oper} {bF:Nat} (hn:m[bF]? = some .free) {t:TypeId} {x:Operand} {ax a:AV} {us:oX} (hx:VA g w ax (cQ x)) (ho:o.op = .range t x)
  (he:CM P bF t ax=some (a,us,true)):cO g m w ((execOp cQ o).run P w) a (apply m us):=by
 unfold CM at he
 split at he
 · rename_i s hd
   simp only[dk,ja,and_true] at he
   obtain⟨rfl,rfl⟩:=he
   rw[VA.pv] at hx
   generalize hz:cQ x=z at hx
   cases hx
   obtain⟨h1,h2,h3⟩:=h.vL (ob:= .iter s 0) (l:=[]) (vs:=[]) hn trivial (eS w (.stringIter s 0)) ⟨rfl,rfl⟩
   refine⟨.pointer (some ⟨w.heap.size,0,none⟩),_,_,.inl ?_,.mp bF 0 _ (by simp[Gh.put]),h1,h2,h3⟩
   simp[execOp,ho,hz,Instr.range,jb,run_underlying hd,pf]
 · cases he
theorem C5 (h:Rel g m w) {cQ:Operand→Value} {o:Oper} {x:Operand} {s:Bool} {ax a:AV} {us:oX} (hx:VA g w ax (cQ x)) (ho:o.op = .next x s)
  (he:HW (fun i=>m.getD i .dead) ax s=some (a,us,true)):cO g m w ((execOp cQ o).run P w) a (apply m us):=by
 cases s with
 |false=>cases he
 |true=>
  simp only[HW] at he
  split at he
  · rename_i b
    split at he
    · rename_i str pos l hb
      have hib:=getD_some hb (by simp)
      obtain⟨c,ob,vs,k1,k2,k3,k4,_⟩:=h.obs b _ _ hib
      obtain⟨rfl,rfl⟩:=k4
      generalize hz:cQ x=z at hx
      cases hx with
      |mp _ _ c' hc=>
       rw[k1] at hc;cases hc
       have l7:(getObj c).run P w = .ok (.stringIter str pos) w:=by simp[getObj,si,k2]
       split at he
       · rename_i hlt
         rw[gg] at hlt
         generalize YL:Utf8.decode str pos=q at he
         obtain⟨cc,width⟩:=q
         simp only[dk,ja,and_true] at he
         obtain⟨rfl,rfl⟩:=he
         obtain⟨e1,e2,e3⟩:=fQ w (o':= .stringIter str (pos+width)) k2
         obtain⟨r1,r2,r3⟩:=h.lA (N1:= .iter str (pos+width)) (l':=[]) (vs':=[]) hib k1 e1 e2 rfl rfl rfl e3 ⟨rfl,rfl⟩ trivial
         have Ag:(setObj c (.stringIter str (pos+width))).run P w = .ok () {w with heap:=w.heap.setIfInBounds c (.stringIter str (pos+width))}:=by simp[setObj,si,k2]
         refine⟨.tuple #[.bool true,goInt pos,.int .i32 cc],_,g,.inl ?_,VA.mP.2 ⟨.p _ _ (.sc _),.p _ _ (.sc _),.p _ _ (.sc _),trivial⟩,r1,r2,r3⟩
         simp only[execOp,ho,hz,Instr.next,jb,l7,j1,hlt,if_true,YL,Ag,jn]
       · rename_i hlt
         have hlt' : ¬pos<str.size:=fun q=>by rw[←gg] at q;rw[q] at hlt;cases hlt
         simp only[dk,ja,and_true] at he
         obtain⟨rfl,rfl⟩:=he
         refine cO.quiet h (v:= .tuple #[.bool false]) ?_ (VA.mP.2 ⟨.p _ _ (.sc _),trivial⟩)
         simp only[execOp,ho,hz,Instr.next,jb,l7,j1,hlt',if_false,jn]
    · rename_i str pos more l hb
      have hib:=getD_some hb (by simp)
      obtain⟨c,ob,vs,k1,k2,k3,k4,_⟩:=h.obs b _ _ hib
      obtain⟨rfl,rfl,k5⟩:=k4
      generalize hz:cQ x=z at hx
      cases hx with
      |mp _ _ c' hc=>
       rw[k1] at hc;cases hc
       have l7:(getObj c).run P w = .ok (.stringIter str pos) w:=by simp[getObj,si,k2]
       split at he
       · have hlt:pos<str.size:=by rw[gg] at k5;exact k5
         generalize YL:Utf8.decode str pos=q at he
         obtain⟨cc,width⟩:=q
         simp only[dk,ja,and_true] at he
         obtain⟨rfl,rfl⟩:=he
         obtain⟨e1,e2,e3⟩:=fQ w (o':= .stringIter str (pos+width)) k2
         obtain⟨r1,r2,r3⟩:=h.lA (N1:= .iter str (pos+width)) (l':=[]) (vs':=[]) hib k1 e1 e2 rfl rfl rfl e3 ⟨rfl,rfl⟩ trivial
         have Ag:(setObj c (.stringIter str (pos+width))).run P w = .ok () {w with heap:=w.heap.setIfInBounds c (.stringIter str (pos+width))}:=by simp[setObj,si,k2]
         refine⟨.tuple #[.bool true,goInt pos,.int .i32 cc],_,g,.inl ?_,VA.mP.2 ⟨.p _ _ (.sc _),.p _ _ (.sc _),.p _ _ (.sc _),trivial⟩,r1,r2,r3⟩
         simp only[execOp,ho,hz,Instr.next,jb,l7,j1,hlt,if_true,YL,Ag,jn]
       · have hlt' : ¬pos<str.size:=fun q=>by rw[←gg,k5] at q;cases q
         simp only[dk,ja,and_true] at he
         obtain⟨rfl,rfl⟩:=he
         refine cO.quiet h (v:= .tuple #[.bool false]) ?_ (VA.mP.2 ⟨.p _ _ (.sc _),trivial⟩)
         simp only[execOp,ho,hz,Instr.next,jb,l7,j1,hlt',if_false,jn]
    · cases he
  · cases he
theorem As {ρ:Operand→AV} {cQ:Operand→Value} (hr : ∀x,VA g w (ρ x) (cQ x)) {o:Oper} {op:BinOp} {t yt:TypeId} {x y:Operand} {l c:Nat} (hy:cQ y = .slice none l c) (ho:o.op = .binOp op t x y yt) {a:AV} {us:oX} {ok:Bool} (he:vF P op t (ρ x)=some (a,us,ok)) :
  us=[] ∧ ∃v,(execOp cQ o).run P w = .ok (.value v) w∧VA g w a v:=by
 unfold vF at he
 split at he
 · rename_i e hd
   have key : ∀{b:Bool},JI (ρ x)=some b→(∀op':BinOp,(eqGuard op' t x y (cQ x) (cQ y)).run P w = .ok () w)∧(Op.equal t (cQ x) (cQ y)).run P w = .ok b w ∧ ∀op',op' = .eql∨op' = .neq→binOp op' t (cQ x) (cQ y)=(do let r ←Op.equal t (cQ x) (cQ y);pure (.bool (if op' = .eql then r else !r)):Sem Value):=by
    intro b hb
    obtain⟨ad,len,cap,hx,hn⟩:=E2 (hr x) hb
    rw[hx,hy]
    refine⟨fun op'=>by unfold eqGuard;cases op'<;>rfl,?_,fun op' hop=>by rcases hop with rfl | rfl<;>rfl⟩
    show(Op.equalIn (9999+1) t _ _).run P w = .ok b w
    rw[Op.equalIn];simp only[jb,run_underlying hd,j1]
    subst hn
    cases ad<;>rfl
   split at he
   · rename_i b hb
     obtain⟨k1,k2,k3⟩:=key hb
     simp only[dk,ja] at he
     obtain⟨rfl,rfl,_⟩:=he
     refine⟨rfl,.bool b,?_,.p _ _ (.sc _)⟩
     simp only[execOp,ho,jb,k1,j1,k3 _ (.inl rfl),k2,jn]
     rfl
   · rename_i b hb
     obtain⟨k1,k2,k3⟩:=key hb
     simp only[dk,ja] at he
     obtain⟨rfl,rfl,_⟩:=he
     refine⟨rfl,.bool (!b),?_,.p _ _ (.sc _)⟩
     simp only[execOp,ho,jb,k1,j1,k3 _ (.inr rfl),k2,jn]
     rfl
   · cases he
 · cases he
theorem YM (x y:Int):(if y<x then y else x)=min x y:=by
 rcases Int.lt_or_le y x with h | h
 · rw[if_pos h];omega
 · rw[if_neg (by omega)];omega
theorem YN (x y:Int):(if y>x then y else x)=max x y:=by
 rcases Int.lt_or_le x y with h | h
 · rw[if_pos h];omega
 · rw[if_neg (by omega)];omega
theorem A4 {ρ:Operand→AV} {cQ:Operand→Value} (hr : ∀x,VA g w (ρ x) (cQ x)) {mn:Bool} {l:List Operand} {v:AV} (h:LA mn (l.map ρ)=some v) :
  ∃cx cy k k' x y,l=[cx,cy]∧cQ cx = .int k x∧cQ cy = .int k' y∧v = .p (.sc (.int k (cond mn (min x y) (max x y)))):=by
 match l,h with
 |[cx,cy],h=>
  have h1:=hr cx
  have h2:=hr cy
  simp only[s0,ta] at h
  generalize ρ cx=ax at h h1
  generalize ρ cy=ay at h h2
  unfold LA at h
  split at h
  · rename_i k a k' b heq
    simp only[List.cons.injEq,and_true] at heq
    obtain⟨rfl,rfl⟩:=heq
    simp only[dk] at h
    rw[VA.pv] at h1 h2
    generalize gu:cQ cx=c1 at h1
    generalize gQ:cQ cy=c2 at h2
    cases h1;cases h2
    exact⟨cx,cy,k,k',a,b,rfl,gu,gQ,h.symm⟩
  · cases h
 |[],h=>simp[LA] at h
 |[_],h=>simp[LA] at h
 |_::_::_::_,h=>simp[LA] at h
theorem pz (h:Rel g m w) {ρ:Operand→AV} {cQ:Operand→Value} (hr : ∀x,VA g w (ρ x) (cQ x)) (hrc : ∀v,cQ (.const v)=v) {o:Oper} {bF:Nat} (hn:makes o=true→m[bF]? = some .free) {wr:Bool} {a:AV} {us:oX}
  (he:uz P (fun i=>m.getD i .dead) wr bF ρ o=some (a,us,true)):cO g m w ((execOp cQ o).run P w) a (apply m us):=by
 have he' : ∀y,CL y=true → ∃l c,cQ y = .slice none l c:=by
  intro y hy
  unfold CL at hy
  split at hy
  · exact⟨_,_,hrc _⟩
  · cases hy
 have hmk : ∀{b:Bool},makes o=b→b=true→m[bF]? = some .free:=fun e e'=>hn (e.trans e')
 unfold uz at he
 split at he
 · rename_i x ho
   simp only[dk,ja,and_true] at he
   obtain⟨rfl,rfl⟩:=he
   exact cO.quiet h (v:=cQ x) (by simp[execOp,ho]) (hr x)
 · rename_i x ho
   simp only[dk,ja,and_true] at he
   obtain⟨rfl,rfl⟩:=he
   exact cO.quiet h (v:=cQ x) (by simp[execOp,ho]) (hr x)
 · rename_i c x y ho
   split at he
   · rename_i t hc
     simp only[dk,ja,and_true] at he
     obtain⟨rfl,rfl⟩:=he
     have hb:cQ c = .bool t:=by have:=hr c;rw[hc,VA.pv] at this;generalize cQ c=z at this;cases this;rfl
     cases t
     · exact cO.quiet h (v:=cQ y) (by simp[execOp,ho,hb,asBool]) (hr y)
     · exact cO.quiet h (v:=cQ x) (by simp[execOp,ho,hb,asBool]) (hr x)
   · cases he
 · rename_i t ho
   split at he
   · exact wR h (hmk (by simp only[makes,ho]) rfl) he ho
   · exact Aj h (hmk (by simp only[makes,ho]) rfl) he (ty:=0) (pos:= "") ho rfl rfl
 · rename_i t x ho
   exact EV h (hmk (by simp only[makes,ho]) rfl) (hr x) he (t:=t) (by simp[execOp,ho,Instr.box,newVar,newRow])
 · rename_i t parts ho
   obtain⟨h1,rfl⟩:=jm he
   refine cO.of (h:=h) (s:=Instr.build t (parts.map fun(i,x)=>(i,cQ x))) (P:=P) (by simp only[execOp,ho,jb,jn]) (Ah h1 ?_)
   rw[hP];exact oo hr parts.toList
 · rename_i t len parts ho
   have:=qD (kA:=parts.map fun(i,x)=>(i,cQ x)) h (hmk (by simp only[makes,ho]) rfl) he (by rw[hP];exact oo hr parts.toList)
   simpa only[execOp,ho] using this
 · rename_i t x ho
   obtain⟨h1,rfl⟩:=jm he
   obtain⟨c,o',cv,k1,k2,k3⟩:=rH h (hr x) h1
   exact cO.quiet h (v:=cv) (by simp[execOp,ho,Instr.loadAt,k1,Instr.sureAddr,k2]) k3
 · rename_i t x v ho
   obtain⟨w',k1,rfl,k2,k3,k4⟩:=Ai h (hr x) (hr v) he
   exact⟨undef,w',g,.inr ⟨by simp[execOp,ho,k1],rfl⟩,VA.mP.2 trivial,k2,k3,k4⟩
 · rename_i x ho
   obtain⟨h1,rfl⟩:=gC he
   obtain⟨v,k1,k2⟩:=tC hr ho h1
   exact cO.quiet h k1 k2
 · rename_i op t x y yt ho
   split at he
   · rename_i hy
     obtain⟨l,c,hyc⟩:=he' y hy
     obtain⟨rfl,v,k1,k2⟩:=As hr hyc ho he
     exact cO.quiet h k1 k2
   · split at he
     · obtain⟨rfl,v,k1,k2⟩:=EY hr ho he
       exact cO.quiet h k1 k2
     · split at he
       · rename_i hsame
         obtain⟨rfl,v,k1,k2⟩:=vo hr ho hsame he
         exact cO.quiet h k1 k2
       · obtain⟨h1,rfl⟩:=jm he
         obtain⟨v,k1,k2⟩:=Af hr ho h1
         exact cO.quiet h k1 k2
 · rename_i t x ho
   exact Ar h (hmk (by simp only[makes,ho]) rfl) (hr x) ho he
 · rename_i x s ho
   exact C5 h (hr x) ho he
 · rename_i t ho
   have fin : ∀ob:dS,ob.is (.map #[] 0) []→ob.room (.map #[] 0) 0→some (AV.vm bF,[(bF,bq.ob ob [])],true)=some (a,us,true)→cO g m w ((execOp cQ o).run P w) a (apply m us):=by
    intro ob hob hroom he
    simp only[dk,ja,and_true] at he
    obtain⟨rfl,rfl⟩:=he
    obtain⟨h1,h2,h3⟩:=h.vL (ob:=ob) (l:=[]) (vs:=[]) (hmk (by simp only[makes,ho]) rfl) trivial (eS w (.map #[] 0)) hob hroom
    exact⟨.map (some w.heap.size),_,_,.inl (by simp[execOp,ho,run_makeMap_plain,pf]),.vm bF _ (by simp[Gh.put]),h1,h2,h3⟩
   unfold AQ at he
   split at he
   · split at he
     · exact fin (.N5 []) ⟨_,_,[],rfl,rfl,rfl,.refl _⟩ trivial he
     · exact fin (.map [] [] 0) rfl trivial he
   · exact fin (.map [] [] 0) rfl trivial he
 · rename_i t x i ok ho
   obtain⟨h1,rfl⟩:=gC he
   exact cO.of (h:=h) (s:=Instr.lookup t (cQ x) (cQ i) ok) (P:=P) (by simp only[execOp,ho,jb,jn]) (wW h (hr x) (hr i) h1)
 · rename_i t x k v ho
   obtain⟨w',k1,rfl,k2,k3,k4⟩:=lE h (hr x) (hr k) (hr v) he
   exact⟨undef,w',g,.inr ⟨by simp[execOp,ho,k1],rfl⟩,VA.mP.2 trivial,k2,k3,k4⟩
 · rename_i t x k v ho
   obtain⟨w',k1,rfl,k2,k3,k4⟩:=lE h (hr x) (hr k) (hr v) he
   exact⟨undef,w',g,.inr ⟨by simp[execOp,ho,k1],rfl⟩,VA.mP.2 trivial,k2,k3,k4⟩
 · rename_i op t x ho
   obtain⟨h1,rfl⟩:=jm he
   obtain⟨v,k1,k2⟩:=CX hr ho h1
   exact cO.quiet h k1 k2
 · rename_i src dst x ho
   exact vn h (hmk (by simp only[makes,ho]) rfl) hr ho he
 · rename_i t x ho
   obtain⟨h1,rfl⟩:=gC he
   exact cO.of (h:=h) (s:=Instr.makeInterface t (cQ x)) (P:=P) (by simp only[execOp,ho,jb,jn]) (rL h1 (hr x))
 · rename_i f first captured ho
   simp only[dk,ja,and_true] at he
   obtain⟨rfl,rfl⟩:=he
   refine cO.quiet h (v:= .func f (first.map cQ) (captured.map cQ)) (by simp[execOp,ho,Instr.makeFunc]) (VA.fns.2 ⟨_,_,rfl,?_,?_⟩)
   · rw[hP];exact gS hr _
   · rw[hP];exact gS hr _
 · rename_i t l c ho
   split at he
   · have:=tG h (hr l) (hr c) he
     simpa only[execOp,ho] using this
   · have:=rM h (hmk (by simp only[makes,ho]) rfl) (hr l) (hr c) he
     simpa only[execOp,ho] using this
 · rename_i t x lo hi mx ho
   obtain⟨h1,rfl⟩:=jm he
   exact cO.of (h:=h) (s:=Instr.sliceAt t (cQ x) (lo.map cQ) (hi.map cQ) (mx.map cQ)) (P:=P) (by simp only[execOp,ho,jb,jn]) (Ad hr h1 (hr x))
 · rename_i t x f ho
   obtain⟨h1,rfl⟩:=gC he
   exact cO.of (h:=h) (s:=Instr.fieldAt t (cQ x) f) (P:=P) (by simp only[execOp,ho,jb,jn]) (rI h1 (hr x))
 · rename_i t x f ho
   obtain⟨h1,rfl⟩:=jm he
   exact cO.of (h:=h) (s:=Instr.field t (cQ x) f) (P:=P) (by simp only[execOp,ho,jb,jn]) (Ab h1 (hr x))
 · rename_i t x i ho
   obtain⟨h1,rfl⟩:=jm he
   exact cO.of (h:=h) (s:=Instr.indexAt t (cQ x) (cQ i)) (P:=P) (by simp only[execOp,ho,jb,jn]) (rJ h1 (hr x) (hr i))
 · rename_i t x i ho
   obtain⟨h1,rfl⟩:=jm he
   exact cO.of (h:=h) (s:=Instr.index t (cQ x) (cQ i)) (P:=P) (by simp only[execOp,ho,jb,jn]) (Ac h1 (hr x) (hr i))
 · rename_i x i ho
   split at he
   · rename_i vs hx
     obtain⟨h1,rfl⟩:=gC he
     have hv:=hr x
     rw[hx] at hv
     generalize hz:cQ x=z at hv
     cases hv with
     |aK _ cs hl hh=>
      obtain⟨b,hb,hv⟩:=bP.get? (bP.cY hl hh) h1
      exact cO.quiet h (v:=b) (by simp only[execOp,ho,hz,Instr.extract];simp at hb;simp[hb]) hv
   · cases he
 · rename_i x xt t ok ho
   obtain⟨h1,rfl⟩:=gC he
   obtain⟨cv,k1,k2⟩:=wV (xt:=xt) h1 (hr x)
   exact cO.quiet h (v:=cv) (by simp only[execOp,ho,jb,k1,j1,jn]) k2
 · rename_i c ho
   split at he
   · rename_i s x hc ha
     have kS:c.args = #[s,x]:=by have:=congrArg tc ha;simpa using this
     have ae0:makes o=true:=by simp only[makes,ho,hc]
     split at he
     · have:=xd (ty:=o.type) h (hn ae0) (uF (hr s)) (hr x) he
       simpa only[execOp,ho,resolve,hc,kS,jb,jn,j1,invoke,builtin,sT,s0,ta] using this
     · have:=wT (ty:=o.type) h (hn ae0) (uF (hr s)) (hr x) he
       simpa only[execOp,ho,resolve,hc,kS,jb,jn,j1,invoke,builtin,sT,s0,ta] using this
   · rename_i d s hc ha
     have kS:c.args = #[d,s]:=by have:=congrArg tc ha;simpa using this
     have:=C1 (ty:=o.type) h (hr d) (hr s) he
     simpa only[execOp,ho,resolve,hc,kS,jb,jn,j1,invoke,builtin,sT,s0,ta] using this
   · rename_i x hc ha
     have kS:c.args = #[x]:=by have:=congrArg tc ha;simpa using this
     obtain⟨h1,rfl⟩:=gC he
     refine cO.of (h:=h) (s:=Builtin.len_ c.argTypes o.type #[cQ x]) (P:=P) ?_ (EP h1 (hr x))
     simp only[execOp,ho,resolve,hc,kS,jb,jn,j1,invoke,builtin,sT,s0,ta]
   · rename_i x hc ha
     have kS:c.args = #[x]:=by have:=congrArg tc ha;simpa using this
     obtain⟨h1,rfl⟩:=gC he
     refine cO.of (h:=h) (s:=Builtin.cap_ c.argTypes o.type #[cQ x]) (P:=P) ?_ (ER h1 (hr x))
     simp only[execOp,ho,resolve,hc,kS,jb,jn,j1,invoke,builtin,sT,s0,ta]
   · rename_i x hc ha
     have kS:c.args = #[x]:=by have:=congrArg tc ha;simpa using this
     obtain⟨rfl,v,k1,k2⟩:=rO (P:=P) (ts:=c.argTypes) (ty:=o.type) (hr x) he
     refine cO.quiet h (v:=v) ?_ k2
     simp only[execOp,ho,resolve,hc,kS,jb,jn,j1,invoke,builtin,sT,s0,ta,k1]
   · rename_i x n hc ha
     have kS:c.args = #[x,n]:=by have:=congrArg tc ha;simpa using this
     have:=om (ty:=o.type) h (hr x) (hr n) he
     simpa only[execOp,ho,resolve,hc,kS,jb,jn,j1,invoke,builtin,sT,s0,ta] using this
   · rename_i hc
     obtain⟨h1,rfl⟩:=gC he
     unfold ke at h1
     split at h1
     · rename_i v hm
       simp only[dk] at h1;subst h1
       obtain⟨cx,cy,k,k',x,y,ha,e1,e2,rfl⟩:=A4 hr hm
       have kS:c.args = #[cx,cy]:=by have:=congrArg tc ha;simpa using this
       refine cO.quiet h (v:= .int k (min x y)) ?_ (.p _ _ (.sc _))
       simp only[execOp,ho,resolve,hc,kS,jb,jn,j1,invoke,builtin,sT,s0,ta,e1,e2,Builtin.min_,ua,uv,Builtin.min2,YM]
     · obtain⟨v,k1,k2⟩:=fm hr (fun _ _=>by rw[ho];exact fun e=>by cases e) h1
       exact cO.quiet h k1 k2
   · rename_i hc
     obtain⟨h1,rfl⟩:=gC he
     unfold ke at h1
     split at h1
     · rename_i v hm
       simp only[dk] at h1;subst h1
       obtain⟨cx,cy,k,k',x,y,ha,e1,e2,rfl⟩:=A4 hr hm
       have kS:c.args = #[cx,cy]:=by have:=congrArg tc ha;simpa using this
       refine cO.quiet h (v:= .int k (max x y)) ?_ (.p _ _ (.sc _))
       simp only[execOp,ho,resolve,hc,kS,jb,jn,j1,invoke,builtin,sT,s0,ta,e1,e2,Builtin.max_,ua,uv,Builtin.max2,YN]
     · obtain⟨v,k1,k2⟩:=fm hr (fun _ _=>by rw[ho];exact fun e=>by cases e) h1
       exact cO.quiet h k1 k2
   · cases he
 · cases he
end ops
end Go.Am
end
section
namespace Go.Am
open Go.RowKit
structure dG (ρ:Nat→Option Nat) (g g':Gh):Prop where
 at' : ∀i k,ρ i=some k→g'.bX k=g.bX i∧g'.lo k=g.lo i∧g'.hi k=g.hi i
 pure:g'.pure=g.pure
theorem VP.H9 {g g':Gh} {w:World} (h:g'.pure=g.pure) {v:PV} {cv:Value} (hv:VP g w v cv):VP g' w v cv:=hv.mono fun c o p=>⟨by rw[h];exact p,rfl⟩
theorem eJ (ρ:Nat→Option Nat) : ∀l:List AV,(eR ρ l).length=l.length
 |[]=>rfl
 |a::l=>by simp[eR,eJ ρ l]
theorem oq (ρ:Nat→Option Nat) : ∀(l:List AV) (i:Nat) (h:i<(eR ρ l).length) (h':i<l.length),(eR ρ l)[i]=iH ρ l[i]
 |_::_,0,_,_=>rfl
 |_::l,i+1,h,h'=>oq ρ l i (bm h) (bm h')
 |[],_,_,h'=>absurd h' (ss _)
theorem VA.iH {ρ:Nat→Option Nat} {g g':Gh} {w:World} (hr:dG ρ g g') {a:AV} {v:Value} (h:VA g w a v):VA g' w (Am.iH ρ a) v:=by
 induction h with
 |bC v=>exact .bC v
 |p v cv h=>exact .p v cv (h.H9 hr.pure)
 |os tok len sz cells a cap h ht=>
  have h':=h.H9 hr.pure
  cases tok with
  |none=>exact .os none len sz cells a cap h' (ht.imp id fun⟨t,_,_,e,_⟩=>by cases e)
  |some t=>
   simp only[Am.iH]
   cases hρ:ρ t with
   |none=>exact .p _ _ h'
   |some k=>
    obtain⟨e1,e2,e3⟩:=hr.at' t k hρ
    refine .os (some k) len sz cells a cap h' (ht.imp id ?_)
    rintro ⟨t',b,o,e,rfl,q1,q2,q3,q4⟩
    cases e
    exact⟨k,b,o,rfl,rfl,e1.trans q1,e2.trans q2,e3.trans q3,q4⟩
 |mp b off c h=>
  simp only[Am.iH]
  cases hρ:ρ b with
  |none=>exact .bC _
  |some k=>exact .mp k off c ((hr.at' b k hρ).1.trans h)
 |ms b off len sz cap c h hc=>
  simp only[Am.iH]
  cases hρ:ρ b with
  |none=>exact .bC _
  |some k=>exact .ms k off len sz cap c ((hr.at' b k hρ).1.trans h) hc
 |mg b off len sz cap c h hc hh=>
  simp only[Am.iH]
  cases hρ:ρ b with
  |none=>exact .bC _
  |some k=>exact .mg k off len sz cap c ((hr.at' b k hρ).1.trans h) hc (by rw[(hr.at' b k hρ).2.2];exact hh)
 |vm b c h=>
  simp only[Am.iH]
  cases hρ:ρ b with
  |none=>exact .bC _
  |some k=>exact .vm k c ((hr.at' b k hρ).1.trans h)
 |vy b c h=>
  simp only[Am.iH]
  cases hρ:ρ b with
  |none=>exact .bC _
  |some k=>exact .vy k c ((hr.at' b k hρ).1.trans h)
 |fn f l k fa ca hl hk h h2 ih ih2=>
  simp only[Am.iH]
  exact .fn f _ _ fa ca (by rw[eJ];exact hl) (by rw[eJ];exact hk)
   (fun i a b=>by rw[oq ρ l i a (by rwa [eJ] at a)];exact ih i _ b) (fun i a b=>by rw[oq ρ k i a (by rwa [eJ] at a)];exact ih2 i _ b)
 |agg l cs hl h ih=>
  simp only[Am.iH]
  exact .agg _ cs (by rw[eJ];exact hl) (fun i a b=>by rw[oq ρ l i a (by rwa [eJ] at a)];exact ih i _ b)
 |aK l cs hl h ih=>
  simp only[Am.iH]
  exact .aK _ cs (by rw[eJ];exact hl) (fun i a b=>by rw[oq ρ l i a (by rwa [eJ] at a)];exact ih i _ b)
 |nL t v cv h ih=>exact .nL t _ cv ih
theorem dj.iH {ρ:Nat→Option Nat} {g g':Gh} {w:World} (hr:dG ρ g g') : ∀{l:List AV} {vs:List Value},dj g w l vs→dj g' w (eR ρ l) vs
 |[],[],_=>trivial
 |_::_,_::_,h=>⟨h.1.iH hr,dj.iH hr h.2⟩
 |[],_::_,h=>h.elim
 |_::_,[],h=>h.elim
theorem dj.av {ρ:Nat→Option Nat} {g g':Gh} {w:World} (hr:dG ρ g g') : ∀{l:List AV} {vs:List Value},dj g w l vs→dj g' w (l.map av) vs
 |[],[],_=>trivial
 |a::_,_::_,h=>⟨by
   cases a with
   |p v=>exact h.1.iH hr
   |_=>exact .bC _,dj.av hr h.2⟩
 |[],_::_,h=>h.elim
 |_::_,[],h=>h.elim
theorem dj.X7 {ρ:Nat→Option Nat} {g g':Gh} {w:World} (hr:dG ρ g g') {l l':List AV} {vs:List Value} (h:dj g w l vs) (hl:l'=eR ρ l∨l'=l.map Am.av):dj g' w l' vs:=by
 rcases hl with rfl | rfl
 · exact h.iH hr
 · exact dj.av hr h
theorem OG (ρ:Nat→Option Nat) : ∀l:List PV,eR ρ (l.map .p)=l.map .p
 |[]=>rfl
 |v::l=>by simp[eR,Am.iH,OG ρ l]
theorem LH (ρ:Nat→Option Nat) (k:dS) (vals:List AV) : ∃l,fM ρ (.ob k vals) = .ob k l:=by
 cases k with
 |gr t q=>cases q<;>exact⟨_,rfl⟩
 |_=>exact⟨_,rfl⟩
theorem xe {ρ:Nat→Option Nat} {b:bq} {l':List AV} (h:(fM ρ b).cells?=some l') : ∃l,b.cells?=some l∧l'=eR ρ l:=by
 cases b with
 |pc l=>simp only[fM,bq.cells?,dk] at h;exact⟨_,rfl,by rw[OG];exact h.symm⟩
 |ac l=>simp only[fM,bq.cells?,dk] at h;exact⟨l,rfl,h.symm⟩
 |ob k vals=>
  obtain⟨l0,e⟩:=LH ρ k vals
  rw[e] at h
  cases h
 |_=>simp[fM,bq.cells?] at h
theorem l8 {ρ:Nat→Option Nat} {b:bq}:(fM ρ b).dc=b.dc:=by unfold fM;split<;>rfl
theorem JU {ρ:Nat→Option Nat} {b:bq} {k:dS} {l:List AV} (h:fM ρ b = .ob k l) : ∃l0,b = .ob k l0∧(l=eR ρ l0∨l=l0.map av):=by
 unfold fM at h
 split at h<;>cases h
 · exact⟨_,rfl,.inr rfl⟩
 · exact⟨_,rfl,.inr rfl⟩
 · exact⟨_,rfl,.inl rfl⟩
 · rename_i hne
   exact(hne _ _ rfl).elim
theorem tJ {ρ:Nat→Option Nat} {b:bq} (h:fM ρ b = .free):b = .free:=by unfold fM at h;split at h<;>first | exact h | cases h
theorem E3 {ρ:Nat→Option Nat} {b:bq} (h:fM ρ b = .tok):b = .tok:=by unfold fM at h;split at h<;>first | exact h | cases h
theorem JV {ord:List Nat} {i k:Nat} (h:idx ord i=some k):ord[k]? = some i:=by
 induction ord generalizing k with
 |nil=>simp[idx] at h
 |cons j ord ih=>
  simp only[idx] at h
  cases hb:ba i j with
  |true=>simp only[hb,cond_true,dk] at h;subst h;rw[be hb];rfl
  |false=>
   simp only[hb,cond_false,ib] at h
   obtain⟨k',h1,rfl⟩:=h
   exact ih h1
def Gh.pack (g:Gh) (ord:List Nat):Gh where
 bX k:=(ord[k]?).bind g.bX
 lo k:=match ord[k]? with | some i=>g.lo i | none=>0
 hi k:=match ord[k]? with | some i=>g.hi i | none=>0
 pure:=g.pure
theorem dG.pack (g:Gh) (ord:List Nat):dG (idx ord) g (g.pack ord):=
 ⟨fun i k h=>by have:=JV h;simp[Gh.pack,this],rfl⟩
theorem kD {m:Mem} {ord:List Nat} {k:Nat} {b:bq} (h:(pack m ord)[k]? = some b) : ∃i,ord[k]? = some i∧b=fM (idx ord) (m.getD i .dead):=by
 simp only[pack,ek,ib] at h
 obtain⟨i,h1,h2⟩:=h
 exact⟨i,h1,h2.symm⟩
theorem Ia {m:Mem} {i:Nat} {l:List AV} (h:(m.getD i .dead).cells?=some l):m[i]? = some (m.getD i .dead):=
 getD_some rfl fun e=>by rw[e] at h;cases h
theorem A5 {m:Mem} {i:Nat} (h:(m.getD i .dead).dc=true):m[i]? = some (m.getD i .dead):=
 getD_some rfl fun e=>by rw[e] at h;cases h
theorem LI {l:List Nat} (h:l.Nodup) {j k i:Nat} (hj:l[j]? = some i) (hk:l[k]? = some i):j=k:=by
 obtain⟨a,ha⟩:=dT.1 hj
 obtain⟨b,hb⟩:=dT.1 hk
 rcases Nat.lt_trichotomy j k with q | q | q
 · exact absurd (ha.trans hb.symm) (tf.1 h j k a b q)
 · exact q
 · exact absurd (hb.trans ha.symm) (tf.1 h k j b a q)
theorem Rel.pack {g:Gh} {m:Mem} {w:World} (h:Rel g m w) {ord:List Nat} (hnd:ord.Nodup) :
  Rel (g.pack ord) (Am.pack m ord) w∧(∀c,fH (g.pack ord) (Am.pack m ord) c→fH g m c):=by
 have own : ∀k b c,(Am.pack m ord)[k]? = some b→b.dc=true→(g.pack ord).bX k=some c → ∃i,ord[k]? = some i∧m[i]? = some (m.getD i .dead)∧(m.getD i .dead).dc=true∧g.bX i=some c:=by
  intro k b c hk ho hc
  obtain⟨i,h1,rfl⟩:=kD hk
  rw[l8] at ho
  exact⟨i,h1,A5 ho,ho,by simpa[Gh.pack,h1] using hc⟩
 refine⟨⟨fun k hk=> ?_,fun k hk=> ?_,fun k b l hk hl=> ?_,fun k c hk hc=> ?_,fun j k b b' c hj hk ho ho' hc fk=> ?_,h.there,fun k ob l hk=> ?_⟩,fun c ho=> ?_⟩
 · have:ord[k]? = none:=eb (by simpa[Am.pack] using hk)
   simp[Gh.pack,this]
 · obtain⟨i,h1,h2⟩:=kD hk
   have h2:=tJ h2.symm
   have:=h.free i (getD_some h2 (by simp))
   simp[Gh.pack,h1,this]
 · obtain⟨i,h1,rfl⟩:=kD hk
   obtain⟨l0,h2,rfl⟩:=xe hl
   obtain⟨c,cs,e,n,k1,k2,k3,k4,k5⟩:=h.cells i _ _ (Ia h2) h2
   exact⟨c,cs,e,n,by simpa[Gh.pack,h1] using k1,k2,k3,⟨k4.1.iH (dG.pack g ord),k4.2⟩,k5⟩
 · obtain⟨i,h1,h2⟩:=kD hk
   have h2:=E3 h2.symm
   have hc:g.bX i=some c:=by simpa[Gh.pack,h1] using hc
   have:=h.tok i c (getD_some h2 (by simp)) hc
   simpa[Gh.pack,h1] using this
 · obtain⟨i,h1,h2,h3,h4⟩:=own j b c hj ho hc
   obtain⟨i',h1',h2',h3',h4'⟩:=own k b' c hk ho' fk
   have:=h.inj i i' _ _ c h2 h2' h3 h3' h4 h4'
   subst this
   exact LI hnd h1 h1'
 · obtain⟨i,h1,h2⟩:=kD hk
   obtain⟨l0,h3,hl0⟩:=JU h2.symm
   obtain⟨c,o,vs,k1,k2,k3,k4,k5,k6⟩:=h.obs i ob l0 (getD_some h3 (by simp))
   exact⟨c,o,vs,by simpa[Gh.pack,h1] using k1,k2,k3.X7 (dG.pack g ord) hl0,k4,k5,by simpa[Gh.pack,h1] using k6⟩
 · obtain⟨k,b,hk,ho,hc⟩:=ho
   obtain⟨i,_,h2,h3,h4⟩:=own k b c hk ho hc
   exact⟨i,_,h2,h3,h4⟩
theorem JW {l:List Nat} {i:Nat}:has l i=true↔i∈l:=by
 induction l with
 |nil=>simp[has]
 |cons j l ih=>
  simp only[has]
  cases hb:ba j i with
  |true=>simp[be hb]
  |false=>
   have:j≠i:=fun e=>by subst e;simp[sm] at hb
   simp[ih,Ne.symm this]
theorem ep : ∀(l ord:List Nat),ord.Nodup→(iL ord l).Nodup ∧ ∃t,iL ord l=ord++t
 |[],ord,h=>⟨h,[],by simp[iL]⟩
 |i::l,ord,h=>by
  simp only[iL]
  cases hb:has ord i with
  |true=>exact ep l ord h
  |false=>
   have hni:i∉ord:=fun k=>by rw[JW.2 k] at hb;cases hb
   obtain⟨h1,t,h2⟩:=ep l (ord++[i]) (tz.2 ⟨h,by simp,fun a ha b hb=>by simp at hb;subst hb;exact fun e=>hni (e▸ha)⟩)
   exact⟨h1,i::t,by simp only[cond_false,h2,tl,List.singleton_append]⟩
theorem mU (m:Mem) : ∀(f:Nat) (ord:List Nat) (k:Nat),ord.Nodup→(reach m f ord k).Nodup ∧ ∃t,reach m f ord k=ord++t
 |0,ord,_,h=>⟨h,[],by simp[reach]⟩
 |f+1,ord,k,h=>by
  simp only[reach]
  cases hk:ord[k]? with
  |none=>exact⟨h,[],by simp⟩
  |some i=>
   obtain⟨h1,t,h2⟩:=ep (AR (m.getD i .dead)) ord h
   obtain⟨h3,t',h4⟩:=mU m f (iL ord (AR (m.getD i .dead))) (k+1) h1
   refine⟨h3,t++t',?_⟩
   show reach m f (iL ord (AR (m.getD i .dead))) (k+1)=_
   rw[h4,h2,tl]
theorem jo : ∀n,(upTo n).length=n
 |0=>rfl
 |n+1=>by simp[upTo,jo n]
theorem xg : ∀(n k:Nat),k<n→(upTo n)[k]? = some k
 |0,_,h=>absurd h (ss _)
 |n+1,k,h=>by
  simp only[upTo,tp,jo]
  by_cases hk:k<n
  · rw[if_pos hk,xg n k hk]
  · have:k=n:=by omega
    subst this;simp
theorem OH {n i:Nat} (h:i∈upTo n):i<n:=by
 induction n with
 |zero=>simp[upTo] at h
 |succ n ih=>
  simp only[upTo,List.mem_append,List.mem_singleton] at h
  rcases h with h | rfl
  · have:=ih h;omega
  · omega
theorem kE : ∀n,(upTo n).Nodup
 |0=>by simp[upTo]
 |n+1=>tz.2 ⟨kE n,by simp,fun a ha b hb=>by simp at hb;subst hb;have:=OH ha;omega⟩
theorem fo (m:Mem) (fix:Nat) (vs:List AV):(close m fix vs).Nodup ∧ ∀k,k<fix→(close m fix vs)[k]? = some k:=by
 obtain⟨h1,t,h2⟩:=ep (iG vs) (upTo fix) (kE fix)
 obtain⟨h3,t',h4⟩:=mU m (m.length+1) (iL (upTo fix) (iG vs)) 0 h1
 refine⟨h3,fun k hk=> ?_⟩
 unfold close
 rw[h4,h2,tl,List.getElem?_append_left (by rw[jo];exact hk),xg fix k hk]
end Go.Am
end
section
namespace Go.Am
open Go.RowKit
theorem gh : ∀{l:List Nat} {n:Nat},ji l n=true → ∀i∈l,i<n
 |[],_,_,_,h=>by cases h
 |j::l,n,h,i,hi=>by
  simp only[ji,Bool.and_eq_true] at h
  cases hi with
  |head=>simpa[gg] using h.1
  |tail _ hi=>exact gh h.2 i hi
theorem uG (ρ:Nat→Option Nat) : ∀(ord:List Nat) (m1 m:Mem),ord.Nodup→(∀i∈ord,i<m.length)→ord.length≤m1.length → ∀(i:Nat) (b:bq),(dD ρ ord m1 m)[i]? = some b →
  (i<m.length∧i∉ord∧m[i]? = some b)∨(∃(k:Nat) (b1:bq),ord[k]? = some i∧m1[k]? = some b1∧b=fM ρ b1)∨(m.length≤i ∧ ∃b1:bq,m1[ord.length+(i-m.length)]? = some b1∧b=fM ρ b1)
 |[],m1,m,_,_,_,i,b,h=>by
  simp only[dD,tp] at h
  by_cases hi:i<m.length
  · rw[if_pos hi] at h;exact .inl ⟨hi,by simp,h⟩
  · rw[if_neg hi,ek,ib] at h
    obtain⟨b1,h1,h2⟩:=h
    exact .inr (.inr ⟨by omega,b1,by simpa using h1,h2.symm⟩)
 |j::ord,[],m,_,_,hl,_,_,_=>by simp at hl
 |j::ord,b0::m1,m,hnd,hlt,hl,i,b,h=>by
  simp only[dD] at h
  have Ib:=vb.1 hnd
  rcases uG ρ ord m1 (m.set j (fM ρ b0)) Ib.2 (fun i hi=>by simpa using hlt i (.tail _ hi)) (by simpa using hl) i b h with⟨h1,h2,h3⟩ | ⟨k,b1,h1,h2,h3⟩ | ⟨h1,b1,h2,h3⟩
  · rw[ed] at h1
    rcases aY h3 with⟨rfl,e⟩ | ⟨hne,e⟩
    · exact .inr (.inl ⟨0,b0,rfl,rfl,e⟩)
    · exact .inl ⟨h1,fun hm=>by cases hm with
       |head=>exact hne rfl
       |tail _ hm=>exact h2 hm,e⟩
  · exact .inr (.inl ⟨k+1,b1,h1,h2,h3⟩)
  · rw[ed] at h1 h2
    exact .inr (.inr ⟨h1,b1,by rw[show(j::ord).length+(i-m.length)=(ord.length+(i-m.length))+1 by simp;omega];exact h2,h3⟩)
theorem ez (ρ:Nat→Option Nat) : ∀(ord:List Nat) (m1 m:Mem),ord.length≤m1.length→(dD ρ ord m1 m).length=m.length+(m1.length-ord.length)
 |[],m1,m,_=>by simp[dD]
 |_::_,[],_,h=>by simp at h
 |j::ord,b::m1,m,h=>by
  simp only[dD]
  rw[ez ρ ord m1 _ (by simpa using h)]
  simp
theorem qE : ∀{ord:List Nat} {k i:Nat},ord.Nodup→ord[k]? = some i→idx ord i=some k
 |[],_,_,_,h=>by simp at h
 |j::ord,0,i,_,h=>by
  simp only[List.getElem?_cons_zero,dk] at h;subst h
  simp[idx,sm]
 |j::ord,k+1,i,hnd,h=>by
  have Ib:=vb.1 hnd
  simp only[List.getElem?_cons_succ] at h
  have hne:ba i j=false:=by
   rw[Bool.eq_false_iff];intro e
   have:=be e
   subst this
   exact Ib.1 (mv h)
  simp[idx,hne,qE Ib.2 h]
theorem E4 {ord:List Nat} {i:Nat} (h:i∉ord):idx ord i=none:=by
 cases hq:idx ord i with
 |none=>rfl
 |some k=>exact absurd (mv (JV hq)) h
def Gh.back (g g1:Gh) (ord:List Nat) (n:Nat):Gh where
 bX i:=match idx ord i with | some k=>g1.bX k | none=>if i<n then g.bX i else g1.bX (ord.length+(i-n))
 lo i:=match idx ord i with | some k=>g1.lo k | none=>if i<n then g.lo i else g1.lo (ord.length+(i-n))
 hi i:=match idx ord i with | some k=>g1.hi k | none=>if i<n then g.hi i else g1.hi (ord.length+(i-n))
 pure:=g1.pure
def bZ (g g':Gh) (n:Nat):Prop:= ∀k c,k<n→g.bX k=some c→g'.bX k=some c∧g'.lo k=g.lo k∧g'.hi k=g.hi k
theorem bZ.refl (g:Gh) (n:Nat):bZ g g n:=fun _ _ _ h=>⟨h,rfl,rfl⟩
theorem bZ.trans {g g' g'':Gh} {n:Nat} (h:bZ g g' n) (k:bZ g' g'' n):bZ g g'' n:=fun i c hi hc=>
 let⟨h1,h2,h3⟩:=h i c hi hc
 let⟨k1,k2,k3⟩:=k i c hi h1
 ⟨k1,k2.trans h2,k3.trans h3⟩
theorem bZ.rP {g g':Gh} {w w':World} (h:Ext g w g' w') (n:Nat):bZ g g' n:=fun i c _ hc=>h.bX i c hc
theorem Rel.back {g lV:Gh} {m LJ:Mem} {w w':World} (h:Rel g m w) {ord:List Nat} (hnd:ord.Nodup) (hlt : ∀i∈ord,i<m.length)
  (h1:Rel lV LJ w') (hs:dF (g.pack ord) (Am.pack m ord) w lV LJ w') (hf:bZ (g.pack ord) lV ord.length) (hl:ord.length≤LJ.length) :
  Rel (g.back lV ord m.length) (dD (bM ord m.length) ord LJ m) w'∧Ext g w (g.back lV ord m.length) w'∧dF g m w (g.back lV ord m.length) (dD (bM ord m.length) ord LJ m) w' ∧
   dG (bM ord m.length) lV (g.back lV ord m.length):=by
 obtain⟨OI,OJ⟩:=h.pack hnd
 have JX : ∀k i,ord[k]? = some i→i<m.length∧k<ord.length∧(g.back lV ord m.length).bX i=lV.bX k∧(g.back lV ord m.length).lo i=lV.lo k∧(g.back lV ord m.length).hi i=lV.hi k:=by
  intro k i hk
  have hx:=qE hnd hk
  exact⟨hlt i (mv hk),bS hk,by simp only[Gh.back,hx],by simp only[Gh.back,hx],by simp only[Gh.back,hx]⟩
 have Ic : ∀i,i∉ord→i<m.length→(g.back lV ord m.length).bX i=g.bX i∧(g.back lV ord m.length).lo i=g.lo i∧(g.back lV ord m.length).hi i=g.hi i:=by
  intro i hi hlt
  have hx:=E4 hi
  simp only[Gh.back,hx,hlt,if_true,and_self]
 have TQ : ∀i,m.length≤i→(g.back lV ord m.length).bX i=lV.bX (ord.length+(i-m.length))∧(g.back lV ord m.length).lo i=lV.lo (ord.length+(i-m.length))∧(g.back lV ord m.length).hi i=lV.hi (ord.length+(i-m.length)):=by
  intro i hi
  have hx:=E4 (ord:=ord) (i:=i) fun hm=>by have:=hlt i hm;omega
  simp only[Gh.back,hx,sR.2 hi,if_false,and_self]
 have mW:dG (bM ord m.length) lV (g.back lV ord m.length):=by
  refine⟨fun j k hj=> ?_,rfl⟩
  unfold bM at hj
  cases ho:ord[j]? with
  |some i=>
   simp only[ho,dk] at hj;subst hj
   exact(JX j i ho).2.2
  |none=>
   simp only[ho,dk] at hj;subst hj
   have:ord.length≤j:=List.getElem?_eq_none_iff.1 ho
   have e:ord.length+(m.length+(j-ord.length)-m.length)=j:=by omega
   have:=TQ (m.length+(j-ord.length)) (by omega)
   rwa [e] at this
 have YO:Ext g w (g.back lV ord m.length) w':=by
  refine⟨fun i c hc=> ?_,fun c o p=>hs.pure c o p⟩
  have hi:i<m.length:=by
   rcases Nat.lt_or_ge i m.length with q | q
   · exact q
   · rw[h.tA i q] at hc;cases hc
  by_cases hm:i∈ord
  · obtain⟨k,hk1,hk2⟩:=List.getElem_of_mem hm
    have hk:ord[k]? = some i:=by rw[List.getElem?_eq_getElem hk1,hk2]
    obtain⟨_,_,e1,e2,e3⟩:=JX k i hk
    obtain⟨f1,f2,f3⟩:=hf k c hk1 (by simpa[Gh.pack,hk] using hc)
    rw[e1,e2,e3,f1,f2,f3]
    simp[Gh.pack,hk]
  · obtain⟨e1,e2,e3⟩:=Ic i hm hi
    exact⟨e1.trans hc,e2,e3⟩
 have ot : ∀i b c,i∉ord→m[i]? = some b→b.dc=true→g.bX i=some c → ¬fH (g.pack ord) (Am.pack m ord) c:=by
  intro i b c hi hb ho hc hO
  obtain⟨k,b',hk,ho',fk⟩:=hO
  obtain⟨i',q1,rfl⟩:=kD hk
  rw[l8] at ho'
  have fk:g.bX i'=some c:=by simpa[Gh.pack,q1] using fk
  have:=h.inj i i' _ _ c hb (A5 ho') ho ho' hc fk
  subst this
  exact hi (mv q1)
 have C6 : ∀i b c,i∉ord→m[i]? = some b→b.dc=true→g.bX i=some c → ∀o,lV.pure c o→g.pure c o:=by
  intro i b c hi hb ho hc o p
  rcases hs.fresh c o p with q | q | q
  · exact q
  · exact absurd q (ot i b c hi hb ho hc)
  · exact absurd (h.lW ⟨i,b,hb,ho,hc⟩) (sR.2 q)
 have get:=uG (bM ord m.length) ord LJ m hnd hlt hl
 have YP : ∀i b c,(dD (bM ord m.length) ord LJ m)[i]? = some b→b.dc=true→(g.back lV ord m.length).bX i=some c →
   (i∉ord∧m[i]? = some b∧g.bX i=some c)∨(∃k b1,bM ord m.length k=some i∧LJ[k]? = some b1∧b1.dc=true∧lV.bX k=some c):=by
  intro i b c hi ho hc
  rcases get i b hi with⟨q1,q2,q3⟩ | ⟨k,b1,q1,q2,rfl⟩ | ⟨q1,b1,q2,rfl⟩
  · exact .inl ⟨q2,q3,by rw[(Ic i q2 q1).1] at hc;exact hc⟩
  · rw[l8] at ho
    exact .inr ⟨k,b1,by simp[bM,q1],q2,ho,by rw[(JX k i q1).2.2.1] at hc;exact hc⟩
  · rw[l8] at ho
    rw[(TQ i q1).1] at hc
    have hn:ord[ord.length+(i-m.length)]? = none:=eb (by omega)
    refine .inr ⟨_,b1,?_,q2,ho,hc⟩
    simp only[bM,hn,dk];omega
 refine⟨⟨fun i hi=> ?_,fun i hi=> ?_,fun i b l hi hb=> ?_,fun i c hi hc=> ?_,fun i j b b' c hi hj ho ho' hc fk=> ?_,h1.there,fun i ob l hi=> ?_⟩,YO,⟨hs.size,fun c hc hn=>hs.keep c hc fun ho=>hn (OJ c ho),hs.pure,fun c o p=> ?_,fun c ho=> ?_,hs.os,hs.tape,hs.output⟩,mW⟩
 · rw[ez _ _ _ _ hl] at hi
   rw[(TQ i (by omega)).1]
   exact h1.tA _ (by omega)
 · rcases get i _ hi with⟨q1,q0,q3⟩ | ⟨k,b1,q1,q2,q3⟩ | ⟨q1,b1,q2,q3⟩
   · rw[(Ic i q0 q1).1];exact h.free i q3
   · have q3:=tJ q3.symm
     subst q3
     rw[(JX k i q1).2.2.1];exact h1.free k q2
   · have q3:=tJ q3.symm
     subst q3
     rw[(TQ i q1).1];exact h1.free _ q2
 · have back : ∀k b1,bM ord m.length k=some i→LJ[k]? = some b1→b=fM (bM ord m.length) b1 →
    ∃c cs e n,(g.back lV ord m.length).bX i=some c∧w'.heap[c]? = some (.cells cs e n)∧n.2≤n.1∧HF (g.back lV ord m.length) w' l cs.toList ∧ ∀o,¬(g.back lV ord m.length).pure c o:=by
    rintro k b1 hk OF rfl
    obtain⟨l0,q,rfl⟩:=xe hb
    obtain⟨c,cs,e,n,k1,k2,k3,k4,k5⟩:=h1.cells k b1 l0 OF q
    exact⟨c,cs,e,n,(mW.at' k i hk).1.trans k1,k2,k3,⟨k4.1.iH mW,k4.2⟩,k5⟩
   rcases get i _ hi with⟨q1,q2,q3⟩ | ⟨k,b1,q1,q2,q3⟩ | ⟨q1,b1,q2,q3⟩
   · obtain⟨c,cs,e,n,k1,k2,k3,k4,k5⟩:=h.cells i b l q3 hb
     have ho:=dn hb
     exact⟨c,cs,e,n,(Ic i q2 q1).1.trans k1,(hs.keep c (cj k2) (ot i b c q2 q3 ho k1)).trans k2,k3,k4.mono YO,fun o p=>k5 o (C6 i b c q2 q3 ho k1 o p)⟩
   · exact back k b1 (by simp[bM,q1]) q2 q3
   · have hn:ord[ord.length+(i-m.length)]? = none:=eb (by omega)
     exact back _ b1 (by simp only[bM,hn,dk];omega) q2 q3
 · have back : ∀k b1,bM ord m.length k=some i→LJ[k]? = some b1→bq.tok=fM (bM ord m.length) b1 →
    ∃cs e n,w'.heap[c]? = some (.cells cs e n)∧(g.back lV ord m.length).hi i≤cs.size∧(n.2≤n.1∨(g.back lV ord m.length).hi i≤n.1) ∧ ∀o,(g.back lV ord m.length).lo i≤o→o<(g.back lV ord m.length).hi i → ¬(g.back lV ord m.length).pure c o:=by
    intro k b1 hk OF hq
    have hq:=E3 hq.symm
    subst hq
    obtain⟨e1,e2,e3⟩:=mW.at' k i hk
    rw[e2,e3]
    rw[e1] at hc
    exact h1.tok k c OF hc
   rcases get i _ hi with⟨q1,q2,q3⟩ | ⟨k,b1,q1,q2,q3⟩ | ⟨q1,b1,q2,q3⟩
   · obtain⟨e0,e2,e1⟩:=Ic i q2 q1
     have hc:g.bX i=some c:=e0.symm.trans hc
     obtain⟨cs,e,n,k2,k3,k4,k5⟩:=h.tok i c q3 hc
     rw[e1,e2]
     exact⟨cs,e,n,(hs.keep c (cj k2) (ot i _ c q2 q3 rfl hc)).trans k2,k3,k4,fun o a b p=>k5 o a b (C6 i _ c q2 q3 rfl hc o p)⟩
   · exact back k b1 (by simp[bM,q1]) q2 q3
   · have hn:ord[ord.length+(i-m.length)]? = none:=eb (by omega)
     exact back _ b1 (by simp only[bM,hn,dk];omega) q2 q3
 · have apart : ∀i b,i∉ord→m[i]? = some b→b.dc=true→g.bX i=some c → ∀k b1,LJ[k]? = some b1→b1.dc=true→lV.bX k=some c→False:=by
    intro i b q2 q3 ho hc k b1 hk ho1 gu
    rcases hs.owned c ⟨k,b1,hk,ho1,gu⟩ with q | q
    · exact ot i b c q2 q3 ho hc q
    · exact absurd (h.lW ⟨i,b,q3,ho,hc⟩) (sR.2 q)
   rcases YP i b c hi ho hc with⟨p1,p2,p3⟩ | ⟨k,b1,p1,p2,p3,p4⟩<;>rcases YP j b' c hj ho' fk with⟨q1,q2,q3⟩ | ⟨k',b1',q1,q2,q3,q4⟩
   · exact h.inj i j b b' c p2 q2 ho ho' p3 q3
   · exact(apart i b p1 p2 ho p3 k' b1' q2 q3 q4).elim
   · exact(apart j b' q1 q2 ho' q3 k b1 p2 p3 p4).elim
   · have:=h1.inj k k' b1 b1' c p2 q2 p3 q3 p4 q4
     subst this
     rw[p1] at q1;exact dp q1
 · have back : ∀k b1,bM ord m.length k=some i→LJ[k]? = some b1→bq.ob ob l=fM (bM ord m.length) b1 →
    ∃c o vs,(g.back lV ord m.length).bX i=some c∧w'.heap[c]? = some o∧dj (g.back lV ord m.length) w' l vs∧ob.is o vs∧(∀o',¬(g.back lV ord m.length).pure c o')∧ob.room o ((g.back lV ord m.length).hi i):=by
    intro k b1 hk OF hq
    obtain⟨l0,rfl,hl0⟩:=JU hq.symm
    obtain⟨c,o,vs,k1,k2,k3,k4,k5,k6⟩:=h1.obs k ob l0 OF
    exact⟨c,o,vs,(mW.at' k i hk).1.trans k1,k2,k3.X7 mW hl0,k4,k5,by rw[(mW.at' k i hk).2.2];exact k6⟩
   rcases get i _ hi with⟨q1,q2,q3⟩ | ⟨k,b1,q1,q2,q3⟩ | ⟨q1,b1,q2,q3⟩
   · obtain⟨c,o,vs,k1,k2,k3,k4,k5,k6⟩:=h.obs i ob l q3
     exact⟨c,o,vs,(Ic i q2 q1).1.trans k1,(hs.keep c (cj k2) (ot i _ c q2 q3 rfl k1)).trans k2,k3.mono YO,k4,fun o' p=>k5 o' (C6 i _ c q2 q3 rfl k1 o' p),by rw[(Ic i q2 q1).2.2];exact k6⟩
   · exact back k b1 (by simp[bM,q1]) q2 q3
   · have hn:ord[ord.length+(i-m.length)]? = none:=eb (by omega)
     exact back _ b1 (by simp only[bM,hn,dk];omega) q2 q3
 · rcases hs.fresh c o p with q | q | q
   · exact .inl q
   · exact .inr (.inl (OJ c q))
   · exact .inr (.inr q)
 · obtain⟨i,b,hi,hb,hc⟩:=ho
   rcases YP i b c hi hb hc with⟨_,p2,p3⟩ | ⟨k,b1,p1,p2,p3,p4⟩
   · exact .inl ⟨i,b,p2,hb,p3⟩
   · rcases hs.owned c ⟨k,b1,p2,p3,p4⟩ with q | q
     · exact .inl (OJ c q)
     · exact .inr q
end Go.Am
end
section
namespace Go.Am
open Go.RowKit
def er:It→List Item
 |.code _ c=>[.code c]
 |.ops _ ops k _=>[.inRegion ops (ui k (ops.size-k))]
 |.inBlock id=>[.inBlock id]
 |.inLoop _ b=>[.inLoop b]
 |.inScope b=>[.inScope b]
 |.forget _=>[]
 |.fin=>[]
 |.begin=>[.beginRound]
 |.Aa _=>[]
 |.ir _=>[]
 |.leave=>[]
def It.pl:It→Prop
 |.fin | .Aa _ | .ir _ | .leave=>False
 |_=>True
def eu:List It→List Item
 |[]=>[]
 |x::k=>er x++eu k
def gw (E:Env) (g:Gh) (w:World):Prop:= ∀i cs,E.ec i=some cs→VP g w (.pp 0 cs) (.pointer (some ⟨i,0,none⟩))
theorem gw.mono {E:Env} {g g':Gh} {w w':World} (h:gw E g w) (e : ∀c o,g.pure c o→g'.pure c o∧w'.cell? ⟨c,o,none⟩=w.cell? ⟨c,o,none⟩):gw E g' w':=fun i cs hi=>(h i cs hi).mono e
structure cU (E:Env) (g:Gh) (st:St) (a:Act) (w:World):Prop where
 tm : ∀k,VA g w (look st.tm k) (a.tmps.getD k undef)
 nt:a.tmps.size=st.nt
 rel:Rel g st.mem w
 fix:st.fix≤st.mem.length
 ec:gw E g w
def eT (g:Gh) (r:X3) (b:Frame):Prop:=match r with
 |.call=>b.kind = .normal∧b.roundOf=none
 |.round i=>b.kind = .normal ∧ ∃l,g.bX i=some l∧b.roundOf=some l
 |.late=>b.kind = .deferred∧b.roundOf=none
theorem eT.ext {g g':Gh} (e : ∀i c,g.bX i=some c→g'.bX i=some c) {r:X3} {b:Frame} (h:eT g r b):eT g' r b:=by
 cases r with
 |call=>exact h
 |late=>exact h
 |round i=>
  obtain⟨h1,l,q1,q2⟩:=h
  exact⟨h1,l,e i l q1,q2⟩
theorem eT.C7 {g:Gh} {r:X3} {b:Frame} (h:eT g r b) (hn : ∀i,r ≠ .round i):b.roundOf=none:=by
 cases r with
 |call=>exact h.2
 |late=>exact h.2
 |round i=>exact absurd rfl (hn i)
def Mps (g:Gh) (l:List (Nat×Nat)) (cs:List Value):Prop:=bP (fun q v=> ∃c,g.bX q.1=some c∧v = .pointer (some ⟨c,q.2,none⟩)) l cs
def Mark.Ok (g:Gh):Mark→Deferred→Prop
 |.range b,d=> ∃D,g.bX b=some D∧d={target:= .collected D,args:= #[]}
 |.late f l m,d=> ∃fa ca:Array Value,Mps g l fa.toList∧Mps g m ca.toList∧d={target:= .fn (.func f) ca,args:=fa}
theorem Mark.Ok.ext {g g':Gh} (e : ∀i c,g.bX i=some c→g'.bX i=some c) {mk:Mark} {d:Deferred} (h:mk.Ok g d):mk.Ok g' d:=by
 cases mk with
 |range b=>
  obtain⟨D,q1,q2⟩:=h
  exact⟨D,e _ D q1,q2⟩
 |late f l m=>
  obtain⟨fa,ca,q1,q2,q3⟩:=h
  exact⟨fa,ca,bP.mono (fun _ _ ⟨c,k1,k2⟩=>⟨c,e _ c k1,k2⟩) q1,bP.mono (fun _ _ ⟨c,k1,k2⟩=>⟨c,e _ c k1,k2⟩) q2,q3⟩
def Mk (g:Gh) (mk:List Mark) (ds:List Deferred):Prop:=bP (fun b d=>b.Ok g d) mk ds
theorem Mk.ext {g g':Gh} (e : ∀i c,g.bX i=some c→g'.bX i=some c) {mk:List Mark} {ds:List Deferred} (h:Mk g mk ds):Mk g' mk ds:=
 bP.mono (fun _ _ q=>q.ext e) h
def OK (P:Program) (r:X3) (fr:Frame) (w:World) (cv:Value) (w2:World):Prop:=match r with
 |.call=>fr.leaving P w (.returned cv)∧w2=w
 |.late=>(fr.going P w (.returned cv)∧fr.kind = .deferred)∧w2=w
 |.round _=> ∀(c:Frame) (cs:List Frame),Steps P (lone fr (c::cs) w) (lone (c.finish cv) cs w2)
def dw:Option Value→Bool→FrameMode
 |none,_=> .returning
 |some v,b=> .panicking [{v:=v,recovered:=b}]
def dI (P:Program) (E:Env) (g:Gh) (c:cm) (fr:Frame) (w:World):Prop:=
 match c.todo with
 |.fin::_=>fr.fn=c.f ∧ ∃cv w2,OK P c.st.cL fr w cv w2∧VA g w2 (look c.st.tm 0) cv∧Rel g c.st.mem w2∧dF g c.st.mem w g c.st.mem w2∧c.st.fix≤c.st.mem.length
 |.Aa u::_=>fr.fn=c.f ∧ ∃cv,fr.leaving P w (.panicked [{v:=cv,recovered:=false}])∧VA g w u cv∧Rel g c.st.mem w∧c.st.fix≤c.st.mem.length
 |.ir u::_=> ∃(b:Frame) (a:Act) (todo:List Item) (cv:Value),fr={b.atR a todo with mode:=dw (some cv) false}∧b.fn=c.f∧eT g c.st.cL b∧Mk g c.st.cT a.defers∧cU E g c.st a w∧VA g w u cv
 |.leave::_=> ∃(b:Frame) (a:Act) (todo:List Item),fr={b.atR a todo with mode:= .returning}∧b.fn=c.f∧eT g c.st.cL b∧(∀i,c.st.cL ≠ .round i)∧c.st.cT=[]∧a.defers=[]∧cU E g c.st a w
 |_=> ∃(b:Frame) (a:Act),fr=b.atR a (eu c.todo)∧b.fn=c.f∧eT g c.st.cL b∧Mk g c.st.cT a.defers∧cU E g c.st a w ∧ ∀x∈c.todo,It.pl x
def eZ (P:Program) (E:Env) (g:Gh) (c:cm) (fr:Frame) (w:World) (c':cm):Prop:=
 ∀cs,∃g' fr' w',Steps P (lone fr cs w) (lone fr' cs w')∧dI P E g' c' fr' w'∧dF g c.st.mem w g' c'.st.mem w'∧bZ g g' c.st.fix∧c'.f=c.f∧c'.st.fix=c.st.fix∧c'.st.cL=c.st.cL
def az (P:Program) (E:Env) (f:FuncId) (args:List AV) (m:Mem) (v:AV) (m':Mem):Prop:=
 (∃fn,P.funcs[f]? = some fn∧fn.body.isSome=true∧(fn.name == "runtime.NumGoroutine")=false) ∧
 ∀(g:Gh) (w:World) (cS:Array Value) (cs:List Frame),Rel g m w→dj g w args cS.toList→gw E g w →
  ∃w' g' cv fr,Steps P (lone (vj P f cS .normal) cs w) (lone fr cs w')∧fr.leaving P w' (.returned cv)∧fr.fn=f ∧
   VA g' w' v cv∧Rel g' m' w'∧dF g m w g' m' w'∧bZ g g' m.length∧m.length≤m'.length
def OL (P:Program) (E:Env) (f:FuncId) (args:List AV) (m:Mem) (v:AV) (m':Mem):Prop:=
 (∃fn,P.funcs[f]? = some fn∧fn.body.isSome=true∧(fn.name == "runtime.NumGoroutine")=false) ∧
 ∀(g:Gh) (w:World) (cS:Array Value) (cs:List Frame),Rel g m w→dj g w args cS.toList→gw E g w →
  ∃w' g' cv fr,Steps P (lone (vj P f cS .normal) cs w) (lone fr cs w')∧fr.leaving P w' (.panicked [{v:=cv,recovered:=false}])∧fr.fn=f ∧
   VA g' w' v cv∧Rel g' m' w'∧dF g m w g' m' w'∧bZ g g' m.length∧m.length≤m'.length
def OM (g:Gh) (w:World):Option AV→Option Value→Prop
 |none,none=>True
 |some u,some v=>VA g w u v
 |_,_=>False
def ON (P:Program) (E:Env) (f:FuncId) (args:List AV) (m:Mem) (pv:Option AV) (m':Mem):Prop:=
 (∃fn,P.funcs[f]? = some fn∧fn.body.isSome=true∧(fn.name == "runtime.NumGoroutine")=false) ∧
 ∀(g:Gh) (w:World) (cS:Array Value) (rQ:Option Value) (c0:Frame) (cs:List Frame),c0.mode=dw rQ false→OM g w pv rQ→Rel g m w→dj g w args cS.toList→gw E g w →
  ∃w' g' cv fr,Steps P (lone (vj P f cS .deferred) (c0::cs) w) (lone fr ({c0 with mode:=dw rQ true}::cs) w')∧fr.going P w' (.returned cv)∧fr.kind = .deferred ∧
   Rel g' m' w'∧dF g m w g' m' w'∧bZ g g' m.length∧m.length≤m'.length
def JY (P:Program) (E:Env) (args:List AV) (m:Mem) (v:AV) (m':Mem):Prop:=
 ∀(g:Gh) (w:World) (i l:Nat) (xs:List AV) (TR:Array Value) (c:Frame) (cs:List Frame),args = .vy i::xs→Rel g m w→g.bX i=some l→dj g w xs TR.toList→gw E g w →
  ∃f tmps as bd w' g' cv,(Instr.yield l TR).run P w = .ok (.round l f tmps as bd) w∧Steps P (lone (Frame.round l f tmps as bd .normal) (c::cs) w) (lone (c.finish cv) cs w') ∧
   VA g' w' v cv∧Rel g' m' w'∧dF g m w g' m' w'∧bZ g g' m.length∧m.length≤m'.length
section
variable {P:Program} {E:Env} {g:Gh} {w:World}
theorem gD {st:St} {a:Act} (h:cU E g st a w) (x:Operand):VA g w (ev E st.tm x) (a.eval x):=by
 cases x with
 |tmp t=>exact h.tm t
 |const v=>exact VA.X0 v
 |global i=>
  simp only[ev,Act.eval]
  cases hg:E.ec i with
  |none=>exact .p _ _ (.sc _)
  |some cs=>exact .p _ _ (h.ec i cs hg)
 |func f=>exact VA.fns.2 ⟨#[],#[],rfl,trivial,trivial⟩
theorem j4 (tm:pZ) (d k:Nat) (v:AV):look ((d,v)::tm) k=if d=k then v else look tm k:=by
 simp only[look]
 by_cases h:d=k
 · subst h;simp[sm]
 · have:ba d k=false:=by rw[Bool.eq_false_iff];intro e;exact h (be e)
   simp[this,h]
theorem cU.put {st:St} {a:Act} {g':Gh} {w':World} {m':Mem} (h:cU E g st a w) {dst:Option Tmp} {v:AV} {cv:Value} (hf:fits st dst=true) (hv:VA g' w' v cv) (he:Ext g w g' w') (hr:Rel g' m' w') (hx:st.fix≤m'.length) :
  cU E g' (Am.put {st with mem:=m'} dst v) (a.put dst cv) w':=by
 cases dst with
 |none=>exact⟨fun k=>(h.tm k).mono he,h.nt,hr,hx,h.ec.mono he.pure⟩
 |some d=>
  have hd:d<a.tmps.size:=by rw[h.nt];simpa[fits,gg] using hf
  refine⟨fun k=> ?_,by simp[Act.put,Am.put,h.nt],hr,hx,h.ec.mono he.pure⟩
  simp only[Am.put,j4,Act.put]
  by_cases hk:d=k
  · subst hk
    simp only[if_true,vd,Array.getElem?_setIfInBounds_self_of_lt hd,Option.getD_some]
    exact hv
  · simp only[hk,if_false,vd]
    rw[Array.getElem?_setIfInBounds_ne hk,←vd]
    exact(h.tm k).mono he
theorem cU.known {st:St} {a:Act} (h:cU E g st a w) {d:Nat} {v:AV} (hv:VA g w v (a.tmps.getD d undef)):cU E g (Am.put st (some d) v) a w:=by
 refine⟨fun k=> ?_,h.nt,h.rel,h.fix,h.ec⟩
 simp only[Am.put,j4]
 by_cases hk:d=k
 · subst hk;simp only[if_true];exact hv
 · simp only[hk,if_false];exact h.tm k
theorem ou {k n:Nat} (h:k<n):ui k (n-k)=k::ui (k+1) (n-(k+1)):=by
 rw[show n-k=(n-(k+1))+1 by omega,List.range'_succ]
theorem semAt_eq {o:Oper} {ro:Option Nat} {ρ:Operand→Value} {n:Next} {w':World} (hr:(execOp ρ o).run P w = .ok n w') (hn : ∀d,n ≠ .defer d):o.semAt ro ρ=execOp ρ o:=by
 unfold Oper.semAt
 cases ro with
 |none=>rfl
 |some l=>
  cases ho:o.op<;>first
   |rfl
   |(exfalso
     simp only[execOp,ho,jb] at hr
     revert hr
     cases(resolve ρ _ o.type).run P w<;>intro hr<;>simp[pf] at hr
     exact hn _ hr.1.symm)
theorem rR {b:Frame} {a:Act} {k:List Item} {cs:List Frame} {w':World} {ops:Array Oper} {i:Nat} {rest:List Nat} {o:Oper} {v:Value} (ho:ops[i]? = some o) (hw:vt o (yielded ops a.tmps)=true)
  (hr:(execOp a.eval o).run P w = .ok (.value v) w'∨((execOp a.eval o).run P w = .ok .skip w'∧v=undef)) :
  _root_.Go.step P (lone (b.atR a (.inRegion ops (i::rest)::k)) cs w) = .next (lone (b.atR (a.put o.dst v) (.inRegion ops rest::k)) cs w'):=by
 have hg:=stepGR_op (P:=P) (b:=b) (k:=k) (cs:=cs) (w:=w) (rest:=rest) ho hw
 have ow:(b.atR a (.inRegion ops (i::rest)::k)).finish v=b.atR (a.put o.dst v) (.inRegion ops rest::k):=by rw[Frame.finish_atR,ho];rfl
 refine step_lone_go ?_
 rw[hg,←ow]
 rcases hr with hr | ⟨hr,rfl⟩
 · rw[semAt_eq hr fun _ e=>by cases e];simp[stepG.apply,hr]
 · rw[semAt_eq hr fun _ e=>by cases e];simp[stepG.apply,hr]
theorem qF {b:Frame} {a:Act} {k:List Item} {cs:List Frame} {w':World} {ops:Array Oper} {i:Nat} {rest:List Nat} {o:Oper} {f:FuncId} {args:Array Value} (ho:ops[i]? = some o) (hw:vt o (yielded ops a.tmps)=true)
  (hr:(execOp a.eval o).run P w = .ok (.enter f args) w') :
  _root_.Go.step P (lone (b.atR a (.inRegion ops (i::rest)::k)) cs w) = .next (lone (vj P f args .normal) (b.atR a (.inRegion ops (i::rest)::k)::cs) w'):=by
 have hg:=stepGR_op (P:=P) (b:=b) (k:=k) (cs:=cs) (w:=w) (rest:=rest) ho hw
 exact step_lone_go (by rw[hg,semAt_eq hr fun _ e=>by cases e];simp[stepG.apply,hr,Frame.atR])
theorem pE {st:St} {a:Act} (h:cU E g st a w) {ops:Array Oper} {o:Oper} :
  (eG ops st.tm o = .yes→vt o (yielded ops a.tmps)=true)∧(eG ops st.tm o = .no→vt o (yielded ops a.tmps)=false) ∧
  (∀d b want,eG ops st.tm o = .ask d b want→vt o (yielded ops a.tmps)=(b==want)∧a.tmps.getD d undef = .bool b):=by
 unfold eG vt
 cases hg:o.guard with
 |none=>simp
 |some q=>
  obtain⟨j,want⟩:=q
  simp only[yielded]
  cases hj:ops[j]? with
  |none=>simp
  |some oj=>
   simp only[sg]
   cases hd:oj.dst with
   |none=>simp
   |some d=>
    simp only[sg]
    have hv:=h.tm d
    have l7:a.tmps.getD d undef=(a.tmps[d]?).getD undef:=by rw[vd]
    generalize hz:a.tmps.getD d undef=z at hv l7
    generalize hl:look st.tm d=x at hv
    cases hv with
    |p pv cv hp=>
     cases hp with
     |sc=>
      cases z with
      |bool b=>
       have:a.tmps[d]? = some (.bool b):=by
        cases ha:a.tmps[d]? with
        |none=>rw[ha] at l7;cases l7
        |some u=>rw[ha] at l7;simp at l7;rw[l7]
       refine⟨fun h=>(by cases h),fun h=>(by cases h),?_⟩
       rintro d' b' w' e
       cases e
       refine⟨?_,hz⟩
       simp only[this]
       cases b<;>cases want<;>rfl
      |_=>exact⟨fun h=>(by cases h),fun h=>(by cases h),fun _ _ _ h=>(by cases h)⟩
     |_=>exact⟨fun h=>(by cases h),fun h=>(by cases h),fun _ _ _ h=>(by cases h)⟩
    |aK l cs hl' hh=>
     refine⟨fun h=>(by cases h),fun _=> ?_,fun _ _ _ h=>(by cases h)⟩
     cases ha:a.tmps[d]? with
     |none=>simp
     |some u=>
      rw[ha] at l7;simp at l7
      subst l7
      simp
    |_=>exact⟨fun h=>(by cases h),fun h=>(by cases h),fun _ _ _ h=>(by cases h)⟩
end
end Go.Am
end
