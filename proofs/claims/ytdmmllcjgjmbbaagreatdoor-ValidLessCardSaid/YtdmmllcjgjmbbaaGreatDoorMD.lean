import Derived.Test.YtdmmllcjgjmbbaaGreatDoorMC
import Derived.WideMake
import Derived.AtR
import Derived.Recover
open Option renaming map_eq_some_iff→hC,bind_some→vd
open Prod.mk renaming injEq→iu
open Option.some renaming injEq→c9,inj→da
open Go.Sem renaming run_bind→iv,run_pure→ja,run→vj
open Go.Result renaming andThen_ok→jb,andThen→pk
open Nat renaming eq_of_beq_eq_true→ai,blt_eq→ft,lt_of_succ_lt_succ→aw,beq_refl→vt,not_lt_zero→vz,not_lt→wb,beq→ae
open List renaming map_toArray→wc,map_cons→oT,map_nil→wi,getElem?_eq_none→dt,toArray→wx,mem_of_getElem?→mb,getElem?_eq_some_iff→dp,pairwise_iff_getElem→wy,append_assoc→xa,getElem?_append→xb,getElem?_map→dT,nodup_append→xc,foldlM_cons→xf,range'→xi,foldlM_nil→xn,nodup_cons→xo,length_set→du
open Array renaming getD_eq_getD_getElem?→xr,toList_map→gn
open Go.Frame renaming enter→xv
open Go.Region renaming wanted→yb
section
namespace Go.Am
open Go.RowKit
section ops
variable {P:Program} {g:Gh} {m:Mem} {w:World}
theorem nS {ρ:Operand→AV} {cg:Operand→Value} (hr : ∀x,VA g w (ρ x) (cg x)) : ∀(l:List (Nat×Operand)),
  bu (fun a b=>a.1=b.1∧VA g w a.2 b.2) (l.map fun q=>(q.1,ρ q.2)) (l.map fun(i,x)=>(i,cg x))
 |[]=>trivial
 |(_,x)::l=>⟨⟨rfl,hr x⟩,nS hr l⟩
theorem gL {ρ:Operand→AV} {cg:Operand→Value} (hr : ∀x,VA g w (ρ x) (cg x)) : ∀(l:List Operand),cL g w (l.map ρ) (l.map cg)
 |[]=>trivial
 |x::l=>⟨hr x,gL hr l⟩
theorem b8.of {h:Rel g m w} {s:Sem Value} {r:Result Next} {a:AV} (hr:r=(s.run P w).andThen fun v w'=> .ok (.value v) w') (hs : ∃v,s.run P w = .ok v w∧VA g w a v):b8 g m w r a m:=by
 obtain⟨v,h1,h2⟩:=hs
 exact b8.quiet h (by rw[hr,h1];rfl) h2
theorem gu {r:Option AV} {a:AV} {us:nv} {ok:Bool} (h:jv r=some (a,us,ok)):r=some a∧us=[]:=by
 simp only[jv,hC,iu] at h
 obtain⟨v,h1,rfl,rfl,_⟩:=h
 exact⟨h1,rfl⟩
theorem iX {r:Option (AV×Bool)} {a:AV} {us:nv} {ok:Bool} (h:hH r=some (a,us,ok)):r=some (a,ok)∧us=[]:=by
 simp only[hH,hC,iu] at h
 obtain⟨⟨v,b⟩,h1,rfl,rfl,rfl⟩:=h
 exact⟨h1,rfl⟩
theorem zF (h:Rel g m w) {cg:Operand→Value} {o:Oper} {aZ:Nat} (hn:m[aZ]? = some .free) {t:TypeId} {x:Operand} {ax a:AV} {us:nv} (hx:VA g w ax (cg x)) (ho:o.op = .range t x)
  (he:BH P aZ t ax=some (a,us,true)):b8 g m w ((execOp cg o).run P w) a (apply m us):=by
 unfold BH at he
 split at he
 · rename_i s hd
   simp only[c9,iu,and_true] at he
   obtain⟨rfl,rfl⟩:=he
   rw[VA.pv] at hx
   generalize hz:cg x=z at hx
   cases hx
   obtain⟨h1,h2,h3⟩:=h.vG (ob:= .iter s 0) (l:=[]) (vs:=[]) hn trivial (eI w (.stringIter s 0)) ⟨rfl,rfl⟩
   refine⟨.pointer (some ⟨w.heap.size,0,none⟩),_,_,.inl ?_,.mp aZ 0 _ (by simp[Gh.put]),h1,h2,h3⟩
   simp[execOp,ho,hz,Instr.range,iv,run_underlying hd,pk]
 · cases he
theorem B5 (h:Rel g m w) {cg:Operand→Value} {o:Oper} {x:Operand} {s:Bool} {ax a:AV} {us:nv} (hx:VA g w ax (cg x)) (ho:o.op = .next x s)
  (he:Fk (fun i=>m.getD i .dead) ax s=some (a,us,true)):b8 g m w ((execOp cg o).run P w) a (apply m us):=by
 cases s with
 |false=>cases he
 |true=>
  simp only[Fk] at he
  split at he
  · rename_i b
    split at he
    · rename_i str pos l hb
      have hib:=getD_some hb (by simp)
      obtain⟨c,ob,vs,k1,k2,k3,k4,_⟩:=h.obs b _ _ hib
      obtain⟨rfl,rfl⟩:=k4
      generalize hz:cg x=z at hx
      cases hx with
      |mp _ _ c' hc=>
       rw[k1] at hc;cases hc
       have lK:(getObj c).run P w = .ok (.stringIter str pos) w:=by simp[getObj,vj,k2]
       split at he
       · rename_i hlt
         rw[ft] at hlt
         generalize Ud:Utf8.decode str pos=q at he
         obtain⟨cc,width⟩:=q
         simp only[c9,iu,and_true] at he
         obtain⟨rfl,rfl⟩:=he
         obtain⟨e1,e2,e3⟩:=cS w (o':= .stringIter str (pos+width)) k2
         obtain⟨r1,r2,r3⟩:=h.fP (Df:= .iter str (pos+width)) (l':=[]) (vs':=[]) hib k1 e1 e2 rfl rfl rfl e3 ⟨rfl,rfl⟩ trivial
         have zu:(setObj c (.stringIter str (pos+width))).run P w = .ok () {w with heap:=w.heap.setIfInBounds c (.stringIter str (pos+width))}:=by simp[setObj,vj,k2]
         refine⟨.tuple #[.bool true,goInt pos,.int .i32 cc],_,g,.inl ?_,VA.lF.2 ⟨.p _ _ (.sc _),.p _ _ (.sc _),.p _ _ (.sc _),trivial⟩,r1,r2,r3⟩
         simp only[execOp,ho,hz,Instr.next,iv,lK,jb,hlt,if_true,Ud,zu,ja]
       · rename_i hlt
         have hlt' : ¬pos<str.size:=fun q=>by rw[←ft] at q;rw[q] at hlt;cases hlt
         simp only[c9,iu,and_true] at he
         obtain⟨rfl,rfl⟩:=he
         refine b8.quiet h (v:= .tuple #[.bool false]) ?_ (VA.lF.2 ⟨.p _ _ (.sc _),trivial⟩)
         simp only[execOp,ho,hz,Instr.next,iv,lK,jb,hlt',if_false,ja]
    · rename_i str pos more l hb
      have hib:=getD_some hb (by simp)
      obtain⟨c,ob,vs,k1,k2,k3,k4,_⟩:=h.obs b _ _ hib
      obtain⟨rfl,rfl,k5⟩:=k4
      generalize hz:cg x=z at hx
      cases hx with
      |mp _ _ c' hc=>
       rw[k1] at hc;cases hc
       have lK:(getObj c).run P w = .ok (.stringIter str pos) w:=by simp[getObj,vj,k2]
       split at he
       · have hlt:pos<str.size:=by rw[ft] at k5;exact k5
         generalize Ud:Utf8.decode str pos=q at he
         obtain⟨cc,width⟩:=q
         simp only[c9,iu,and_true] at he
         obtain⟨rfl,rfl⟩:=he
         obtain⟨e1,e2,e3⟩:=cS w (o':= .stringIter str (pos+width)) k2
         obtain⟨r1,r2,r3⟩:=h.fP (Df:= .iter str (pos+width)) (l':=[]) (vs':=[]) hib k1 e1 e2 rfl rfl rfl e3 ⟨rfl,rfl⟩ trivial
         have zu:(setObj c (.stringIter str (pos+width))).run P w = .ok () {w with heap:=w.heap.setIfInBounds c (.stringIter str (pos+width))}:=by simp[setObj,vj,k2]
         refine⟨.tuple #[.bool true,goInt pos,.int .i32 cc],_,g,.inl ?_,VA.lF.2 ⟨.p _ _ (.sc _),.p _ _ (.sc _),.p _ _ (.sc _),trivial⟩,r1,r2,r3⟩
         simp only[execOp,ho,hz,Instr.next,iv,lK,jb,hlt,if_true,Ud,zu,ja]
       · have hlt' : ¬pos<str.size:=fun q=>by rw[←ft,k5] at q;cases q
         simp only[c9,iu,and_true] at he
         obtain⟨rfl,rfl⟩:=he
         refine b8.quiet h (v:= .tuple #[.bool false]) ?_ (VA.lF.2 ⟨.p _ _ (.sc _),trivial⟩)
         simp only[execOp,ho,hz,Instr.next,iv,lK,jb,hlt',if_false,ja]
    · cases he
  · cases he
theorem zG {ρ:Operand→AV} {cg:Operand→Value} (hr : ∀x,VA g w (ρ x) (cg x)) {o:Oper} {op:BinOp} {t yt:TypeId} {x y:Operand} {l c:Nat} (hy:cg y = .slice none l c) (ho:o.op = .binOp op t x y yt) {a:AV} {us:nv} {ok:Bool} (he:vA P op t (ρ x)=some (a,us,ok)) :
  us=[] ∧ ∃v,(execOp cg o).run P w = .ok (.value v) w∧VA g w a v:=by
 unfold vA at he
 split at he
 · rename_i e hd
   have key : ∀{b:Bool},Hf (ρ x)=some b→(∀op':BinOp,(eqGuard op' t x y (cg x) (cg y)).run P w = .ok () w)∧(Op.equal t (cg x) (cg y)).run P w = .ok b w ∧ ∀op',op' = .eql∨op' = .neq→binOp op' t (cg x) (cg y)=(do let r ←Op.equal t (cg x) (cg y);pure (.bool (if op' = .eql then r else !r)):Sem Value):=by
    intro b hb
    obtain⟨ad,len,cap,hx,hn⟩:=Dy (hr x) hb
    rw[hx,hy]
    refine⟨fun op'=>by unfold eqGuard;cases op'<;>rfl,?_,fun op' hop=>by rcases hop with rfl | rfl<;>rfl⟩
    show(Op.equalIn (9999+1) t _ _).run P w = .ok b w
    rw[Op.equalIn];simp only[iv,run_underlying hd,jb]
    subst hn
    cases ad<;>rfl
   split at he
   · rename_i b hb
     obtain⟨k1,k2,k3⟩:=key hb
     simp only[c9,iu] at he
     obtain⟨rfl,rfl,_⟩:=he
     refine⟨rfl,.bool b,?_,.p _ _ (.sc _)⟩
     simp only[execOp,ho,iv,k1,jb,k3 _ (.inl rfl),k2,ja]
     rfl
   · rename_i b hb
     obtain⟨k1,k2,k3⟩:=key hb
     simp only[c9,iu] at he
     obtain⟨rfl,rfl,_⟩:=he
     refine⟨rfl,.bool (!b),?_,.p _ _ (.sc _)⟩
     simp only[execOp,ho,iv,k1,jb,k3 _ (.inr rfl),k2,ja]
     rfl
   · cases he
 · cases he
theorem Ue (x y:Int):(if y<x then y else x)=min x y:=by
 rcases Int.lt_or_le y x with h | h
 · rw[if_pos h];omega
 · rw[if_neg (by omega)];omega
theorem Uf (x y:Int):(if y>x then y else x)=max x y:=by
 rcases Int.lt_or_le x y with h | h
 · rw[if_pos h];omega
 · rw[if_neg (by omega)];omega
theorem Ap {ρ:Operand→AV} {cg:Operand→Value} (hr : ∀x,VA g w (ρ x) (cg x)) {mn:Bool} {l:List Operand} {v:AV} (h:Je mn (l.map ρ)=some v) :
  ∃cx cy k k' x y,l=[cx,cy]∧cg cx = .int k x∧cg cy = .int k' y∧v = .p (.sc (.int k (cond mn (min x y) (max x y)))):=by
 match l,h with
 |[cx,cy],h=>
  have h1:=hr cx
  have h2:=hr cy
  simp only[oT,wi] at h
  generalize ρ cx=ax at h h1
  generalize ρ cy=ay at h h2
  unfold Je at h
  split at h
  · rename_i k a k' b heq
    simp only[List.cons.injEq,and_true] at heq
    obtain⟨rfl,rfl⟩:=heq
    simp only[c9] at h
    rw[VA.pv] at h1 h2
    generalize gP:cg cx=c1 at h1
    generalize iO:cg cy=c2 at h2
    cases h1;cases h2
    exact⟨cx,cy,k,k',a,b,rfl,gP,iO,h.symm⟩
  · cases h
 |[],h=>simp[Je] at h
 |[_],h=>simp[Je] at h
 |_::_::_::_,h=>simp[Je] at h
theorem oS (h:Rel g m w) {ρ:Operand→AV} {cg:Operand→Value} (hr : ∀x,VA g w (ρ x) (cg x)) (hrc : ∀v,cg (.const v)=v) {o:Oper} {aZ:Nat} (hn:makes o=true→m[aZ]? = some .free) {wr:Bool} {a:AV} {us:nv}
  (he:ug P (fun i=>m.getD i .dead) wr aZ ρ o=some (a,us,true)):b8 g m w ((execOp cg o).run P w) a (apply m us):=by
 have he' : ∀y,BG y=true → ∃l c,cg y = .slice none l c:=by
  intro y hy
  unfold BG at hy
  split at hy
  · exact⟨_,_,hrc _⟩
  · cases hy
 have hmk : ∀{b:Bool},makes o=b→b=true→m[aZ]? = some .free:=fun e e'=>hn (e.trans e')
 unfold ug at he
 split at he
 · rename_i x ho
   simp only[c9,iu,and_true] at he
   obtain⟨rfl,rfl⟩:=he
   exact b8.quiet h (v:=cg x) (by simp[execOp,ho]) (hr x)
 · rename_i x ho
   simp only[c9,iu,and_true] at he
   obtain⟨rfl,rfl⟩:=he
   exact b8.quiet h (v:=cg x) (by simp[execOp,ho]) (hr x)
 · rename_i c x y ho
   split at he
   · rename_i t hc
     simp only[c9,iu,and_true] at he
     obtain⟨rfl,rfl⟩:=he
     have hb:cg c = .bool t:=by have:=hr c;rw[hc,VA.pv] at this;generalize cg c=z at this;cases this;rfl
     cases t
     · exact b8.quiet h (v:=cg y) (by simp[execOp,ho,hb,asBool]) (hr y)
     · exact b8.quiet h (v:=cg x) (by simp[execOp,ho,hb,asBool]) (hr x)
   · cases he
 · rename_i t ho
   split at he
   · exact wJ h (hmk (by simp only[makes,ho]) rfl) he ho
   · exact zy h (hmk (by simp only[makes,ho]) rfl) he (ty:=0) (pos:= "") ho rfl rfl
 · rename_i t x ho
   exact Dn h (hmk (by simp only[makes,ho]) rfl) (hr x) he (t:=t) (by simp[execOp,ho,Instr.box,newVar,newRow])
 · rename_i t parts ho
   obtain⟨h1,rfl⟩:=iX he
   refine b8.of (h:=h) (s:=Instr.build t (parts.map fun(i,x)=>(i,cg x))) (P:=P) (by simp only[execOp,ho,iv,ja]) (zw h1 ?_)
   rw[gn];exact nS hr parts.toList
 · rename_i t len parts ho
   have:=qg (jZ:=parts.map fun(i,x)=>(i,cg x)) h (hmk (by simp only[makes,ho]) rfl) he (by rw[gn];exact nS hr parts.toList)
   simpa only[execOp,ho] using this
 · rename_i t x ho
   obtain⟨h1,rfl⟩:=iX he
   obtain⟨c,o',cv,k1,k2,k3⟩:=qU h (hr x) h1
   exact b8.quiet h (v:=cv) (by simp[execOp,ho,Instr.loadAt,k1,Instr.sureAddr,k2]) k3
 · rename_i t x v ho
   obtain⟨w',k1,rfl,k2,k3,k4⟩:=zx h (hr x) (hr v) he
   exact⟨undef,w',g,.inr ⟨by simp[execOp,ho,k1],rfl⟩,VA.lF.2 trivial,k2,k3,k4⟩
 · rename_i x ho
   obtain⟨h1,rfl⟩:=gu he
   obtain⟨v,k1,k2⟩:=sV hr ho h1
   exact b8.quiet h k1 k2
 · rename_i op t x y yt ho
   split at he
   · rename_i hy
     obtain⟨l,c,hyc⟩:=he' y hy
     obtain⟨rfl,v,k1,k2⟩:=zG hr hyc ho he
     exact b8.quiet h k1 k2
   · split at he
     · obtain⟨rfl,v,k1,k2⟩:=Du hr ho he
       exact b8.quiet h k1 k2
     · split at he
       · rename_i hsame
         obtain⟨rfl,v,k1,k2⟩:=ve hr ho hsame he
         exact b8.quiet h k1 k2
       · obtain⟨h1,rfl⟩:=iX he
         obtain⟨v,k1,k2⟩:=zq hr ho h1
         exact b8.quiet h k1 k2
 · rename_i t x ho
   exact zF h (hmk (by simp only[makes,ho]) rfl) (hr x) ho he
 · rename_i x s ho
   exact B5 h (hr x) ho he
 · rename_i t ho
   have fin : ∀ob:aD,ob.is (.map #[] 0) []→ob.room (.map #[] 0) 0→some (AV.vm aZ,[(aZ,aU.ob ob [])],true)=some (a,us,true)→b8 g m w ((execOp cg o).run P w) a (apply m us):=by
    intro ob hob hroom he
    simp only[c9,iu,and_true] at he
    obtain⟨rfl,rfl⟩:=he
    obtain⟨h1,h2,h3⟩:=h.vG (ob:=ob) (l:=[]) (vs:=[]) (hmk (by simp only[makes,ho]) rfl) trivial (eI w (.map #[] 0)) hob hroom
    exact⟨.map (some w.heap.size),_,_,.inl (by simp[execOp,ho,run_makeMap_plain,pk]),.vm aZ _ (by simp[Gh.put]),h1,h2,h3⟩
   split at he
   · unfold vY at he
     split at he
     · exact fin (.smap []) ⟨rfl,[],0,rfl,rfl⟩ trivial he
     · cases he
   unfold z7 at he
   split at he
   · split at he
     · exact fin (.Bz []) ⟨_,_,[],rfl,rfl,rfl,.refl _⟩ trivial he
     · exact fin (.map [] [] 0) rfl trivial he
   · exact fin (.map [] [] 0) rfl trivial he
 · rename_i t x i ok ho
   obtain⟨h1,rfl⟩:=gu he
   exact b8.of (h:=h) (s:=Instr.lookup t (cg x) (cg i) ok) (P:=P) (by simp only[execOp,ho,iv,ja]) (B3 h (hr x) (hr i) h1)
 · rename_i t x k v ho
   obtain⟨w',k1,rfl,k2,k3,k4⟩:=ux h (hr x) (hr k) (hr v) he
   exact⟨undef,w',g,.inr ⟨by simp[execOp,ho,k1],rfl⟩,VA.lF.2 trivial,k2,k3,k4⟩
 · rename_i t x k v ho
   obtain⟨w',k1,rfl,k2,k3,k4⟩:=ux h (hr x) (hr k) (hr v) he
   exact⟨undef,w',g,.inr ⟨by simp[execOp,ho,k1],rfl⟩,VA.lF.2 trivial,k2,k3,k4⟩
 · rename_i op t x ho
   obtain⟨h1,rfl⟩:=iX he
   obtain⟨v,k1,k2⟩:=BT hr ho h1
   exact b8.quiet h k1 k2
 · rename_i src dst x ho
   exact vc h (hmk (by simp only[makes,ho]) rfl) hr ho he
 · rename_i t x ho
   obtain⟨h1,rfl⟩:=gu he
   exact b8.of (h:=h) (s:=Instr.makeInterface t (cg x)) (P:=P) (by simp only[execOp,ho,iv,ja]) (qY h1 (hr x))
 · rename_i f first captured ho
   simp only[c9,iu,and_true] at he
   obtain⟨rfl,rfl⟩:=he
   refine b8.quiet h (v:= .func f (first.map cg) (captured.map cg)) (by simp[execOp,ho,Instr.makeFunc]) (VA.fns.2 ⟨_,_,rfl,?_,?_⟩)
   · rw[gn];exact gL hr _
   · rw[gn];exact gL hr _
 · rename_i t l c ho
   split at he
   · have:=sZ h (hr l) (hr c) he
     simpa only[execOp,ho] using this
   · have:=qZ h (hmk (by simp only[makes,ho]) rfl) (hr l) (hr c) he
     simpa only[execOp,ho] using this
 · rename_i t x lo hi mx ho
   obtain⟨h1,rfl⟩:=iX he
   exact b8.of (h:=h) (s:=Instr.sliceAt t (cg x) (lo.map cg) (hi.map cg) (mx.map cg)) (P:=P) (by simp only[execOp,ho,iv,ja]) (zn hr h1 (hr x))
 · rename_i t x f ho
   obtain⟨h1,rfl⟩:=gu he
   exact b8.of (h:=h) (s:=Instr.fieldAt t (cg x) f) (P:=P) (by simp only[execOp,ho,iv,ja]) (qV h1 (hr x))
 · rename_i t x f ho
   obtain⟨h1,rfl⟩:=iX he
   exact b8.of (h:=h) (s:=Instr.field t (cg x) f) (P:=P) (by simp only[execOp,ho,iv,ja]) (zl h1 (hr x))
 · rename_i t x i ho
   obtain⟨h1,rfl⟩:=iX he
   exact b8.of (h:=h) (s:=Instr.indexAt t (cg x) (cg i)) (P:=P) (by simp only[execOp,ho,iv,ja]) (qW h1 (hr x) (hr i))
 · rename_i t x i ho
   obtain⟨h1,rfl⟩:=iX he
   exact b8.of (h:=h) (s:=Instr.index t (cg x) (cg i)) (P:=P) (by simp only[execOp,ho,iv,ja]) (zm h1 (hr x) (hr i))
 · rename_i x i ho
   split at he
   · rename_i vs hx
     obtain⟨h1,rfl⟩:=gu he
     have hv:=hr x
     rw[hx] at hv
     generalize hz:cg x=z at hv
     cases hv with
     |au _ cs hl hh=>
      obtain⟨b,hb,hv⟩:=bu.get? (bu.dA hl hh) h1
      exact b8.quiet h (v:=b) (by simp only[execOp,ho,hz,Instr.extract];simp at hb;simp[hb]) hv
   · cases he
 · rename_i x xt t ok ho
   obtain⟨h1,rfl⟩:=gu he
   obtain⟨cv,k1,k2⟩:=wN (xt:=xt) h1 (hr x)
   exact b8.quiet h (v:=cv) (by simp only[execOp,ho,iv,k1,jb,ja]) k2
 · rename_i c ho
   split at he
   · rename_i s x hc ha
     have kG:c.args = #[s,x]:=by have:=congrArg wx ha;simpa using this
     have YJ:makes o=true:=by simp only[makes,ho,hc]
     split at he
     · have:=wX (ty:=o.type) h (hn YJ) (uy (hr s)) (hr x) he
       simpa only[execOp,ho,resolve,hc,kG,iv,ja,jb,invoke,builtin,wc,oT,wi] using this
     · have:=wK (ty:=o.type) h (hn YJ) (uy (hr s)) (hr x) he
       simpa only[execOp,ho,resolve,hc,kG,iv,ja,jb,invoke,builtin,wc,oT,wi] using this
   · rename_i d s hc ha
     have kG:c.args = #[d,s]:=by have:=congrArg wx ha;simpa using this
     have:=BX (ty:=o.type) h (hr d) (hr s) he
     simpa only[execOp,ho,resolve,hc,kG,iv,ja,jb,invoke,builtin,wc,oT,wi] using this
   · rename_i x hc ha
     have kG:c.args = #[x]:=by have:=congrArg wx ha;simpa using this
     obtain⟨h1,rfl⟩:=gu he
     refine b8.of (h:=h) (s:=Builtin.len_ c.argTypes o.type #[cg x]) (P:=P) ?_ (Di h1 (hr x))
     simp only[execOp,ho,resolve,hc,kG,iv,ja,jb,invoke,builtin,wc,oT,wi]
   · rename_i x hc ha
     have kG:c.args = #[x]:=by have:=congrArg wx ha;simpa using this
     obtain⟨h1,rfl⟩:=gu he
     refine b8.of (h:=h) (s:=Builtin.cap_ c.argTypes o.type #[cg x]) (P:=P) ?_ (Dj h1 (hr x))
     simp only[execOp,ho,resolve,hc,kG,iv,ja,jb,invoke,builtin,wc,oT,wi]
   · rename_i x hc ha
     have kG:c.args = #[x]:=by have:=congrArg wx ha;simpa using this
     obtain⟨rfl,v,k1,k2⟩:=ru (P:=P) (ts:=c.argTypes) (ty:=o.type) (hr x) he
     refine b8.quiet h (v:=v) ?_ k2
     simp only[execOp,ho,resolve,hc,kG,iv,ja,jb,invoke,builtin,wc,oT,wi,k1]
   · rename_i x n hc ha
     have kG:c.args = #[x,n]:=by have:=congrArg wx ha;simpa using this
     have:=nR (ty:=o.type) h (hr x) (hr n) he
     simpa only[execOp,ho,resolve,hc,kG,iv,ja,jb,invoke,builtin,wc,oT,wi] using this
   · rename_i hc
     obtain⟨h1,rfl⟩:=gu he
     unfold jT at h1
     split at h1
     · rename_i v hm
       simp only[c9] at h1;subst h1
       obtain⟨cx,cy,k,k',x,y,ha,e1,e2,rfl⟩:=Ap hr hm
       have kG:c.args = #[cx,cy]:=by have:=congrArg wx ha;simpa using this
       refine b8.quiet h (v:= .int k (min x y)) ?_ (.p _ _ (.sc _))
       simp only[execOp,ho,resolve,hc,kG,iv,ja,jb,invoke,builtin,wc,oT,wi,e1,e2,Builtin.min_,xf,xn,Builtin.min2,Ue]
     · obtain⟨v,k1,k2⟩:=eZ hr (fun _ _=>by rw[ho];exact fun e=>by cases e) h1
       exact b8.quiet h k1 k2
   · rename_i hc
     obtain⟨h1,rfl⟩:=gu he
     unfold jT at h1
     split at h1
     · rename_i v hm
       simp only[c9] at h1;subst h1
       obtain⟨cx,cy,k,k',x,y,ha,e1,e2,rfl⟩:=Ap hr hm
       have kG:c.args = #[cx,cy]:=by have:=congrArg wx ha;simpa using this
       refine b8.quiet h (v:= .int k (max x y)) ?_ (.p _ _ (.sc _))
       simp only[execOp,ho,resolve,hc,kG,iv,ja,jb,invoke,builtin,wc,oT,wi,e1,e2,Builtin.max_,xf,xn,Builtin.max2,Uf]
     · obtain⟨v,k1,k2⟩:=eZ hr (fun _ _=>by rw[ho];exact fun e=>by cases e) h1
       exact b8.quiet h k1 k2
   · cases he
 · cases he
end ops
end Go.Am
end
section
namespace Go.Am
open Go.RowKit
structure dy (ρ:Nat→Option Nat) (g g':Gh):Prop where
 at' : ∀i k,ρ i=some k→g'.bP k=g.bP i∧g'.lo k=g.lo i∧g'.hi k=g.hi i
 pure:g'.pure=g.pure
theorem VP.Fx {g g':Gh} {w:World} (h:g'.pure=g.pure) {v:PV} {cv:Value} (hv:VP g w v cv):VP g' w v cv:=hv.mono fun c o p=>⟨by rw[h];exact p,rfl⟩
theorem eA (ρ:Nat→Option Nat) : ∀l:List AV,(eW ρ l).length=l.length
 |[]=>rfl
 |a::l=>by simp[eW,eA ρ l]
theorem nT (ρ:Nat→Option Nat) : ∀(l:List AV) (i:Nat) (h:i<(eW ρ l).length) (h':i<l.length),(eW ρ l)[i]=jx ρ l[i]
 |_::_,0,_,_=>rfl
 |_::l,i+1,h,h'=>nT ρ l i (aw h) (aw h')
 |[],_,_,h'=>absurd h' (vz _)
theorem VA.jx {ρ:Nat→Option Nat} {g g':Gh} {w:World} (hr:dy ρ g g') {a:AV} {v:Value} (h:VA g w a v):VA g' w (Am.jx ρ a) v:=by
 induction h with
 |ah v=>exact .ah v
 |p v cv h=>exact .p v cv (h.Fx hr.pure)
 |os tok len sz cells a cap h ht=>
  have h':=h.Fx hr.pure
  cases tok with
  |none=>exact .os none len sz cells a cap h' (ht.imp id fun⟨t,_,_,e,_⟩=>by cases e)
  |some t=>
   simp only[Am.jx]
   cases hρ:ρ t with
   |none=>exact .p _ _ h'
   |some k=>
    obtain⟨e1,e2,e3⟩:=hr.at' t k hρ
    refine .os (some k) len sz cells a cap h' (ht.imp id ?_)
    rintro ⟨t',b,o,e,rfl,q1,q2,q3,q4⟩
    cases e
    exact⟨k,b,o,rfl,rfl,e1.trans q1,e2.trans q2,e3.trans q3,q4⟩
 |mp b off c h=>
  simp only[Am.jx]
  cases hρ:ρ b with
  |none=>exact .ah _
  |some k=>exact .mp k off c ((hr.at' b k hρ).1.trans h)
 |ms b off len sz cap c h hc=>
  simp only[Am.jx]
  cases hρ:ρ b with
  |none=>exact .ah _
  |some k=>exact .ms k off len sz cap c ((hr.at' b k hρ).1.trans h) hc
 |mg b off len sz cap c h hc hh=>
  simp only[Am.jx]
  cases hρ:ρ b with
  |none=>exact .ah _
  |some k=>exact .mg k off len sz cap c ((hr.at' b k hρ).1.trans h) hc (by rw[(hr.at' b k hρ).2.2];exact hh)
 |vm b c h=>
  simp only[Am.jx]
  cases hρ:ρ b with
  |none=>exact .ah _
  |some k=>exact .vm k c ((hr.at' b k hρ).1.trans h)
 |vy b c h=>
  simp only[Am.jx]
  cases hρ:ρ b with
  |none=>exact .ah _
  |some k=>exact .vy k c ((hr.at' b k hρ).1.trans h)
 |fn f l k fa ca hl hk h h2 ih ih2=>
  simp only[Am.jx]
  exact .fn f _ _ fa ca (by rw[eA];exact hl) (by rw[eA];exact hk)
   (fun i a b=>by rw[nT ρ l i a (by rwa [eA] at a)];exact ih i _ b) (fun i a b=>by rw[nT ρ k i a (by rwa [eA] at a)];exact ih2 i _ b)
 |agg l cs hl h ih=>
  simp only[Am.jx]
  exact .agg _ cs (by rw[eA];exact hl) (fun i a b=>by rw[nT ρ l i a (by rwa [eA] at a)];exact ih i _ b)
 |au l cs hl h ih=>
  simp only[Am.jx]
  exact .au _ cs (by rw[eA];exact hl) (fun i a b=>by rw[nT ρ l i a (by rwa [eA] at a)];exact ih i _ b)
 |nu t v cv h ih=>exact .nu t _ cv ih
theorem cL.jx {ρ:Nat→Option Nat} {g g':Gh} {w:World} (hr:dy ρ g g') : ∀{l:List AV} {vs:List Value},cL g w l vs→cL g' w (eW ρ l) vs
 |[],[],_=>trivial
 |_::_,_::_,h=>⟨h.1.jx hr,cL.jx hr h.2⟩
 |[],_::_,h=>h.elim
 |_::_,[],h=>h.elim
theorem cL.aa {ρ:Nat→Option Nat} {g g':Gh} {w:World} (hr:dy ρ g g') : ∀{l:List AV} {vs:List Value},cL g w l vs→cL g' w (l.map aa) vs
 |[],[],_=>trivial
 |a::_,_::_,h=>⟨by
   cases a with
   |p v=>exact h.1.jx hr
   |_=>exact .ah _,cL.aa hr h.2⟩
 |[],_::_,h=>h.elim
 |_::_,[],h=>h.elim
theorem cL.Tx {ρ:Nat→Option Nat} {g g':Gh} {w:World} (hr:dy ρ g g') {l l':List AV} {vs:List Value} (h:cL g w l vs) (hl:l'=eW ρ l∨l'=l.map Am.aa):cL g' w l' vs:=by
 rcases hl with rfl | rfl
 · exact h.jx hr
 · exact cL.aa hr h
theorem Lt (ρ:Nat→Option Nat) : ∀l:List PV,eW ρ (l.map .p)=l.map .p
 |[]=>rfl
 |v::l=>by simp[eW,Am.jx,Lt ρ l]
theorem Jk (ρ:Nat→Option Nat) (k:aD) (vals:List AV) : ∃l,gJ ρ (.ob k vals) = .ob k l:=by
 cases k with
 |gr t q=>cases q<;>exact⟨_,rfl⟩
 |_=>exact⟨_,rfl⟩
theorem wY {ρ:Nat→Option Nat} {b:aU} {l':List AV} (h:(gJ ρ b).cells?=some l') : ∃l,b.cells?=some l∧l'=eW ρ l:=by
 cases b with
 |pc l=>simp only[gJ,aU.cells?,c9] at h;exact⟨_,rfl,by rw[Lt];exact h.symm⟩
 |ac l=>simp only[gJ,aU.cells?,c9] at h;exact⟨l,rfl,h.symm⟩
 |ob k vals=>
  obtain⟨l0,e⟩:=Jk ρ k vals
  rw[e] at h
  cases h
 |_=>simp[gJ,aU.cells?] at h
theorem lM {ρ:Nat→Option Nat} {b:aU}:(gJ ρ b).dB=b.dB:=by unfold gJ;split<;>rfl
theorem Hv {ρ:Nat→Option Nat} {b:aU} {k:aD} {l:List AV} (h:gJ ρ b = .ob k l) : ∃l0,b = .ob k l0∧(l=eW ρ l0∨l=l0.map aa):=by
 unfold gJ at h
 split at h<;>cases h
 · exact⟨_,rfl,.inr rfl⟩
 · exact⟨_,rfl,.inr rfl⟩
 · exact⟨_,rfl,.inl rfl⟩
 · rename_i hne
   exact(hne _ _ rfl).elim
theorem tj {ρ:Nat→Option Nat} {b:aU} (h:gJ ρ b = .free):b = .free:=by unfold gJ at h;split at h<;>first | exact h | cases h
theorem Dz {ρ:Nat→Option Nat} {b:aU} (h:gJ ρ b = .tok):b = .tok:=by unfold gJ at h;split at h<;>first | exact h | cases h
theorem Hw {ord:List Nat} {i k:Nat} (h:idx ord i=some k):ord[k]? = some i:=by
 induction ord generalizing k with
 |nil=>simp[idx] at h
 |cons j ord ih=>
  simp only[idx] at h
  cases hb:ae i j with
  |true=>simp only[hb,cond_true,c9] at h;subst h;rw[ai hb];rfl
  |false=>
   simp only[hb,cond_false,hC] at h
   obtain⟨k',h1,rfl⟩:=h
   exact ih h1
def Gh.pack (g:Gh) (ord:List Nat):Gh where
 bP k:=(ord[k]?).bind g.bP
 lo k:=match ord[k]? with | some i=>g.lo i | none=>0
 hi k:=match ord[k]? with | some i=>g.hi i | none=>0
 pure:=g.pure
theorem dy.pack (g:Gh) (ord:List Nat):dy (idx ord) g (g.pack ord):=
 ⟨fun i k h=>by have:=Hw h;simp[Gh.pack,this],rfl⟩
theorem j6 {m:Mem} {ord:List Nat} {k:Nat} {b:aU} (h:(pack m ord)[k]? = some b) : ∃i,ord[k]? = some i∧b=gJ (idx ord) (m.getD i .dead):=by
 simp only[pack,dT,hC] at h
 obtain⟨i,h1,h2⟩:=h
 exact⟨i,h1,h2.symm⟩
theorem Fy {m:Mem} {i:Nat} {l:List AV} (h:(m.getD i .dead).cells?=some l):m[i]? = some (m.getD i .dead):=
 getD_some rfl fun e=>by rw[e] at h;cases h
theorem Aq {m:Mem} {i:Nat} (h:(m.getD i .dead).dB=true):m[i]? = some (m.getD i .dead):=
 getD_some rfl fun e=>by rw[e] at h;cases h
theorem Jl {l:List Nat} (h:l.Nodup) {j k i:Nat} (hj:l[j]? = some i) (hk:l[k]? = some i):j=k:=by
 obtain⟨a,ha⟩:=dp.1 hj
 obtain⟨b,hb⟩:=dp.1 hk
 rcases Nat.lt_trichotomy j k with q | q | q
 · exact absurd (ha.trans hb.symm) (wy.1 h j k a b q)
 · exact q
 · exact absurd (hb.trans ha.symm) (wy.1 h k j b a q)
theorem Rel.pack {g:Gh} {m:Mem} {w:World} (h:Rel g m w) {ord:List Nat} (hnd:ord.Nodup) :
  Rel (g.pack ord) (Am.pack m ord) w∧(∀c,gp (g.pack ord) (Am.pack m ord) c→gp g m c):=by
 have own : ∀k b c,(Am.pack m ord)[k]? = some b→b.dB=true→(g.pack ord).bP k=some c → ∃i,ord[k]? = some i∧m[i]? = some (m.getD i .dead)∧(m.getD i .dead).dB=true∧g.bP i=some c:=by
  intro k b c hk ho hc
  obtain⟨i,h1,rfl⟩:=j6 hk
  rw[lM] at ho
  exact⟨i,h1,Aq ho,ho,by simpa[Gh.pack,h1] using hc⟩
 refine⟨⟨fun k hk=> ?_,fun k hk=> ?_,fun k b l hk hl=> ?_,fun k c hk hc=> ?_,fun j k b b' c hj hk ho ho' hc fO=> ?_,h.there,fun k ob l hk=> ?_⟩,fun c ho=> ?_⟩
 · have:ord[k]? = none:=dt (by simpa[Am.pack] using hk)
   simp[Gh.pack,this]
 · obtain⟨i,h1,h2⟩:=j6 hk
   have h2:=tj h2.symm
   have:=h.free i (getD_some h2 (by simp))
   simp[Gh.pack,h1,this]
 · obtain⟨i,h1,rfl⟩:=j6 hk
   obtain⟨l0,h2,rfl⟩:=wY hl
   obtain⟨c,cs,e,n,k1,k2,k3,k4,k5⟩:=h.cells i _ _ (Fy h2) h2
   exact⟨c,cs,e,n,by simpa[Gh.pack,h1] using k1,k2,k3,⟨k4.1.jx (dy.pack g ord),k4.2⟩,k5⟩
 · obtain⟨i,h1,h2⟩:=j6 hk
   have h2:=Dz h2.symm
   have hc:g.bP i=some c:=by simpa[Gh.pack,h1] using hc
   have:=h.tok i c (getD_some h2 (by simp)) hc
   simpa[Gh.pack,h1] using this
 · obtain⟨i,h1,h2,h3,h4⟩:=own j b c hj ho hc
   obtain⟨i',h1',h2',h3',h4'⟩:=own k b' c hk ho' fO
   have:=h.inj i i' _ _ c h2 h2' h3 h3' h4 h4'
   subst this
   exact Jl hnd h1 h1'
 · obtain⟨i,h1,h2⟩:=j6 hk
   obtain⟨l0,h3,hl0⟩:=Hv h2.symm
   obtain⟨c,o,vs,k1,k2,k3,k4,k5,k6⟩:=h.obs i ob l0 (getD_some h3 (by simp))
   exact⟨c,o,vs,by simpa[Gh.pack,h1] using k1,k2,k3.Tx (dy.pack g ord) hl0,k4,k5,by simpa[Gh.pack,h1] using k6⟩
 · obtain⟨k,b,hk,ho,hc⟩:=ho
   obtain⟨i,_,h2,h3,h4⟩:=own k b c hk ho hc
   exact⟨i,_,h2,h3,h4⟩
theorem Hx {l:List Nat} {i:Nat}:has l i=true↔i∈l:=by
 induction l with
 |nil=>simp[has]
 |cons j l ih=>
  simp only[has]
  cases hb:ae j i with
  |true=>simp[ai hb]
  |false=>
   have:j≠i:=fun e=>by subst e;simp[vt] at hb
   simp[ih,Ne.symm this]
theorem dU : ∀(l ord:List Nat),ord.Nodup→(iF ord l).Nodup ∧ ∃t,iF ord l=ord++t
 |[],ord,h=>⟨h,[],by simp[iF]⟩
 |i::l,ord,h=>by
  simp only[iF]
  cases hb:has ord i with
  |true=>exact dU l ord h
  |false=>
   have hni:i∉ord:=fun k=>by rw[Hx.2 k] at hb;cases hb
   obtain⟨h1,t,h2⟩:=dU l (ord++[i]) (xc.2 ⟨h,by simp,fun a ha b hb=>by simp at hb;subst hb;exact fun e=>hni (e▸ha)⟩)
   exact⟨h1,i::t,by simp only[cond_false,h2,xa,List.singleton_append]⟩
theorem mE (m:Mem) : ∀(f:Nat) (ord:List Nat) (k:Nat),ord.Nodup→(reach m f ord k).Nodup ∧ ∃t,reach m f ord k=ord++t
 |0,ord,_,h=>⟨h,[],by simp[reach]⟩
 |f+1,ord,k,h=>by
  simp only[reach]
  cases hk:ord[k]? with
  |none=>exact⟨h,[],by simp⟩
  |some i=>
   obtain⟨h1,t,h2⟩:=dU (z8 (m.getD i .dead)) ord h
   obtain⟨h3,t',h4⟩:=mE m f (iF ord (z8 (m.getD i .dead))) (k+1) h1
   refine⟨h3,t++t',?_⟩
   show reach m f (iF ord (z8 (m.getD i .dead))) (k+1)=_
   rw[h4,h2,xa]
theorem iY : ∀n,(upTo n).length=n
 |0=>rfl
 |n+1=>by simp[upTo,iY n]
theorem wZ : ∀(n k:Nat),k<n→(upTo n)[k]? = some k
 |0,_,h=>absurd h (vz _)
 |n+1,k,h=>by
  simp only[upTo,xb,iY]
  by_cases hk:k<n
  · rw[if_pos hk,wZ n k hk]
  · have:k=n:=by omega
    subst this;simp
theorem Lu {n i:Nat} (h:i∈upTo n):i<n:=by
 induction n with
 |zero=>simp[upTo] at h
 |succ n ih=>
  simp only[upTo,List.mem_append,List.mem_singleton] at h
  rcases h with h | rfl
  · have:=ih h;omega
  · omega
theorem j7 : ∀n,(upTo n).Nodup
 |0=>by simp[upTo]
 |n+1=>xc.2 ⟨j7 n,by simp,fun a ha b hb=>by simp at hb;subst hb;have:=Lu ha;omega⟩
theorem fc (m:Mem) (fix:Nat) (vs:List AV):(close m fix vs).Nodup ∧ ∀k,k<fix→(close m fix vs)[k]? = some k:=by
 obtain⟨h1,t,h2⟩:=dU (iB vs) (upTo fix) (j7 fix)
 obtain⟨h3,t',h4⟩:=mE m (m.length+1) (iF (upTo fix) (iB vs)) 0 h1
 refine⟨h3,fun k hk=> ?_⟩
 unfold close
 rw[h4,h2,xa,List.getElem?_append_left (by rw[iY];exact hk),wZ fix k hk]
end Go.Am
end
section
namespace Go.Am
open Go.RowKit
theorem fQ : ∀{l:List Nat} {n:Nat},iT l n=true → ∀i∈l,i<n
 |[],_,_,_,h=>by cases h
 |j::l,n,h,i,hi=>by
  simp only[iT,Bool.and_eq_true] at h
  cases hi with
  |head=>simpa[ft] using h.1
  |tail _ hi=>exact fQ h.2 i hi
theorem uz (ρ:Nat→Option Nat) : ∀(ord:List Nat) (m1 m:Mem),ord.Nodup→(∀i∈ord,i<m.length)→ord.length≤m1.length → ∀(i:Nat) (b:aU),(dh ρ ord m1 m)[i]? = some b →
  (i<m.length∧i∉ord∧m[i]? = some b)∨(∃(k:Nat) (b1:aU),ord[k]? = some i∧m1[k]? = some b1∧b=gJ ρ b1)∨(m.length≤i ∧ ∃b1:aU,m1[ord.length+(i-m.length)]? = some b1∧b=gJ ρ b1)
 |[],m1,m,_,_,_,i,b,h=>by
  simp only[dh,xb] at h
  by_cases hi:i<m.length
  · rw[if_pos hi] at h;exact .inl ⟨hi,by simp,h⟩
  · rw[if_neg hi,dT,hC] at h
    obtain⟨b1,h1,h2⟩:=h
    exact .inr (.inr ⟨by omega,b1,by simpa using h1,h2.symm⟩)
 |j::ord,[],m,_,_,hl,_,_,_=>by simp at hl
 |j::ord,b0::m1,m,hnd,hlt,hl,i,b,h=>by
  simp only[dh] at h
  have Fz:=xo.1 hnd
  rcases uz ρ ord m1 (m.set j (gJ ρ b0)) Fz.2 (fun i hi=>by simpa using hlt i (.tail _ hi)) (by simpa using hl) i b h with⟨h1,h2,h3⟩ | ⟨k,b1,h1,h2,h3⟩ | ⟨h1,b1,h2,h3⟩
  · rw[du] at h1
    rcases aP h3 with⟨rfl,e⟩ | ⟨hne,e⟩
    · exact .inr (.inl ⟨0,b0,rfl,rfl,e⟩)
    · exact .inl ⟨h1,fun hm=>by cases hm with
       |head=>exact hne rfl
       |tail _ hm=>exact h2 hm,e⟩
  · exact .inr (.inl ⟨k+1,b1,h1,h2,h3⟩)
  · rw[du] at h1 h2
    exact .inr (.inr ⟨h1,b1,by rw[show(j::ord).length+(i-m.length)=(ord.length+(i-m.length))+1 by simp;omega];exact h2,h3⟩)
theorem dX (ρ:Nat→Option Nat) : ∀(ord:List Nat) (m1 m:Mem),ord.length≤m1.length→(dh ρ ord m1 m).length=m.length+(m1.length-ord.length)
 |[],m1,m,_=>by simp[dh]
 |_::_,[],_,h=>by simp at h
 |j::ord,b::m1,m,h=>by
  simp only[dh]
  rw[dX ρ ord m1 _ (by simpa using h)]
  simp
theorem qh : ∀{ord:List Nat} {k i:Nat},ord.Nodup→ord[k]? = some i→idx ord i=some k
 |[],_,_,_,h=>by simp at h
 |j::ord,0,i,_,h=>by
  simp only[List.getElem?_cons_zero,c9] at h;subst h
  simp[idx,vt]
 |j::ord,k+1,i,hnd,h=>by
  have Fz:=xo.1 hnd
  simp only[List.getElem?_cons_succ] at h
  have hne:ae i j=false:=by
   rw[Bool.eq_false_iff];intro e
   have:=ai e
   subst this
   exact Fz.1 (mb h)
  simp[idx,hne,qh Fz.2 h]
theorem DA {ord:List Nat} {i:Nat} (h:i∉ord):idx ord i=none:=by
 cases hq:idx ord i with
 |none=>rfl
 |some k=>exact absurd (mb (Hw hq)) h
def Gh.back (g g1:Gh) (ord:List Nat) (n:Nat):Gh where
 bP i:=match idx ord i with | some k=>g1.bP k | none=>if i<n then g.bP i else g1.bP (ord.length+(i-n))
 lo i:=match idx ord i with | some k=>g1.lo k | none=>if i<n then g.lo i else g1.lo (ord.length+(i-n))
 hi i:=match idx ord i with | some k=>g1.hi k | none=>if i<n then g.hi i else g1.hi (ord.length+(i-n))
 pure:=g1.pure
def bJ (g g':Gh) (n:Nat):Prop:= ∀k c,k<n→g.bP k=some c→g'.bP k=some c∧g'.lo k=g.lo k∧g'.hi k=g.hi k
theorem bJ.refl (g:Gh) (n:Nat):bJ g g n:=fun _ _ _ h=>⟨h,rfl,rfl⟩
theorem bJ.trans {g g' g'':Gh} {n:Nat} (h:bJ g g' n) (k:bJ g' g'' n):bJ g g'' n:=fun i c hi hc=>
 let⟨h1,h2,h3⟩:=h i c hi hc
 let⟨k1,k2,k3⟩:=k i c hi h1
 ⟨k1,k2.trans h2,k3.trans h3⟩
theorem bJ.rz {g g':Gh} {w w':World} (h:Ext g w g' w') (n:Nat):bJ g g' n:=fun i c _ hc=>h.bP i c hc
theorem Rel.back {g lD:Gh} {m Jm:Mem} {w w':World} (h:Rel g m w) {ord:List Nat} (hnd:ord.Nodup) (hlt : ∀i∈ord,i<m.length)
  (h1:Rel lD Jm w') (hs:dm (g.pack ord) (Am.pack m ord) w lD Jm w') (hf:bJ (g.pack ord) lD ord.length) (hl:ord.length≤Jm.length) :
  Rel (g.back lD ord m.length) (dh (bg ord m.length) ord Jm m) w'∧Ext g w (g.back lD ord m.length) w'∧dm g m w (g.back lD ord m.length) (dh (bg ord m.length) ord Jm m) w' ∧
   dy (bg ord m.length) lD (g.back lD ord m.length):=by
 obtain⟨Lv,Lw⟩:=h.pack hnd
 have Hy : ∀k i,ord[k]? = some i→i<m.length∧k<ord.length∧(g.back lD ord m.length).bP i=lD.bP k∧(g.back lD ord m.length).lo i=lD.lo k∧(g.back lD ord m.length).hi i=lD.hi k:=by
  intro k i hk
  have hx:=qh hnd hk
  exact⟨hlt i (mb hk),bq hk,by simp only[Gh.back,hx],by simp only[Gh.back,hx],by simp only[Gh.back,hx]⟩
 have FA : ∀i,i∉ord→i<m.length→(g.back lD ord m.length).bP i=g.bP i∧(g.back lD ord m.length).lo i=g.lo i∧(g.back lD ord m.length).hi i=g.hi i:=by
  intro i hi hlt
  have hx:=DA hi
  simp only[Gh.back,hx,hlt,if_true,and_self]
 have Qk : ∀i,m.length≤i→(g.back lD ord m.length).bP i=lD.bP (ord.length+(i-m.length))∧(g.back lD ord m.length).lo i=lD.lo (ord.length+(i-m.length))∧(g.back lD ord m.length).hi i=lD.hi (ord.length+(i-m.length)):=by
  intro i hi
  have hx:=DA (ord:=ord) (i:=i) fun hm=>by have:=hlt i hm;omega
  simp only[Gh.back,hx,wb.2 hi,if_false,and_self]
 have mF:dy (bg ord m.length) lD (g.back lD ord m.length):=by
  refine⟨fun j k hj=> ?_,rfl⟩
  unfold bg at hj
  cases ho:ord[j]? with
  |some i=>
   simp only[ho,c9] at hj;subst hj
   exact(Hy j i ho).2.2
  |none=>
   simp only[ho,c9] at hj;subst hj
   have:ord.length≤j:=List.getElem?_eq_none_iff.1 ho
   have e:ord.length+(m.length+(j-ord.length)-m.length)=j:=by omega
   have:=Qk (m.length+(j-ord.length)) (by omega)
   rwa [e] at this
 have Ug:Ext g w (g.back lD ord m.length) w':=by
  refine⟨fun i c hc=> ?_,fun c o p=>hs.pure c o p⟩
  have hi:i<m.length:=by
   rcases Nat.lt_or_ge i m.length with q | q
   · exact q
   · rw[h.zb i q] at hc;cases hc
  by_cases hm:i∈ord
  · obtain⟨k,hk1,hk2⟩:=List.getElem_of_mem hm
    have hk:ord[k]? = some i:=by rw[List.getElem?_eq_getElem hk1,hk2]
    obtain⟨_,_,e1,e2,e3⟩:=Hy k i hk
    obtain⟨f1,f2,f3⟩:=hf k c hk1 (by simpa[Gh.pack,hk] using hc)
    rw[e1,e2,e3,f1,f2,f3]
    simp[Gh.pack,hk]
  · obtain⟨e1,e2,e3⟩:=FA i hm hi
    exact⟨e1.trans hc,e2,e3⟩
 have nU : ∀i b c,i∉ord→m[i]? = some b→b.dB=true→g.bP i=some c → ¬gp (g.pack ord) (Am.pack m ord) c:=by
  intro i b c hi hb ho hc hO
  obtain⟨k,b',hk,ho',fO⟩:=hO
  obtain⟨i',q1,rfl⟩:=j6 hk
  rw[lM] at ho'
  have fO:g.bP i'=some c:=by simpa[Gh.pack,q1] using fO
  have:=h.inj i i' _ _ c hb (Aq ho') ho ho' hc fO
  subst this
  exact hi (mb q1)
 have B6 : ∀i b c,i∉ord→m[i]? = some b→b.dB=true→g.bP i=some c → ∀o,lD.pure c o→g.pure c o:=by
  intro i b c hi hb ho hc o p
  rcases hs.fresh c o p with q | q | q
  · exact q
  · exact absurd q (nU i b c hi hb ho hc)
  · exact absurd (h.lG ⟨i,b,hb,ho,hc⟩) (wb.2 q)
 have get:=uz (bg ord m.length) ord Jm m hnd hlt hl
 have Uh : ∀i b c,(dh (bg ord m.length) ord Jm m)[i]? = some b→b.dB=true→(g.back lD ord m.length).bP i=some c →
   (i∉ord∧m[i]? = some b∧g.bP i=some c)∨(∃k b1,bg ord m.length k=some i∧Jm[k]? = some b1∧b1.dB=true∧lD.bP k=some c):=by
  intro i b c hi ho hc
  rcases get i b hi with⟨q1,q2,q3⟩ | ⟨k,b1,q1,q2,rfl⟩ | ⟨q1,b1,q2,rfl⟩
  · exact .inl ⟨q2,q3,by rw[(FA i q2 q1).1] at hc;exact hc⟩
  · rw[lM] at ho
    exact .inr ⟨k,b1,by simp[bg,q1],q2,ho,by rw[(Hy k i q1).2.2.1] at hc;exact hc⟩
  · rw[lM] at ho
    rw[(Qk i q1).1] at hc
    have hn:ord[ord.length+(i-m.length)]? = none:=dt (by omega)
    refine .inr ⟨_,b1,?_,q2,ho,hc⟩
    simp only[bg,hn,c9];omega
 refine⟨⟨fun i hi=> ?_,fun i hi=> ?_,fun i b l hi hb=> ?_,fun i c hi hc=> ?_,fun i j b b' c hi hj ho ho' hc fO=> ?_,h1.there,fun i ob l hi=> ?_⟩,Ug,⟨hs.size,fun c hc hn=>hs.keep c hc fun ho=>hn (Lw c ho),hs.pure,fun c o p=> ?_,fun c ho=> ?_,hs.os,hs.tape,hs.output⟩,mF⟩
 · rw[dX _ _ _ _ hl] at hi
   rw[(Qk i (by omega)).1]
   exact h1.zb _ (by omega)
 · rcases get i _ hi with⟨q1,q0,q3⟩ | ⟨k,b1,q1,q2,q3⟩ | ⟨q1,b1,q2,q3⟩
   · rw[(FA i q0 q1).1];exact h.free i q3
   · have q3:=tj q3.symm
     subst q3
     rw[(Hy k i q1).2.2.1];exact h1.free k q2
   · have q3:=tj q3.symm
     subst q3
     rw[(Qk i q1).1];exact h1.free _ q2
 · have back : ∀k b1,bg ord m.length k=some i→Jm[k]? = some b1→b=gJ (bg ord m.length) b1 →
    ∃c cs e n,(g.back lD ord m.length).bP i=some c∧w'.heap[c]? = some (.cells cs e n)∧n.2≤n.1∧Fc (g.back lD ord m.length) w' l cs.toList ∧ ∀o,¬(g.back lD ord m.length).pure c o:=by
    rintro k b1 hk Qj rfl
    obtain⟨l0,q,rfl⟩:=wY hb
    obtain⟨c,cs,e,n,k1,k2,k3,k4,k5⟩:=h1.cells k b1 l0 Qj q
    exact⟨c,cs,e,n,(mF.at' k i hk).1.trans k1,k2,k3,⟨k4.1.jx mF,k4.2⟩,k5⟩
   rcases get i _ hi with⟨q1,q2,q3⟩ | ⟨k,b1,q1,q2,q3⟩ | ⟨q1,b1,q2,q3⟩
   · obtain⟨c,cs,e,n,k1,k2,k3,k4,k5⟩:=h.cells i b l q3 hb
     have ho:=cR hb
     exact⟨c,cs,e,n,(FA i q2 q1).1.trans k1,(hs.keep c (bI k2) (nU i b c q2 q3 ho k1)).trans k2,k3,k4.mono Ug,fun o p=>k5 o (B6 i b c q2 q3 ho k1 o p)⟩
   · exact back k b1 (by simp[bg,q1]) q2 q3
   · have hn:ord[ord.length+(i-m.length)]? = none:=dt (by omega)
     exact back _ b1 (by simp only[bg,hn,c9];omega) q2 q3
 · have back : ∀k b1,bg ord m.length k=some i→Jm[k]? = some b1→aU.tok=gJ (bg ord m.length) b1 →
    ∃cs e n,w'.heap[c]? = some (.cells cs e n)∧(g.back lD ord m.length).hi i≤cs.size∧(n.2≤n.1∨(g.back lD ord m.length).hi i≤n.1) ∧ ∀o,(g.back lD ord m.length).lo i≤o→o<(g.back lD ord m.length).hi i → ¬(g.back lD ord m.length).pure c o:=by
    intro k b1 hk Qj hq
    have hq:=Dz hq.symm
    subst hq
    obtain⟨e1,e2,e3⟩:=mF.at' k i hk
    rw[e2,e3]
    rw[e1] at hc
    exact h1.tok k c Qj hc
   rcases get i _ hi with⟨q1,q2,q3⟩ | ⟨k,b1,q1,q2,q3⟩ | ⟨q1,b1,q2,q3⟩
   · obtain⟨e0,e2,e1⟩:=FA i q2 q1
     have hc:g.bP i=some c:=e0.symm.trans hc
     obtain⟨cs,e,n,k2,k3,k4,k5⟩:=h.tok i c q3 hc
     rw[e1,e2]
     exact⟨cs,e,n,(hs.keep c (bI k2) (nU i _ c q2 q3 rfl hc)).trans k2,k3,k4,fun o a b p=>k5 o a b (B6 i _ c q2 q3 rfl hc o p)⟩
   · exact back k b1 (by simp[bg,q1]) q2 q3
   · have hn:ord[ord.length+(i-m.length)]? = none:=dt (by omega)
     exact back _ b1 (by simp only[bg,hn,c9];omega) q2 q3
 · have apart : ∀i b,i∉ord→m[i]? = some b→b.dB=true→g.bP i=some c → ∀k b1,Jm[k]? = some b1→b1.dB=true→lD.bP k=some c→False:=by
    intro i b q2 q3 ho hc k b1 hk ho1 gP
    rcases hs.owned c ⟨k,b1,hk,ho1,gP⟩ with q | q
    · exact nU i b c q2 q3 ho hc q
    · exact absurd (h.lG ⟨i,b,q3,ho,hc⟩) (wb.2 q)
   rcases Uh i b c hi ho hc with⟨p1,p2,p3⟩ | ⟨k,b1,p1,p2,p3,p4⟩<;>rcases Uh j b' c hj ho' fO with⟨q1,q2,q3⟩ | ⟨k',b1',q1,q2,q3,q4⟩
   · exact h.inj i j b b' c p2 q2 ho ho' p3 q3
   · exact(apart i b p1 p2 ho p3 k' b1' q2 q3 q4).elim
   · exact(apart j b' q1 q2 ho' q3 k b1 p2 p3 p4).elim
   · have:=h1.inj k k' b1 b1' c p2 q2 p3 q3 p4 q4
     subst this
     rw[p1] at q1;exact da q1
 · have back : ∀k b1,bg ord m.length k=some i→Jm[k]? = some b1→aU.ob ob l=gJ (bg ord m.length) b1 →
    ∃c o vs,(g.back lD ord m.length).bP i=some c∧w'.heap[c]? = some o∧cL (g.back lD ord m.length) w' l vs∧ob.is o vs∧(∀o',¬(g.back lD ord m.length).pure c o')∧ob.room o ((g.back lD ord m.length).hi i):=by
    intro k b1 hk Qj hq
    obtain⟨l0,rfl,hl0⟩:=Hv hq.symm
    obtain⟨c,o,vs,k1,k2,k3,k4,k5,k6⟩:=h1.obs k ob l0 Qj
    exact⟨c,o,vs,(mF.at' k i hk).1.trans k1,k2,k3.Tx mF hl0,k4,k5,by rw[(mF.at' k i hk).2.2];exact k6⟩
   rcases get i _ hi with⟨q1,q2,q3⟩ | ⟨k,b1,q1,q2,q3⟩ | ⟨q1,b1,q2,q3⟩
   · obtain⟨c,o,vs,k1,k2,k3,k4,k5,k6⟩:=h.obs i ob l q3
     exact⟨c,o,vs,(FA i q2 q1).1.trans k1,(hs.keep c (bI k2) (nU i _ c q2 q3 rfl k1)).trans k2,k3.mono Ug,k4,fun o' p=>k5 o' (B6 i _ c q2 q3 rfl k1 o' p),by rw[(FA i q2 q1).2.2];exact k6⟩
   · exact back k b1 (by simp[bg,q1]) q2 q3
   · have hn:ord[ord.length+(i-m.length)]? = none:=dt (by omega)
     exact back _ b1 (by simp only[bg,hn,c9];omega) q2 q3
 · rcases hs.fresh c o p with q | q | q
   · exact .inl q
   · exact .inr (.inl (Lw c q))
   · exact .inr (.inr q)
 · obtain⟨i,b,hi,hb,hc⟩:=ho
   rcases Uh i b c hi hb hc with⟨_,p2,p3⟩ | ⟨k,b1,p1,p2,p3,p4⟩
   · exact .inl ⟨i,b,p2,hb,p3⟩
   · rcases hs.owned c ⟨k,b1,p2,p3,p4⟩ with q | q
     · exact .inl (Lw c q)
     · exact .inr q
end Go.Am
end
section
namespace Go.Am
open Go.RowKit
def er:It→List Item
 |.code _ c=>[.code c]
 |.ops _ ops k _=>[.inRegion ops (xi k (ops.size-k))]
 |.inBlock id=>[.inBlock id]
 |.inLoop _ b=>[.inLoop b]
 |.inScope b=>[.inScope b]
 |.forget _=>[]
 |.fin=>[]
 |.begin=>[.beginRound]
 |.zj _=>[]
 |.hJ _=>[]
 |.leave=>[]
def It.pl:It→Prop
 |.fin | .zj _ | .hJ _ | .leave=>False
 |_=>True
def dV:List It→List Item
 |[]=>[]
 |x::k=>er x++dV k
def gk (E:Env) (g:Gh) (w:World):Prop:= ∀i cs,E.dg i=some cs→VP g w (.pp 0 cs) (.pointer (some ⟨i,0,none⟩))
theorem gk.mono {E:Env} {g g':Gh} {w w':World} (h:gk E g w) (e : ∀c o,g.pure c o→g'.pure c o∧w'.cell? ⟨c,o,none⟩=w.cell? ⟨c,o,none⟩):gk E g' w':=fun i cs hi=>(h i cs hi).mono e
structure cu (E:Env) (g:Gh) (st:St) (a:Act) (w:World):Prop where
 tm : ∀k,VA g w (look st.tm k) (a.tmps.getD k undef)
 nt:a.tmps.size=st.nt
 rel:Rel g st.mem w
 fix:st.fix≤st.mem.length
 dg:gk E g w
def eJ (g:Gh) (r:Ts) (b:Frame):Prop:=match r with
 |.call=>b.kind = .normal∧b.roundOf=none
 |.round i=>b.kind = .normal ∧ ∃l,g.bP i=some l∧b.roundOf=some l
 |.late=>b.kind = .deferred∧b.roundOf=none
theorem eJ.ext {g g':Gh} (e : ∀i c,g.bP i=some c→g'.bP i=some c) {r:Ts} {b:Frame} (h:eJ g r b):eJ g' r b:=by
 cases r with
 |call=>exact h
 |late=>exact h
 |round i=>
  obtain⟨h1,l,q1,q2⟩:=h
  exact⟨h1,l,e i l q1,q2⟩
theorem eJ.B7 {g:Gh} {r:Ts} {b:Frame} (h:eJ g r b) (hn : ∀i,r ≠ .round i):b.roundOf=none:=by
 cases r with
 |call=>exact h.2
 |late=>exact h.2
 |round i=>exact absurd rfl (hn i)
def Mps (g:Gh) (l:List (Nat×Nat)) (cs:List Value):Prop:=bu (fun q v=> ∃c,g.bP q.1=some c∧v = .pointer (some ⟨c,q.2,none⟩)) l cs
def Mark.Ok (g:Gh):Mark→Deferred→Prop
 |.range b,d=> ∃D,g.bP b=some D∧d={target:= .collected D,args:= #[]}
 |.late f l m,d=> ∃fa ca:Array Value,Mps g l fa.toList∧Mps g m ca.toList∧d={target:= .fn (.func f) ca,args:=fa}
theorem Mark.Ok.ext {g g':Gh} (e : ∀i c,g.bP i=some c→g'.bP i=some c) {mk:Mark} {d:Deferred} (h:mk.Ok g d):mk.Ok g' d:=by
 cases mk with
 |range b=>
  obtain⟨D,q1,q2⟩:=h
  exact⟨D,e _ D q1,q2⟩
 |late f l m=>
  obtain⟨fa,ca,q1,q2,q3⟩:=h
  exact⟨fa,ca,bu.mono (fun _ _ ⟨c,k1,k2⟩=>⟨c,e _ c k1,k2⟩) q1,bu.mono (fun _ _ ⟨c,k1,k2⟩=>⟨c,e _ c k1,k2⟩) q2,q3⟩
def Mk (g:Gh) (mk:List Mark) (ds:List Deferred):Prop:=bu (fun b d=>b.Ok g d) mk ds
theorem Mk.ext {g g':Gh} (e : ∀i c,g.bP i=some c→g'.bP i=some c) {mk:List Mark} {ds:List Deferred} (h:Mk g mk ds):Mk g' mk ds:=
 bu.mono (fun _ _ q=>q.ext e) h
def Ly (P:Program) (r:Ts) (fr:Frame) (w:World) (cv:Value) (w2:World):Prop:=match r with
 |.call=>fr.leaving P w (.returned cv)∧w2=w
 |.late=>(fr.going P w (.returned cv)∧fr.kind = .deferred)∧w2=w
 |.round _=> ∀(c:Frame) (cs:List Frame),Steps P (lone fr (c::cs) w) (lone (c.finish cv) cs w2)
def cT:Option Value→Bool→FrameMode
 |none,_=> .returning
 |some v,b=> .panicking [{v:=v,recovered:=b}]
def dN (P:Program) (E:Env) (g:Gh) (c:cw) (fr:Frame) (w:World):Prop:=
 match c.todo with
 |.fin::_=>fr.fn=c.f ∧ ∃cv w2,Ly P c.st.bX fr w cv w2∧VA g w2 (look c.st.tm 0) cv∧Rel g c.st.mem w2∧dm g c.st.mem w g c.st.mem w2∧c.st.fix≤c.st.mem.length
 |.zj u::_=>fr.fn=c.f ∧ ∃cv,fr.leaving P w (.panicked [{v:=cv,recovered:=false}])∧VA g w u cv∧Rel g c.st.mem w∧c.st.fix≤c.st.mem.length
 |.hJ u::_=> ∃(b:Frame) (a:Act) (todo:List Item) (cv:Value),fr={b.atR a todo with mode:=cT (some cv) false}∧b.fn=c.f∧eJ g c.st.bX b∧Mk g c.st.cA a.defers∧cu E g c.st a w∧VA g w u cv
 |.leave::_=> ∃(b:Frame) (a:Act) (todo:List Item),fr={b.atR a todo with mode:= .returning}∧b.fn=c.f∧eJ g c.st.bX b∧(∀i,c.st.bX ≠ .round i)∧c.st.cA=[]∧a.defers=[]∧cu E g c.st a w
 |_=> ∃(b:Frame) (a:Act),fr=b.atR a (dV c.todo)∧b.fn=c.f∧eJ g c.st.bX b∧Mk g c.st.cA a.defers∧cu E g c.st a w ∧ ∀x∈c.todo,It.pl x
def eO (P:Program) (E:Env) (g:Gh) (c:cw) (fr:Frame) (w:World) (c':cw):Prop:=
 ∀cs,∃g' fr' w',Steps P (lone fr cs w) (lone fr' cs w')∧dN P E g' c' fr' w'∧dm g c.st.mem w g' c'.st.mem w'∧bJ g g' c.st.fix∧c'.f=c.f∧c'.st.fix=c.st.fix∧c'.st.bX=c.st.bX
def an (P:Program) (E:Env) (f:FuncId) (args:List AV) (m:Mem) (v:AV) (m':Mem):Prop:=
 (∃fn,P.funcs[f]? = some fn∧fn.body.isSome=true∧(fn.name == "runtime.NumGoroutine")=false) ∧
 ∀(g:Gh) (w:World) (cY:Array Value) (cs:List Frame),Rel g m w→cL g w args cY.toList→gk E g w →
  ∃w' g' cv fr,Steps P (lone (xv P f cY .normal) cs w) (lone fr cs w')∧fr.leaving P w' (.returned cv)∧fr.fn=f ∧
   VA g' w' v cv∧Rel g' m' w'∧dm g m w g' m' w'∧bJ g g' m.length∧m.length≤m'.length
def Lz (P:Program) (E:Env) (f:FuncId) (args:List AV) (m:Mem) (v:AV) (m':Mem):Prop:=
 (∃fn,P.funcs[f]? = some fn∧fn.body.isSome=true∧(fn.name == "runtime.NumGoroutine")=false) ∧
 ∀(g:Gh) (w:World) (cY:Array Value) (cs:List Frame),Rel g m w→cL g w args cY.toList→gk E g w →
  ∃w' g' cv fr,Steps P (lone (xv P f cY .normal) cs w) (lone fr cs w')∧fr.leaving P w' (.panicked [{v:=cv,recovered:=false}])∧fr.fn=f ∧
   VA g' w' v cv∧Rel g' m' w'∧dm g m w g' m' w'∧bJ g g' m.length∧m.length≤m'.length
def LA (g:Gh) (w:World):Option AV→Option Value→Prop
 |none,none=>True
 |some u,some v=>VA g w u v
 |_,_=>False
def LB (P:Program) (E:Env) (f:FuncId) (args:List AV) (m:Mem) (pv:Option AV) (m':Mem):Prop:=
 (∃fn,P.funcs[f]? = some fn∧fn.body.isSome=true∧(fn.name == "runtime.NumGoroutine")=false) ∧
 ∀(g:Gh) (w:World) (cY:Array Value) (rA:Option Value) (c0:Frame) (cs:List Frame),c0.mode=cT rA false→LA g w pv rA→Rel g m w→cL g w args cY.toList→gk E g w →
  ∃w' g' cv fr,Steps P (lone (xv P f cY .deferred) (c0::cs) w) (lone fr ({c0 with mode:=cT rA true}::cs) w')∧fr.going P w' (.returned cv)∧fr.kind = .deferred ∧
   Rel g' m' w'∧dm g m w g' m' w'∧bJ g g' m.length∧m.length≤m'.length
def Hz (P:Program) (E:Env) (args:List AV) (m:Mem) (v:AV) (m':Mem):Prop:=
 ∀(g:Gh) (w:World) (i l:Nat) (xs:List AV) (Ql:Array Value) (c:Frame) (cs:List Frame),args = .vy i::xs→Rel g m w→g.bP i=some l→cL g w xs Ql.toList→gk E g w →
  ∃f tmps as bd w' g' cv,(Instr.yield l Ql).run P w = .ok (.round l f tmps as bd) w∧Steps P (lone (Frame.round l f tmps as bd .normal) (c::cs) w) (lone (c.finish cv) cs w') ∧
   VA g' w' v cv∧Rel g' m' w'∧dm g m w g' m' w'∧bJ g g' m.length∧m.length≤m'.length
section
variable {P:Program} {E:Env} {g:Gh} {w:World}
theorem gw {st:St} {a:Act} (h:cu E g st a w) (x:Operand):VA g w (ev E st.tm x) (a.eval x):=by
 cases x with
 |tmp t=>exact h.tm t
 |const v=>exact VA.KT v
 |global i=>
  simp only[ev,Act.eval]
  cases hg:E.dg i with
  |none=>exact .p _ _ (.sc _)
  |some cs=>exact .p _ _ (h.dg i cs hg)
 |func f=>exact VA.fns.2 ⟨#[],#[],rfl,trivial,trivial⟩
theorem jM (tm:vQ) (d k:Nat) (v:AV):look ((d,v)::tm) k=if d=k then v else look tm k:=by
 simp only[look]
 by_cases h:d=k
 · subst h;simp[vt]
 · have:ae d k=false:=by rw[Bool.eq_false_iff];intro e;exact h (ai e)
   simp[this,h]
theorem cu.put {st:St} {a:Act} {g':Gh} {w':World} {m':Mem} (h:cu E g st a w) {dst:Option Tmp} {v:AV} {cv:Value} (hf:fits st dst=true) (hv:VA g' w' v cv) (he:Ext g w g' w') (hr:Rel g' m' w') (hx:st.fix≤m'.length) :
  cu E g' (Am.put {st with mem:=m'} dst v) (a.put dst cv) w':=by
 cases dst with
 |none=>exact⟨fun k=>(h.tm k).mono he,h.nt,hr,hx,h.dg.mono he.pure⟩
 |some d=>
  have hd:d<a.tmps.size:=by rw[h.nt];simpa[fits,ft] using hf
  refine⟨fun k=> ?_,by simp[Act.put,Am.put,h.nt],hr,hx,h.dg.mono he.pure⟩
  simp only[Am.put,jM,Act.put]
  by_cases hk:d=k
  · subst hk
    simp only[if_true,xr,Array.getElem?_setIfInBounds_self_of_lt hd,Option.getD_some]
    exact hv
  · simp only[hk,if_false,xr]
    rw[Array.getElem?_setIfInBounds_ne hk,←xr]
    exact(h.tm k).mono he
theorem cu.known {st:St} {a:Act} (h:cu E g st a w) {d:Nat} {v:AV} (hv:VA g w v (a.tmps.getD d undef)):cu E g (Am.put st (some d) v) a w:=by
 refine⟨fun k=> ?_,h.nt,h.rel,h.fix,h.dg⟩
 simp only[Am.put,jM]
 by_cases hk:d=k
 · subst hk;simp only[if_true];exact hv
 · simp only[hk,if_false];exact h.tm k
theorem nV {k n:Nat} (h:k<n):xi k (n-k)=k::xi (k+1) (n-(k+1)):=by
 rw[show n-k=(n-(k+1))+1 by omega,List.range'_succ]
theorem semAt_eq {o:Oper} {ro:Option Nat} {ρ:Operand→Value} {n:Next} {w':World} (hr:(execOp ρ o).run P w = .ok n w') (hn : ∀d,n ≠ .defer d):o.semAt ro ρ=execOp ρ o:=by
 unfold Oper.semAt
 cases ro with
 |none=>rfl
 |some l=>
  cases ho:o.op<;>first
   |rfl
   |(exfalso
     simp only[execOp,ho,iv] at hr
     revert hr
     cases(resolve ρ _ o.type).run P w<;>intro hr<;>simp[pk] at hr
     exact hn _ hr.1.symm)
theorem rB {b:Frame} {a:Act} {k:List Item} {cs:List Frame} {w':World} {ops:Array Oper} {i:Nat} {rest:List Nat} {o:Oper} {v:Value} (ho:ops[i]? = some o) (hw:yb o (yielded ops a.tmps)=true)
  (hr:(execOp a.eval o).run P w = .ok (.value v) w'∨((execOp a.eval o).run P w = .ok .skip w'∧v=undef)) :
  _root_.Go.step P (lone (b.atR a (.inRegion ops (i::rest)::k)) cs w) = .next (lone (b.atR (a.put o.dst v) (.inRegion ops rest::k)) cs w'):=by
 have hg:=stepGR_op (P:=P) (b:=b) (k:=k) (cs:=cs) (w:=w) (rest:=rest) ho hw
 have nW:(b.atR a (.inRegion ops (i::rest)::k)).finish v=b.atR (a.put o.dst v) (.inRegion ops rest::k):=by rw[Frame.finish_atR,ho];rfl
 refine step_lone_go ?_
 rw[hg,←nW]
 rcases hr with hr | ⟨hr,rfl⟩
 · rw[semAt_eq hr fun _ e=>by cases e];simp[stepG.apply,hr]
 · rw[semAt_eq hr fun _ e=>by cases e];simp[stepG.apply,hr]
theorem qi {b:Frame} {a:Act} {k:List Item} {cs:List Frame} {w':World} {ops:Array Oper} {i:Nat} {rest:List Nat} {o:Oper} {f:FuncId} {args:Array Value} (ho:ops[i]? = some o) (hw:yb o (yielded ops a.tmps)=true)
  (hr:(execOp a.eval o).run P w = .ok (.enter f args) w') :
  _root_.Go.step P (lone (b.atR a (.inRegion ops (i::rest)::k)) cs w) = .next (lone (xv P f args .normal) (b.atR a (.inRegion ops (i::rest)::k)::cs) w'):=by
 have hg:=stepGR_op (P:=P) (b:=b) (k:=k) (cs:=cs) (w:=w) (rest:=rest) ho hw
 exact step_lone_go (by rw[hg,semAt_eq hr fun _ e=>by cases e];simp[stepG.apply,hr,Frame.atR])
theorem oU {st:St} {a:Act} (h:cu E g st a w) {ops:Array Oper} {o:Oper} :
  (ep ops st.tm o = .yes→yb o (yielded ops a.tmps)=true)∧(ep ops st.tm o = .no→yb o (yielded ops a.tmps)=false) ∧
  (∀d b want,ep ops st.tm o = .ask d b want→yb o (yielded ops a.tmps)=(b==want)∧a.tmps.getD d undef = .bool b):=by
 unfold ep yb
 cases hg:o.guard with
 |none=>simp
 |some q=>
  obtain⟨j,want⟩:=q
  simp only[yielded]
  cases hj:ops[j]? with
  |none=>simp
  |some oj=>
   simp only[vd]
   cases hd:oj.dst with
   |none=>simp
   |some d=>
    simp only[vd]
    have hv:=h.tm d
    have lK:a.tmps.getD d undef=(a.tmps[d]?).getD undef:=by rw[xr]
    generalize hz:a.tmps.getD d undef=z at hv lK
    generalize hl:look st.tm d=x at hv
    cases hv with
    |p pv cv hp=>
     cases hp with
     |sc=>
      cases z with
      |bool b=>
       have:a.tmps[d]? = some (.bool b):=by
        cases ha:a.tmps[d]? with
        |none=>rw[ha] at lK;cases lK
        |some u=>rw[ha] at lK;simp at lK;rw[lK]
       refine⟨fun h=>(by cases h),fun h=>(by cases h),?_⟩
       rintro d' b' w' e
       cases e
       refine⟨?_,hz⟩
       simp only[this]
       cases b<;>cases want<;>rfl
      |_=>exact⟨fun h=>(by cases h),fun h=>(by cases h),fun _ _ _ h=>(by cases h)⟩
     |_=>exact⟨fun h=>(by cases h),fun h=>(by cases h),fun _ _ _ h=>(by cases h)⟩
    |au l cs hl' hh=>
     refine⟨fun h=>(by cases h),fun _=> ?_,fun _ _ _ h=>(by cases h)⟩
     cases ha:a.tmps[d]? with
     |none=>simp
     |some u=>
      rw[ha] at lK;simp at lK
      subst lK
      simp
    |_=>exact⟨fun h=>(by cases h),fun h=>(by cases h),fun _ _ _ h=>(by cases h)⟩
end
end Go.Am
end
