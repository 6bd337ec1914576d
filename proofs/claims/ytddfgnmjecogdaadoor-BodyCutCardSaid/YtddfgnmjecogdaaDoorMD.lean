import Derived.Test.YtddfgnmjecogdaaDoorMC
import Derived.WideMake
import Derived.AtR
import Derived.Recover
open Option renaming map_eq_some_iff→ja,bind_some→yv
open Prod.mk renaming injEq→kl
open Option.some renaming injEq→dk,inj→dp
open Go.Sem renaming run_bind→km,run_pure→kp,run→zd
open Go.Result renaming andThen_ok→kv,andThen→ra
open Nat renaming eq_of_beq_eq_true→a8,blt_eq→ic,lt_of_succ_lt_succ→bc,beq_refl→zr,not_lt_zero→zt,not_lt→Fs,beq→a6
open Go.Op renaming equalIn→yo,equal→yr
open Bool renaming eq_false_iff→kc,and_eq_true→di
open List renaming map_toArray→Ha,map_cons→pj,map_nil→Hb,getElem?_eq_none→ee,toArray→Hc,mem_of_getElem?→oe,getElem?_eq_some_iff→dT,pairwise_iff_getElem→Hk,append_assoc→pr,getElem?_append→Hm,getElem?_map→fe,nodup_append→Hn,foldlM_cons→H0,range'→H2,foldlM_nil→H3,nodup_cons→H4,length_set→eh
open Array renaming getD_eq_getD_getElem?→H5,toList_map→iv
open Go.Frame renaming enter→If
open Go.Region renaming wanted→Lk
section
namespace Go.Am
open Go.RowKit
section ops
variable {P:Program} {g:Gh} {m:Mem} {w:World}
theorem mG {ρ:Operand→AV} {bD:Operand→Value} (hr : ∀x,VA g w (ρ x) (bD x)) : ∀(l:List (Nat×Operand)),
  aV (fun a b=>a.1=b.1∧VA g w a.2 b.2) (l.map fun q=>(q.1,ρ q.2)) (l.map fun(i,x)=>(i,bD x))
 |[]=>trivial
 |(_,x)::l=>⟨⟨rfl,hr x⟩,mG hr l⟩
theorem fT {ρ:Operand→AV} {bD:Operand→Value} (hr : ∀x,VA g w (ρ x) (bD x)) : ∀(l:List Operand),bO g w (l.map ρ) (l.map bD)
 |[]=>trivial
 |x::l=>⟨hr x,fT hr l⟩
theorem bQ.of {h:Rel g m w} {s:Sem Value} {r:Result Next} {a:AV} (hr:r=(s.run P w).andThen fun v w'=> .ok (.value v) w') (hs : ∃v,s.run P w = .ok v w∧VA g w a v):bQ g m w r a m:=by
 obtain⟨v,h1,h2⟩:=hs
 exact bQ.quiet h (by rw[hr,h1];rfl) h2
theorem fJ {r:Option AV} {a:AV} {us:lY} {ok:Bool} (h:iO r=some (a,us,ok)):r=some a∧us=[]:=by
 simp only[iO,ja,kl] at h
 obtain⟨v,h1,rfl,rfl,_⟩:=h
 exact⟨h1,rfl⟩
theorem iz {r:Option (AV×Bool)} {a:AV} {us:lY} {ok:Bool} (h:gz r=some (a,us,ok)):r=some (a,ok)∧us=[]:=by
 simp only[gz,ja,kl] at h
 obtain⟨⟨v,b⟩,h1,rfl,rfl,rfl⟩:=h
 exact⟨h1,rfl⟩
theorem wH (h:Rel g m w) {bD:Operand→Value} {o:Oper} {aK:Nat} (hn:m[aK]? = some .free) {t:TypeId} {x:Operand} {ax a:AV} {us:lY} (hx:VA g w ax (bD x)) (ho:o.op = .range t x)
  (he:yy P aK t ax=some (a,us,true)):bQ g m w ((execOp bD o).run P w) a (apply m us):=by
 unfold yy at he
 split at he
 · rename_i s hd
   simp only[dk,kl,and_true] at he
   obtain⟨rfl,rfl⟩:=he
   rw[VA.pv] at hx
   generalize hz:bD x=z at hx
   cases hx
   obtain⟨h1,h2,h3⟩:=h.tJ (ob:= .iter s 0) (l:=[]) (vs:=[]) hn trivial (dM w (.stringIter s 0)) ⟨rfl,rfl⟩
   refine⟨.pointer (some ⟨w.heap.size,0,none⟩),_,_,.inl ?_,.mp aK 0 _ (by simp[Gh.put]),h1,h2,h3⟩
   simp[execOp,ho,hz,Instr.range,km,run_underlying hd,ra]
 · cases he
theorem yW (h:Rel g m w) {bD:Operand→Value} {o:Oper} {x:Operand} {s:Bool} {ax a:AV} {us:lY} (hx:VA g w ax (bD x)) (ho:o.op = .next x s)
  (he:BG (fun i=>m.getD i .dead) ax s=some (a,us,true)):bQ g m w ((execOp bD o).run P w) a (apply m us):=by
 cases s with
 |false=>cases he
 |true=>
  simp only[BG] at he
  split at he
  · rename_i b
    split at he
    · rename_i str pos l hb
      have hib:=getD_some hb (by simp)
      obtain⟨c,ob,vs,k1,k2,k3,k4,_⟩:=h.obs b _ _ hib
      obtain⟨rfl,rfl⟩:=k4
      generalize hz:bD x=z at hx
      cases hx with
      |mp _ _ c' hc=>
       rw[k1] at hc;cases hc
       have mH:(getObj c).run P w = .ok (.stringIter str pos) w:=by simp[getObj,zd,k2]
       split at he
       · rename_i hlt
         rw[ic] at hlt
         generalize JT:Utf8.decode str pos=q at he
         obtain⟨cc,width⟩:=q
         simp only[dk,kl,and_true] at he
         obtain⟨rfl,rfl⟩:=he
         obtain⟨e1,e2,e3⟩:=cw w (o':= .stringIter str (pos+width)) k2
         obtain⟨r1,r2,r3⟩:=h.eM (wh:= .iter str (pos+width)) (l':=[]) (vs':=[]) hib k1 e1 e2 rfl rfl rfl e3 ⟨rfl,rfl⟩ trivial
         have sK:(setObj c (.stringIter str (pos+width))).run P w = .ok () {w with heap:=w.heap.setIfInBounds c (.stringIter str (pos+width))}:=by simp[setObj,zd,k2]
         refine⟨.tuple #[.bool true,goInt pos,.int .i32 cc],_,g,.inl ?_,VA.iR.2 ⟨.p _ _ (.sc _),.p _ _ (.sc _),.p _ _ (.sc _),trivial⟩,r1,r2,r3⟩
         simp only[execOp,ho,hz,Instr.next,km,mH,kv,hlt,if_true,JT,sK,kp]
       · rename_i hlt
         have hlt' : ¬pos<str.size:=fun q=>by rw[←ic] at q;rw[q] at hlt;cases hlt
         simp only[dk,kl,and_true] at he
         obtain⟨rfl,rfl⟩:=he
         refine bQ.quiet h (v:= .tuple #[.bool false]) ?_ (VA.iR.2 ⟨.p _ _ (.sc _),trivial⟩)
         simp only[execOp,ho,hz,Instr.next,km,mH,kv,hlt',if_false,kp]
    · rename_i str pos more l hb
      have hib:=getD_some hb (by simp)
      obtain⟨c,ob,vs,k1,k2,k3,k4,_⟩:=h.obs b _ _ hib
      obtain⟨rfl,rfl,k5⟩:=k4
      generalize hz:bD x=z at hx
      cases hx with
      |mp _ _ c' hc=>
       rw[k1] at hc;cases hc
       have mH:(getObj c).run P w = .ok (.stringIter str pos) w:=by simp[getObj,zd,k2]
       split at he
       · have hlt:pos<str.size:=by rw[ic] at k5;exact k5
         generalize JT:Utf8.decode str pos=q at he
         obtain⟨cc,width⟩:=q
         simp only[dk,kl,and_true] at he
         obtain⟨rfl,rfl⟩:=he
         obtain⟨e1,e2,e3⟩:=cw w (o':= .stringIter str (pos+width)) k2
         obtain⟨r1,r2,r3⟩:=h.eM (wh:= .iter str (pos+width)) (l':=[]) (vs':=[]) hib k1 e1 e2 rfl rfl rfl e3 ⟨rfl,rfl⟩ trivial
         have sK:(setObj c (.stringIter str (pos+width))).run P w = .ok () {w with heap:=w.heap.setIfInBounds c (.stringIter str (pos+width))}:=by simp[setObj,zd,k2]
         refine⟨.tuple #[.bool true,goInt pos,.int .i32 cc],_,g,.inl ?_,VA.iR.2 ⟨.p _ _ (.sc _),.p _ _ (.sc _),.p _ _ (.sc _),trivial⟩,r1,r2,r3⟩
         simp only[execOp,ho,hz,Instr.next,km,mH,kv,hlt,if_true,JT,sK,kp]
       · have hlt' : ¬pos<str.size:=fun q=>by rw[←ic,k5] at q;cases q
         simp only[dk,kl,and_true] at he
         obtain⟨rfl,rfl⟩:=he
         refine bQ.quiet h (v:= .tuple #[.bool false]) ?_ (VA.iR.2 ⟨.p _ _ (.sc _),trivial⟩)
         simp only[execOp,ho,hz,Instr.next,km,mH,kv,hlt',if_false,kp]
    · cases he
  · cases he
theorem wI {ρ:Operand→AV} {bD:Operand→Value} (hr : ∀x,VA g w (ρ x) (bD x)) {o:Oper} {op:BinOp} {t yt:TypeId} {x y:Operand} {l c:Nat} (hy:bD y = .slice none l c) (ho:o.op = .binOp op t x y yt) {a:AV} {us:lY} {ok:Bool} (he:tC P op t (ρ x)=some (a,us,ok)) :
  us=[] ∧ ∃v,(execOp bD o).run P w = .ok (.value v) w∧VA g w a v:=by
 unfold tC at he
 split at he
 · rename_i e hd
   have key : ∀{b:Bool},xd (ρ x)=some b→(∀op':BinOp,(eqGuard op' t x y (bD x) (bD y)).run P w = .ok () w)∧(yr t (bD x) (bD y)).run P w = .ok b w ∧ ∀op',op' = .eql∨op' = .neq→binOp op' t (bD x) (bD y)=(do let r ←yr t (bD x) (bD y);pure (.bool (if op' = .eql then r else !r)):Sem Value):=by
    intro b hb
    obtain⟨ad,len,cap,hx,hn⟩:=rT (hr x) hb
    rw[hx,hy]
    refine⟨fun op'=>by unfold eqGuard;cases op'<;>rfl,?_,fun op' hop=>by rcases hop with rfl | rfl<;>rfl⟩
    show(yo (9999+1) t _ _).run P w = .ok b w
    rw[yo];simp only[km,run_underlying hd,kv]
    subst hn
    cases ad<;>rfl
   split at he
   · rename_i b hb
     obtain⟨k1,k2,k3⟩:=key hb
     simp only[dk,kl] at he
     obtain⟨rfl,rfl,_⟩:=he
     refine⟨rfl,.bool b,?_,.p _ _ (.sc _)⟩
     simp only[execOp,ho,km,k1,kv,k3 _ (.inl rfl),k2,kp]
     rfl
   · rename_i b hb
     obtain⟨k1,k2,k3⟩:=key hb
     simp only[dk,kl] at he
     obtain⟨rfl,rfl,_⟩:=he
     refine⟨rfl,.bool (!b),?_,.p _ _ (.sc _)⟩
     simp only[execOp,ho,km,k1,kv,k3 _ (.inr rfl),k2,kp]
     rfl
   · cases he
 · cases he
theorem yX {ρ:Operand→AV} {bD:Operand→Value} (hr : ∀x,VA g w (ρ x) (bD x)) (hc : ∀v,bD (.const v)=v) {o:Oper} (h:BH P ρ o=true) :
  ∃b:Bool,(execOp bD o).run P w = .ok (.value (.bool b)) w:=by
 unfold BH at h
 split at h
 · rename_i op t x y yt ho
   simp only[di] at h
   obtain⟨h1,h2,h3,h4⟩:=h
   obtain⟨l,c,rfl⟩ : ∃l c,y = .const (.slice none l c):=by
    unfold qv at h1
    split at h1
    · exact⟨_,_,rfl⟩
    · cases h1
   obtain⟨e,hd⟩ : ∃e,P.underlying t=some (.slice e):=by
    unfold zU at h4
    split at h4
    · exact⟨_,by assumption⟩
    · cases h4
   obtain⟨ad,len,cap,hx⟩ : ∃ad len cap,bD x = .slice ad len cap:=by
    have hv:=hr x
    generalize bD x=Sn at hv ⊢
    have key : ∀{n sz:Nat} {cs:List PV} {cx:Value},VP g w (.ps n sz cs) cx → ∃ad len cap,cx = .slice ad len cap:=by
     intro n sz cs cx hx
     cases hx with
     |ps _ _ _ b o cap f hl hc hz hp hv=>exact⟨_,_,_,rfl⟩
     |lU sz a cap hz=>exact⟨_,_,_,rfl⟩
    unfold zT at h3
    split at h3
    · rename_i e
      rw[e,VA.pv] at hv
      exact key hv
    · rename_i e
      rw[e] at hv
      cases hv with
      |os _ _ _ _ a cap hx hr=>exact key hx
    · cases h3
   have hy:=hc (.slice none l c)
   have g1 : ∀op':BinOp,(eqGuard op' t x (.const (.slice none l c)) (bD x) (bD (.const (.slice none l c)))).run P w = .ok () w:=by
    intro op'
    rw[hx,hy]
    unfold eqGuard
    cases op'<;>rfl
   have g2:(yr t (bD x) (bD (.const (.slice none l c)))).run P w = .ok ad.isNone w:=by
    rw[hx,hy]
    show(yo (9999+1) t _ _).run P w = .ok ad.isNone w
    rw[yo];simp only[km,run_underlying hd,kv]
    cases ad<;>rfl
   have g3 : ∀op',op' = .eql∨op' = .neq→binOp op' t (bD x) (bD (.const (.slice none l c)))=(do let r ←yr t (bD x) (bD (.const (.slice none l c)));pure (.bool (if op' = .eql then r else !r)):Sem Value):=by
    intro op' hop
    rw[hx,hy]
    rcases hop with rfl | rfl<;>rfl
   have hop:op = .eql∨op = .neq:=by
    unfold Jk at h2
    split at h2
    · exact .inl rfl
    · exact .inr rfl
    · cases h2
   rcases hop with rfl | rfl
   · refine⟨ad.isNone,?_⟩
     simp only[execOp,ho,km,g1,kv,g3 _ (.inl rfl),g2,kp]
     rfl
   · refine⟨!ad.isNone,?_⟩
     simp only[execOp,ho,km,g1,kv,g3 _ (.inr rfl),g2,kp]
     rfl
 · cases h
theorem JU (x y:Int):(if y<x then y else x)=min x y:=by
 rcases Int.lt_or_le y x with h | h
 · rw[if_pos h];omega
 · rw[if_neg (by omega)];omega
theorem JV (x y:Int):(if y>x then y else x)=max x y:=by
 rcases Int.lt_or_le x y with h | h
 · rw[if_pos h];omega
 · rw[if_neg (by omega)];omega
theorem xE {ρ:Operand→AV} {bD:Operand→Value} (hr : ∀x,VA g w (ρ x) (bD x)) {mn:Bool} {l:List Operand} {v:AV} (h:DE mn (l.map ρ)=some v) :
  ∃cx cy k k' x y,l=[cx,cy]∧bD cx = .int k x∧bD cy = .int k' y∧v = .p (.sc (.int k (cond mn (min x y) (max x y)))):=by
 match l,h with
 |[cx,cy],h=>
  have h1:=hr cx
  have h2:=hr cy
  simp only[pj,Hb] at h
  generalize ρ cx=ax at h h1
  generalize ρ cy=ay at h h2
  unfold DE at h
  split at h
  · rename_i k a k' b heq
    simp only[List.cons.injEq,and_true] at heq
    obtain⟨rfl,rfl⟩:=heq
    simp only[dk] at h
    rw[VA.pv] at h1 h2
    generalize eL:bD cx=c1 at h1
    generalize eS:bD cy=c2 at h2
    cases h1;cases h2
    exact⟨cx,cy,k,k',a,b,rfl,eL,eS,h.symm⟩
  · cases h
 |[],h=>simp[DE] at h
 |[_],h=>simp[DE] at h
 |_::_::_::_,h=>simp[DE] at h
theorem nA (h:Rel g m w) {ρ:Operand→AV} {bD:Operand→Value} (hr : ∀x,VA g w (ρ x) (bD x)) (hrc : ∀v,bD (.const v)=v) {o:Oper} {aK:Nat} (hn:makes o=true→m[aK]? = some .free) {wr:Bool} {a:AV} {us:lY}
  (he:rI P (fun i=>m.getD i .dead) wr aK ρ o=some (a,us,true)):bQ g m w ((execOp bD o).run P w) a (apply m us):=by
 have he' : ∀y,qv y=true → ∃l c,bD y = .slice none l c:=by
  intro y hy
  unfold qv at hy
  split at hy
  · exact⟨_,_,hrc _⟩
  · cases hy
 have hmk : ∀{b:Bool},makes o=b→b=true→m[aK]? = some .free:=fun e e'=>hn (e.trans e')
 unfold rI at he
 split at he
 · rename_i x ho
   simp only[dk,kl,and_true] at he
   obtain⟨rfl,rfl⟩:=he
   exact bQ.quiet h (v:=bD x) (by simp[execOp,ho]) (hr x)
 · rename_i x ho
   simp only[dk,kl,and_true] at he
   obtain⟨rfl,rfl⟩:=he
   exact bQ.quiet h (v:=bD x) (by simp[execOp,ho]) (hr x)
 · rename_i c x y ho
   split at he
   · rename_i t hc
     simp only[dk,kl,and_true] at he
     obtain⟨rfl,rfl⟩:=he
     have hb:bD c = .bool t:=by have:=hr c;rw[hc,VA.pv] at this;generalize bD c=z at this;cases this;rfl
     cases t
     · exact bQ.quiet h (v:=bD y) (by simp[execOp,ho,hb,asBool]) (hr y)
     · exact bQ.quiet h (v:=bD x) (by simp[execOp,ho,hb,asBool]) (hr x)
   · cases he
 · rename_i t ho
   split at he
   · exact uD h (hmk (by simp only[makes,ho]) rfl) he ho
   · exact wz h (hmk (by simp only[makes,ho]) rfl) he (ty:=0) (pos:= "") ho rfl rfl
 · rename_i t x ho
   exact Ao h (hmk (by simp only[makes,ho]) rfl) (hr x) he (t:=t) (by simp[execOp,ho,Instr.box,newVar,newRow])
 · rename_i t parts ho
   obtain⟨h1,rfl⟩:=iz he
   refine bQ.of (h:=h) (s:=Instr.build t (parts.map fun(i,x)=>(i,bD x))) (P:=P) (by simp only[execOp,ho,km,kp]) (wu h1 ?_)
   rw[iv];exact mG hr parts.toList
 · rename_i t len parts ho
   have:=oq (jm:=parts.map fun(i,x)=>(i,bD x)) h (hmk (by simp only[makes,ho]) rfl) he (by rw[iv];exact mG hr parts.toList)
   simpa only[execOp,ho] using this
 · rename_i t x ho
   obtain⟨h1,rfl⟩:=iz he
   obtain⟨c,o',cv,k1,k2,k3⟩:=pe h (hr x) h1
   exact bQ.quiet h (v:=cv) (by simp[execOp,ho,Instr.loadAt,k1,Instr.sureAddr,k2]) k3
 · rename_i t x v ho
   obtain⟨w',k1,rfl,k2,k3,k4⟩:=wv h (hr x) (hr v) he
   exact⟨undef,w',g,.inr ⟨by simp[execOp,ho,k1],rfl⟩,VA.iR.2 trivial,k2,k3,k4⟩
 · rename_i x ho
   obtain⟨h1,rfl⟩:=fJ he
   obtain⟨v,k1,k2⟩:=qx hr ho h1
   exact bQ.quiet h k1 k2
 · rename_i op t x y yt ho
   split at he
   · rename_i hy
     obtain⟨l,c,Oo⟩:=he' y hy
     obtain⟨rfl,v,k1,k2⟩:=wI hr Oo ho he
     exact bQ.quiet h k1 k2
   · split at he
     · obtain⟨rfl,v,k1,k2⟩:=Av hr ho he
       exact bQ.quiet h k1 k2
     · split at he
       · rename_i hsame
         obtain⟨rfl,v,k1,k2⟩:=sO hr ho hsame he
         exact bQ.quiet h k1 k2
       · obtain⟨h1,rfl⟩:=iz he
         obtain⟨v,k1,k2⟩:=wq hr ho h1
         exact bQ.quiet h k1 k2
 · rename_i t x ho
   exact wH h (hmk (by simp only[makes,ho]) rfl) (hr x) ho he
 · rename_i x s ho
   exact yW h (hr x) ho he
 · rename_i t ho
   have fin : ∀ob:fF,ob.is (.map #[] 0) []→ob.room (.map #[] 0) 0→some (AV.vm aK,[(aK,aF.ob ob [])],true)=some (a,us,true)→bQ g m w ((execOp bD o).run P w) a (apply m us):=by
    intro ob QW hroom he
    simp only[dk,kl,and_true] at he
    obtain⟨rfl,rfl⟩:=he
    obtain⟨h1,h2,h3⟩:=h.tJ (ob:=ob) (l:=[]) (vs:=[]) (hmk (by simp only[makes,ho]) rfl) trivial (dM w (.map #[] 0)) QW hroom
    exact⟨.map (some w.heap.size),_,_,.inl (by simp[execOp,ho,run_makeMap_plain,ra]),.vm aK _ (by simp[Gh.put]),h1,h2,h3⟩
   split at he
   · unfold uc at he
     split at he
     · exact fin (.smap []) ⟨rfl,[],0,rfl,rfl⟩ trivial he
     · cases he
   unfold w8 at he
   split at he
   · split at he
     · exact fin (.yj []) ⟨_,_,[],rfl,rfl,rfl,.refl _⟩ trivial he
     · exact fin (.map [] [] 0) rfl trivial he
   · exact fin (.map [] [] 0) rfl trivial he
 · rename_i t x i ok ho
   obtain⟨h1,rfl⟩:=fJ he
   exact bQ.of (h:=h) (s:=Instr.lookup t (bD x) (bD i) ok) (P:=P) (by simp only[execOp,ho,km,kp]) (yT h (hr x) (hr i) h1)
 · rename_i t x k v ho
   obtain⟨w',k1,rfl,k2,k3,k4⟩:=rQ h (hr x) (hr k) (hr v) he
   exact⟨undef,w',g,.inr ⟨by simp[execOp,ho,k1],rfl⟩,VA.iR.2 trivial,k2,k3,k4⟩
 · rename_i t x k v ho
   obtain⟨w',k1,rfl,k2,k3,k4⟩:=rQ h (hr x) (hr k) (hr v) he
   exact⟨undef,w',g,.inr ⟨by simp[execOp,ho,k1],rfl⟩,VA.iR.2 trivial,k2,k3,k4⟩
 · rename_i op t x ho
   obtain⟨h1,rfl⟩:=iz he
   obtain⟨v,k1,k2⟩:=yJ hr ho h1
   exact bQ.quiet h k1 k2
 · rename_i src dst x ho
   exact sL h (hmk (by simp only[makes,ho]) rfl) hr ho he
 · rename_i t x ho
   obtain⟨h1,rfl⟩:=fJ he
   exact bQ.of (h:=h) (s:=Instr.makeInterface t (bD x)) (P:=P) (by simp only[execOp,ho,km,kp]) (pF h1 (hr x))
 · rename_i f first captured ho
   simp only[dk,kl,and_true] at he
   obtain⟨rfl,rfl⟩:=he
   refine bQ.quiet h (v:= .func f (first.map bD) (captured.map bD)) (by simp[execOp,ho,Instr.makeFunc]) (VA.fns.2 ⟨_,_,rfl,?_,?_⟩)
   · rw[iv];exact fT hr _
   · rw[iv];exact fT hr _
 · rename_i t l c ho
   split at he
   · have:=qB h (hr l) (hr c) he
     simpa only[execOp,ho] using this
   · have:=pG h (hmk (by simp only[makes,ho]) rfl) (hr l) (hr c) he
     simpa only[execOp,ho] using this
 · rename_i t x lo hi mx ho
   obtain⟨h1,rfl⟩:=iz he
   exact bQ.of (h:=h) (s:=Instr.sliceAt t (bD x) (lo.map bD) (hi.map bD) (mx.map bD)) (P:=P) (by simp only[execOp,ho,km,kp]) (wm hr h1 (hr x))
 · rename_i t x f ho
   obtain⟨h1,rfl⟩:=fJ he
   exact bQ.of (h:=h) (s:=Instr.fieldAt t (bD x) f) (P:=P) (by simp only[execOp,ho,km,kp]) (pg h1 (hr x))
 · rename_i t x f ho
   obtain⟨h1,rfl⟩:=iz he
   exact bQ.of (h:=h) (s:=Instr.field t (bD x) f) (P:=P) (by simp only[execOp,ho,km,kp]) (wj h1 (hr x))
 · rename_i t x i ho
   obtain⟨h1,rfl⟩:=iz he
   exact bQ.of (h:=h) (s:=Instr.indexAt t (bD x) (bD i)) (P:=P) (by simp only[execOp,ho,km,kp]) (pz h1 (hr x) (hr i))
 · rename_i t x i ho
   obtain⟨h1,rfl⟩:=iz he
   exact bQ.of (h:=h) (s:=Instr.index t (bD x) (bD i)) (P:=P) (by simp only[execOp,ho,km,kp]) (wk h1 (hr x) (hr i))
 · rename_i x i ho
   split at he
   · rename_i vs hx
     obtain⟨h1,rfl⟩:=fJ he
     have hv:=hr x
     rw[hx] at hv
     generalize hz:bD x=z at hv
     cases hv with
     |bn _ cs hl hh=>
      obtain⟨b,hb,hv⟩:=aV.get? (aV.cP hl hh) h1
      exact bQ.quiet h (v:=b) (by simp only[execOp,ho,hz,Instr.extract];simp at hb;simp[hb]) hv
   · cases he
 · rename_i x xt t ok ho
   obtain⟨h1,rfl⟩:=fJ he
   obtain⟨cv,k1,k2⟩:=uJ (xt:=xt) h1 (hr x)
   exact bQ.quiet h (v:=cv) (by simp only[execOp,ho,km,k1,kv,kp]) k2
 · rename_i c ho
   split at he
   · rename_i s x hc ha
     have jD:c.args = #[s,x]:=by have:=congrArg Hc ha;simpa using this
     have L9:makes o=true:=by simp only[makes,ho,hc]
     split at he
     · have:=uS (ty:=o.type) h (hn L9) (rR (hr s)) (hr x) he
       simpa only[execOp,ho,resolve,hc,jD,km,kp,kv,invoke,builtin,Ha,pj,Hb] using this
     · have:=uE (ty:=o.type) h (hn L9) (rR (hr s)) (hr x) he
       simpa only[execOp,ho,resolve,hc,jD,km,kp,kv,invoke,builtin,Ha,pj,Hb] using this
   · rename_i d s hc ha
     have jD:c.args = #[d,s]:=by have:=congrArg Hc ha;simpa using this
     have:=yO (ty:=o.type) h (hr d) (hr s) he
     simpa only[execOp,ho,resolve,hc,jD,km,kp,kv,invoke,builtin,Ha,pj,Hb] using this
   · rename_i x hc ha
     have jD:c.args = #[x]:=by have:=congrArg Hc ha;simpa using this
     obtain⟨h1,rfl⟩:=fJ he
     refine bQ.of (h:=h) (s:=Builtin.len_ c.argTypes o.type #[bD x]) (P:=P) ?_ (Ah h1 (hr x))
     simp only[execOp,ho,resolve,hc,jD,km,kp,kv,invoke,builtin,Ha,pj,Hb]
   · rename_i x hc ha
     have jD:c.args = #[x]:=by have:=congrArg Hc ha;simpa using this
     obtain⟨h1,rfl⟩:=fJ he
     refine bQ.of (h:=h) (s:=Builtin.cap_ c.argTypes o.type #[bD x]) (P:=P) ?_ (Ai h1 (hr x))
     simp only[execOp,ho,resolve,hc,jD,km,kp,kv,invoke,builtin,Ha,pj,Hb]
   · rename_i x hc ha
     have jD:c.args = #[x]:=by have:=congrArg Hc ha;simpa using this
     obtain⟨rfl,v,k1,k2⟩:=pK (P:=P) (ts:=c.argTypes) (ty:=o.type) (hr x) he
     refine bQ.quiet h (v:=v) ?_ k2
     simp only[execOp,ho,resolve,hc,jD,km,kp,kv,invoke,builtin,Ha,pj,Hb,k1]
   · rename_i x n hc ha
     have jD:c.args = #[x,n]:=by have:=congrArg Hc ha;simpa using this
     have:=mF (ty:=o.type) h (hr x) (hr n) he
     simpa only[execOp,ho,resolve,hc,jD,km,kp,kv,invoke,builtin,Ha,pj,Hb] using this
   · rename_i hc
     obtain⟨h1,rfl⟩:=fJ he
     unfold jg at h1
     split at h1
     · rename_i v hm
       simp only[dk] at h1;subst h1
       obtain⟨cx,cy,k,k',x,y,ha,e1,e2,rfl⟩:=xE hr hm
       have jD:c.args = #[cx,cy]:=by have:=congrArg Hc ha;simpa using this
       refine bQ.quiet h (v:= .int k (min x y)) ?_ (.p _ _ (.sc _))
       simp only[execOp,ho,resolve,hc,jD,km,kp,kv,invoke,builtin,Ha,pj,Hb,e1,e2,Builtin.min_,H0,H3,Builtin.min2,JU]
     · obtain⟨v,k1,k2⟩:=ej hr (fun _ _=>by rw[ho];exact fun e=>by cases e) h1
       exact bQ.quiet h k1 k2
   · rename_i hc
     obtain⟨h1,rfl⟩:=fJ he
     unfold jg at h1
     split at h1
     · rename_i v hm
       simp only[dk] at h1;subst h1
       obtain⟨cx,cy,k,k',x,y,ha,e1,e2,rfl⟩:=xE hr hm
       have jD:c.args = #[cx,cy]:=by have:=congrArg Hc ha;simpa using this
       refine bQ.quiet h (v:= .int k (max x y)) ?_ (.p _ _ (.sc _))
       simp only[execOp,ho,resolve,hc,jD,km,kp,kv,invoke,builtin,Ha,pj,Hb,e1,e2,Builtin.max_,H0,H3,Builtin.max2,JV]
     · obtain⟨v,k1,k2⟩:=ej hr (fun _ _=>by rw[ho];exact fun e=>by cases e) h1
       exact bQ.quiet h k1 k2
   · cases he
 · cases he
end ops
structure cN (ρ:Nat→Option Nat) (g g':Gh):Prop where
 at' : ∀i k,ρ i=some k→g'.aN k=g.aN i∧g'.lo k=g.lo i∧g'.hi k=g.hi i
 pure:g'.pure=g.pure
theorem VP.BS {g g':Gh} {w:World} (h:g'.pure=g.pure) {v:PV} {cv:Value} (hv:VP g w v cv):VP g' w v cv:=hv.mono fun c o p=>⟨by rw[h];exact p,rfl⟩
theorem dH (ρ:Nat→Option Nat) : ∀l:List AV,(ef ρ l).length=l.length
 |[]=>rfl
 |a::l=>by simp[ef,dH ρ l]
theorem mI (ρ:Nat→Option Nat) : ∀(l:List AV) (i:Nat) (h:i<(ef ρ l).length) (h':i<l.length),(ef ρ l)[i]=jh ρ l[i]
 |_::_,0,_,_=>rfl
 |_::l,i+1,h,h'=>mI ρ l i (bc h) (bc h')
 |[],_,_,h'=>absurd h' (zt _)
theorem VA.jh {ρ:Nat→Option Nat} {g g':Gh} {w:World} (hr:cN ρ g g') {a:AV} {v:Value} (h:VA g w a v):VA g' w (Am.jh ρ a) v:=by
 induction h with
 |af v=>exact .af v
 |p v cv h=>exact .p v cv (h.BS hr.pure)
 |os tok len sz cells a cap h ht=>
  have h':=h.BS hr.pure
  cases tok with
  |none=>exact .os none len sz cells a cap h' (ht.imp id fun⟨t,_,_,e,_⟩=>by cases e)
  |some t=>
   simp only[Am.jh]
   cases hρ:ρ t with
   |none=>exact .p _ _ h'
   |some k=>
    obtain⟨e1,e2,e3⟩:=hr.at' t k hρ
    refine .os (some k) len sz cells a cap h' (ht.imp id ?_)
    rintro ⟨t',b,o,e,rfl,q1,q2,q3,q4⟩
    cases e
    exact⟨k,b,o,rfl,rfl,e1.trans q1,e2.trans q2,e3.trans q3,q4⟩
 |mp b off c h=>
  simp only[Am.jh]
  cases hρ:ρ b with
  |none=>exact .af _
  |some k=>exact .mp k off c ((hr.at' b k hρ).1.trans h)
 |ms b off len sz cap c h hc=>
  simp only[Am.jh]
  cases hρ:ρ b with
  |none=>exact .af _
  |some k=>exact .ms k off len sz cap c ((hr.at' b k hρ).1.trans h) hc
 |mg b off len sz cap c h hc hh=>
  simp only[Am.jh]
  cases hρ:ρ b with
  |none=>exact .af _
  |some k=>exact .mg k off len sz cap c ((hr.at' b k hρ).1.trans h) hc (by rw[(hr.at' b k hρ).2.2];exact hh)
 |vm b c h=>
  simp only[Am.jh]
  cases hρ:ρ b with
  |none=>exact .af _
  |some k=>exact .vm k c ((hr.at' b k hρ).1.trans h)
 |vy b c h=>
  simp only[Am.jh]
  cases hρ:ρ b with
  |none=>exact .af _
  |some k=>exact .vy k c ((hr.at' b k hρ).1.trans h)
 |fn f l k fa ca hl hk h h2 ih ih2=>
  simp only[Am.jh]
  exact .fn f _ _ fa ca (by rw[dH];exact hl) (by rw[dH];exact hk)
   (fun i a b=>by rw[mI ρ l i a (by rwa [dH] at a)];exact ih i _ b) (fun i a b=>by rw[mI ρ k i a (by rwa [dH] at a)];exact ih2 i _ b)
 |agg l cs hl h ih=>
  simp only[Am.jh]
  exact .agg _ cs (by rw[dH];exact hl) (fun i a b=>by rw[mI ρ l i a (by rwa [dH] at a)];exact ih i _ b)
 |bn l cs hl h ih=>
  simp only[Am.jh]
  exact .bn _ cs (by rw[dH];exact hl) (fun i a b=>by rw[mI ρ l i a (by rwa [dH] at a)];exact ih i _ b)
 |jF t v cv h ih=>exact .jF t _ cv ih
theorem bO.jh {ρ:Nat→Option Nat} {g g':Gh} {w:World} (hr:cN ρ g g') : ∀{l:List AV} {vs:List Value},bO g w l vs→bO g' w (ef ρ l) vs
 |[],[],_=>trivial
 |_::_,_::_,h=>⟨h.1.jh hr,bO.jh hr h.2⟩
 |[],_::_,h=>h.elim
 |_::_,[],h=>h.elim
theorem bO.dZ {ρ:Nat→Option Nat} {g g':Gh} {w:World} (hr:cN ρ g g') : ∀{l:List AV} {vs:List Value},bO g w l vs→bO g' w (l.map dZ) vs
 |[],[],_=>trivial
 |a::_,_::_,h=>⟨by
   cases a with
   |p v=>exact h.1.jh hr
   |_=>exact .af _,bO.dZ hr h.2⟩
 |[],_::_,h=>h.elim
 |_::_,[],h=>h.elim
theorem bO.Jo {ρ:Nat→Option Nat} {g g':Gh} {w:World} (hr:cN ρ g g') {l l':List AV} {vs:List Value} (h:bO g w l vs) (hl:l'=ef ρ l∨l'=l.map Am.dZ):bO g' w l' vs:=by
 rcases hl with rfl | rfl
 · exact h.jh hr
 · exact bO.dZ hr h
theorem Fe (ρ:Nat→Option Nat) : ∀l:List PV,ef ρ (l.map .p)=l.map .p
 |[]=>rfl
 |v::l=>by simp[ef,Am.jh,Fe ρ l]
theorem DM (ρ:Nat→Option Nat) (k:fF) (vals:List AV) : ∃l,gj ρ (.ob k vals) = .ob k l:=by
 cases k with
 |gr t q=>cases q<;>exact⟨_,rfl⟩
 |_=>exact⟨_,rfl⟩
theorem uT {ρ:Nat→Option Nat} {b:aF} {l':List AV} (h:(gj ρ b).cells?=some l') : ∃l,b.cells?=some l∧l'=ef ρ l:=by
 cases b with
 |pc l=>simp only[gj,aF.cells?,dk] at h;exact⟨_,rfl,by rw[Fe];exact h.symm⟩
 |ac l=>simp only[gj,aF.cells?,dk] at h;exact⟨l,rfl,h.symm⟩
 |ob k vals=>
  obtain⟨l0,e⟩:=DM ρ k vals
  rw[e] at h
  cases h
 |_=>simp[gj,aF.cells?] at h
theorem kC {ρ:Nat→Option Nat} {b:aF}:(gj ρ b).bU=b.bU:=by unfold gj;split<;>rfl
theorem CR {ρ:Nat→Option Nat} {b:aF} {k:fF} {l:List AV} (h:gj ρ b = .ob k l) : ∃l0,b = .ob k l0∧(l=ef ρ l0∨l=l0.map dZ):=by
 unfold gj at h
 split at h<;>cases h
 · exact⟨_,rfl,.inr rfl⟩
 · exact⟨_,rfl,.inr rfl⟩
 · exact⟨_,rfl,.inl rfl⟩
 · rename_i hne
   exact(hne _ _ rfl).elim
theorem qE {ρ:Nat→Option Nat} {b:aF} (h:gj ρ b = .free):b = .free:=by unfold gj at h;split at h<;>first | exact h | cases h
theorem AA {ρ:Nat→Option Nat} {b:aF} (h:gj ρ b = .tok):b = .tok:=by unfold gj at h;split at h<;>first | exact h | cases h
theorem CS {ord:List Nat} {i k:Nat} (h:idx ord i=some k):ord[k]? = some i:=by
 induction ord generalizing k with
 |nil=>simp[idx] at h
 |cons j ord ih=>
  simp only[idx] at h
  cases hb:a6 i j with
  |true=>simp only[hb,cond_true,dk] at h;subst h;rw[a8 hb];rfl
  |false=>
   simp only[hb,cond_false,ja] at h
   obtain⟨k',h1,rfl⟩:=h
   exact ih h1
def Gh.pack (g:Gh) (ord:List Nat):Gh where
 aN k:=(ord[k]?).bind g.aN
 lo k:=match ord[k]? with | some i=>g.lo i | none=>0
 hi k:=match ord[k]? with | some i=>g.hi i | none=>0
 pure:=g.pure
theorem cN.pack (g:Gh) (ord:List Nat):cN (idx ord) g (g.pack ord):=
 ⟨fun i k h=>by have:=CS h;simp[Gh.pack,this],rfl⟩
theorem jt {m:Mem} {ord:List Nat} {k:Nat} {b:aF} (h:(pack m ord)[k]? = some b) : ∃i,ord[k]? = some i∧b=gj (idx ord) (m.getD i .dead):=by
 simp only[pack,fe,ja] at h
 obtain⟨i,h1,h2⟩:=h
 exact⟨i,h1,h2.symm⟩
theorem BT {m:Mem} {i:Nat} {l:List AV} (h:(m.getD i .dead).cells?=some l):m[i]? = some (m.getD i .dead):=
 getD_some rfl fun e=>by rw[e] at h;cases h
theorem xF {m:Mem} {i:Nat} (h:(m.getD i .dead).bU=true):m[i]? = some (m.getD i .dead):=
 getD_some rfl fun e=>by rw[e] at h;cases h
theorem DN {l:List Nat} (h:l.Nodup) {j k i:Nat} (hj:l[j]? = some i) (hk:l[k]? = some i):j=k:=by
 obtain⟨a,ha⟩:=dT.1 hj
 obtain⟨b,hb⟩:=dT.1 hk
 rcases Nat.lt_trichotomy j k with q | q | q
 · exact absurd (ha.trans hb.symm) (Hk.1 h j k a b q)
 · exact q
 · exact absurd (hb.trans ha.symm) (Hk.1 h k j b a q)
theorem Rel.pack {g:Gh} {m:Mem} {w:World} (h:Rel g m w) {ord:List Nat} (hnd:ord.Nodup) :
  Rel (g.pack ord) (Am.pack m ord) w∧(∀c,cj (g.pack ord) (Am.pack m ord) c→cj g m c):=by
 have own : ∀k b c,(Am.pack m ord)[k]? = some b→b.bU=true→(g.pack ord).aN k=some c → ∃i,ord[k]? = some i∧m[i]? = some (m.getD i .dead)∧(m.getD i .dead).bU=true∧g.aN i=some c:=by
  intro k b c hk ho hc
  obtain⟨i,h1,rfl⟩:=jt hk
  rw[kC] at ho
  exact⟨i,h1,xF ho,ho,by simpa[Gh.pack,h1] using hc⟩
 refine⟨⟨fun k hk=> ?_,fun k hk=> ?_,fun k b l hk hl=> ?_,fun k c hk hc=> ?_,fun j k b b' c hj hk ho ho' hc dx=> ?_,h.there,fun k ob l hk=> ?_⟩,fun c ho=> ?_⟩
 · have:ord[k]? = none:=ee (by simpa[Am.pack] using hk)
   simp[Gh.pack,this]
 · obtain⟨i,h1,h2⟩:=jt hk
   have h2:=qE h2.symm
   have:=h.free i (getD_some h2 (by simp))
   simp[Gh.pack,h1,this]
 · obtain⟨i,h1,rfl⟩:=jt hk
   obtain⟨l0,h2,rfl⟩:=uT hl
   obtain⟨c,cs,e,n,k1,k2,k3,k4,k5⟩:=h.cells i _ _ (BT h2) h2
   exact⟨c,cs,e,n,by simpa[Gh.pack,h1] using k1,k2,k3,⟨k4.1.jh (cN.pack g ord),k4.2⟩,k5⟩
 · obtain⟨i,h1,h2⟩:=jt hk
   have h2:=AA h2.symm
   have hc:g.aN i=some c:=by simpa[Gh.pack,h1] using hc
   have:=h.tok i c (getD_some h2 (by simp)) hc
   simpa[Gh.pack,h1] using this
 · obtain⟨i,h1,h2,h3,h4⟩:=own j b c hj ho hc
   obtain⟨i',h1',h2',h3',h4'⟩:=own k b' c hk ho' dx
   have:=h.inj i i' _ _ c h2 h2' h3 h3' h4 h4'
   subst this
   exact DN hnd h1 h1'
 · obtain⟨i,h1,h2⟩:=jt hk
   obtain⟨l0,h3,JF⟩:=CR h2.symm
   obtain⟨c,o,vs,k1,k2,k3,k4,k5,k6⟩:=h.obs i ob l0 (getD_some h3 (by simp))
   exact⟨c,o,vs,by simpa[Gh.pack,h1] using k1,k2,k3.Jo (cN.pack g ord) JF,k4,k5,by simpa[Gh.pack,h1] using k6⟩
 · obtain⟨k,b,hk,ho,hc⟩:=ho
   obtain⟨i,_,h2,h3,h4⟩:=own k b c hk ho hc
   exact⟨i,_,h2,h3,h4⟩
theorem CT {l:List Nat} {i:Nat}:has l i=true↔i∈l:=by
 induction l with
 |nil=>simp[has]
 |cons j l ih=>
  simp only[has]
  cases hb:a6 j i with
  |true=>simp[a8 hb]
  |false=>
   have:j≠i:=fun e=>by subst e;simp[zr] at hb
   simp[ih,Ne.symm this]
theorem dh : ∀(l ord:List Nat),ord.Nodup→(gP ord l).Nodup ∧ ∃t,gP ord l=ord++t
 |[],ord,h=>⟨h,[],by simp[gP]⟩
 |i::l,ord,h=>by
  simp only[gP]
  cases hb:has ord i with
  |true=>exact dh l ord h
  |false=>
   have hni:i∉ord:=fun k=>by rw[CT.2 k] at hb;cases hb
   obtain⟨h1,t,h2⟩:=dh l (ord++[i]) (Hn.2 ⟨h,by simp,fun a ha b hb=>by simp at hb;subst hb;exact fun e=>hni (e▸ha)⟩)
   exact⟨h1,i::t,by simp only[cond_false,h2,pr,List.singleton_append]⟩
theorem lq (m:Mem) : ∀(f:Nat) (ord:List Nat) (k:Nat),ord.Nodup→(reach m f ord k).Nodup ∧ ∃t,reach m f ord k=ord++t
 |0,ord,_,h=>⟨h,[],by simp[reach]⟩
 |f+1,ord,k,h=>by
  simp only[reach]
  cases hk:ord[k]? with
  |none=>exact⟨h,[],by simp⟩
  |some i=>
   obtain⟨h1,t,h2⟩:=dh (xe (m.getD i .dead)) ord h
   obtain⟨h3,t',h4⟩:=lq m f (gP ord (xe (m.getD i .dead))) (k+1) h1
   refine⟨h3,t++t',?_⟩
   show reach m f (gP ord (xe (m.getD i .dead))) (k+1)=_
   rw[h4,h2,pr]
theorem iA : ∀n,(upTo n).length=n
 |0=>rfl
 |n+1=>by simp[upTo,iA n]
theorem uU : ∀(n k:Nat),k<n→(upTo n)[k]? = some k
 |0,_,h=>absurd h (zt _)
 |n+1,k,h=>by
  simp only[upTo,Hm,iA]
  by_cases hk:k<n
  · rw[if_pos hk,uU n k hk]
  · have:k=n:=by omega
    subst this;simp
theorem Ff {n i:Nat} (h:i∈upTo n):i<n:=by
 induction n with
 |zero=>simp[upTo] at h
 |succ n ih=>
  simp only[upTo,List.mem_append,List.mem_singleton] at h
  rcases h with h | rfl
  · have:=ih h;omega
  · omega
theorem ju : ∀n,(upTo n).Nodup
 |0=>by simp[upTo]
 |n+1=>Hn.2 ⟨ju n,by simp,fun a ha b hb=>by simp at hb;subst hb;have:=Ff ha;omega⟩
theorem eo (m:Mem) (fix:Nat) (vs:List AV):(close m fix vs).Nodup ∧ ∀k,k<fix→(close m fix vs)[k]? = some k:=by
 obtain⟨h1,t,h2⟩:=dh (gJ vs) (upTo fix) (ju fix)
 obtain⟨h3,t',h4⟩:=lq m (m.length+1) (gP (upTo fix) (gJ vs)) 0 h1
 refine⟨h3,fun k hk=> ?_⟩
 unfold close
 rw[h4,h2,pr,List.getElem?_append_left (by rw[iA];exact hk),uU fix k hk]
theorem fq : ∀{l:List Nat} {n:Nat},ig l n=true → ∀i∈l,i<n
 |[],_,_,_,h=>by cases h
 |j::l,n,h,i,hi=>by
  simp only[ig,di] at h
  cases hi with
  |head=>simpa[ic] using h.1
  |tail _ hi=>exact fq h.2 i hi
theorem rV (ρ:Nat→Option Nat) : ∀(ord:List Nat) (m1 m:Mem),ord.Nodup→(∀i∈ord,i<m.length)→ord.length≤m1.length → ∀(i:Nat) (b:aF),(cI ρ ord m1 m)[i]? = some b →
  (i<m.length∧i∉ord∧m[i]? = some b)∨(∃(k:Nat) (b1:aF),ord[k]? = some i∧m1[k]? = some b1∧b=gj ρ b1)∨(m.length≤i ∧ ∃b1:aF,m1[ord.length+(i-m.length)]? = some b1∧b=gj ρ b1)
 |[],m1,m,_,_,_,i,b,h=>by
  simp only[cI,Hm] at h
  by_cases hi:i<m.length
  · rw[if_pos hi] at h;exact .inl ⟨hi,by simp,h⟩
  · rw[if_neg hi,fe,ja] at h
    obtain⟨b1,h1,h2⟩:=h
    exact .inr (.inr ⟨by omega,b1,by simpa using h1,h2.symm⟩)
 |j::ord,[],m,_,_,hl,_,_,_=>by simp at hl
 |j::ord,b0::m1,m,hnd,hlt,hl,i,b,h=>by
  simp only[cI] at h
  have BU:=H4.1 hnd
  rcases rV ρ ord m1 (m.set j (gj ρ b0)) BU.2 (fun i hi=>by simpa using hlt i (.tail _ hi)) (by simpa using hl) i b h with⟨h1,h2,h3⟩ | ⟨k,b1,h1,h2,h3⟩ | ⟨h1,b1,h2,h3⟩
  · rw[eh] at h1
    rcases an h3 with⟨rfl,e⟩ | ⟨hne,e⟩
    · exact .inr (.inl ⟨0,b0,rfl,rfl,e⟩)
    · exact .inl ⟨h1,fun hm=>by cases hm with
       |head=>exact hne rfl
       |tail _ hm=>exact h2 hm,e⟩
  · exact .inr (.inl ⟨k+1,b1,h1,h2,h3⟩)
  · rw[eh] at h1 h2
    exact .inr (.inr ⟨h1,b1,by rw[show(j::ord).length+(i-m.length)=(ord.length+(i-m.length))+1 by simp;omega];exact h2,h3⟩)
theorem dm (ρ:Nat→Option Nat) : ∀(ord:List Nat) (m1 m:Mem),ord.length≤m1.length→(cI ρ ord m1 m).length=m.length+(m1.length-ord.length)
 |[],m1,m,_=>by simp[cI]
 |_::_,[],_,h=>by simp at h
 |j::ord,b::m1,m,h=>by
  simp only[cI]
  rw[dm ρ ord m1 _ (by simpa using h)]
  simp
theorem ot : ∀{ord:List Nat} {k i:Nat},ord.Nodup→ord[k]? = some i→idx ord i=some k
 |[],_,_,_,h=>by simp at h
 |j::ord,0,i,_,h=>by
  simp only[List.getElem?_cons_zero,dk] at h;subst h
  simp[idx,zr]
 |j::ord,k+1,i,hnd,h=>by
  have BU:=H4.1 hnd
  simp only[List.getElem?_cons_succ] at h
  have hne:a6 i j=false:=by
   rw[kc];intro e
   have:=a8 e
   subst this
   exact BU.1 (oe h)
  simp[idx,hne,ot BU.2 h]
theorem AB {ord:List Nat} {i:Nat} (h:i∉ord):idx ord i=none:=by
 cases hq:idx ord i with
 |none=>rfl
 |some k=>exact absurd (oe (CS hq)) h
def Gh.back (g g1:Gh) (ord:List Nat) (n:Nat):Gh where
 aN i:=match idx ord i with | some k=>g1.aN k | none=>if i<n then g.aN i else g1.aN (ord.length+(i-n))
 lo i:=match idx ord i with | some k=>g1.lo k | none=>if i<n then g.lo i else g1.lo (ord.length+(i-n))
 hi i:=match idx ord i with | some k=>g1.hi k | none=>if i<n then g.hi i else g1.hi (ord.length+(i-n))
 pure:=g1.pure
def bf (g g':Gh) (n:Nat):Prop:= ∀k c,k<n→g.aN k=some c→g'.aN k=some c∧g'.lo k=g.lo k∧g'.hi k=g.hi k
theorem bf.refl (g:Gh) (n:Nat):bf g g n:=fun _ _ _ h=>⟨h,rfl,rfl⟩
theorem bf.trans {g g' g'':Gh} {n:Nat} (h:bf g g' n) (k:bf g' g'' n):bf g g'' n:=fun i c hi hc=>
 let⟨h1,h2,h3⟩:=h i c hi hc
 let⟨k1,k2,k3⟩:=k i c hi h1
 ⟨k1,k2.trans h2,k3.trans h3⟩
theorem bf.pL {g g':Gh} {w w':World} (h:Ext g w g' w') (n:Nat):bf g g' n:=fun i c _ hc=>h.aN i c hc
theorem Rel.back {g kq:Gh} {m DO:Mem} {w w':World} (h:Rel g m w) {ord:List Nat} (hnd:ord.Nodup) (hlt : ∀i∈ord,i<m.length)
  (h1:Rel kq DO w') (hs:b7 (g.pack ord) (Am.pack m ord) w kq DO w') (hf:bf (g.pack ord) kq ord.length) (hl:ord.length≤DO.length) :
  Rel (g.back kq ord m.length) (cI (aZ ord m.length) ord DO m) w'∧Ext g w (g.back kq ord m.length) w'∧b7 g m w (g.back kq ord m.length) (cI (aZ ord m.length) ord DO m) w' ∧
   cN (aZ ord m.length) kq (g.back kq ord m.length):=by
 obtain⟨Fg,CU⟩:=h.pack hnd
 have CV : ∀k i,ord[k]? = some i→i<m.length∧k<ord.length∧(g.back kq ord m.length).aN i=kq.aN k∧(g.back kq ord m.length).lo i=kq.lo k∧(g.back kq ord m.length).hi i=kq.hi k:=by
  intro k i hk
  have hx:=ot hnd hk
  exact⟨hlt i (oe hk),aT hk,by simp only[Gh.back,hx],by simp only[Gh.back,hx],by simp only[Gh.back,hx]⟩
 have BV : ∀i,i∉ord→i<m.length→(g.back kq ord m.length).aN i=g.aN i∧(g.back kq ord m.length).lo i=g.lo i∧(g.back kq ord m.length).hi i=g.hi i:=by
  intro i hi hlt
  have hx:=AB hi
  simp only[Gh.back,hx,hlt,if_true,and_self]
 have HE : ∀i,m.length≤i→(g.back kq ord m.length).aN i=kq.aN (ord.length+(i-m.length))∧(g.back kq ord m.length).lo i=kq.lo (ord.length+(i-m.length))∧(g.back kq ord m.length).hi i=kq.hi (ord.length+(i-m.length)):=by
  intro i hi
  have hx:=AB (ord:=ord) (i:=i) fun hm=>by have:=hlt i hm;omega
  simp only[Gh.back,hx,Fs.2 hi,if_false,and_self]
 have lu:cN (aZ ord m.length) kq (g.back kq ord m.length):=by
  refine⟨fun j k hj=> ?_,rfl⟩
  unfold aZ at hj
  cases ho:ord[j]? with
  |some i=>
   simp only[ho,dk] at hj;subst hj
   exact(CV j i ho).2.2
  |none=>
   simp only[ho,dk] at hj;subst hj
   have:ord.length≤j:=List.getElem?_eq_none_iff.1 ho
   have e:ord.length+(m.length+(j-ord.length)-m.length)=j:=by omega
   have:=HE (m.length+(j-ord.length)) (by omega)
   rwa [e] at this
 have JW:Ext g w (g.back kq ord m.length) w':=by
  refine⟨fun i c hc=> ?_,fun c o p=>hs.pure c o p⟩
  have hi:i<m.length:=by
   rcases Nat.lt_or_ge i m.length with q | q
   · exact q
   · rw[h.qm i q] at hc;cases hc
  by_cases hm:i∈ord
  · obtain⟨k,hk1,hk2⟩:=List.getElem_of_mem hm
    have hk:ord[k]? = some i:=by rw[List.getElem?_eq_getElem hk1,hk2]
    obtain⟨_,_,e1,e2,e3⟩:=CV k i hk
    obtain⟨f1,f2,f3⟩:=hf k c hk1 (by simpa[Gh.pack,hk] using hc)
    rw[e1,e2,e3,f1,f2,f3]
    simp[Gh.pack,hk]
  · obtain⟨e1,e2,e3⟩:=BV i hm hi
    exact⟨e1.trans hc,e2,e3⟩
 have mJ : ∀i b c,i∉ord→m[i]? = some b→b.bU=true→g.aN i=some c → ¬cj (g.pack ord) (Am.pack m ord) c:=by
  intro i b c hi hb ho hc hO
  obtain⟨k,b',hk,ho',dx⟩:=hO
  obtain⟨i',q1,rfl⟩:=jt hk
  rw[kC] at ho'
  have dx:g.aN i'=some c:=by simpa[Gh.pack,q1] using dx
  have:=h.inj i i' _ _ c hb (xF ho') ho ho' hc dx
  subst this
  exact hi (oe q1)
 have yY : ∀i b c,i∉ord→m[i]? = some b→b.bU=true→g.aN i=some c → ∀o,kq.pure c o→g.pure c o:=by
  intro i b c hi hb ho hc o p
  rcases hs.fresh c o p with q | q | q
  · exact q
  · exact absurd q (mJ i b c hi hb ho hc)
  · exact absurd (h.fI ⟨i,b,hb,ho,hc⟩) (Fs.2 q)
 have get:=rV (aZ ord m.length) ord DO m hnd hlt hl
 have JX : ∀i b c,(cI (aZ ord m.length) ord DO m)[i]? = some b→b.bU=true→(g.back kq ord m.length).aN i=some c →
   (i∉ord∧m[i]? = some b∧g.aN i=some c)∨(∃k b1,aZ ord m.length k=some i∧DO[k]? = some b1∧b1.bU=true∧kq.aN k=some c):=by
  intro i b c hi ho hc
  rcases get i b hi with⟨q1,q2,q3⟩ | ⟨k,b1,q1,q2,rfl⟩ | ⟨q1,b1,q2,rfl⟩
  · exact .inl ⟨q2,q3,by rw[(BV i q2 q1).1] at hc;exact hc⟩
  · rw[kC] at ho
    exact .inr ⟨k,b1,by simp[aZ,q1],q2,ho,by rw[(CV k i q1).2.2.1] at hc;exact hc⟩
  · rw[kC] at ho
    rw[(HE i q1).1] at hc
    have hn:ord[ord.length+(i-m.length)]? = none:=ee (by omega)
    refine .inr ⟨_,b1,?_,q2,ho,hc⟩
    simp only[aZ,hn,dk];omega
 refine⟨⟨fun i hi=> ?_,fun i hi=> ?_,fun i b l hi hb=> ?_,fun i c hi hc=> ?_,fun i j b b' c hi hj ho ho' hc dx=> ?_,h1.there,fun i ob l hi=> ?_⟩,JW,⟨hs.size,fun c hc hn=>hs.keep c hc fun ho=>hn (CU c ho),hs.pure,fun c o p=> ?_,fun c ho=> ?_,hs.os,hs.tape,hs.output⟩,lu⟩
 · rw[dm _ _ _ _ hl] at hi
   rw[(HE i (by omega)).1]
   exact h1.qm _ (by omega)
 · rcases get i _ hi with⟨q1,q0,q3⟩ | ⟨k,b1,q1,q2,q3⟩ | ⟨q1,b1,q2,q3⟩
   · rw[(BV i q0 q1).1];exact h.free i q3
   · have q3:=qE q3.symm
     subst q3
     rw[(CV k i q1).2.2.1];exact h1.free k q2
   · have q3:=qE q3.symm
     subst q3
     rw[(HE i q1).1];exact h1.free _ q2
 · have back : ∀k b1,aZ ord m.length k=some i→DO[k]? = some b1→b=gj (aZ ord m.length) b1 →
    ∃c cs e n,(g.back kq ord m.length).aN i=some c∧w'.heap[c]? = some (.cells cs e n)∧n.2≤n.1∧Ac (g.back kq ord m.length) w' l cs.toList ∧ ∀o,¬(g.back kq ord m.length).pure c o:=by
    rintro k b1 hk Az rfl
    obtain⟨l0,q,rfl⟩:=uT hb
    obtain⟨c,cs,e,n,k1,k2,k3,k4,k5⟩:=h1.cells k b1 l0 Az q
    exact⟨c,cs,e,n,(lu.at' k i hk).1.trans k1,k2,k3,⟨k4.1.jh lu,k4.2⟩,k5⟩
   rcases get i _ hi with⟨q1,q2,q3⟩ | ⟨k,b1,q1,q2,q3⟩ | ⟨q1,b1,q2,q3⟩
   · obtain⟨c,cs,e,n,k1,k2,k3,k4,k5⟩:=h.cells i b l q3 hb
     have ho:=bV hb
     exact⟨c,cs,e,n,(BV i q2 q1).1.trans k1,(hs.keep c (bw k2) (mJ i b c q2 q3 ho k1)).trans k2,k3,k4.mono JW,fun o p=>k5 o (yY i b c q2 q3 ho k1 o p)⟩
   · exact back k b1 (by simp[aZ,q1]) q2 q3
   · have hn:ord[ord.length+(i-m.length)]? = none:=ee (by omega)
     exact back _ b1 (by simp only[aZ,hn,dk];omega) q2 q3
 · have back : ∀k b1,aZ ord m.length k=some i→DO[k]? = some b1→aF.tok=gj (aZ ord m.length) b1 →
    ∃cs e n,w'.heap[c]? = some (.cells cs e n)∧(g.back kq ord m.length).hi i≤cs.size∧(n.2≤n.1∨(g.back kq ord m.length).hi i≤n.1) ∧ ∀o,(g.back kq ord m.length).lo i≤o→o<(g.back kq ord m.length).hi i → ¬(g.back kq ord m.length).pure c o:=by
    intro k b1 hk Az hq
    have hq:=AA hq.symm
    subst hq
    obtain⟨e1,e2,e3⟩:=lu.at' k i hk
    rw[e2,e3]
    rw[e1] at hc
    exact h1.tok k c Az hc
   rcases get i _ hi with⟨q1,q2,q3⟩ | ⟨k,b1,q1,q2,q3⟩ | ⟨q1,b1,q2,q3⟩
   · obtain⟨e0,e2,e1⟩:=BV i q2 q1
     have hc:g.aN i=some c:=e0.symm.trans hc
     obtain⟨cs,e,n,k2,k3,k4,k5⟩:=h.tok i c q3 hc
     rw[e1,e2]
     exact⟨cs,e,n,(hs.keep c (bw k2) (mJ i _ c q2 q3 rfl hc)).trans k2,k3,k4,fun o a b p=>k5 o a b (yY i _ c q2 q3 rfl hc o p)⟩
   · exact back k b1 (by simp[aZ,q1]) q2 q3
   · have hn:ord[ord.length+(i-m.length)]? = none:=ee (by omega)
     exact back _ b1 (by simp only[aZ,hn,dk];omega) q2 q3
 · have apart : ∀i b,i∉ord→m[i]? = some b→b.bU=true→g.aN i=some c → ∀k b1,DO[k]? = some b1→b1.bU=true→kq.aN k=some c→False:=by
    intro i b q2 q3 ho hc k b1 hk QX eL
    rcases hs.owned c ⟨k,b1,hk,QX,eL⟩ with q | q
    · exact mJ i b c q2 q3 ho hc q
    · exact absurd (h.fI ⟨i,b,q3,ho,hc⟩) (Fs.2 q)
   rcases JX i b c hi ho hc with⟨p1,p2,p3⟩ | ⟨k,b1,p1,p2,p3,p4⟩<;>rcases JX j b' c hj ho' dx with⟨q1,q2,q3⟩ | ⟨k',Qg,q1,q2,q3,q4⟩
   · exact h.inj i j b b' c p2 q2 ho ho' p3 q3
   · exact(apart i b p1 p2 ho p3 k' Qg q2 q3 q4).elim
   · exact(apart j b' q1 q2 ho' q3 k b1 p2 p3 p4).elim
   · have:=h1.inj k k' b1 Qg c p2 q2 p3 q3 p4 q4
     subst this
     rw[p1] at q1;exact dp q1
 · have back : ∀k b1,aZ ord m.length k=some i→DO[k]? = some b1→aF.ob ob l=gj (aZ ord m.length) b1 →
    ∃c o vs,(g.back kq ord m.length).aN i=some c∧w'.heap[c]? = some o∧bO (g.back kq ord m.length) w' l vs∧ob.is o vs∧(∀o',¬(g.back kq ord m.length).pure c o')∧ob.room o ((g.back kq ord m.length).hi i):=by
    intro k b1 hk Az hq
    obtain⟨l0,rfl,JF⟩:=CR hq.symm
    obtain⟨c,o,vs,k1,k2,k3,k4,k5,k6⟩:=h1.obs k ob l0 Az
    exact⟨c,o,vs,(lu.at' k i hk).1.trans k1,k2,k3.Jo lu JF,k4,k5,by rw[(lu.at' k i hk).2.2];exact k6⟩
   rcases get i _ hi with⟨q1,q2,q3⟩ | ⟨k,b1,q1,q2,q3⟩ | ⟨q1,b1,q2,q3⟩
   · obtain⟨c,o,vs,k1,k2,k3,k4,k5,k6⟩:=h.obs i ob l q3
     exact⟨c,o,vs,(BV i q2 q1).1.trans k1,(hs.keep c (bw k2) (mJ i _ c q2 q3 rfl k1)).trans k2,k3.mono JW,k4,fun o' p=>k5 o' (yY i _ c q2 q3 rfl k1 o' p),by rw[(BV i q2 q1).2.2];exact k6⟩
   · exact back k b1 (by simp[aZ,q1]) q2 q3
   · have hn:ord[ord.length+(i-m.length)]? = none:=ee (by omega)
     exact back _ b1 (by simp only[aZ,hn,dk];omega) q2 q3
 · rcases hs.fresh c o p with q | q | q
   · exact .inl q
   · exact .inr (.inl (CU c q))
   · exact .inr (.inr q)
 · obtain⟨i,b,hi,hb,hc⟩:=ho
   rcases JX i b c hi hb hc with⟨_,p2,p3⟩ | ⟨k,b1,p1,p2,p3,p4⟩
   · exact .inl ⟨i,b,p2,hb,p3⟩
   · rcases hs.owned c ⟨k,b1,p2,p3,p4⟩ with q | q
     · exact .inl (CU c q)
     · exact .inr q
def er:It→List Item
 |.code _ c=>[.code c]
 |.ops _ ops k _=>[.inRegion ops (H2 k (ops.size-k))]
 |.inBlock id=>[.inBlock id]
 |.inLoop _ b=>[.inLoop b]
 |.inScope b=>[.inScope b]
 |.forget _=>[]
 |.fin=>[]
 |.begin=>[.beginRound]
 |.wg _=>[]
 |.gA _=>[]
 |.leave=>[]
def It.pl:It→Prop
 |.fin | .wg _ | .gA _ | .leave=>False
 |_=>True
def cZ:List It→List Item
 |[]=>[]
 |x::k=>er x++cZ k
def fD (E:Env) (g:Gh) (w:World):Prop:= ∀i cs,E.cC i=some cs→VP g w (.pp 0 cs) (.pointer (some ⟨i,0,none⟩))
theorem fD.mono {E:Env} {g g':Gh} {w w':World} (h:fD E g w) (e : ∀c o,g.pure c o→g'.pure c o∧w'.cell? ⟨c,o,none⟩=w.cell? ⟨c,o,none⟩):fD E g' w':=fun i cs hi=>(h i cs hi).mono e
structure bR (E:Env) (g:Gh) (st:St) (a:Act) (w:World):Prop where
 tm : ∀k,VA g w (look st.tm k) (a.tmps.getD k undef)
 nt:a.tmps.size=st.nt
 rel:Rel g st.mem w
 fix:st.fix≤st.mem.length
 cC:fD E g w
def dP (g:Gh) (r:Jj) (b:Frame):Prop:=match r with
 |.call=>b.kind = .normal∧b.roundOf=none
 |.round i=>b.kind = .normal ∧ ∃l,g.aN i=some l∧b.roundOf=some l
 |.late=>b.kind = .deferred∧b.roundOf=none
theorem dP.ext {g g':Gh} (e : ∀i c,g.aN i=some c→g'.aN i=some c) {r:Jj} {b:Frame} (h:dP g r b):dP g' r b:=by
 cases r with
 |call=>exact h
 |late=>exact h
 |round i=>
  obtain⟨h1,l,q1,q2⟩:=h
  exact⟨h1,l,e i l q1,q2⟩
theorem dP.yZ {g:Gh} {r:Jj} {b:Frame} (h:dP g r b) (hn : ∀i,r ≠ .round i):b.roundOf=none:=by
 cases r with
 |call=>exact h.2
 |late=>exact h.2
 |round i=>exact absurd rfl (hn i)
def NZ (g:Gh) (l:List (Nat×Nat)) (cs:List Value):Prop:=aV (fun q v=> ∃c,g.aN q.1=some c∧v = .pointer (some ⟨c,q.2,none⟩)) l cs
def Mark.Ok (g:Gh):Mark→Deferred→Prop
 |.range b,d=> ∃D,g.aN b=some D∧d={target:= .collected D,args:= #[]}
 |.late f l m,d=> ∃fa ca:Array Value,NZ g l fa.toList∧NZ g m ca.toList∧d={target:= .fn (.func f) ca,args:=fa}
theorem Mark.Ok.ext {g g':Gh} (e : ∀i c,g.aN i=some c→g'.aN i=some c) {mk:Mark} {d:Deferred} (h:mk.Ok g d):mk.Ok g' d:=by
 cases mk with
 |range b=>
  obtain⟨D,q1,q2⟩:=h
  exact⟨D,e _ D q1,q2⟩
 |late f l m=>
  obtain⟨fa,ca,q1,q2,q3⟩:=h
  exact⟨fa,ca,aV.mono (fun _ _ ⟨c,k1,k2⟩=>⟨c,e _ c k1,k2⟩) q1,aV.mono (fun _ _ ⟨c,k1,k2⟩=>⟨c,e _ c k1,k2⟩) q2,q3⟩
def Mk (g:Gh) (mk:List Mark) (ds:List Deferred):Prop:=aV (fun b d=>b.Ok g d) mk ds
theorem Mk.ext {g g':Gh} (e : ∀i c,g.aN i=some c→g'.aN i=some c) {mk:List Mark} {ds:List Deferred} (h:Mk g mk ds):Mk g' mk ds:=
 aV.mono (fun _ _ q=>q.ext e) h
def DP (P:Program) (r:Jj) (fr:Frame) (w:World) (cv:Value) (w2:World):Prop:=match r with
 |.call=>fr.leaving P w (.returned cv)∧w2=w
 |.late=>(fr.going P w (.returned cv)∧fr.kind = .deferred)∧w2=w
 |.round _=> ∀(c:Frame) (cs:List Frame),Steps P (lone fr (c::cs) w) (lone (c.finish cv) cs w2)
def cA:Option Value→Bool→FrameMode
 |none,_=> .returning
 |some v,b=> .panicking [{v:=v,recovered:=b}]
def bZ (P:Program) (E:Env) (g:Gh) (c:bA) (fr:Frame) (w:World):Prop:=
 match c.todo with
 |.fin::_=>fr.fn=c.f ∧ ∃cv w2,DP P c.st.bI fr w cv w2∧VA g w2 (look c.st.tm 0) cv∧Rel g c.st.mem w2∧b7 g c.st.mem w g c.st.mem w2∧c.st.fix≤c.st.mem.length
 |.wg u::_=>fr.fn=c.f ∧ ∃cv,fr.leaving P w (.panicked [{v:=cv,recovered:=false}])∧VA g w u cv∧Rel g c.st.mem w∧c.st.fix≤c.st.mem.length
 |.gA u::_=> ∃(b:Frame) (a:Act) (todo:List Item) (cv:Value),fr={b.atR a todo with mode:=cA (some cv) false}∧b.fn=c.f∧dP g c.st.bI b∧Mk g c.st.bS a.defers∧bR E g c.st a w∧VA g w u cv
 |.leave::_=> ∃(b:Frame) (a:Act) (todo:List Item),fr={b.atR a todo with mode:= .returning}∧b.fn=c.f∧dP g c.st.bI b∧(∀i,c.st.bI ≠ .round i)∧c.st.bS=[]∧a.defers=[]∧bR E g c.st a w
 |_=> ∃(b:Frame) (a:Act),fr=b.atR a (cZ c.todo)∧b.fn=c.f∧dP g c.st.bI b∧Mk g c.st.bS a.defers∧bR E g c.st a w ∧ ∀x∈c.todo,It.pl x
def dQ (P:Program) (E:Env) (g:Gh) (c:bA) (fr:Frame) (w:World) (c':bA):Prop:=
 ∀cs,∃g' fr' w',Steps P (lone fr cs w) (lone fr' cs w')∧bZ P E g' c' fr' w'∧b7 g c.st.mem w g' c'.st.mem w'∧bf g g' c.st.fix∧c'.f=c.f∧c'.st.fix=c.st.fix∧c'.st.bI=c.st.bI
def aO (P:Program) (E:Env) (f:FuncId) (args:List AV) (m:Mem) (v:AV) (m':Mem):Prop:=
 (∃fn,P.funcs[f]? = some fn∧fn.body.isSome=true∧(fn.name == "runtime.NumGoroutine")=false) ∧
 ∀(g:Gh) (w:World) (cM:Array Value) (cs:List Frame),Rel g m w→bO g w args cM.toList→fD E g w →
  ∃w' g' cv fr,Steps P (lone (If P f cM .normal) cs w) (lone fr cs w')∧fr.leaving P w' (.returned cv)∧fr.fn=f ∧
   VA g' w' v cv∧Rel g' m' w'∧b7 g m w g' m' w'∧bf g g' m.length∧m.length≤m'.length
def Fh (P:Program) (E:Env) (f:FuncId) (args:List AV) (m:Mem) (v:AV) (m':Mem):Prop:=
 (∃fn,P.funcs[f]? = some fn∧fn.body.isSome=true∧(fn.name == "runtime.NumGoroutine")=false) ∧
 ∀(g:Gh) (w:World) (cM:Array Value) (cs:List Frame),Rel g m w→bO g w args cM.toList→fD E g w →
  ∃w' g' cv fr,Steps P (lone (If P f cM .normal) cs w) (lone fr cs w')∧fr.leaving P w' (.panicked [{v:=cv,recovered:=false}])∧fr.fn=f ∧
   VA g' w' v cv∧Rel g' m' w'∧b7 g m w g' m' w'∧bf g g' m.length∧m.length≤m'.length
def Fi (g:Gh) (w:World):Option AV→Option Value→Prop
 |none,none=>True
 |some u,some v=>VA g w u v
 |_,_=>False
def Fj (P:Program) (E:Env) (f:FuncId) (args:List AV) (m:Mem) (pv:Option AV) (m':Mem):Prop:=
 (∃fn,P.funcs[f]? = some fn∧fn.body.isSome=true∧(fn.name == "runtime.NumGoroutine")=false) ∧
 ∀(g:Gh) (w:World) (cM:Array Value) (pM:Option Value) (c0:Frame) (cs:List Frame),c0.mode=cA pM false→Fi g w pv pM→Rel g m w→bO g w args cM.toList→fD E g w →
  ∃w' g' cv fr,Steps P (lone (If P f cM .deferred) (c0::cs) w) (lone fr ({c0 with mode:=cA pM true}::cs) w')∧fr.going P w' (.returned cv)∧fr.kind = .deferred ∧
   Rel g' m' w'∧b7 g m w g' m' w'∧bf g g' m.length∧m.length≤m'.length
def CW (P:Program) (E:Env) (args:List AV) (m:Mem) (v:AV) (m':Mem):Prop:=
 ∀(g:Gh) (w:World) (i l:Nat) (xs:List AV) (HF:Array Value) (c:Frame) (cs:List Frame),args = .vy i::xs→Rel g m w→g.aN i=some l→bO g w xs HF.toList→fD E g w →
  ∃f tmps as bd w' g' cv,(Instr.yield l HF).run P w = .ok (.round l f tmps as bd) w∧Steps P (lone (Frame.round l f tmps as bd .normal) (c::cs) w) (lone (c.finish cv) cs w') ∧
   VA g' w' v cv∧Rel g' m' w'∧b7 g m w g' m' w'∧bf g g' m.length∧m.length≤m'.length
section
variable {P:Program} {E:Env} {g:Gh} {w:World}
theorem fK {st:St} {a:Act} (h:bR E g st a w) (x:Operand):VA g w (ev E st.tm x) (a.eval x):=by
 cases x with
 |tmp t=>exact h.tm t
 |const v=>exact VA.CA v
 |global i=>
  simp only[ev,Act.eval]
  cases hg:E.cC i with
  |none=>exact .p _ _ (.sc _)
  |some cs=>exact .p _ _ (h.cC i cs hg)
 |func f=>exact VA.fns.2 ⟨#[],#[],rfl,trivial,trivial⟩
theorem iX (tm:qo) (d k:Nat) (v:AV):look ((d,v)::tm) k=if d=k then v else look tm k:=by
 simp only[look]
 by_cases h:d=k
 · subst h;simp[zr]
 · have:a6 d k=false:=by rw[kc];intro e;exact h (a8 e)
   simp[this,h]
theorem bR.put {st:St} {a:Act} {g':Gh} {w':World} {m':Mem} (h:bR E g st a w) {dst:Option Tmp} {v:AV} {cv:Value} (hf:fits st dst=true) (hv:VA g' w' v cv) (he:Ext g w g' w') (hr:Rel g' m' w') (hx:st.fix≤m'.length) :
  bR E g' (Am.put {st with mem:=m'} dst v) (a.put dst cv) w':=by
 cases dst with
 |none=>exact⟨fun k=>(h.tm k).mono he,h.nt,hr,hx,h.cC.mono he.pure⟩
 |some d=>
  have hd:d<a.tmps.size:=by rw[h.nt];simpa[fits,ic] using hf
  refine⟨fun k=> ?_,by simp[Act.put,Am.put,h.nt],hr,hx,h.cC.mono he.pure⟩
  simp only[Am.put,iX,Act.put]
  by_cases hk:d=k
  · subst hk
    simp only[if_true,H5,Array.getElem?_setIfInBounds_self_of_lt hd,Option.getD_some]
    exact hv
  · simp only[hk,if_false,H5]
    rw[Array.getElem?_setIfInBounds_ne hk,←H5]
    exact(h.tm k).mono he
theorem bR.known {st:St} {a:Act} (h:bR E g st a w) {d:Nat} {v:AV} (hv:VA g w v (a.tmps.getD d undef)):bR E g (Am.put st (some d) v) a w:=by
 refine⟨fun k=> ?_,h.nt,h.rel,h.fix,h.cC⟩
 simp only[Am.put,iX]
 by_cases hk:d=k
 · subst hk;simp only[if_true];exact hv
 · simp only[hk,if_false];exact h.tm k
theorem mK {k n:Nat} (h:k<n):H2 k (n-k)=k::H2 (k+1) (n-(k+1)):=by
 rw[show n-k=(n-(k+1))+1 by omega,List.range'_succ]
theorem semAt_eq {o:Oper} {ro:Option Nat} {ρ:Operand→Value} {n:Next} {w':World} (hr:(execOp ρ o).run P w = .ok n w') (hn : ∀d,n ≠ .defer d):o.semAt ro ρ=execOp ρ o:=by
 unfold Oper.semAt
 cases ro with
 |none=>rfl
 |some l=>
  cases ho:o.op<;>first
   |rfl
   |(exfalso
     simp only[execOp,ho,km] at hr
     revert hr
     cases(resolve ρ _ o.type).run P w<;>intro hr<;>simp[ra] at hr
     exact hn _ hr.1.symm)
theorem nB {b:Frame} {a:Act} {k:List Item} {cs:List Frame} {w':World} {ops:Array Oper} {i:Nat} {rest:List Nat} {o:Oper} {v:Value} (ho:ops[i]? = some o) (hw:Lk o (yielded ops a.tmps)=true)
  (hr:(execOp a.eval o).run P w = .ok (.value v) w'∨((execOp a.eval o).run P w = .ok .skip w'∧v=undef)) :
  _root_.Go.step P (lone (b.atR a (.inRegion ops (i::rest)::k)) cs w) = .next (lone (b.atR (a.put o.dst v) (.inRegion ops rest::k)) cs w'):=by
 have hg:=stepGR_op (P:=P) (b:=b) (k:=k) (cs:=cs) (w:=w) (rest:=rest) ho hw
 have mL:(b.atR a (.inRegion ops (i::rest)::k)).finish v=b.atR (a.put o.dst v) (.inRegion ops rest::k):=by rw[Frame.finish_atR,ho];rfl
 refine step_lone_go ?_
 rw[hg,←mL]
 rcases hr with hr | ⟨hr,rfl⟩
 · rw[semAt_eq hr fun _ e=>by cases e];simp[stepG.apply,hr]
 · rw[semAt_eq hr fun _ e=>by cases e];simp[stepG.apply,hr]
theorem ou {b:Frame} {a:Act} {k:List Item} {cs:List Frame} {w':World} {ops:Array Oper} {i:Nat} {rest:List Nat} {o:Oper} {f:FuncId} {args:Array Value} (ho:ops[i]? = some o) (hw:Lk o (yielded ops a.tmps)=true)
  (hr:(execOp a.eval o).run P w = .ok (.enter f args) w') :
  _root_.Go.step P (lone (b.atR a (.inRegion ops (i::rest)::k)) cs w) = .next (lone (If P f args .normal) (b.atR a (.inRegion ops (i::rest)::k)::cs) w'):=by
 have hg:=stepGR_op (P:=P) (b:=b) (k:=k) (cs:=cs) (w:=w) (rest:=rest) ho hw
 exact step_lone_go (by rw[hg,semAt_eq hr fun _ e=>by cases e];simp[stepG.apply,hr,Frame.atR])
theorem nC {st:St} {a:Act} (h:bR E g st a w) {ops:Array Oper} {o:Oper} :
  (dD ops st.tm o = .yes→Lk o (yielded ops a.tmps)=true)∧(dD ops st.tm o = .no→Lk o (yielded ops a.tmps)=false) ∧
  (∀d b want,dD ops st.tm o = .ask d b want→Lk o (yielded ops a.tmps)=(b==want)∧a.tmps.getD d undef = .bool b):=by
 unfold dD Lk
 cases hg:o.guard with
 |none=>simp
 |some q=>
  obtain⟨j,want⟩:=q
  simp only[yielded]
  cases hj:ops[j]? with
  |none=>simp
  |some oj=>
   simp only[yv]
   cases hd:oj.dst with
   |none=>simp
   |some d=>
    simp only[yv]
    have hv:=h.tm d
    have mH:a.tmps.getD d undef=(a.tmps[d]?).getD undef:=by rw[H5]
    generalize hz:a.tmps.getD d undef=z at hv mH
    generalize hl:look st.tm d=x at hv
    cases hv with
    |p pv cv hp=>
     cases hp with
     |sc=>
      cases z with
      |bool b=>
       have:a.tmps[d]? = some (.bool b):=by
        cases ha:a.tmps[d]? with
        |none=>rw[ha] at mH;cases mH
        |some u=>rw[ha] at mH;simp at mH;rw[mH]
       refine⟨fun h=>(by cases h),fun h=>(by cases h),?_⟩
       rintro d' b' w' e
       cases e
       refine⟨?_,hz⟩
       simp only[this]
       cases b<;>cases want<;>rfl
      |_=>exact⟨fun h=>(by cases h),fun h=>(by cases h),fun _ _ _ h=>(by cases h)⟩
     |_=>exact⟨fun h=>(by cases h),fun h=>(by cases h),fun _ _ _ h=>(by cases h)⟩
    |bn l cs hl' hh=>
     refine⟨fun h=>(by cases h),fun _=> ?_,fun _ _ _ h=>(by cases h)⟩
     cases ha:a.tmps[d]? with
     |none=>simp
     |some u=>
      rw[ha] at mH;simp at mH
      subst mH
      simp
    |_=>exact⟨fun h=>(by cases h),fun h=>(by cases h),fun _ _ _ h=>(by cases h)⟩
end
end Go.Am
end
