import Derived.Test.YtddfgnmjecogdaaDoorMC
import Derived.WideMake
import Derived.AtR
import Derived.Recover
open Option renaming map_eq_some_iff→kd,bind_some→Hc
open Prod.mk renaming injEq→kz
open Option.some renaming injEq→dC,inj→dE
open Go.Sem renaming run_bind→la,run_pure→lh,run→Hk
open Go.Result renaming andThen_ok→lj,andThen→rn
open Nat renaming eq_of_beq_eq_true→bm,blt_eq→ix,lt_of_succ_lt_succ→cf,beq_refl→Hm,not_lt_zero→Hn,not_lt→H0,beq→be
open Go.Op renaming equalIn→Ha,equal→Hb
open Bool renaming eq_false_iff→kv,and_eq_true→dv
open List renaming map_toArray→H2,map_cons→pA,map_nil→H3,getElem?_eq_none→fg,toArray→H4,mem_of_getElem?→pb,getElem?_eq_some_iff→fb,pairwise_iff_getElem→H5,append_assoc→qf,getElem?_append→If,getElem?_map→fv,nodup_append→Lk,foldlM_cons→M2,range'→Pl,foldlM_nil→Ps,nodup_cons→PH,length_set→fh
open Array renaming getD_eq_getD_getElem?→PQ,toList_map→kb
open Go.Frame renaming enter→QP
open Go.Region renaming wanted→QR
section
namespace Go.Am
open Go.RowKit
section ops
variable {P:Program} {g:Gh} {m:Mem} {w:World}
theorem nw {ρ:Operand→AV} {bF:Operand→Value} (hr : ∀x,VA g w (ρ x) (bF x)) : ∀(l:List (Nat×Operand)),
  aW (fun a b=>a.1=b.1∧VA g w a.2 b.2) (l.map fun q=>(q.1,ρ q.2)) (l.map fun(i,x)=>(i,bF x))
 |[]=>trivial
 |(_,x)::l=>⟨⟨rfl,hr x⟩,nw hr l⟩
theorem gz {ρ:Operand→AV} {bF:Operand→Value} (hr : ∀x,VA g w (ρ x) (bF x)) : ∀(l:List Operand),bN g w (l.map ρ) (l.map bF)
 |[]=>trivial
 |x::l=>⟨hr x,gz hr l⟩
theorem bR.of {h:Rel g m w} {s:Sem Value} {r:Result Next} {a:AV} (hr:r=(s.run P w).andThen fun v w'=> .ok (.value v) w') (hs : ∃v,s.run P w = .ok v w∧VA g w a v):bR g m w r a m:=by
 obtain⟨v,h1,h2⟩:=hs
 exact bR.quiet h (by rw[hr,h1];rfl) h2
theorem fW {r:Option AV} {a:AV} {us:mW} {ok:Bool} (h:jl r=some (a,us,ok)):r=some a∧us=[]:=by
 simp only[jl,kd,kz] at h
 obtain⟨v,h1,rfl,rfl,_⟩:=h
 exact⟨h1,rfl⟩
theorem iU {r:Option (AV×Bool)} {a:AV} {us:mW} {ok:Bool} (h:gV r=some (a,us,ok)):r=some (a,ok)∧us=[]:=by
 simp only[gV,kd,kz] at h
 obtain⟨⟨v,b⟩,h1,rfl,rfl,rfl⟩:=h
 exact⟨h1,rfl⟩
theorem yd (h:Rel g m w) {bF:Operand→Value} {o:Oper} {aO:Nat} (hn:m[aO]? = some .free) {t:TypeId} {x:Operand} {ax a:AV} {us:mW} (hx:VA g w ax (bF x)) (ho:o.op = .range t x)
  (he:zW P aO t ax=some (a,us,true)):bR g m w ((execOp bF o).run P w) a (apply m us):=by
 unfold zW at he
 split at he
 · rename_i s hd
   simp only[dC,kz,and_true] at he
   obtain⟨rfl,rfl⟩:=he
   rw[VA.pv] at hx
   generalize hz:bF x=z at hx
   cases hx
   obtain⟨h1,h2,h3⟩:=h.uP (ob:= .iter s 0) (l:=[]) (vs:=[]) hn trivial (dX w (.stringIter s 0)) ⟨rfl,rfl⟩
   refine⟨.pointer (some ⟨w.heap.size,0,none⟩),_,_,.inl ?_,.mp aO 0 _ (by simp[Gh.put]),h1,h2,h3⟩
   simp[execOp,ho,hz,Instr.range,la,run_underlying hd,rn]
 · cases he
theorem Au (h:Rel g m w) {bF:Operand→Value} {o:Oper} {x:Operand} {s:Bool} {ax a:AV} {us:mW} (hx:VA g w ax (bF x)) (ho:o.op = .next x s)
  (he:CU (fun i=>m.getD i .dead) ax s=some (a,us,true)):bR g m w ((execOp bF o).run P w) a (apply m us):=by
 cases s with
 |false=>cases he
 |true=>
  simp only[CU] at he
  split at he
  · rename_i b
    split at he
    · rename_i str pos l hb
      have hib:=getD_some hb (by simp)
      obtain⟨c,ob,vs,k1,k2,k3,k4,_⟩:=h.obs b _ _ hib
      obtain⟨rfl,rfl⟩:=k4
      generalize hz:bF x=z at hx
      cases hx with
      |mp _ _ c' hc=>
       rw[k1] at hc;cases hc
       have ny:(getObj c).run P w = .ok (.stringIter str pos) w:=by simp[getObj,Hk,k2]
       split at he
       · rename_i hlt
         rw[ix] at hlt
         generalize LU:Utf8.decode str pos=q at he
         obtain⟨cc,width⟩:=q
         simp only[dC,kz,and_true] at he
         obtain⟨rfl,rfl⟩:=he
         obtain⟨e1,e2,e3⟩:=cI w (o':= .stringIter str (pos+width)) k2
         obtain⟨r1,r2,r3⟩:=h.eX (xQ:= .iter str (pos+width)) (l':=[]) (vs':=[]) hib k1 e1 e2 rfl rfl rfl e3 ⟨rfl,rfl⟩ trivial
         have uo:(setObj c (.stringIter str (pos+width))).run P w = .ok () {w with heap:=w.heap.setIfInBounds c (.stringIter str (pos+width))}:=by simp[setObj,Hk,k2]
         refine⟨.tuple #[.bool true,goInt pos,.int .i32 cc],_,g,.inl ?_,VA.je.2 ⟨.p _ _ (.sc _),.p _ _ (.sc _),.p _ _ (.sc _),trivial⟩,r1,r2,r3⟩
         simp only[execOp,ho,hz,Instr.next,la,ny,lj,hlt,if_true,LU,uo,lh]
       · rename_i hlt
         have hlt' : ¬pos<str.size:=fun q=>by rw[←ix] at q;rw[q] at hlt;cases hlt
         simp only[dC,kz,and_true] at he
         obtain⟨rfl,rfl⟩:=he
         refine bR.quiet h (v:= .tuple #[.bool false]) ?_ (VA.je.2 ⟨.p _ _ (.sc _),trivial⟩)
         simp only[execOp,ho,hz,Instr.next,la,ny,lj,hlt',if_false,lh]
    · rename_i str pos more l hb
      have hib:=getD_some hb (by simp)
      obtain⟨c,ob,vs,k1,k2,k3,k4,_⟩:=h.obs b _ _ hib
      obtain⟨rfl,rfl,k5⟩:=k4
      generalize hz:bF x=z at hx
      cases hx with
      |mp _ _ c' hc=>
       rw[k1] at hc;cases hc
       have ny:(getObj c).run P w = .ok (.stringIter str pos) w:=by simp[getObj,Hk,k2]
       split at he
       · have hlt:pos<str.size:=by rw[ix] at k5;exact k5
         generalize LU:Utf8.decode str pos=q at he
         obtain⟨cc,width⟩:=q
         simp only[dC,kz,and_true] at he
         obtain⟨rfl,rfl⟩:=he
         obtain⟨e1,e2,e3⟩:=cI w (o':= .stringIter str (pos+width)) k2
         obtain⟨r1,r2,r3⟩:=h.eX (xQ:= .iter str (pos+width)) (l':=[]) (vs':=[]) hib k1 e1 e2 rfl rfl rfl e3 ⟨rfl,rfl⟩ trivial
         have uo:(setObj c (.stringIter str (pos+width))).run P w = .ok () {w with heap:=w.heap.setIfInBounds c (.stringIter str (pos+width))}:=by simp[setObj,Hk,k2]
         refine⟨.tuple #[.bool true,goInt pos,.int .i32 cc],_,g,.inl ?_,VA.je.2 ⟨.p _ _ (.sc _),.p _ _ (.sc _),.p _ _ (.sc _),trivial⟩,r1,r2,r3⟩
         simp only[execOp,ho,hz,Instr.next,la,ny,lj,hlt,if_true,LU,uo,lh]
       · have hlt' : ¬pos<str.size:=fun q=>by rw[←ix,k5] at q;cases q
         simp only[dC,kz,and_true] at he
         obtain⟨rfl,rfl⟩:=he
         refine bR.quiet h (v:= .tuple #[.bool false]) ?_ (VA.je.2 ⟨.p _ _ (.sc _),trivial⟩)
         simp only[execOp,ho,hz,Instr.next,la,ny,lj,hlt',if_false,lh]
    · cases he
  · cases he
theorem yf {ρ:Operand→AV} {bF:Operand→Value} (hr : ∀x,VA g w (ρ x) (bF x)) {o:Oper} {op:BinOp} {t yt:TypeId} {x y:Operand} {l c:Nat} (hy:bF y = .slice none l c) (ho:o.op = .binOp op t x y yt) {a:AV} {us:mW} {ok:Bool} (he:uJ P op t (ρ x)=some (a,us,ok)) :
  us=[] ∧ ∃v,(execOp bF o).run P w = .ok (.value v) w∧VA g w a v:=by
 unfold uJ at he
 split at he
 · rename_i e hd
   have key : ∀{b:Bool},yC (ρ x)=some b→(∀op':BinOp,(eqGuard op' t x y (bF x) (bF y)).run P w = .ok () w)∧(Hb t (bF x) (bF y)).run P w = .ok b w ∧ ∀op',op' = .eql∨op' = .neq→binOp op' t (bF x) (bF y)=(do let r ←Hb t (bF x) (bF y);pure (.bool (if op' = .eql then r else !r)):Sem Value):=by
    intro b hb
    obtain⟨ad,len,cap,hx,hn⟩:=tR (hr x) hb
    rw[hx,hy]
    refine⟨fun op'=>by unfold eqGuard;cases op'<;>rfl,?_,fun op' hop=>by rcases hop with rfl | rfl<;>rfl⟩
    show(Ha (9999+1) t _ _).run P w = .ok b w
    rw[Ha];simp only[la,run_underlying hd,lj]
    subst hn
    cases ad<;>rfl
   split at he
   · rename_i b hb
     obtain⟨k1,k2,k3⟩:=key hb
     simp only[dC,kz] at he
     obtain⟨rfl,rfl,_⟩:=he
     refine⟨rfl,.bool b,?_,.p _ _ (.sc _)⟩
     simp only[execOp,ho,la,k1,lj,k3 _ (.inl rfl),k2,lh]
     rfl
   · rename_i b hb
     obtain⟨k1,k2,k3⟩:=key hb
     simp only[dC,kz] at he
     obtain⟨rfl,rfl,_⟩:=he
     refine⟨rfl,.bool (!b),?_,.p _ _ (.sc _)⟩
     simp only[execOp,ho,la,k1,lj,k3 _ (.inr rfl),k2,lh]
     rfl
   · cases he
 · cases he
theorem Av {ρ:Operand→AV} {bF:Operand→Value} (hr : ∀x,VA g w (ρ x) (bF x)) (hc : ∀v,bF (.const v)=v) {o:Oper} (h:CV P ρ o=true) :
  ∃b:Bool,(execOp bF o).run P w = .ok (.value (.bool b)) w:=by
 unfold CV at h
 split at h
 · rename_i op t x y yt ho
   simp only[dv] at h
   obtain⟨h1,h2,h3,h4⟩:=h
   obtain⟨l,c,rfl⟩ : ∃l c,y = .const (.slice none l c):=by
    unfold rQ at h1
    split at h1
    · exact⟨_,_,rfl⟩
    · cases h1
   obtain⟨e,hd⟩ : ∃e,P.underlying t=some (.slice e):=by
    unfold Bm at h4
    split at h4
    · exact⟨_,by assumption⟩
    · cases h4
   obtain⟨ad,len,cap,hx⟩ : ∃ad len cap,bF x = .slice ad len cap:=by
    have hv:=hr x
    generalize bF x=UH at hv ⊢
    have key : ∀{n sz:Nat} {cs:List PV} {cx:Value},VP g w (.ps n sz cs) cx → ∃ad len cap,cx = .slice ad len cap:=by
     intro n sz cs cx hx
     cases hx with
     |ps _ _ _ b o cap f hl hc hz hp hv=>exact⟨_,_,_,rfl⟩
     |mT sz a cap hz=>exact⟨_,_,_,rfl⟩
    unfold Bl at h3
    split at h3
    · rename_i e
      rw[e,VA.pv] at hv
      exact key hv
    · rename_i e
      rw[e] at hv
      cases hv with
      |os _ _ _ _ a cap hx hr=>exact key hx
    · cases h3
   have hy:=hc (.slice none l c)
   have g1 : ∀op':BinOp,(eqGuard op' t x (.const (.slice none l c)) (bF x) (bF (.const (.slice none l c)))).run P w = .ok () w:=by
    intro op'
    rw[hx,hy]
    unfold eqGuard
    cases op'<;>rfl
   have g2:(Hb t (bF x) (bF (.const (.slice none l c)))).run P w = .ok ad.isNone w:=by
    rw[hx,hy]
    show(Ha (9999+1) t _ _).run P w = .ok ad.isNone w
    rw[Ha];simp only[la,run_underlying hd,lj]
    cases ad<;>rfl
   have g3 : ∀op',op' = .eql∨op' = .neq→binOp op' t (bF x) (bF (.const (.slice none l c)))=(do let r ←Hb t (bF x) (bF (.const (.slice none l c)));pure (.bool (if op' = .eql then r else !r)):Sem Value):=by
    intro op' hop
    rw[hx,hy]
    rcases hop with rfl | rfl<;>rfl
   have hop:op = .eql∨op = .neq:=by
    unfold Le at h2
    split at h2
    · exact .inl rfl
    · exact .inr rfl
    · cases h2
   rcases hop with rfl | rfl
   · refine⟨ad.isNone,?_⟩
     simp only[execOp,ho,la,g1,lj,g3 _ (.inl rfl),g2,lh]
     rfl
   · refine⟨!ad.isNone,?_⟩
     simp only[execOp,ho,la,g1,lj,g3 _ (.inr rfl),g2,lh]
     rfl
 · cases h
theorem LV (x y:Int):(if y<x then y else x)=min x y:=by
 rcases Int.lt_or_le y x with h | h
 · rw[if_pos h];omega
 · rw[if_neg (by omega)];omega
theorem LW (x y:Int):(if y>x then y else x)=max x y:=by
 rcases Int.lt_or_le x y with h | h
 · rw[if_pos h];omega
 · rw[if_neg (by omega)];omega
theorem y8 {ρ:Operand→AV} {bF:Operand→Value} (hr : ∀x,VA g w (ρ x) (bF x)) {mn:Bool} {l:List Operand} {v:AV} (h:E7 mn (l.map ρ)=some v) :
  ∃cx cy k k' x y,l=[cx,cy]∧bF cx = .int k x∧bF cy = .int k' y∧v = .p (.sc (.int k (cond mn (min x y) (max x y)))):=by
 match l,h with
 |[cx,cy],h=>
  have h1:=hr cx
  have h2:=hr cy
  simp only[pA,H3] at h
  generalize ρ cx=ax at h h1
  generalize ρ cy=ay at h h2
  unfold E7 at h
  split at h
  · rename_i k a k' b heq
    simp only[List.cons.injEq,and_true] at heq
    obtain⟨rfl,rfl⟩:=heq
    simp only[dC] at h
    rw[VA.pv] at h1 h2
    generalize eI:bF cx=c1 at h1
    generalize ff:bF cy=c2 at h2
    cases h1;cases h2
    exact⟨cx,cy,k,k',a,b,rfl,eI,ff,h.symm⟩
  · cases h
 |[],h=>simp[E7] at h
 |[_],h=>simp[E7] at h
 |_::_::_::_,h=>simp[E7] at h
theorem oC (h:Rel g m w) {ρ:Operand→AV} {bF:Operand→Value} (hr : ∀x,VA g w (ρ x) (bF x)) (hrc : ∀v,bF (.const v)=v) {o:Oper} {aO:Nat} (hn:makes o=true→m[aO]? = some .free) {wr:Bool} {a:AV} {us:mW}
  (he:tG P (fun i=>m.getD i .dead) wr aO ρ o=some (a,us,true)):bR g m w ((execOp bF o).run P w) a (apply m us):=by
 have he' : ∀y,rQ y=true → ∃l c,bF y = .slice none l c:=by
  intro y hy
  unfold rQ at hy
  split at hy
  · exact⟨_,_,hrc _⟩
  · cases hy
 have hmk : ∀{b:Bool},makes o=b→b=true→m[aO]? = some .free:=fun e e'=>hn (e.trans e')
 unfold tG at he
 split at he
 · rename_i x ho
   simp only[dC,kz,and_true] at he
   obtain⟨rfl,rfl⟩:=he
   exact bR.quiet h (v:=bF x) (by simp[execOp,ho]) (hr x)
 · rename_i x ho
   simp only[dC,kz,and_true] at he
   obtain⟨rfl,rfl⟩:=he
   exact bR.quiet h (v:=bF x) (by simp[execOp,ho]) (hr x)
 · rename_i c x y ho
   split at he
   · rename_i t hc
     simp only[dC,kz,and_true] at he
     obtain⟨rfl,rfl⟩:=he
     have hb:bF c = .bool t:=by have:=hr c;rw[hc,VA.pv] at this;generalize bF c=z at this;cases this;rfl
     cases t
     · exact bR.quiet h (v:=bF y) (by simp[execOp,ho,hb,asBool]) (hr y)
     · exact bR.quiet h (v:=bF x) (by simp[execOp,ho,hb,asBool]) (hr x)
   · cases he
 · rename_i t ho
   split at he
   · exact vK h (hmk (by simp only[makes,ho]) rfl) he ho
   · exact xY h (hmk (by simp only[makes,ho]) rfl) he (ty:=0) (pos:= "") ho rfl rfl
 · rename_i t x ho
   exact BD h (hmk (by simp only[makes,ho]) rfl) (hr x) he (t:=t) (by simp[execOp,ho,Instr.box,newVar,newRow])
 · rename_i t parts ho
   obtain⟨h1,rfl⟩:=iU he
   refine bR.of (h:=h) (s:=Instr.build t (parts.map fun(i,x)=>(i,bF x))) (P:=P) (by simp only[execOp,ho,la,lh]) (xW h1 ?_)
   rw[kb];exact nw hr parts.toList
 · rename_i t len parts ho
   have:=pJ (jM:=parts.map fun(i,x)=>(i,bF x)) h (hmk (by simp only[makes,ho]) rfl) he (by rw[kb];exact nw hr parts.toList)
   simpa only[execOp,ho] using this
 · rename_i t x ho
   obtain⟨h1,rfl⟩:=iU he
   obtain⟨c,o',cv,k1,k2,k3⟩:=qz h (hr x) h1
   exact bR.quiet h (v:=cv) (by simp[execOp,ho,Instr.loadAt,k1,Instr.sureAddr,k2]) k3
 · rename_i t x v ho
   obtain⟨w',k1,rfl,k2,k3,k4⟩:=xX h (hr x) (hr v) he
   exact⟨undef,w',g,.inr ⟨by simp[execOp,ho,k1],rfl⟩,VA.je.2 trivial,k2,k3,k4⟩
 · rename_i x ho
   obtain⟨h1,rfl⟩:=fW he
   obtain⟨v,k1,k2⟩:=rT hr ho h1
   exact bR.quiet h k1 k2
 · rename_i op t x y yt ho
   split at he
   · rename_i hy
     obtain⟨l,c,QG⟩:=he' y hy
     obtain⟨rfl,v,k1,k2⟩:=yf hr QG ho he
     exact bR.quiet h k1 k2
   · split at he
     · obtain⟨rfl,v,k1,k2⟩:=BK hr ho he
       exact bR.quiet h k1 k2
     · split at he
       · rename_i hsame
         obtain⟨rfl,v,k1,k2⟩:=uu hr ho hsame he
         exact bR.quiet h k1 k2
       · obtain⟨h1,rfl⟩:=iU he
         obtain⟨v,k1,k2⟩:=xV hr ho h1
         exact bR.quiet h k1 k2
 · rename_i t x ho
   exact yd h (hmk (by simp only[makes,ho]) rfl) (hr x) ho he
 · rename_i x s ho
   exact Au h (hr x) ho he
 · rename_i t ho
   have fin : ∀ob:fR,ob.is (.map #[] 0) []→ob.room (.map #[] 0) 0→some (AV.vm aO,[(aO,aH.ob ob [])],true)=some (a,us,true)→bR g m w ((execOp bF o).run P w) a (apply m us):=by
    intro ob Th hroom he
    simp only[dC,kz,and_true] at he
    obtain⟨rfl,rfl⟩:=he
    obtain⟨h1,h2,h3⟩:=h.uP (ob:=ob) (l:=[]) (vs:=[]) (hmk (by simp only[makes,ho]) rfl) trivial (dX w (.map #[] 0)) Th hroom
    exact⟨.map (some w.heap.size),_,_,.inl (by simp[execOp,ho,run_makeMap_plain,rn]),.vm aO _ (by simp[Gh.put]),h1,h2,h3⟩
   split at he
   · unfold vh at he
     split at he
     · exact fin (.smap []) ⟨rfl,[],0,rfl,rfl⟩ trivial he
     · cases he
   unfold yA at he
   split at he
   · split at he
     · exact fin (.zN []) ⟨_,_,[],rfl,rfl,rfl,.refl _⟩ trivial he
     · exact fin (.map [] [] 0) rfl trivial he
   · exact fin (.map [] [] 0) rfl trivial he
 · rename_i t x i ok ho
   obtain⟨h1,rfl⟩:=fW he
   exact bR.of (h:=h) (s:=Instr.lookup t (bF x) (bF i) ok) (P:=P) (by simp only[execOp,ho,la,lh]) (Ar h (hr x) (hr i) h1)
 · rename_i t x k v ho
   obtain⟨w',k1,rfl,k2,k3,k4⟩:=tP h (hr x) (hr k) (hr v) he
   exact⟨undef,w',g,.inr ⟨by simp[execOp,ho,k1],rfl⟩,VA.je.2 trivial,k2,k3,k4⟩
 · rename_i t x k v ho
   obtain⟨w',k1,rfl,k2,k3,k4⟩:=tP h (hr x) (hr k) (hr v) he
   exact⟨undef,w',g,.inr ⟨by simp[execOp,ho,k1],rfl⟩,VA.je.2 trivial,k2,k3,k4⟩
 · rename_i op t x ho
   obtain⟨h1,rfl⟩:=iU he
   obtain⟨v,k1,k2⟩:=Ah hr ho h1
   exact bR.quiet h k1 k2
 · rename_i src dst x ho
   exact uq h (hmk (by simp only[makes,ho]) rfl) hr ho he
 · rename_i t x ho
   obtain⟨h1,rfl⟩:=fW he
   exact bR.of (h:=h) (s:=Instr.makeInterface t (bF x)) (P:=P) (by simp only[execOp,ho,la,lh]) (qD h1 (hr x))
 · rename_i f first captured ho
   simp only[dC,kz,and_true] at he
   obtain⟨rfl,rfl⟩:=he
   refine bR.quiet h (v:= .func f (first.map bF) (captured.map bF)) (by simp[execOp,ho,Instr.makeFunc]) (VA.fns.2 ⟨_,_,rfl,?_,?_⟩)
   · rw[kb];exact gz hr _
   · rw[kb];exact gz hr _
 · rename_i t l c ho
   split at he
   · have:=rX h (hr l) (hr c) he
     simpa only[execOp,ho] using this
   · have:=qE h (hmk (by simp only[makes,ho]) rfl) (hr l) (hr c) he
     simpa only[execOp,ho] using this
 · rename_i t x lo hi mx ho
   obtain⟨h1,rfl⟩:=iU he
   exact bR.of (h:=h) (s:=Instr.sliceAt t (bF x) (lo.map bF) (hi.map bF) (mx.map bF)) (P:=P) (by simp only[execOp,ho,la,lh]) (xT hr h1 (hr x))
 · rename_i t x f ho
   obtain⟨h1,rfl⟩:=fW he
   exact bR.of (h:=h) (s:=Instr.fieldAt t (bF x) f) (P:=P) (by simp only[execOp,ho,la,lh]) (qA h1 (hr x))
 · rename_i t x f ho
   obtain⟨h1,rfl⟩:=iU he
   exact bR.of (h:=h) (s:=Instr.field t (bF x) f) (P:=P) (by simp only[execOp,ho,la,lh]) (xR h1 (hr x))
 · rename_i t x i ho
   obtain⟨h1,rfl⟩:=iU he
   exact bR.of (h:=h) (s:=Instr.indexAt t (bF x) (bF i)) (P:=P) (by simp only[execOp,ho,la,lh]) (qB h1 (hr x) (hr i))
 · rename_i t x i ho
   obtain⟨h1,rfl⟩:=iU he
   exact bR.of (h:=h) (s:=Instr.index t (bF x) (bF i)) (P:=P) (by simp only[execOp,ho,la,lh]) (xS h1 (hr x) (hr i))
 · rename_i x i ho
   split at he
   · rename_i vs hx
     obtain⟨h1,rfl⟩:=fW he
     have hv:=hr x
     rw[hx] at hv
     generalize hz:bF x=z at hv
     cases hv with
     |bk _ cs hl hh=>
      obtain⟨b,hb,hv⟩:=aW.get? (aW.cS hl hh) h1
      exact bR.quiet h (v:=b) (by simp only[execOp,ho,hz,Instr.extract];simp at hb;simp[hb]) hv
   · cases he
 · rename_i x xt t ok ho
   obtain⟨h1,rfl⟩:=fW he
   obtain⟨cv,k1,k2⟩:=vR (xt:=xt) h1 (hr x)
   exact bR.quiet h (v:=cv) (by simp only[execOp,ho,la,k1,lj,lh]) k2
 · rename_i c ho
   split at he
   · rename_i s x hc ha
     have kj:c.args = #[s,x]:=by have:=congrArg H4 ha;simpa using this
     have Om:makes o=true:=by simp only[makes,ho,hc]
     split at he
     · have:=v7 (ty:=o.type) h (hn Om) (tQ (hr s)) (hr x) he
       simpa only[execOp,ho,resolve,hc,kj,la,lh,lj,invoke,builtin,H2,pA,H3] using this
     · have:=vL (ty:=o.type) h (hn Om) (tQ (hr s)) (hr x) he
       simpa only[execOp,ho,resolve,hc,kj,la,lh,lj,invoke,builtin,H2,pA,H3] using this
   · rename_i d s hc ha
     have kj:c.args = #[d,s]:=by have:=congrArg H4 ha;simpa using this
     have:=Al (ty:=o.type) h (hr d) (hr s) he
     simpa only[execOp,ho,resolve,hc,kj,la,lh,lj,invoke,builtin,H2,pA,H3] using this
   · rename_i x hc ha
     have kj:c.args = #[x]:=by have:=congrArg H4 ha;simpa using this
     obtain⟨h1,rfl⟩:=fW he
     refine bR.of (h:=h) (s:=Builtin.len_ c.argTypes o.type #[bF x]) (P:=P) ?_ (Bx h1 (hr x))
     simp only[execOp,ho,resolve,hc,kj,la,lh,lj,invoke,builtin,H2,pA,H3]
   · rename_i x hc ha
     have kj:c.args = #[x]:=by have:=congrArg H4 ha;simpa using this
     obtain⟨h1,rfl⟩:=fW he
     refine bR.of (h:=h) (s:=Builtin.cap_ c.argTypes o.type #[bF x]) (P:=P) ?_ (By h1 (hr x))
     simp only[execOp,ho,resolve,hc,kj,la,lh,lj,invoke,builtin,H2,pA,H3]
   · rename_i x hc ha
     have kj:c.args = #[x]:=by have:=congrArg H4 ha;simpa using this
     obtain⟨rfl,v,k1,k2⟩:=qI (P:=P) (ts:=c.argTypes) (ty:=o.type) (hr x) he
     refine bR.quiet h (v:=v) ?_ k2
     simp only[execOp,ho,resolve,hc,kj,la,lh,lj,invoke,builtin,H2,pA,H3,k1]
   · rename_i x n hc ha
     have kj:c.args = #[x,n]:=by have:=congrArg H4 ha;simpa using this
     have:=nv (ty:=o.type) h (hr x) (hr n) he
     simpa only[execOp,ho,resolve,hc,kj,la,lh,lj,invoke,builtin,H2,pA,H3] using this
   · rename_i hc
     obtain⟨h1,rfl⟩:=fW he
     unfold jG at h1
     split at h1
     · rename_i v hm
       simp only[dC] at h1;subst h1
       obtain⟨cx,cy,k,k',x,y,ha,e1,e2,rfl⟩:=y8 hr hm
       have kj:c.args = #[cx,cy]:=by have:=congrArg H4 ha;simpa using this
       refine bR.quiet h (v:= .int k (min x y)) ?_ (.p _ _ (.sc _))
       simp only[execOp,ho,resolve,hc,kj,la,lh,lj,invoke,builtin,H2,pA,H3,e1,e2,Builtin.min_,M2,Ps,Builtin.min2,LV]
     · obtain⟨v,k1,k2⟩:=eD hr (fun _ _=>by rw[ho];exact fun e=>by cases e) h1
       exact bR.quiet h k1 k2
   · rename_i hc
     obtain⟨h1,rfl⟩:=fW he
     unfold jG at h1
     split at h1
     · rename_i v hm
       simp only[dC] at h1;subst h1
       obtain⟨cx,cy,k,k',x,y,ha,e1,e2,rfl⟩:=y8 hr hm
       have kj:c.args = #[cx,cy]:=by have:=congrArg H4 ha;simpa using this
       refine bR.quiet h (v:= .int k (max x y)) ?_ (.p _ _ (.sc _))
       simp only[execOp,ho,resolve,hc,kj,la,lh,lj,invoke,builtin,H2,pA,H3,e1,e2,Builtin.max_,M2,Ps,Builtin.max2,LW]
     · obtain⟨v,k1,k2⟩:=eD hr (fun _ _=>by rw[ho];exact fun e=>by cases e) h1
       exact bR.quiet h k1 k2
   · cases he
 · cases he
end ops
structure cT (ρ:Nat→Option Nat) (g g':Gh):Prop where
 at' : ∀i k,ρ i=some k→g'.aP k=g.aP i∧g'.lo k=g.lo i∧g'.hi k=g.hi i
 pure:g'.pure=g.pure
theorem VP.C6 {g g':Gh} {w:World} (h:g'.pure=g.pure) {v:PV} {cv:Value} (hv:VP g w v cv):VP g' w v cv:=hv.mono fun c o p=>⟨by rw[h];exact p,rfl⟩
theorem dS (ρ:Nat→Option Nat) : ∀l:List AV,(eA ρ l).length=l.length
 |[]=>rfl
 |a::l=>by simp[eA,dS ρ l]
theorem nA (ρ:Nat→Option Nat) : ∀(l:List AV) (i:Nat) (h:i<(eA ρ l).length) (h':i<l.length),(eA ρ l)[i]=jo ρ l[i]
 |_::_,0,_,_=>rfl
 |_::l,i+1,h,h'=>nA ρ l i (cf h) (cf h')
 |[],_,_,h'=>absurd h' (Hn _)
theorem VA.jo {ρ:Nat→Option Nat} {g g':Gh} {w:World} (hr:cT ρ g g') {a:AV} {v:Value} (h:VA g w a v):VA g' w (Am.jo ρ a) v:=by
 induction h with
 |af v=>exact .af v
 |p v cv h=>exact .p v cv (h.C6 hr.pure)
 |os tok len sz cells a cap h ht=>
  have h':=h.C6 hr.pure
  cases tok with
  |none=>exact .os none len sz cells a cap h' (ht.imp id fun⟨t,_,_,e,_⟩=>by cases e)
  |some t=>
   simp only[Am.jo]
   cases hρ:ρ t with
   |none=>exact .p _ _ h'
   |some k=>
    obtain⟨e1,e2,e3⟩:=hr.at' t k hρ
    refine .os (some k) len sz cells a cap h' (ht.imp id ?_)
    rintro ⟨t',b,o,e,rfl,q1,q2,q3,q4⟩
    cases e
    exact⟨k,b,o,rfl,rfl,e1.trans q1,e2.trans q2,e3.trans q3,q4⟩
 |mp b off c h=>
  simp only[Am.jo]
  cases hρ:ρ b with
  |none=>exact .af _
  |some k=>exact .mp k off c ((hr.at' b k hρ).1.trans h)
 |ms b off len sz cap c h hc=>
  simp only[Am.jo]
  cases hρ:ρ b with
  |none=>exact .af _
  |some k=>exact .ms k off len sz cap c ((hr.at' b k hρ).1.trans h) hc
 |mg b off len sz cap c h hc hh=>
  simp only[Am.jo]
  cases hρ:ρ b with
  |none=>exact .af _
  |some k=>exact .mg k off len sz cap c ((hr.at' b k hρ).1.trans h) hc (by rw[(hr.at' b k hρ).2.2];exact hh)
 |vm b c h=>
  simp only[Am.jo]
  cases hρ:ρ b with
  |none=>exact .af _
  |some k=>exact .vm k c ((hr.at' b k hρ).1.trans h)
 |vy b c h=>
  simp only[Am.jo]
  cases hρ:ρ b with
  |none=>exact .af _
  |some k=>exact .vy k c ((hr.at' b k hρ).1.trans h)
 |fn f l k fa ca hl hk h h2 ih ih2=>
  simp only[Am.jo]
  exact .fn f _ _ fa ca (by rw[dS];exact hl) (by rw[dS];exact hk)
   (fun i a b=>by rw[nA ρ l i a (by rwa [dS] at a)];exact ih i _ b) (fun i a b=>by rw[nA ρ k i a (by rwa [dS] at a)];exact ih2 i _ b)
 |agg l cs hl h ih=>
  simp only[Am.jo]
  exact .agg _ cs (by rw[dS];exact hl) (fun i a b=>by rw[nA ρ l i a (by rwa [dS] at a)];exact ih i _ b)
 |bk l cs hl h ih=>
  simp only[Am.jo]
  exact .bk _ cs (by rw[dS];exact hl) (fun i a b=>by rw[nA ρ l i a (by rwa [dS] at a)];exact ih i _ b)
 |kA t v cv h ih=>exact .kA t _ cv ih
theorem bN.jo {ρ:Nat→Option Nat} {g g':Gh} {w:World} (hr:cT ρ g g') : ∀{l:List AV} {vs:List Value},bN g w l vs→bN g' w (eA ρ l) vs
 |[],[],_=>trivial
 |_::_,_::_,h=>⟨h.1.jo hr,bN.jo hr h.2⟩
 |[],_::_,h=>h.elim
 |_::_,[],h=>h.elim
theorem bN.ew {ρ:Nat→Option Nat} {g g':Gh} {w:World} (hr:cT ρ g g') : ∀{l:List AV} {vs:List Value},bN g w l vs→bN g' w (l.map ew) vs
 |[],[],_=>trivial
 |a::_,_::_,h=>⟨by
   cases a with
   |p v=>exact h.1.jo hr
   |_=>exact .af _,bN.ew hr h.2⟩
 |[],_::_,h=>h.elim
 |_::_,[],h=>h.elim
theorem bN.Li {ρ:Nat→Option Nat} {g g':Gh} {w:World} (hr:cT ρ g g') {l l':List AV} {vs:List Value} (h:bN g w l vs) (hl:l'=eA ρ l∨l'=l.map Am.ew):bN g' w l' vs:=by
 rcases hl with rfl | rfl
 · exact h.jo hr
 · exact bN.ew hr h
theorem GO (ρ:Nat→Option Nat) : ∀l:List PV,eA ρ (l.map .p)=l.map .p
 |[]=>rfl
 |v::l=>by simp[eA,Am.jo,GO ρ l]
theorem Fh (ρ:Nat→Option Nat) (k:fR) (vals:List AV) : ∃l,gw ρ (.ob k vals) = .ob k l:=by
 cases k with
 |gr t q=>cases q<;>exact⟨_,rfl⟩
 |_=>exact⟨_,rfl⟩
theorem v8 {ρ:Nat→Option Nat} {b:aH} {l':List AV} (h:(gw ρ b).cells?=some l') : ∃l,b.cells?=some l∧l'=eA ρ l:=by
 cases b with
 |pc l=>simp only[gw,aH.cells?,dC] at h;exact⟨_,rfl,by rw[GO];exact h.symm⟩
 |ac l=>simp only[gw,aH.cells?,dC] at h;exact⟨l,rfl,h.symm⟩
 |ob k vals=>
  obtain⟨l0,e⟩:=Fh ρ k vals
  rw[e] at h
  cases h
 |_=>simp[gw,aH.cells?] at h
theorem lC {ρ:Nat→Option Nat} {b:aH}:(gw ρ b).bX=b.bX:=by unfold gw;split<;>rfl
theorem Eb {ρ:Nat→Option Nat} {b:aH} {k:fR} {l:List AV} (h:gw ρ b = .ob k l) : ∃l0,b = .ob k l0∧(l=eA ρ l0∨l=l0.map ew):=by
 unfold gw at h
 split at h<;>cases h
 · exact⟨_,rfl,.inr rfl⟩
 · exact⟨_,rfl,.inr rfl⟩
 · exact⟨_,rfl,.inl rfl⟩
 · rename_i hne
   exact(hne _ _ rfl).elim
theorem sj {ρ:Nat→Option Nat} {b:aH} (h:gw ρ b = .free):b = .free:=by unfold gw at h;split at h<;>first | exact h | cases h
theorem BP {ρ:Nat→Option Nat} {b:aH} (h:gw ρ b = .tok):b = .tok:=by unfold gw at h;split at h<;>first | exact h | cases h
theorem Ec {ord:List Nat} {i k:Nat} (h:idx ord i=some k):ord[k]? = some i:=by
 induction ord generalizing k with
 |nil=>simp[idx] at h
 |cons j ord ih=>
  simp only[idx] at h
  cases hb:be i j with
  |true=>simp only[hb,cond_true,dC] at h;subst h;rw[bm hb];rfl
  |false=>
   simp only[hb,cond_false,kd] at h
   obtain⟨k',h1,rfl⟩:=h
   exact ih h1
def Gh.pack (g:Gh) (ord:List Nat):Gh where
 aP k:=(ord[k]?).bind g.aP
 lo k:=match ord[k]? with | some i=>g.lo i | none=>0
 hi k:=match ord[k]? with | some i=>g.hi i | none=>0
 pure:=g.pure
theorem cT.pack (g:Gh) (ord:List Nat):cT (idx ord) g (g.pack ord):=
 ⟨fun i k h=>by have:=Ec h;simp[Gh.pack,this],rfl⟩
theorem jQ {m:Mem} {ord:List Nat} {k:Nat} {b:aH} (h:(pack m ord)[k]? = some b) : ∃i,ord[k]? = some i∧b=gw (idx ord) (m.getD i .dead):=by
 simp only[pack,fv,kd] at h
 obtain⟨i,h1,h2⟩:=h
 exact⟨i,h1,h2.symm⟩
theorem C7 {m:Mem} {i:Nat} {l:List AV} (h:(m.getD i .dead).cells?=some l):m[i]? = some (m.getD i .dead):=
 getD_some rfl fun e=>by rw[e] at h;cases h
theorem y9 {m:Mem} {i:Nat} (h:(m.getD i .dead).bX=true):m[i]? = some (m.getD i .dead):=
 getD_some rfl fun e=>by rw[e] at h;cases h
theorem Fi {l:List Nat} (h:l.Nodup) {j k i:Nat} (hj:l[j]? = some i) (hk:l[k]? = some i):j=k:=by
 obtain⟨a,ha⟩:=fb.1 hj
 obtain⟨b,hb⟩:=fb.1 hk
 rcases Nat.lt_trichotomy j k with q | q | q
 · exact absurd (ha.trans hb.symm) (H5.1 h j k a b q)
 · exact q
 · exact absurd (hb.trans ha.symm) (H5.1 h k j b a q)
theorem Rel.pack {g:Gh} {m:Mem} {w:World} (h:Rel g m w) {ord:List Nat} (hnd:ord.Nodup) :
  Rel (g.pack ord) (Am.pack m ord) w∧(∀c,cA (g.pack ord) (Am.pack m ord) c→cA g m c):=by
 have own : ∀k b c,(Am.pack m ord)[k]? = some b→b.bX=true→(g.pack ord).aP k=some c → ∃i,ord[k]? = some i∧m[i]? = some (m.getD i .dead)∧(m.getD i .dead).bX=true∧g.aP i=some c:=by
  intro k b c hk ho hc
  obtain⟨i,h1,rfl⟩:=jQ hk
  rw[lC] at ho
  exact⟨i,h1,y9 ho,ho,by simpa[Gh.pack,h1] using hc⟩
 refine⟨⟨fun k hk=> ?_,fun k hk=> ?_,fun k b l hk hl=> ?_,fun k c hk hc=> ?_,fun j k b b' c hj hk ho ho' hc dJ=> ?_,h.there,fun k ob l hk=> ?_⟩,fun c ho=> ?_⟩
 · have:ord[k]? = none:=fg (by simpa[Am.pack] using hk)
   simp[Gh.pack,this]
 · obtain⟨i,h1,h2⟩:=jQ hk
   have h2:=sj h2.symm
   have:=h.free i (getD_some h2 (by simp))
   simp[Gh.pack,h1,this]
 · obtain⟨i,h1,rfl⟩:=jQ hk
   obtain⟨l0,h2,rfl⟩:=v8 hl
   obtain⟨c,cs,e,n,k1,k2,k3,k4,k5⟩:=h.cells i _ _ (C7 h2) h2
   exact⟨c,cs,e,n,by simpa[Gh.pack,h1] using k1,k2,k3,⟨k4.1.jo (cT.pack g ord),k4.2⟩,k5⟩
 · obtain⟨i,h1,h2⟩:=jQ hk
   have h2:=BP h2.symm
   have hc:g.aP i=some c:=by simpa[Gh.pack,h1] using hc
   have:=h.tok i c (getD_some h2 (by simp)) hc
   simpa[Gh.pack,h1] using this
 · obtain⟨i,h1,h2,h3,h4⟩:=own j b c hj ho hc
   obtain⟨i',h1',h2',h3',h4'⟩:=own k b' c hk ho' dJ
   have:=h.inj i i' _ _ c h2 h2' h3 h3' h4 h4'
   subst this
   exact Fi hnd h1 h1'
 · obtain⟨i,h1,h2⟩:=jQ hk
   obtain⟨l0,h3,QH⟩:=Eb h2.symm
   obtain⟨c,o,vs,k1,k2,k3,k4,k5,k6⟩:=h.obs i ob l0 (getD_some h3 (by simp))
   exact⟨c,o,vs,by simpa[Gh.pack,h1] using k1,k2,k3.Li (cT.pack g ord) QH,k4,k5,by simpa[Gh.pack,h1] using k6⟩
 · obtain⟨k,b,hk,ho,hc⟩:=ho
   obtain⟨i,_,h2,h3,h4⟩:=own k b c hk ho hc
   exact⟨i,_,h2,h3,h4⟩
theorem Ed {l:List Nat} {i:Nat}:has l i=true↔i∈l:=by
 induction l with
 |nil=>simp[has]
 |cons j l ih=>
  simp only[has]
  cases hb:be j i with
  |true=>simp[bm hb]
  |false=>
   have:j≠i:=fun e=>by subst e;simp[Hm] at hb
   simp[ih,Ne.symm this]
theorem dD : ∀(l ord:List Nat),ord.Nodup→(iE ord l).Nodup ∧ ∃t,iE ord l=ord++t
 |[],ord,h=>⟨h,[],by simp[iE]⟩
 |i::l,ord,h=>by
  simp only[iE]
  cases hb:has ord i with
  |true=>exact dD l ord h
  |false=>
   have hni:i∉ord:=fun k=>by rw[Ed.2 k] at hb;cases hb
   obtain⟨h1,t,h2⟩:=dD l (ord++[i]) (Lk.2 ⟨h,by simp,fun a ha b hb=>by simp at hb;subst hb;exact fun e=>hni (e▸ha)⟩)
   exact⟨h1,i::t,by simp only[cond_false,h2,qf,List.singleton_append]⟩
theorem mh (m:Mem) : ∀(f:Nat) (ord:List Nat) (k:Nat),ord.Nodup→(reach m f ord k).Nodup ∧ ∃t,reach m f ord k=ord++t
 |0,ord,_,h=>⟨h,[],by simp[reach]⟩
 |f+1,ord,k,h=>by
  simp only[reach]
  cases hk:ord[k]? with
  |none=>exact⟨h,[],by simp⟩
  |some i=>
   obtain⟨h1,t,h2⟩:=dD (yD (m.getD i .dead)) ord h
   obtain⟨h3,t',h4⟩:=mh m f (iE ord (yD (m.getD i .dead))) (k+1) h1
   refine⟨h3,t++t',?_⟩
   show reach m f (iE ord (yD (m.getD i .dead))) (k+1)=_
   rw[h4,h2,qf]
theorem iV : ∀n,(upTo n).length=n
 |0=>rfl
 |n+1=>by simp[upTo,iV n]
theorem we : ∀(n k:Nat),k<n→(upTo n)[k]? = some k
 |0,_,h=>absurd h (Hn _)
 |n+1,k,h=>by
  simp only[upTo,If,iV]
  by_cases hk:k<n
  · rw[if_pos hk,we n k hk]
  · have:k=n:=by omega
    subst this;simp
theorem GP {n i:Nat} (h:i∈upTo n):i<n:=by
 induction n with
 |zero=>simp[upTo] at h
 |succ n ih=>
  simp only[upTo,List.mem_append,List.mem_singleton] at h
  rcases h with h | rfl
  · have:=ih h;omega
  · omega
theorem jR : ∀n,(upTo n).Nodup
 |0=>by simp[upTo]
 |n+1=>Lk.2 ⟨jR n,by simp,fun a ha b hb=>by simp at hb;subst hb;have:=GP ha;omega⟩
theorem eE (m:Mem) (fix:Nat) (vs:List AV):(close m fix vs).Nodup ∧ ∀k,k<fix→(close m fix vs)[k]? = some k:=by
 obtain⟨h1,t,h2⟩:=dD (iz vs) (upTo fix) (jR fix)
 obtain⟨h3,t',h4⟩:=mh m (m.length+1) (iE (upTo fix) (iz vs)) 0 h1
 refine⟨h3,fun k hk=> ?_⟩
 unfold close
 rw[h4,h2,qf,List.getElem?_append_left (by rw[iV];exact hk),we fix k hk]
theorem fH : ∀{l:List Nat} {n:Nat},iP l n=true → ∀i∈l,i<n
 |[],_,_,_,h=>by cases h
 |j::l,n,h,i,hi=>by
  simp only[iP,dv] at h
  cases hi with
  |head=>simpa[ix] using h.1
  |tail _ hi=>exact fH h.2 i hi
theorem tT (ρ:Nat→Option Nat) : ∀(ord:List Nat) (m1 m:Mem),ord.Nodup→(∀i∈ord,i<m.length)→ord.length≤m1.length → ∀(i:Nat) (b:aH),(cQ ρ ord m1 m)[i]? = some b →
  (i<m.length∧i∉ord∧m[i]? = some b)∨(∃(k:Nat) (b1:aH),ord[k]? = some i∧m1[k]? = some b1∧b=gw ρ b1)∨(m.length≤i ∧ ∃b1:aH,m1[ord.length+(i-m.length)]? = some b1∧b=gw ρ b1)
 |[],m1,m,_,_,_,i,b,h=>by
  simp only[cQ,If] at h
  by_cases hi:i<m.length
  · rw[if_pos hi] at h;exact .inl ⟨hi,by simp,h⟩
  · rw[if_neg hi,fv,kd] at h
    obtain⟨b1,h1,h2⟩:=h
    exact .inr (.inr ⟨by omega,b1,by simpa using h1,h2.symm⟩)
 |j::ord,[],m,_,_,hl,_,_,_=>by simp at hl
 |j::ord,b0::m1,m,hnd,hlt,hl,i,b,h=>by
  simp only[cQ] at h
  have C8:=PH.1 hnd
  rcases tT ρ ord m1 (m.set j (gw ρ b0)) C8.2 (fun i hi=>by simpa using hlt i (.tail _ hi)) (by simpa using hl) i b h with⟨h1,h2,h3⟩ | ⟨k,b1,h1,h2,h3⟩ | ⟨h1,b1,h2,h3⟩
  · rw[fh] at h1
    rcases aq h3 with⟨rfl,e⟩ | ⟨hne,e⟩
    · exact .inr (.inl ⟨0,b0,rfl,rfl,e⟩)
    · exact .inl ⟨h1,fun hm=>by cases hm with
       |head=>exact hne rfl
       |tail _ hm=>exact h2 hm,e⟩
  · exact .inr (.inl ⟨k+1,b1,h1,h2,h3⟩)
  · rw[fh] at h1 h2
    exact .inr (.inr ⟨h1,b1,by rw[show(j::ord).length+(i-m.length)=(ord.length+(i-m.length))+1 by simp;omega];exact h2,h3⟩)
theorem dH (ρ:Nat→Option Nat) : ∀(ord:List Nat) (m1 m:Mem),ord.length≤m1.length→(cQ ρ ord m1 m).length=m.length+(m1.length-ord.length)
 |[],m1,m,_=>by simp[cQ]
 |_::_,[],_,h=>by simp at h
 |j::ord,b::m1,m,h=>by
  simp only[cQ]
  rw[dH ρ ord m1 _ (by simpa using h)]
  simp
theorem pK : ∀{ord:List Nat} {k i:Nat},ord.Nodup→ord[k]? = some i→idx ord i=some k
 |[],_,_,_,h=>by simp at h
 |j::ord,0,i,_,h=>by
  simp only[List.getElem?_cons_zero,dC] at h;subst h
  simp[idx,Hm]
 |j::ord,k+1,i,hnd,h=>by
  have C8:=PH.1 hnd
  simp only[List.getElem?_cons_succ] at h
  have hne:be i j=false:=by
   rw[kv];intro e
   have:=bm e
   subst this
   exact C8.1 (pb h)
  simp[idx,hne,pK C8.2 h]
theorem BQ {ord:List Nat} {i:Nat} (h:i∉ord):idx ord i=none:=by
 cases hq:idx ord i with
 |none=>rfl
 |some k=>exact absurd (pb (Ec hq)) h
def Gh.back (g g1:Gh) (ord:List Nat) (n:Nat):Gh where
 aP i:=match idx ord i with | some k=>g1.aP k | none=>if i<n then g.aP i else g1.aP (ord.length+(i-n))
 lo i:=match idx ord i with | some k=>g1.lo k | none=>if i<n then g.lo i else g1.lo (ord.length+(i-n))
 hi i:=match idx ord i with | some k=>g1.hi k | none=>if i<n then g.hi i else g1.hi (ord.length+(i-n))
 pure:=g1.pure
def bn (g g':Gh) (n:Nat):Prop:= ∀k c,k<n→g.aP k=some c→g'.aP k=some c∧g'.lo k=g.lo k∧g'.hi k=g.hi k
theorem bn.refl (g:Gh) (n:Nat):bn g g n:=fun _ _ _ h=>⟨h,rfl,rfl⟩
theorem bn.trans {g g' g'':Gh} {n:Nat} (h:bn g g' n) (k:bn g' g'' n):bn g g'' n:=fun i c hi hc=>
 let⟨h1,h2,h3⟩:=h i c hi hc
 let⟨k1,k2,k3⟩:=k i c hi h1
 ⟨k1,k2.trans h2,k3.trans h3⟩
theorem bn.qJ {g g':Gh} {w w':World} (h:Ext g w g' w') (n:Nat):bn g g' n:=fun i c _ hc=>h.aP i c hc
theorem Rel.back {g lu:Gh} {m Fj:Mem} {w w':World} (h:Rel g m w) {ord:List Nat} (hnd:ord.Nodup) (hlt : ∀i∈ord,i<m.length)
  (h1:Rel lu Fj w') (hs:cr (g.pack ord) (Am.pack m ord) w lu Fj w') (hf:bn (g.pack ord) lu ord.length) (hl:ord.length≤Fj.length) :
  Rel (g.back lu ord m.length) (cQ (bf ord m.length) ord Fj m) w'∧Ext g w (g.back lu ord m.length) w'∧cr g m w (g.back lu ord m.length) (cQ (bf ord m.length) ord Fj m) w' ∧
   cT (bf ord m.length) lu (g.back lu ord m.length):=by
 obtain⟨GQ,C9⟩:=h.pack hnd
 have Ee : ∀k i,ord[k]? = some i→i<m.length∧k<ord.length∧(g.back lu ord m.length).aP i=lu.aP k∧(g.back lu ord m.length).lo i=lu.lo k∧(g.back lu ord m.length).hi i=lu.hi k:=by
  intro k i hk
  have hx:=pK hnd hk
  exact⟨hlt i (pb hk),aV hk,by simp only[Gh.back,hx],by simp only[Gh.back,hx],by simp only[Gh.back,hx]⟩
 have Da : ∀i,i∉ord→i<m.length→(g.back lu ord m.length).aP i=g.aP i∧(g.back lu ord m.length).lo i=g.lo i∧(g.back lu ord m.length).hi i=g.hi i:=by
  intro i hi hlt
  have hx:=BQ hi
  simp only[Gh.back,hx,hlt,if_true,and_self]
 have JC : ∀i,m.length≤i→(g.back lu ord m.length).aP i=lu.aP (ord.length+(i-m.length))∧(g.back lu ord m.length).lo i=lu.lo (ord.length+(i-m.length))∧(g.back lu ord m.length).hi i=lu.hi (ord.length+(i-m.length)):=by
  intro i hi
  have hx:=BQ (ord:=ord) (i:=i) fun hm=>by have:=hlt i hm;omega
  simp only[Gh.back,hx,H0.2 hi,if_false,and_self]
 have mj:cT (bf ord m.length) lu (g.back lu ord m.length):=by
  refine⟨fun j k hj=> ?_,rfl⟩
  unfold bf at hj
  cases ho:ord[j]? with
  |some i=>
   simp only[ho,dC] at hj;subst hj
   exact(Ee j i ho).2.2
  |none=>
   simp only[ho,dC] at hj;subst hj
   have:ord.length≤j:=List.getElem?_eq_none_iff.1 ho
   have e:ord.length+(m.length+(j-ord.length)-m.length)=j:=by omega
   have:=JC (m.length+(j-ord.length)) (by omega)
   rwa [e] at this
 have LY:Ext g w (g.back lu ord m.length) w':=by
  refine⟨fun i c hc=> ?_,fun c o p=>hs.pure c o p⟩
  have hi:i<m.length:=by
   rcases Nat.lt_or_ge i m.length with q | q
   · exact q
   · rw[h.rJ i q] at hc;cases hc
  by_cases hm:i∈ord
  · obtain⟨k,hk1,hk2⟩:=List.getElem_of_mem hm
    have hk:ord[k]? = some i:=by rw[List.getElem?_eq_getElem hk1,hk2]
    obtain⟨_,_,e1,e2,e3⟩:=Ee k i hk
    obtain⟨f1,f2,f3⟩:=hf k c hk1 (by simpa[Gh.pack,hk] using hc)
    rw[e1,e2,e3,f1,f2,f3]
    simp[Gh.pack,hk]
  · obtain⟨e1,e2,e3⟩:=Da i hm hi
    exact⟨e1.trans hc,e2,e3⟩
 have nB : ∀i b c,i∉ord→m[i]? = some b→b.bX=true→g.aP i=some c → ¬cA (g.pack ord) (Am.pack m ord) c:=by
  intro i b c hi hb ho hc hO
  obtain⟨k,b',hk,ho',dJ⟩:=hO
  obtain⟨i',q1,rfl⟩:=jQ hk
  rw[lC] at ho'
  have dJ:g.aP i'=some c:=by simpa[Gh.pack,q1] using dJ
  have:=h.inj i i' _ _ c hb (y9 ho') ho ho' hc dJ
  subst this
  exact hi (pb q1)
 have Aw : ∀i b c,i∉ord→m[i]? = some b→b.bX=true→g.aP i=some c → ∀o,lu.pure c o→g.pure c o:=by
  intro i b c hi hb ho hc o p
  rcases hs.fresh c o p with q | q | q
  · exact q
  · exact absurd q (nB i b c hi hb ho hc)
  · exact absurd (h.fV ⟨i,b,hb,ho,hc⟩) (H0.2 q)
 have get:=tT (bf ord m.length) ord Fj m hnd hlt hl
 have LZ : ∀i b c,(cQ (bf ord m.length) ord Fj m)[i]? = some b→b.bX=true→(g.back lu ord m.length).aP i=some c →
   (i∉ord∧m[i]? = some b∧g.aP i=some c)∨(∃k b1,bf ord m.length k=some i∧Fj[k]? = some b1∧b1.bX=true∧lu.aP k=some c):=by
  intro i b c hi ho hc
  rcases get i b hi with⟨q1,q2,q3⟩ | ⟨k,b1,q1,q2,rfl⟩ | ⟨q1,b1,q2,rfl⟩
  · exact .inl ⟨q2,q3,by rw[(Da i q2 q1).1] at hc;exact hc⟩
  · rw[lC] at ho
    exact .inr ⟨k,b1,by simp[bf,q1],q2,ho,by rw[(Ee k i q1).2.2.1] at hc;exact hc⟩
  · rw[lC] at ho
    rw[(JC i q1).1] at hc
    have hn:ord[ord.length+(i-m.length)]? = none:=fg (by omega)
    refine .inr ⟨_,b1,?_,q2,ho,hc⟩
    simp only[bf,hn,dC];omega
 refine⟨⟨fun i hi=> ?_,fun i hi=> ?_,fun i b l hi hb=> ?_,fun i c hi hc=> ?_,fun i j b b' c hi hj ho ho' hc dJ=> ?_,h1.there,fun i ob l hi=> ?_⟩,LY,⟨hs.size,fun c hc hn=>hs.keep c hc fun ho=>hn (C9 c ho),hs.pure,fun c o p=> ?_,fun c ho=> ?_,hs.os,hs.tape,hs.output⟩,mj⟩
 · rw[dH _ _ _ _ hl] at hi
   rw[(JC i (by omega)).1]
   exact h1.rJ _ (by omega)
 · rcases get i _ hi with⟨q1,q0,q3⟩ | ⟨k,b1,q1,q2,q3⟩ | ⟨q1,b1,q2,q3⟩
   · rw[(Da i q0 q1).1];exact h.free i q3
   · have q3:=sj q3.symm
     subst q3
     rw[(Ee k i q1).2.2.1];exact h1.free k q2
   · have q3:=sj q3.symm
     subst q3
     rw[(JC i q1).1];exact h1.free _ q2
 · have back : ∀k b1,bf ord m.length k=some i→Fj[k]? = some b1→b=gw (bf ord m.length) b1 →
    ∃c cs e n,(g.back lu ord m.length).aP i=some c∧w'.heap[c]? = some (.cells cs e n)∧n.2≤n.1∧Bs (g.back lu ord m.length) w' l cs.toList ∧ ∀o,¬(g.back lu ord m.length).pure c o:=by
    rintro k b1 hk BO rfl
    obtain⟨l0,q,rfl⟩:=v8 hb
    obtain⟨c,cs,e,n,k1,k2,k3,k4,k5⟩:=h1.cells k b1 l0 BO q
    exact⟨c,cs,e,n,(mj.at' k i hk).1.trans k1,k2,k3,⟨k4.1.jo mj,k4.2⟩,k5⟩
   rcases get i _ hi with⟨q1,q2,q3⟩ | ⟨k,b1,q1,q2,q3⟩ | ⟨q1,b1,q2,q3⟩
   · obtain⟨c,cs,e,n,k1,k2,k3,k4,k5⟩:=h.cells i b l q3 hb
     have ho:=bY hb
     exact⟨c,cs,e,n,(Da i q2 q1).1.trans k1,(hs.keep c (bw k2) (nB i b c q2 q3 ho k1)).trans k2,k3,k4.mono LY,fun o p=>k5 o (Aw i b c q2 q3 ho k1 o p)⟩
   · exact back k b1 (by simp[bf,q1]) q2 q3
   · have hn:ord[ord.length+(i-m.length)]? = none:=fg (by omega)
     exact back _ b1 (by simp only[bf,hn,dC];omega) q2 q3
 · have back : ∀k b1,bf ord m.length k=some i→Fj[k]? = some b1→aH.tok=gw (bf ord m.length) b1 →
    ∃cs e n,w'.heap[c]? = some (.cells cs e n)∧(g.back lu ord m.length).hi i≤cs.size∧(n.2≤n.1∨(g.back lu ord m.length).hi i≤n.1) ∧ ∀o,(g.back lu ord m.length).lo i≤o→o<(g.back lu ord m.length).hi i → ¬(g.back lu ord m.length).pure c o:=by
    intro k b1 hk BO hq
    have hq:=BP hq.symm
    subst hq
    obtain⟨e1,e2,e3⟩:=mj.at' k i hk
    rw[e2,e3]
    rw[e1] at hc
    exact h1.tok k c BO hc
   rcases get i _ hi with⟨q1,q2,q3⟩ | ⟨k,b1,q1,q2,q3⟩ | ⟨q1,b1,q2,q3⟩
   · obtain⟨e0,e2,e1⟩:=Da i q2 q1
     have hc:g.aP i=some c:=e0.symm.trans hc
     obtain⟨cs,e,n,k2,k3,k4,k5⟩:=h.tok i c q3 hc
     rw[e1,e2]
     exact⟨cs,e,n,(hs.keep c (bw k2) (nB i _ c q2 q3 rfl hc)).trans k2,k3,k4,fun o a b p=>k5 o a b (Aw i _ c q2 q3 rfl hc o p)⟩
   · exact back k b1 (by simp[bf,q1]) q2 q3
   · have hn:ord[ord.length+(i-m.length)]? = none:=fg (by omega)
     exact back _ b1 (by simp only[bf,hn,dC];omega) q2 q3
 · have apart : ∀i b,i∉ord→m[i]? = some b→b.bX=true→g.aP i=some c → ∀k b1,Fj[k]? = some b1→b1.bX=true→lu.aP k=some c→False:=by
    intro i b q2 q3 ho hc k b1 hk Ti eI
    rcases hs.owned c ⟨k,b1,hk,Ti,eI⟩ with q | q
    · exact nB i b c q2 q3 ho hc q
    · exact absurd (h.fV ⟨i,b,q3,ho,hc⟩) (H0.2 q)
   rcases LZ i b c hi ho hc with⟨p1,p2,p3⟩ | ⟨k,b1,p1,p2,p3,p4⟩<;>rcases LZ j b' c hj ho' dJ with⟨q1,q2,q3⟩ | ⟨k',SA,q1,q2,q3,q4⟩
   · exact h.inj i j b b' c p2 q2 ho ho' p3 q3
   · exact(apart i b p1 p2 ho p3 k' SA q2 q3 q4).elim
   · exact(apart j b' q1 q2 ho' q3 k b1 p2 p3 p4).elim
   · have:=h1.inj k k' b1 SA c p2 q2 p3 q3 p4 q4
     subst this
     rw[p1] at q1;exact dE q1
 · have back : ∀k b1,bf ord m.length k=some i→Fj[k]? = some b1→aH.ob ob l=gw (bf ord m.length) b1 →
    ∃c o vs,(g.back lu ord m.length).aP i=some c∧w'.heap[c]? = some o∧bN (g.back lu ord m.length) w' l vs∧ob.is o vs∧(∀o',¬(g.back lu ord m.length).pure c o')∧ob.room o ((g.back lu ord m.length).hi i):=by
    intro k b1 hk BO hq
    obtain⟨l0,rfl,QH⟩:=Eb hq.symm
    obtain⟨c,o,vs,k1,k2,k3,k4,k5,k6⟩:=h1.obs k ob l0 BO
    exact⟨c,o,vs,(mj.at' k i hk).1.trans k1,k2,k3.Li mj QH,k4,k5,by rw[(mj.at' k i hk).2.2];exact k6⟩
   rcases get i _ hi with⟨q1,q2,q3⟩ | ⟨k,b1,q1,q2,q3⟩ | ⟨q1,b1,q2,q3⟩
   · obtain⟨c,o,vs,k1,k2,k3,k4,k5,k6⟩:=h.obs i ob l q3
     exact⟨c,o,vs,(Da i q2 q1).1.trans k1,(hs.keep c (bw k2) (nB i _ c q2 q3 rfl k1)).trans k2,k3.mono LY,k4,fun o' p=>k5 o' (Aw i _ c q2 q3 rfl k1 o' p),by rw[(Da i q2 q1).2.2];exact k6⟩
   · exact back k b1 (by simp[bf,q1]) q2 q3
   · have hn:ord[ord.length+(i-m.length)]? = none:=fg (by omega)
     exact back _ b1 (by simp only[bf,hn,dC];omega) q2 q3
 · rcases hs.fresh c o p with q | q | q
   · exact .inl q
   · exact .inr (.inl (C9 c q))
   · exact .inr (.inr q)
 · obtain⟨i,b,hi,hb,hc⟩:=ho
   rcases LZ i b c hi hb hc with⟨_,p2,p3⟩ | ⟨k,b1,p1,p2,p3,p4⟩
   · exact .inl ⟨i,b,p2,hb,p3⟩
   · rcases hs.owned c ⟨k,b1,p2,p3,p4⟩ with q | q
     · exact .inl (C9 c q)
     · exact .inr q
def er:It→List Item
 |.code _ c=>[.code c]
 |.ops _ ops k _=>[.inRegion ops (Pl k (ops.size-k))]
 |.inBlock id=>[.inBlock id]
 |.inLoop _ b=>[.inLoop b]
 |.inScope b=>[.inScope b]
 |.forget _=>[]
 |.fin=>[]
 |.begin=>[.beginRound]
 |.xP _=>[]
 |.gW _=>[]
 |.leave=>[]
def It.pl:It→Prop
 |.fin | .xP _ | .gW _ | .leave=>False
 |_=>True
def dz:List It→List Item
 |[]=>[]
 |x::k=>er x++dz k
def fP (E:Env) (g:Gh) (w:World):Prop:= ∀i cs,E.cL i=some cs→VP g w (.pp 0 cs) (.pointer (some ⟨i,0,none⟩))
theorem fP.mono {E:Env} {g g':Gh} {w w':World} (h:fP E g w) (e : ∀c o,g.pure c o→g'.pure c o∧w'.cell? ⟨c,o,none⟩=w.cell? ⟨c,o,none⟩):fP E g' w':=fun i cs hi=>(h i cs hi).mono e
structure bS (E:Env) (g:Gh) (st:St) (a:Act) (w:World):Prop where
 tm : ∀k,VA g w (look st.tm k) (a.tmps.getD k undef)
 nt:a.tmps.size=st.nt
 rel:Rel g st.mem w
 fix:st.fix≤st.mem.length
 cL:fP E g w
def dZ (g:Gh) (r:Ld) (b:Frame):Prop:=match r with
 |.call=>b.kind = .normal∧b.roundOf=none
 |.round i=>b.kind = .normal ∧ ∃l,g.aP i=some l∧b.roundOf=some l
 |.late=>b.kind = .deferred∧b.roundOf=none
theorem dZ.ext {g g':Gh} (e : ∀i c,g.aP i=some c→g'.aP i=some c) {r:Ld} {b:Frame} (h:dZ g r b):dZ g' r b:=by
 cases r with
 |call=>exact h
 |late=>exact h
 |round i=>
  obtain⟨h1,l,q1,q2⟩:=h
  exact⟨h1,l,e i l q1,q2⟩
theorem dZ.Ax {g:Gh} {r:Ld} {b:Frame} (h:dZ g r b) (hn : ∀i,r ≠ .round i):b.roundOf=none:=by
 cases r with
 |call=>exact h.2
 |late=>exact h.2
 |round i=>exact absurd rfl (hn i)
def Qi (g:Gh) (l:List (Nat×Nat)) (cs:List Value):Prop:=aW (fun q v=> ∃c,g.aP q.1=some c∧v = .pointer (some ⟨c,q.2,none⟩)) l cs
def Mark.Ok (g:Gh):Mark→Deferred→Prop
 |.range b,d=> ∃D,g.aP b=some D∧d={target:= .collected D,args:= #[]}
 |.late f l m,d=> ∃fa ca:Array Value,Qi g l fa.toList∧Qi g m ca.toList∧d={target:= .fn (.func f) ca,args:=fa}
theorem Mark.Ok.ext {g g':Gh} (e : ∀i c,g.aP i=some c→g'.aP i=some c) {mk:Mark} {d:Deferred} (h:mk.Ok g d):mk.Ok g' d:=by
 cases mk with
 |range b=>
  obtain⟨D,q1,q2⟩:=h
  exact⟨D,e _ D q1,q2⟩
 |late f l m=>
  obtain⟨fa,ca,q1,q2,q3⟩:=h
  exact⟨fa,ca,aW.mono (fun _ _ ⟨c,k1,k2⟩=>⟨c,e _ c k1,k2⟩) q1,aW.mono (fun _ _ ⟨c,k1,k2⟩=>⟨c,e _ c k1,k2⟩) q2,q3⟩
def Mk (g:Gh) (mk:List Mark) (ds:List Deferred):Prop:=aW (fun b d=>b.Ok g d) mk ds
theorem Mk.ext {g g':Gh} (e : ∀i c,g.aP i=some c→g'.aP i=some c) {mk:List Mark} {ds:List Deferred} (h:Mk g mk ds):Mk g' mk ds:=
 aW.mono (fun _ _ q=>q.ext e) h
def Fk (P:Program) (r:Ld) (fr:Frame) (w:World) (cv:Value) (w2:World):Prop:=match r with
 |.call=>fr.leaving P w (.returned cv)∧w2=w
 |.late=>(fr.going P w (.returned cv)∧fr.kind = .deferred)∧w2=w
 |.round _=> ∀(c:Frame) (cs:List Frame),Steps P (lone fr (c::cs) w) (lone (c.finish cv) cs w2)
def cJ:Option Value→Bool→FrameMode
 |none,_=> .returning
 |some v,b=> .panicking [{v:=v,recovered:=b}]
def cm (P:Program) (E:Env) (g:Gh) (c:bB) (fr:Frame) (w:World):Prop:=
 match c.todo with
 |.fin::_=>fr.fn=c.f ∧ ∃cv w2,Fk P c.st.bK fr w cv w2∧VA g w2 (look c.st.tm 0) cv∧Rel g c.st.mem w2∧cr g c.st.mem w g c.st.mem w2∧c.st.fix≤c.st.mem.length
 |.xP u::_=>fr.fn=c.f ∧ ∃cv,fr.leaving P w (.panicked [{v:=cv,recovered:=false}])∧VA g w u cv∧Rel g c.st.mem w∧c.st.fix≤c.st.mem.length
 |.gW u::_=> ∃(b:Frame) (a:Act) (todo:List Item) (cv:Value),fr={b.atR a todo with mode:=cJ (some cv) false}∧b.fn=c.f∧dZ g c.st.bK b∧Mk g c.st.bT a.defers∧bS E g c.st a w∧VA g w u cv
 |.leave::_=> ∃(b:Frame) (a:Act) (todo:List Item),fr={b.atR a todo with mode:= .returning}∧b.fn=c.f∧dZ g c.st.bK b∧(∀i,c.st.bK ≠ .round i)∧c.st.bT=[]∧a.defers=[]∧bS E g c.st a w
 |_=> ∃(b:Frame) (a:Act),fr=b.atR a (dz c.todo)∧b.fn=c.f∧dZ g c.st.bK b∧Mk g c.st.bT a.defers∧bS E g c.st a w ∧ ∀x∈c.todo,It.pl x
def ef (P:Program) (E:Env) (g:Gh) (c:bB) (fr:Frame) (w:World) (c':bB):Prop:=
 ∀cs,∃g' fr' w',Steps P (lone fr cs w) (lone fr' cs w')∧cm P E g' c' fr' w'∧cr g c.st.mem w g' c'.st.mem w'∧bn g g' c.st.fix∧c'.f=c.f∧c'.st.fix=c.st.fix∧c'.st.bK=c.st.bK
def aG (P:Program) (E:Env) (f:FuncId) (args:List AV) (m:Mem) (v:AV) (m':Mem):Prop:=
 (∃fn,P.funcs[f]? = some fn∧fn.body.isSome=true∧(fn.name == "runtime.NumGoroutine")=false) ∧
 ∀(g:Gh) (w:World) (cK:Array Value) (cs:List Frame),Rel g m w→bN g w args cK.toList→fP E g w →
  ∃w' g' cv fr,Steps P (lone (QP P f cK .normal) cs w) (lone fr cs w')∧fr.leaving P w' (.returned cv)∧fr.fn=f ∧
   VA g' w' v cv∧Rel g' m' w'∧cr g m w g' m' w'∧bn g g' m.length∧m.length≤m'.length
def GS (P:Program) (E:Env) (f:FuncId) (args:List AV) (m:Mem) (v:AV) (m':Mem):Prop:=
 (∃fn,P.funcs[f]? = some fn∧fn.body.isSome=true∧(fn.name == "runtime.NumGoroutine")=false) ∧
 ∀(g:Gh) (w:World) (cK:Array Value) (cs:List Frame),Rel g m w→bN g w args cK.toList→fP E g w →
  ∃w' g' cv fr,Steps P (lone (QP P f cK .normal) cs w) (lone fr cs w')∧fr.leaving P w' (.panicked [{v:=cv,recovered:=false}])∧fr.fn=f ∧
   VA g' w' v cv∧Rel g' m' w'∧cr g m w g' m' w'∧bn g g' m.length∧m.length≤m'.length
def GU (g:Gh) (w:World):Option AV→Option Value→Prop
 |none,none=>True
 |some u,some v=>VA g w u v
 |_,_=>False
def GV (P:Program) (E:Env) (f:FuncId) (args:List AV) (m:Mem) (pv:Option AV) (m':Mem):Prop:=
 (∃fn,P.funcs[f]? = some fn∧fn.body.isSome=true∧(fn.name == "runtime.NumGoroutine")=false) ∧
 ∀(g:Gh) (w:World) (cK:Array Value) (qK:Option Value) (c0:Frame) (cs:List Frame),c0.mode=cJ qK false→GU g w pv qK→Rel g m w→bN g w args cK.toList→fP E g w →
  ∃w' g' cv fr,Steps P (lone (QP P f cK .deferred) (c0::cs) w) (lone fr ({c0 with mode:=cJ qK true}::cs) w')∧fr.going P w' (.returned cv)∧fr.kind = .deferred ∧
   Rel g' m' w'∧cr g m w g' m' w'∧bn g g' m.length∧m.length≤m'.length
def Ef (P:Program) (E:Env) (args:List AV) (m:Mem) (v:AV) (m':Mem):Prop:=
 ∀(g:Gh) (w:World) (i l:Nat) (xs:List AV) (JD:Array Value) (c:Frame) (cs:List Frame),args = .vy i::xs→Rel g m w→g.aP i=some l→bN g w xs JD.toList→fP E g w →
  ∃f tmps as bd w' g' cv,(Instr.yield l JD).run P w = .ok (.round l f tmps as bd) w∧Steps P (lone (Frame.round l f tmps as bd .normal) (c::cs) w) (lone (c.finish cv) cs w') ∧
   VA g' w' v cv∧Rel g' m' w'∧cr g m w g' m' w'∧bn g g' m.length∧m.length≤m'.length
section
variable {P:Program} {E:Env} {g:Gh} {w:World}
theorem fY {st:St} {a:Act} (h:bS E g st a w) (x:Operand):VA g w (ev E st.tm x) (a.eval x):=by
 cases x with
 |tmp t=>exact h.tm t
 |const v=>exact VA.DU v
 |global i=>
  simp only[ev,Act.eval]
  cases hg:E.cL i with
  |none=>exact .p _ _ (.sc _)
  |some cs=>exact .p _ _ (h.cL i cs hg)
 |func f=>exact VA.fns.2 ⟨#[],#[],rfl,trivial,trivial⟩
theorem jx (tm:rM) (d k:Nat) (v:AV):look ((d,v)::tm) k=if d=k then v else look tm k:=by
 simp only[look]
 by_cases h:d=k
 · subst h;simp[Hm]
 · have:be d k=false:=by rw[kv];intro e;exact h (bm e)
   simp[this,h]
theorem bS.put {st:St} {a:Act} {g':Gh} {w':World} {m':Mem} (h:bS E g st a w) {dst:Option Tmp} {v:AV} {cv:Value} (hf:fits st dst=true) (hv:VA g' w' v cv) (he:Ext g w g' w') (hr:Rel g' m' w') (hx:st.fix≤m'.length) :
  bS E g' (Am.put {st with mem:=m'} dst v) (a.put dst cv) w':=by
 cases dst with
 |none=>exact⟨fun k=>(h.tm k).mono he,h.nt,hr,hx,h.cL.mono he.pure⟩
 |some d=>
  have hd:d<a.tmps.size:=by rw[h.nt];simpa[fits,ix] using hf
  refine⟨fun k=> ?_,by simp[Act.put,Am.put,h.nt],hr,hx,h.cL.mono he.pure⟩
  simp only[Am.put,jx,Act.put]
  by_cases hk:d=k
  · subst hk
    simp only[if_true,PQ,Array.getElem?_setIfInBounds_self_of_lt hd,Option.getD_some]
    exact hv
  · simp only[hk,if_false,PQ]
    rw[Array.getElem?_setIfInBounds_ne hk,←PQ]
    exact(h.tm k).mono he
theorem bS.known {st:St} {a:Act} (h:bS E g st a w) {d:Nat} {v:AV} (hv:VA g w v (a.tmps.getD d undef)):bS E g (Am.put st (some d) v) a w:=by
 refine⟨fun k=> ?_,h.nt,h.rel,h.fix,h.cL⟩
 simp only[Am.put,jx]
 by_cases hk:d=k
 · subst hk;simp only[if_true];exact hv
 · simp only[hk,if_false];exact h.tm k
theorem nC {k n:Nat} (h:k<n):Pl k (n-k)=k::Pl (k+1) (n-(k+1)):=by
 rw[show n-k=(n-(k+1))+1 by omega,List.range'_succ]
theorem semAt_eq {o:Oper} {ro:Option Nat} {ρ:Operand→Value} {n:Next} {w':World} (hr:(execOp ρ o).run P w = .ok n w') (hn : ∀d,n ≠ .defer d):o.semAt ro ρ=execOp ρ o:=by
 unfold Oper.semAt
 cases ro with
 |none=>rfl
 |some l=>
  cases ho:o.op<;>first
   |rfl
   |(exfalso
     simp only[execOp,ho,la] at hr
     revert hr
     cases(resolve ρ _ o.type).run P w<;>intro hr<;>simp[rn] at hr
     exact hn _ hr.1.symm)
theorem oD {b:Frame} {a:Act} {k:List Item} {cs:List Frame} {w':World} {ops:Array Oper} {i:Nat} {rest:List Nat} {o:Oper} {v:Value} (ho:ops[i]? = some o) (hw:QR o (yielded ops a.tmps)=true)
  (hr:(execOp a.eval o).run P w = .ok (.value v) w'∨((execOp a.eval o).run P w = .ok .skip w'∧v=undef)) :
  _root_.Go.step P (lone (b.atR a (.inRegion ops (i::rest)::k)) cs w) = .next (lone (b.atR (a.put o.dst v) (.inRegion ops rest::k)) cs w'):=by
 have hg:=stepGR_op (P:=P) (b:=b) (k:=k) (cs:=cs) (w:=w) (rest:=rest) ho hw
 have nD:(b.atR a (.inRegion ops (i::rest)::k)).finish v=b.atR (a.put o.dst v) (.inRegion ops rest::k):=by rw[Frame.finish_atR,ho];rfl
 refine step_lone_go ?_
 rw[hg,←nD]
 rcases hr with hr | ⟨hr,rfl⟩
 · rw[semAt_eq hr fun _ e=>by cases e];simp[stepG.apply,hr]
 · rw[semAt_eq hr fun _ e=>by cases e];simp[stepG.apply,hr]
theorem pL {b:Frame} {a:Act} {k:List Item} {cs:List Frame} {w':World} {ops:Array Oper} {i:Nat} {rest:List Nat} {o:Oper} {f:FuncId} {args:Array Value} (ho:ops[i]? = some o) (hw:QR o (yielded ops a.tmps)=true)
  (hr:(execOp a.eval o).run P w = .ok (.enter f args) w') :
  _root_.Go.step P (lone (b.atR a (.inRegion ops (i::rest)::k)) cs w) = .next (lone (QP P f args .normal) (b.atR a (.inRegion ops (i::rest)::k)::cs) w'):=by
 have hg:=stepGR_op (P:=P) (b:=b) (k:=k) (cs:=cs) (w:=w) (rest:=rest) ho hw
 exact step_lone_go (by rw[hg,semAt_eq hr fun _ e=>by cases e];simp[stepG.apply,hr,Frame.atR])
theorem oF {st:St} {a:Act} (h:bS E g st a w) {ops:Array Oper} {o:Oper} :
  (dP ops st.tm o = .yes→QR o (yielded ops a.tmps)=true)∧(dP ops st.tm o = .no→QR o (yielded ops a.tmps)=false) ∧
  (∀d b want,dP ops st.tm o = .ask d b want→QR o (yielded ops a.tmps)=(b==want)∧a.tmps.getD d undef = .bool b):=by
 unfold dP QR
 cases hg:o.guard with
 |none=>simp
 |some q=>
  obtain⟨j,want⟩:=q
  simp only[yielded]
  cases hj:ops[j]? with
  |none=>simp
  |some oj=>
   simp only[Hc]
   cases hd:oj.dst with
   |none=>simp
   |some d=>
    simp only[Hc]
    have hv:=h.tm d
    have ny:a.tmps.getD d undef=(a.tmps[d]?).getD undef:=by rw[PQ]
    generalize hz:a.tmps.getD d undef=z at hv ny
    generalize hl:look st.tm d=x at hv
    cases hv with
    |p pv cv hp=>
     cases hp with
     |sc=>
      cases z with
      |bool b=>
       have:a.tmps[d]? = some (.bool b):=by
        cases ha:a.tmps[d]? with
        |none=>rw[ha] at ny;cases ny
        |some u=>rw[ha] at ny;simp at ny;rw[ny]
       refine⟨fun h=>(by cases h),fun h=>(by cases h),?_⟩
       rintro d' b' w' e
       cases e
       refine⟨?_,hz⟩
       simp only[this]
       cases b<;>cases want<;>rfl
      |_=>exact⟨fun h=>(by cases h),fun h=>(by cases h),fun _ _ _ h=>(by cases h)⟩
     |_=>exact⟨fun h=>(by cases h),fun h=>(by cases h),fun _ _ _ h=>(by cases h)⟩
    |bk l cs hl' hh=>
     refine⟨fun h=>(by cases h),fun _=> ?_,fun _ _ _ h=>(by cases h)⟩
     cases ha:a.tmps[d]? with
     |none=>simp
     |some u=>
      rw[ha] at ny;simp at ny
      subst ny
      simp
    |_=>exact⟨fun h=>(by cases h),fun h=>(by cases h),fun _ _ _ h=>(by cases h)⟩
end
end Go.Am
end
