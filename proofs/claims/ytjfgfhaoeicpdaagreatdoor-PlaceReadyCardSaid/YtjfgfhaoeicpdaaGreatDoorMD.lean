import Derived.Test.YtjfgfhaoeicpdaaGreatDoorMC
import Derived.WideMake
import Derived.AtR
import Derived.Recover
open Option renaming map_eq_some_iff→gn,bind_some→tp
open Prod.mk renaming injEq→ie
open Option.some renaming injEq→cp,inj→c8
open Go.Sem renaming run_bind→il,run_pure→im,run→tz
open Go.Result renaming andThen_ok→iu,andThen→pa
open Nat renaming eq_of_beq_eq_true→ag,blt_eq→fi,lt_of_succ_lt_succ→aw,beq_refl→ua,not_lt_zero→ui,not_lt→uv,beq→ae
open Go.Op renaming equalIn→tc,equal→tf
open Bool renaming eq_false_iff→hZ,and_eq_true→ch
open List renaming map_toArray→vb,map_cons→oe,map_nil→vd,getElem?_eq_none→dp,toArray→vj,mem_of_getElem?→mc,getElem?_eq_some_iff→di,pairwise_iff_getElem→vt,append_assoc→vz,getElem?_append→wb,getElem?_map→dC,nodup_append→wc,foldlM_cons→wi,range'→wx,foldlM_nil→wy,nodup_cons→xa,length_set→dq
open Array renaming getD_eq_getD_getElem?→xb,toList_map→fx
open Go.Frame renaming enter→xc
open Go.Region renaming wanted→xf
section
namespace Go.Am
open Go.RowKit
section ops
variable {P:Program} {g:Gh} {m:Mem} {w:World}
theorem nA {ρ:Operand→AV} {bX:Operand→Value} (hr : ∀x,VA g w (ρ x) (bX x)) : ∀(l:List (Nat×Operand)),
  bH (fun a b=>a.1=b.1∧VA g w a.2 b.2) (l.map fun q=>(q.1,ρ q.2)) (l.map fun(i,x)=>(i,bX x))
 |[]=>trivial
 |(_,x)::l=>⟨⟨rfl,hr x⟩,nA hr l⟩
theorem gC {ρ:Operand→AV} {bX:Operand→Value} (hr : ∀x,VA g w (ρ x) (bX x)) : ∀(l:List Operand),cA g w (l.map ρ) (l.map bX)
 |[]=>trivial
 |x::l=>⟨hr x,gC hr l⟩
theorem cq.of {h:Rel g m w} {s:Sem Value} {r:Result Next} {a:AV} (hr:r=(s.run P w).andThen fun v w'=> .ok (.value v) w') (hs : ∃v,s.run P w = .ok v w∧VA g w a v):cq g m w r a m:=by
 obtain⟨v,h1,h2⟩:=hs
 exact cq.quiet h (by rw[hr,h1];rfl) h2
theorem gj {r:Option AV} {a:AV} {us:mX} {ok:Bool} (h:jj r=some (a,us,ok)):r=some a∧us=[]:=by
 simp only[jj,gn,ie] at h
 obtain⟨v,h1,rfl,rfl,_⟩:=h
 exact⟨h1,rfl⟩
theorem iQ {r:Option (AV×Bool)} {a:AV} {us:mX} {ok:Bool} (h:gP r=some (a,us,ok)):r=some (a,ok)∧us=[]:=by
 simp only[gP,gn,ie] at h
 obtain⟨⟨v,b⟩,h1,rfl,rfl,rfl⟩:=h
 exact⟨h1,rfl⟩
theorem zQ (h:Rel g m w) {bX:Operand→Value} {o:Oper} {br:Nat} (hn:m[br]? = some .free) {t:TypeId} {x:Operand} {ax a:AV} {us:mX} (hx:VA g w ax (bX x)) (ho:o.op = .range t x)
  (he:BX P br t ax=some (a,us,true)):cq g m w ((execOp bX o).run P w) a (apply m us):=by
 unfold BX at he
 split at he
 · rename_i s hd
   simp only[cp,ie,and_true] at he
   obtain⟨rfl,rfl⟩:=he
   rw[VA.pv] at hx
   generalize hz:bX x=z at hx
   cases hx
   obtain⟨h1,h2,h3⟩:=h.vL (ob:= .iter s 0) (l:=[]) (vs:=[]) hn trivial (eI w (.stringIter s 0)) ⟨rfl,rfl⟩
   refine⟨.pointer (some ⟨w.heap.size,0,none⟩),_,_,.inl ?_,.mp br 0 _ (by simp[Gh.put]),h1,h2,h3⟩
   simp[execOp,ho,hz,Instr.range,il,run_underlying hd,pa]
 · cases he
theorem Ch (h:Rel g m w) {bX:Operand→Value} {o:Oper} {x:Operand} {s:Bool} {ax a:AV} {us:mX} (hx:VA g w ax (bX x)) (ho:o.op = .next x s)
  (he:FW (fun i=>m.getD i .dead) ax s=some (a,us,true)):cq g m w ((execOp bX o).run P w) a (apply m us):=by
 cases s with
 |false=>cases he
 |true=>
  simp only[FW] at he
  split at he
  · rename_i b
    split at he
    · rename_i str pos l hb
      have hib:=getD_some hb (by simp)
      obtain⟨c,ob,vs,k1,k2,k3,k4,_⟩:=h.obs b _ _ hib
      obtain⟨rfl,rfl⟩:=k4
      generalize hz:bX x=z at hx
      cases hx with
      |mp _ _ c' hc=>
       rw[k1] at hc;cases hc
       have lp:(getObj c).run P w = .ok (.stringIter str pos) w:=by simp[getObj,tz,k2]
       split at he
       · rename_i hlt
         rw[fi] at hlt
         generalize WB:Utf8.decode str pos=q at he
         obtain⟨cc,width⟩:=q
         simp only[cp,ie,and_true] at he
         obtain⟨rfl,rfl⟩:=he
         obtain⟨e1,e2,e3⟩:=cW w (o':= .stringIter str (pos+width)) k2
         obtain⟨r1,r2,r3⟩:=h.gz (FM:= .iter str (pos+width)) (l':=[]) (vs':=[]) hib k1 e1 e2 rfl rfl rfl e3 ⟨rfl,rfl⟩ trivial
         have zG:(setObj c (.stringIter str (pos+width))).run P w = .ok () {w with heap:=w.heap.setIfInBounds c (.stringIter str (pos+width))}:=by simp[setObj,tz,k2]
         refine⟨.tuple #[.bool true,goInt pos,.int .i32 cc],_,g,.inl ?_,VA.mR.2 ⟨.p _ _ (.sc _),.p _ _ (.sc _),.p _ _ (.sc _),trivial⟩,r1,r2,r3⟩
         simp only[execOp,ho,hz,Instr.next,il,lp,iu,hlt,if_true,WB,zG,im]
       · rename_i hlt
         have hlt' : ¬pos<str.size:=fun q=>by rw[←fi] at q;rw[q] at hlt;cases hlt
         simp only[cp,ie,and_true] at he
         obtain⟨rfl,rfl⟩:=he
         refine cq.quiet h (v:= .tuple #[.bool false]) ?_ (VA.mR.2 ⟨.p _ _ (.sc _),trivial⟩)
         simp only[execOp,ho,hz,Instr.next,il,lp,iu,hlt',if_false,im]
    · rename_i str pos more l hb
      have hib:=getD_some hb (by simp)
      obtain⟨c,ob,vs,k1,k2,k3,k4,_⟩:=h.obs b _ _ hib
      obtain⟨rfl,rfl,k5⟩:=k4
      generalize hz:bX x=z at hx
      cases hx with
      |mp _ _ c' hc=>
       rw[k1] at hc;cases hc
       have lp:(getObj c).run P w = .ok (.stringIter str pos) w:=by simp[getObj,tz,k2]
       split at he
       · have hlt:pos<str.size:=by rw[fi] at k5;exact k5
         generalize WB:Utf8.decode str pos=q at he
         obtain⟨cc,width⟩:=q
         simp only[cp,ie,and_true] at he
         obtain⟨rfl,rfl⟩:=he
         obtain⟨e1,e2,e3⟩:=cW w (o':= .stringIter str (pos+width)) k2
         obtain⟨r1,r2,r3⟩:=h.gz (FM:= .iter str (pos+width)) (l':=[]) (vs':=[]) hib k1 e1 e2 rfl rfl rfl e3 ⟨rfl,rfl⟩ trivial
         have zG:(setObj c (.stringIter str (pos+width))).run P w = .ok () {w with heap:=w.heap.setIfInBounds c (.stringIter str (pos+width))}:=by simp[setObj,tz,k2]
         refine⟨.tuple #[.bool true,goInt pos,.int .i32 cc],_,g,.inl ?_,VA.mR.2 ⟨.p _ _ (.sc _),.p _ _ (.sc _),.p _ _ (.sc _),trivial⟩,r1,r2,r3⟩
         simp only[execOp,ho,hz,Instr.next,il,lp,iu,hlt,if_true,WB,zG,im]
       · have hlt' : ¬pos<str.size:=fun q=>by rw[←fi,k5] at q;cases q
         simp only[cp,ie,and_true] at he
         obtain⟨rfl,rfl⟩:=he
         refine cq.quiet h (v:= .tuple #[.bool false]) ?_ (VA.mR.2 ⟨.p _ _ (.sc _),trivial⟩)
         simp only[execOp,ho,hz,Instr.next,il,lp,iu,hlt',if_false,im]
    · cases he
  · cases he
theorem zR {ρ:Operand→AV} {bX:Operand→Value} (hr : ∀x,VA g w (ρ x) (bX x)) {o:Oper} {op:BinOp} {t yt:TypeId} {x y:Operand} {l c:Nat} (hy:bX y = .slice none l c) (ho:o.op = .binOp op t x y yt) {a:AV} {us:mX} {ok:Bool} (he:vD P op t (ρ x)=some (a,us,ok)) :
  us=[] ∧ ∃v,(execOp bX o).run P w = .ok (.value v) w∧VA g w a v:=by
 unfold vD at he
 split at he
 · rename_i e hd
   have key : ∀{b:Bool},HU (ρ x)=some b→(∀op':BinOp,(eqGuard op' t x y (bX x) (bX y)).run P w = .ok () w)∧(tf t (bX x) (bX y)).run P w = .ok b w ∧ ∀op',op' = .eql∨op' = .neq→binOp op' t (bX x) (bX y)=(do let r ←tf t (bX x) (bX y);pure (.bool (if op' = .eql then r else !r)):Sem Value):=by
    intro b hb
    obtain⟨ad,len,cap,hx,hn⟩:=DL (hr x) hb
    rw[hx,hy]
    refine⟨fun op'=>by unfold eqGuard;cases op'<;>rfl,?_,fun op' hop=>by rcases hop with rfl | rfl<;>rfl⟩
    show(tc (9999+1) t _ _).run P w = .ok b w
    rw[tc];simp only[il,run_underlying hd,iu]
    subst hn
    cases ad<;>rfl
   split at he
   · rename_i b hb
     obtain⟨k1,k2,k3⟩:=key hb
     simp only[cp,ie] at he
     obtain⟨rfl,rfl,_⟩:=he
     refine⟨rfl,.bool b,?_,.p _ _ (.sc _)⟩
     simp only[execOp,ho,il,k1,iu,k3 _ (.inl rfl),k2,im]
     rfl
   · rename_i b hb
     obtain⟨k1,k2,k3⟩:=key hb
     simp only[cp,ie] at he
     obtain⟨rfl,rfl,_⟩:=he
     refine⟨rfl,.bool (!b),?_,.p _ _ (.sc _)⟩
     simp only[execOp,ho,il,k1,iu,k3 _ (.inr rfl),k2,im]
     rfl
   · cases he
 · cases he
theorem Ci {ρ:Operand→AV} {bX:Operand→Value} (hr : ∀x,VA g w (ρ x) (bX x)) (hc : ∀v,bX (.const v)=v) {o:Oper} (h:FX P ρ o=true) :
  ∃b:Bool,(execOp bX o).run P w = .ok (.value (.bool b)) w:=by
 unfold FX at h
 split at h
 · rename_i op t x y yt ho
   simp only[ch] at h
   obtain⟨h1,h2,h3,h4⟩:=h
   obtain⟨l,c,rfl⟩ : ∃l c,y = .const (.slice none l c):=by
    unfold sE at h1
    split at h1
    · exact⟨_,_,rfl⟩
    · cases h1
   obtain⟨e,hd⟩ : ∃e,P.underlying t=some (.slice e):=by
    unfold Dn at h4
    split at h4
    · exact⟨_,by assumption⟩
    · cases h4
   obtain⟨ad,len,cap,hx⟩ : ∃ad len cap,bX x = .slice ad len cap:=by
    have hv:=hr x
    generalize bX x=cx0 at hv ⊢
    have key : ∀{n sz:Nat} {cs:List PV} {cx:Value},VP g w (.ps n sz cs) cx → ∃ad len cap,cx = .slice ad len cap:=by
     intro n sz cs cx hx
     cases hx with
     |ps _ _ _ b o cap f hl hc hz hp hv=>exact⟨_,_,_,rfl⟩
     |pP sz a cap hz=>exact⟨_,_,_,rfl⟩
    unfold Dm at h3
    split at h3
    · rename_i e
      rw[e,VA.pv] at hv
      exact key hv
    · rename_i e
      rw[e] at hv
      cases hv with
      |os _ _ _ _ a cap hx hr=>exact key hx
    · cases h3
   have hy:=hc (.slice none l c)
   have g1 : ∀op':BinOp,(eqGuard op' t x (.const (.slice none l c)) (bX x) (bX (.const (.slice none l c)))).run P w = .ok () w:=by
    intro op'
    rw[hx,hy]
    unfold eqGuard
    cases op'<;>rfl
   have g2:(tf t (bX x) (bX (.const (.slice none l c)))).run P w = .ok ad.isNone w:=by
    rw[hx,hy]
    show(tc (9999+1) t _ _).run P w = .ok ad.isNone w
    rw[tc];simp only[il,run_underlying hd,iu]
    cases ad<;>rfl
   have g3 : ∀op',op' = .eql∨op' = .neq→binOp op' t (bX x) (bX (.const (.slice none l c)))=(do let r ←tf t (bX x) (bX (.const (.slice none l c)));pure (.bool (if op' = .eql then r else !r)):Sem Value):=by
    intro op' hop
    rw[hx,hy]
    rcases hop with rfl | rfl<;>rfl
   have hop:op = .eql∨op = .neq:=by
    unfold VL at h2
    split at h2
    · exact .inl rfl
    · exact .inr rfl
    · cases h2
   rcases hop with rfl | rfl
   · refine⟨ad.isNone,?_⟩
     simp only[execOp,ho,il,g1,iu,g3 _ (.inl rfl),g2,im]
     rfl
   · refine⟨!ad.isNone,?_⟩
     simp only[execOp,ho,il,g1,iu,g3 _ (.inr rfl),g2,im]
     rfl
 · cases h
theorem WC (x y:Int):(if y<x then y else x)=min x y:=by
 rcases Int.lt_or_le y x with h | h
 · rw[if_pos h];omega
 · rw[if_neg (by omega)];omega
theorem WD (x y:Int):(if y>x then y else x)=max x y:=by
 rcases Int.lt_or_le x y with h | h
 · rw[if_pos h];omega
 · rw[if_neg (by omega)];omega
theorem AA {ρ:Operand→AV} {bX:Operand→Value} (hr : ∀x,VA g w (ρ x) (bX x)) {mn:Bool} {l:List Operand} {v:AV} (h:Ka mn (l.map ρ)=some v) :
  ∃cx cy k k' x y,l=[cx,cy]∧bX cx = .int k x∧bX cy = .int k' y∧v = .p (.sc (.int k (cond mn (min x y) (max x y)))):=by
 match l,h with
 |[cx,cy],h=>
  have h1:=hr cx
  have h2:=hr cy
  simp only[oe,vd] at h
  generalize ρ cx=ax at h h1
  generalize ρ cy=ay at h h2
  unfold Ka at h
  split at h
  · rename_i k a k' b heq
    simp only[List.cons.injEq,and_true] at heq
    obtain⟨rfl,rfl⟩:=heq
    simp only[cp] at h
    rw[VA.pv] at h1 h2
    generalize gG:bX cx=c1 at h1
    generalize iE:bX cy=c2 at h2
    cases h1;cases h2
    exact⟨cx,cy,k,k',a,b,rfl,gG,iE,h.symm⟩
  · cases h
 |[],h=>simp[Ka] at h
 |[_],h=>simp[Ka] at h
 |_::_::_::_,h=>simp[Ka] at h
theorem ox (h:Rel g m w) {ρ:Operand→AV} {bX:Operand→Value} (hr : ∀x,VA g w (ρ x) (bX x)) (hrc : ∀v,bX (.const v)=v) {o:Oper} {br:Nat} (hn:makes o=true→m[br]? = some .free) {wr:Bool} {a:AV} {us:mX}
  (he:uc P (fun i=>m.getD i .dead) wr br ρ o=some (a,us,true)):cq g m w ((execOp bX o).run P w) a (apply m us):=by
 have he' : ∀y,sE y=true → ∃l c,bX y = .slice none l c:=by
  intro y hy
  unfold sE at hy
  split at hy
  · exact⟨_,_,hrc _⟩
  · cases hy
 have hmk : ∀{b:Bool},makes o=b→b=true→m[br]? = some .free:=fun e e'=>hn (e.trans e')
 unfold uc at he
 split at he
 · rename_i x ho
   simp only[cp,ie,and_true] at he
   obtain⟨rfl,rfl⟩:=he
   exact cq.quiet h (v:=bX x) (by simp[execOp,ho]) (hr x)
 · rename_i x ho
   simp only[cp,ie,and_true] at he
   obtain⟨rfl,rfl⟩:=he
   exact cq.quiet h (v:=bX x) (by simp[execOp,ho]) (hr x)
 · rename_i c x y ho
   split at he
   · rename_i t hc
     simp only[cp,ie,and_true] at he
     obtain⟨rfl,rfl⟩:=he
     have hb:bX c = .bool t:=by have:=hr c;rw[hc,VA.pv] at this;generalize bX c=z at this;cases this;rfl
     cases t
     · exact cq.quiet h (v:=bX y) (by simp[execOp,ho,hb,asBool]) (hr y)
     · exact cq.quiet h (v:=bX x) (by simp[execOp,ho,hb,asBool]) (hr x)
   · cases he
 · rename_i t ho
   split at he
   · exact wT h (hmk (by simp only[makes,ho]) rfl) he ho
   · exact zJ h (hmk (by simp only[makes,ho]) rfl) he (ty:=0) (pos:= "") ho rfl rfl
 · rename_i t x ho
   exact DD h (hmk (by simp only[makes,ho]) rfl) (hr x) he (t:=t) (by simp[execOp,ho,Instr.box,newVar,newRow])
 · rename_i t parts ho
   obtain⟨h1,rfl⟩:=iQ he
   refine cq.of (h:=h) (s:=Instr.build t (parts.map fun(i,x)=>(i,bX x))) (P:=P) (by simp only[execOp,ho,il,im]) (zH h1 ?_)
   rw[fx];exact nA hr parts.toList
 · rename_i t len parts ho
   have:=pU (jN:=parts.map fun(i,x)=>(i,bX x)) h (hmk (by simp only[makes,ho]) rfl) he (by rw[fx];exact nA hr parts.toList)
   simpa only[execOp,ho] using this
 · rename_i t x ho
   obtain⟨h1,rfl⟩:=iQ he
   obtain⟨c,o',cv,k1,k2,k3⟩:=qL h (hr x) h1
   exact cq.quiet h (v:=cv) (by simp[execOp,ho,Instr.loadAt,k1,Instr.sureAddr,k2]) k3
 · rename_i t x v ho
   obtain⟨w',k1,rfl,k2,k3,k4⟩:=zI h (hr x) (hr v) he
   exact⟨undef,w',g,.inr ⟨by simp[execOp,ho,k1],rfl⟩,VA.mR.2 trivial,k2,k3,k4⟩
 · rename_i x ho
   obtain⟨h1,rfl⟩:=gj he
   obtain⟨v,k1,k2⟩:=sH hr ho h1
   exact cq.quiet h k1 k2
 · rename_i op t x y yt ho
   split at he
   · rename_i hy
     obtain⟨l,c,hyc⟩:=he' y hy
     obtain⟨rfl,v,k1,k2⟩:=zR hr hyc ho he
     exact cq.quiet h k1 k2
   · split at he
     · obtain⟨rfl,v,k1,k2⟩:=DH hr ho he
       exact cq.quiet h k1 k2
     · split at he
       · rename_i hsame
         obtain⟨rfl,v,k1,k2⟩:=vh hr ho hsame he
         exact cq.quiet h k1 k2
       · obtain⟨h1,rfl⟩:=iQ he
         obtain⟨v,k1,k2⟩:=zF hr ho h1
         exact cq.quiet h k1 k2
 · rename_i t x ho
   exact zQ h (hmk (by simp only[makes,ho]) rfl) (hr x) ho he
 · rename_i x s ho
   exact Ch h (hr x) ho he
 · rename_i t ho
   have fin : ∀ob:aG,ob.is (.map #[] 0) []→ob.room (.map #[] 0) 0→some (AV.vm br,[(br,aU.ob ob [])],true)=some (a,us,true)→cq g m w ((execOp bX o).run P w) a (apply m us):=by
    intro ob hob hroom he
    simp only[cp,ie,and_true] at he
    obtain⟨rfl,rfl⟩:=he
    obtain⟨h1,h2,h3⟩:=h.vL (ob:=ob) (l:=[]) (vs:=[]) (hmk (by simp only[makes,ho]) rfl) trivial (eI w (.map #[] 0)) hob hroom
    exact⟨.map (some w.heap.size),_,_,.inl (by simp[execOp,ho,run_makeMap_plain,pa]),.vm br _ (by simp[Gh.put]),h1,h2,h3⟩
   split at he
   · unfold wu at he
     split at he
     · exact fin (.smap []) ⟨rfl,[],0,rfl,rfl⟩ trivial he
     · cases he
   unfold Ag at he
   split at he
   · split at he
     · exact fin (.J5 []) ⟨_,_,[],rfl,rfl,rfl,.refl _⟩ trivial he
     · exact fin (.map [] [] 0) rfl trivial he
   · exact fin (.map [] [] 0) rfl trivial he
 · rename_i t x i ok ho
   obtain⟨h1,rfl⟩:=gj he
   exact cq.of (h:=h) (s:=Instr.lookup t (bX x) (bX i) ok) (P:=P) (by simp only[execOp,ho,il,im]) (Cf h (hr x) (hr i) h1)
 · rename_i t x k v ho
   obtain⟨w',k1,rfl,k2,k3,k4⟩:=uq h (hr x) (hr k) (hr v) he
   exact⟨undef,w',g,.inr ⟨by simp[execOp,ho,k1],rfl⟩,VA.mR.2 trivial,k2,k3,k4⟩
 · rename_i t x k v ho
   obtain⟨w',k1,rfl,k2,k3,k4⟩:=uq h (hr x) (hr k) (hr v) he
   exact⟨undef,w',g,.inr ⟨by simp[execOp,ho,k1],rfl⟩,VA.mR.2 trivial,k2,k3,k4⟩
 · rename_i op t x ho
   obtain⟨h1,rfl⟩:=iQ he
   obtain⟨v,k1,k2⟩:=B8 hr ho h1
   exact cq.quiet h k1 k2
 · rename_i src dst x ho
   exact vg h (hmk (by simp only[makes,ho]) rfl) hr ho he
 · rename_i t x ho
   obtain⟨h1,rfl⟩:=gj he
   exact cq.of (h:=h) (s:=Instr.makeInterface t (bX x)) (P:=P) (by simp only[execOp,ho,il,im]) (qP h1 (hr x))
 · rename_i f first captured ho
   simp only[cp,ie,and_true] at he
   obtain⟨rfl,rfl⟩:=he
   refine cq.quiet h (v:= .func f (first.map bX) (captured.map bX)) (by simp[execOp,ho,Instr.makeFunc]) (VA.fns.2 ⟨_,_,rfl,?_,?_⟩)
   · rw[fx];exact gC hr _
   · rw[fx];exact gC hr _
 · rename_i t l c ho
   split at he
   · have:=sK h (hr l) (hr c) he
     simpa only[execOp,ho] using this
   · have:=qQ h (hmk (by simp only[makes,ho]) rfl) (hr l) (hr c) he
     simpa only[execOp,ho] using this
 · rename_i t x lo hi mx ho
   obtain⟨h1,rfl⟩:=iQ he
   exact cq.of (h:=h) (s:=Instr.sliceAt t (bX x) (lo.map bX) (hi.map bX) (mx.map bX)) (P:=P) (by simp only[execOp,ho,il,im]) (zD hr h1 (hr x))
 · rename_i t x f ho
   obtain⟨h1,rfl⟩:=gj he
   exact cq.of (h:=h) (s:=Instr.fieldAt t (bX x) f) (P:=P) (by simp only[execOp,ho,il,im]) (qM h1 (hr x))
 · rename_i t x f ho
   obtain⟨h1,rfl⟩:=iQ he
   exact cq.of (h:=h) (s:=Instr.field t (bX x) f) (P:=P) (by simp only[execOp,ho,il,im]) (zB h1 (hr x))
 · rename_i t x i ho
   obtain⟨h1,rfl⟩:=iQ he
   exact cq.of (h:=h) (s:=Instr.indexAt t (bX x) (bX i)) (P:=P) (by simp only[execOp,ho,il,im]) (qN h1 (hr x) (hr i))
 · rename_i t x i ho
   obtain⟨h1,rfl⟩:=iQ he
   exact cq.of (h:=h) (s:=Instr.index t (bX x) (bX i)) (P:=P) (by simp only[execOp,ho,il,im]) (zC h1 (hr x) (hr i))
 · rename_i x i ho
   split at he
   · rename_i vs hx
     obtain⟨h1,rfl⟩:=gj he
     have hv:=hr x
     rw[hx] at hv
     generalize hz:bX x=z at hv
     cases hv with
     |aA _ cs hl hh=>
      obtain⟨b,hb,hv⟩:=bH.get? (bH.dF hl hh) h1
      exact cq.quiet h (v:=b) (by simp only[execOp,ho,hz,Instr.extract];simp at hb;simp[hb]) hv
   · cases he
 · rename_i x xt t ok ho
   obtain⟨h1,rfl⟩:=gj he
   obtain⟨cv,k1,k2⟩:=wX (xt:=xt) h1 (hr x)
   exact cq.quiet h (v:=cv) (by simp only[execOp,ho,il,k1,iu,im]) k2
 · rename_i c ho
   split at he
   · rename_i s x hc ha
     have j9:c.args = #[s,x]:=by have:=congrArg vj ha;simpa using this
     have abl:makes o=true:=by simp only[makes,ho,hc]
     split at he
     · have:=xm (ty:=o.type) h (hn abl) (ur (hr s)) (hr x) he
       simpa only[execOp,ho,resolve,hc,j9,il,im,iu,invoke,builtin,vb,oe,vd] using this
     · have:=wU (ty:=o.type) h (hn abl) (ur (hr s)) (hr x) he
       simpa only[execOp,ho,resolve,hc,j9,il,im,iu,invoke,builtin,vb,oe,vd] using this
   · rename_i d s hc ha
     have j9:c.args = #[d,s]:=by have:=congrArg vj ha;simpa using this
     have:=Cb (ty:=o.type) h (hr d) (hr s) he
     simpa only[execOp,ho,resolve,hc,j9,il,im,iu,invoke,builtin,vb,oe,vd] using this
   · rename_i x hc ha
     have j9:c.args = #[x]:=by have:=congrArg vj ha;simpa using this
     obtain⟨h1,rfl⟩:=gj he
     refine cq.of (h:=h) (s:=Builtin.len_ c.argTypes o.type #[bX x]) (P:=P) ?_ (Dx h1 (hr x))
     simp only[execOp,ho,resolve,hc,j9,il,im,iu,invoke,builtin,vb,oe,vd]
   · rename_i x hc ha
     have j9:c.args = #[x]:=by have:=congrArg vj ha;simpa using this
     obtain⟨h1,rfl⟩:=gj he
     refine cq.of (h:=h) (s:=Builtin.cap_ c.argTypes o.type #[bX x]) (P:=P) ?_ (Dy h1 (hr x))
     simp only[execOp,ho,resolve,hc,j9,il,im,iu,invoke,builtin,vb,oe,vd]
   · rename_i x hc ha
     have j9:c.args = #[x]:=by have:=congrArg vj ha;simpa using this
     obtain⟨rfl,v,k1,k2⟩:=qU (P:=P) (ts:=c.argTypes) (ty:=o.type) (hr x) he
     refine cq.quiet h (v:=v) ?_ k2
     simp only[execOp,ho,resolve,hc,j9,il,im,iu,invoke,builtin,vb,oe,vd,k1]
   · rename_i x n hc ha
     have j9:c.args = #[x,n]:=by have:=congrArg vj ha;simpa using this
     have:=ny (ty:=o.type) h (hr x) (hr n) he
     simpa only[execOp,ho,resolve,hc,j9,il,im,iu,invoke,builtin,vb,oe,vd] using this
   · rename_i hc
     obtain⟨h1,rfl⟩:=gj he
     unfold jH at h1
     split at h1
     · rename_i v hm
       simp only[cp] at h1;subst h1
       obtain⟨cx,cy,k,k',x,y,ha,e1,e2,rfl⟩:=AA hr hm
       have j9:c.args = #[cx,cy]:=by have:=congrArg vj ha;simpa using this
       refine cq.quiet h (v:= .int k (min x y)) ?_ (.p _ _ (.sc _))
       simp only[execOp,ho,resolve,hc,j9,il,im,iu,invoke,builtin,vb,oe,vd,e1,e2,Builtin.min_,wi,wy,Builtin.min2,WC]
     · obtain⟨v,k1,k2⟩:=eT hr (fun _ _=>by rw[ho];exact fun e=>by cases e) h1
       exact cq.quiet h k1 k2
   · rename_i hc
     obtain⟨h1,rfl⟩:=gj he
     unfold jH at h1
     split at h1
     · rename_i v hm
       simp only[cp] at h1;subst h1
       obtain⟨cx,cy,k,k',x,y,ha,e1,e2,rfl⟩:=AA hr hm
       have j9:c.args = #[cx,cy]:=by have:=congrArg vj ha;simpa using this
       refine cq.quiet h (v:= .int k (max x y)) ?_ (.p _ _ (.sc _))
       simp only[execOp,ho,resolve,hc,j9,il,im,iu,invoke,builtin,vb,oe,vd,e1,e2,Builtin.max_,wi,wy,Builtin.max2,WD]
     · obtain⟨v,k1,k2⟩:=eT hr (fun _ _=>by rw[ho];exact fun e=>by cases e) h1
       exact cq.quiet h k1 k2
   · cases he
 · cases he
end ops
structure dA (ρ:Nat→Option Nat) (g g':Gh):Prop where
 at' : ∀i k,ρ i=some k→g'.bS k=g.bS i∧g'.lo k=g.lo i∧g'.hi k=g.hi i
 pure:g'.pure=g.pure
theorem VP.F4 {g g':Gh} {w:World} (h:g'.pure=g.pure) {v:PV} {cv:Value} (hv:VP g w v cv):VP g' w v cv:=hv.mono fun c o p=>⟨by rw[h];exact p,rfl⟩
theorem eA (ρ:Nat→Option Nat) : ∀l:List AV,(eR ρ l).length=l.length
 |[]=>rfl
 |a::l=>by simp[eR,eA ρ l]
theorem nB (ρ:Nat→Option Nat) : ∀(l:List AV) (i:Nat) (h:i<(eR ρ l).length) (h':i<l.length),(eR ρ l)[i]=jk ρ l[i]
 |_::_,0,_,_=>rfl
 |_::l,i+1,h,h'=>nB ρ l i (aw h) (aw h')
 |[],_,_,h'=>absurd h' (ui _)
theorem VA.jk {ρ:Nat→Option Nat} {g g':Gh} {w:World} (hr:dA ρ g g') {a:AV} {v:Value} (h:VA g w a v):VA g' w (Am.jk ρ a) v:=by
 induction h with
 |aj v=>exact .aj v
 |p v cv h=>exact .p v cv (h.F4 hr.pure)
 |os tok len sz cells a cap h ht=>
  have h':=h.F4 hr.pure
  cases tok with
  |none=>exact .os none len sz cells a cap h' (ht.imp id fun⟨t,_,_,e,_⟩=>by cases e)
  |some t=>
   simp only[Am.jk]
   cases hρ:ρ t with
   |none=>exact .p _ _ h'
   |some k=>
    obtain⟨e1,e2,e3⟩:=hr.at' t k hρ
    refine .os (some k) len sz cells a cap h' (ht.imp id ?_)
    rintro ⟨t',b,o,e,rfl,q1,q2,q3,q4⟩
    cases e
    exact⟨k,b,o,rfl,rfl,e1.trans q1,e2.trans q2,e3.trans q3,q4⟩
 |mp b off c h=>
  simp only[Am.jk]
  cases hρ:ρ b with
  |none=>exact .aj _
  |some k=>exact .mp k off c ((hr.at' b k hρ).1.trans h)
 |ms b off len sz cap c h hc=>
  simp only[Am.jk]
  cases hρ:ρ b with
  |none=>exact .aj _
  |some k=>exact .ms k off len sz cap c ((hr.at' b k hρ).1.trans h) hc
 |mg b off len sz cap c h hc hh=>
  simp only[Am.jk]
  cases hρ:ρ b with
  |none=>exact .aj _
  |some k=>exact .mg k off len sz cap c ((hr.at' b k hρ).1.trans h) hc (by rw[(hr.at' b k hρ).2.2];exact hh)
 |vm b c h=>
  simp only[Am.jk]
  cases hρ:ρ b with
  |none=>exact .aj _
  |some k=>exact .vm k c ((hr.at' b k hρ).1.trans h)
 |vy b c h=>
  simp only[Am.jk]
  cases hρ:ρ b with
  |none=>exact .aj _
  |some k=>exact .vy k c ((hr.at' b k hρ).1.trans h)
 |fn f l k fa ca hl hk h h2 ih ih2=>
  simp only[Am.jk]
  exact .fn f _ _ fa ca (by rw[eA];exact hl) (by rw[eA];exact hk)
   (fun i a b=>by rw[nB ρ l i a (by rwa [eA] at a)];exact ih i _ b) (fun i a b=>by rw[nB ρ k i a (by rwa [eA] at a)];exact ih2 i _ b)
 |agg l cs hl h ih=>
  simp only[Am.jk]
  exact .agg _ cs (by rw[eA];exact hl) (fun i a b=>by rw[nB ρ l i a (by rwa [eA] at a)];exact ih i _ b)
 |aA l cs hl h ih=>
  simp only[Am.jk]
  exact .aA _ cs (by rw[eA];exact hl) (fun i a b=>by rw[nB ρ l i a (by rwa [eA] at a)];exact ih i _ b)
 |mW t v cv h ih=>exact .mW t _ cv ih
theorem cA.jk {ρ:Nat→Option Nat} {g g':Gh} {w:World} (hr:dA ρ g g') : ∀{l:List AV} {vs:List Value},cA g w l vs→cA g' w (eR ρ l) vs
 |[],[],_=>trivial
 |_::_,_::_,h=>⟨h.1.jk hr,cA.jk hr h.2⟩
 |[],_::_,h=>h.elim
 |_::_,[],h=>h.elim
theorem cA.aa {ρ:Nat→Option Nat} {g g':Gh} {w:World} (hr:dA ρ g g') : ∀{l:List AV} {vs:List Value},cA g w l vs→cA g' w (l.map aa) vs
 |[],[],_=>trivial
 |a::_,_::_,h=>⟨by
   cases a with
   |p v=>exact h.1.jk hr
   |_=>exact .aj _,cA.aa hr h.2⟩
 |[],_::_,h=>h.elim
 |_::_,[],h=>h.elim
theorem cA.VS {ρ:Nat→Option Nat} {g g':Gh} {w:World} (hr:dA ρ g g') {l l':List AV} {vs:List Value} (h:cA g w l vs) (hl:l'=eR ρ l∨l'=l.map Am.aa):cA g' w l' vs:=by
 rcases hl with rfl | rfl
 · exact h.jk hr
 · exact cA.aa hr h
theorem MW (ρ:Nat→Option Nat) : ∀l:List PV,eR ρ (l.map .p)=l.map .p
 |[]=>rfl
 |v::l=>by simp[eR,Am.jk,MW ρ l]
theorem Ki (ρ:Nat→Option Nat) (k:aG) (vals:List AV) : ∃l,gd ρ (.ob k vals) = .ob k l:=by
 cases k with
 |gr t q=>cases q<;>exact⟨_,rfl⟩
 |_=>exact⟨_,rfl⟩
theorem xp {ρ:Nat→Option Nat} {b:aU} {l':List AV} (h:(gd ρ b).cells?=some l') : ∃l,b.cells?=some l∧l'=eR ρ l:=by
 cases b with
 |pc l=>simp only[gd,aU.cells?,cp] at h;exact⟨_,rfl,by rw[MW];exact h.symm⟩
 |ac l=>simp only[gd,aU.cells?,cp] at h;exact⟨l,rfl,h.symm⟩
 |ob k vals=>
  obtain⟨l0,e⟩:=Ki ρ k vals
  rw[e] at h
  cases h
 |_=>simp[gd,aU.cells?] at h
theorem lq {ρ:Nat→Option Nat} {b:aU}:(gd ρ b).dz=b.dz:=by unfold gd;split<;>rfl
theorem Ic {ρ:Nat→Option Nat} {b:aU} {k:aG} {l:List AV} (h:gd ρ b = .ob k l) : ∃l0,b = .ob k l0∧(l=eR ρ l0∨l=l0.map aa):=by
 unfold gd at h
 split at h<;>cases h
 · exact⟨_,rfl,.inr rfl⟩
 · exact⟨_,rfl,.inr rfl⟩
 · exact⟨_,rfl,.inl rfl⟩
 · rename_i hne
   exact(hne _ _ rfl).elim
theorem sN {ρ:Nat→Option Nat} {b:aU} (h:gd ρ b = .free):b = .free:=by unfold gd at h;split at h<;>first | exact h | cases h
theorem DM {ρ:Nat→Option Nat} {b:aU} (h:gd ρ b = .tok):b = .tok:=by unfold gd at h;split at h<;>first | exact h | cases h
theorem Ie {ord:List Nat} {i k:Nat} (h:idx ord i=some k):ord[k]? = some i:=by
 induction ord generalizing k with
 |nil=>simp[idx] at h
 |cons j ord ih=>
  simp only[idx] at h
  cases hb:ae i j with
  |true=>simp only[hb,cond_true,cp] at h;subst h;rw[ag hb];rfl
  |false=>
   simp only[hb,cond_false,gn] at h
   obtain⟨k',h1,rfl⟩:=h
   exact ih h1
def Gh.pack (g:Gh) (ord:List Nat):Gh where
 bS k:=(ord[k]?).bind g.bS
 lo k:=match ord[k]? with | some i=>g.lo i | none=>0
 hi k:=match ord[k]? with | some i=>g.hi i | none=>0
 pure:=g.pure
theorem dA.pack (g:Gh) (ord:List Nat):dA (idx ord) g (g.pack ord):=
 ⟨fun i k h=>by have:=Ie h;simp[Gh.pack,this],rfl⟩
theorem jR {m:Mem} {ord:List Nat} {k:Nat} {b:aU} (h:(pack m ord)[k]? = some b) : ∃i,ord[k]? = some i∧b=gd (idx ord) (m.getD i .dead):=by
 simp only[pack,dC,gn] at h
 obtain⟨i,h1,h2⟩:=h
 exact⟨i,h1,h2.symm⟩
theorem F5 {m:Mem} {i:Nat} {l:List AV} (h:(m.getD i .dead).cells?=some l):m[i]? = some (m.getD i .dead):=
 getD_some rfl fun e=>by rw[e] at h;cases h
theorem AB {m:Mem} {i:Nat} (h:(m.getD i .dead).dz=true):m[i]? = some (m.getD i .dead):=
 getD_some rfl fun e=>by rw[e] at h;cases h
theorem Kj {l:List Nat} (h:l.Nodup) {j k i:Nat} (hj:l[j]? = some i) (hk:l[k]? = some i):j=k:=by
 obtain⟨a,ha⟩:=di.1 hj
 obtain⟨b,hb⟩:=di.1 hk
 rcases Nat.lt_trichotomy j k with q | q | q
 · exact absurd (ha.trans hb.symm) (vt.1 h j k a b q)
 · exact q
 · exact absurd (hb.trans ha.symm) (vt.1 h k j b a q)
theorem Rel.pack {g:Gh} {m:Mem} {w:World} (h:Rel g m w) {ord:List Nat} (hnd:ord.Nodup) :
  Rel (g.pack ord) (Am.pack m ord) w∧(∀c,fD (g.pack ord) (Am.pack m ord) c→fD g m c):=by
 have own : ∀k b c,(Am.pack m ord)[k]? = some b→b.dz=true→(g.pack ord).bS k=some c → ∃i,ord[k]? = some i∧m[i]? = some (m.getD i .dead)∧(m.getD i .dead).dz=true∧g.bS i=some c:=by
  intro k b c hk ho hc
  obtain⟨i,h1,rfl⟩:=jR hk
  rw[lq] at ho
  exact⟨i,h1,AB ho,ho,by simpa[Gh.pack,h1] using hc⟩
 refine⟨⟨fun k hk=> ?_,fun k hk=> ?_,fun k b l hk hl=> ?_,fun k c hk hc=> ?_,fun j k b b' c hj hk ho ho' hc fm=> ?_,h.there,fun k ob l hk=> ?_⟩,fun c ho=> ?_⟩
 · have:ord[k]? = none:=dp (by simpa[Am.pack] using hk)
   simp[Gh.pack,this]
 · obtain⟨i,h1,h2⟩:=jR hk
   have h2:=sN h2.symm
   have:=h.free i (getD_some h2 (by simp))
   simp[Gh.pack,h1,this]
 · obtain⟨i,h1,rfl⟩:=jR hk
   obtain⟨l0,h2,rfl⟩:=xp hl
   obtain⟨c,cs,e,n,k1,k2,k3,k4,k5⟩:=h.cells i _ _ (F5 h2) h2
   exact⟨c,cs,e,n,by simpa[Gh.pack,h1] using k1,k2,k3,⟨k4.1.jk (dA.pack g ord),k4.2⟩,k5⟩
 · obtain⟨i,h1,h2⟩:=jR hk
   have h2:=DM h2.symm
   have hc:g.bS i=some c:=by simpa[Gh.pack,h1] using hc
   have:=h.tok i c (getD_some h2 (by simp)) hc
   simpa[Gh.pack,h1] using this
 · obtain⟨i,h1,h2,h3,h4⟩:=own j b c hj ho hc
   obtain⟨i',h1',h2',h3',h4'⟩:=own k b' c hk ho' fm
   have:=h.inj i i' _ _ c h2 h2' h3 h3' h4 h4'
   subst this
   exact Kj hnd h1 h1'
 · obtain⟨i,h1,h2⟩:=jR hk
   obtain⟨l0,h3,hl0⟩:=Ic h2.symm
   obtain⟨c,o,vs,k1,k2,k3,k4,k5,k6⟩:=h.obs i ob l0 (getD_some h3 (by simp))
   exact⟨c,o,vs,by simpa[Gh.pack,h1] using k1,k2,k3.VS (dA.pack g ord) hl0,k4,k5,by simpa[Gh.pack,h1] using k6⟩
 · obtain⟨k,b,hk,ho,hc⟩:=ho
   obtain⟨i,_,h2,h3,h4⟩:=own k b c hk ho hc
   exact⟨i,_,h2,h3,h4⟩
theorem Ig {l:List Nat} {i:Nat}:has l i=true↔i∈l:=by
 induction l with
 |nil=>simp[has]
 |cons j l ih=>
  simp only[has]
  cases hb:ae j i with
  |true=>simp[ag hb]
  |false=>
   have:j≠i:=fun e=>by subst e;simp[ua] at hb
   simp[ih,Ne.symm this]
theorem dW : ∀(l ord:List Nat),ord.Nodup→(ia ord l).Nodup ∧ ∃t,ia ord l=ord++t
 |[],ord,h=>⟨h,[],by simp[ia]⟩
 |i::l,ord,h=>by
  simp only[ia]
  cases hb:has ord i with
  |true=>exact dW l ord h
  |false=>
   have hni:i∉ord:=fun k=>by rw[Ig.2 k] at hb;cases hb
   obtain⟨h1,t,h2⟩:=dW l (ord++[i]) (wc.2 ⟨h,by simp,fun a ha b hb=>by simp at hb;subst hb;exact fun e=>hni (e▸ha)⟩)
   exact⟨h1,i::t,by simp only[cond_false,h2,vz,List.singleton_append]⟩
theorem l7 (m:Mem) : ∀(f:Nat) (ord:List Nat) (k:Nat),ord.Nodup→(reach m f ord k).Nodup ∧ ∃t,reach m f ord k=ord++t
 |0,ord,_,h=>⟨h,[],by simp[reach]⟩
 |f+1,ord,k,h=>by
  simp only[reach]
  cases hk:ord[k]? with
  |none=>exact⟨h,[],by simp⟩
  |some i=>
   obtain⟨h1,t,h2⟩:=dW (Ai (m.getD i .dead)) ord h
   obtain⟨h3,t',h4⟩:=l7 m f (ia ord (Ai (m.getD i .dead))) (k+1) h1
   refine⟨h3,t++t',?_⟩
   show reach m f (ia ord (Ai (m.getD i .dead))) (k+1)=_
   rw[h4,h2,vz]
theorem iR : ∀n,(upTo n).length=n
 |0=>rfl
 |n+1=>by simp[upTo,iR n]
theorem xq : ∀(n k:Nat),k<n→(upTo n)[k]? = some k
 |0,_,h=>absurd h (ui _)
 |n+1,k,h=>by
  simp only[upTo,wb,iR]
  by_cases hk:k<n
  · rw[if_pos hk,xq n k hk]
  · have:k=n:=by omega
    subst this;simp
theorem MX {n i:Nat} (h:i∈upTo n):i<n:=by
 induction n with
 |zero=>simp[upTo] at h
 |succ n ih=>
  simp only[upTo,List.mem_append,List.mem_singleton] at h
  rcases h with h | rfl
  · have:=ih h;omega
  · omega
theorem jS : ∀n,(upTo n).Nodup
 |0=>by simp[upTo]
 |n+1=>wc.2 ⟨jS n,by simp,fun a ha b hb=>by simp at hb;subst hb;have:=MX ha;omega⟩
theorem eU (m:Mem) (fix:Nat) (vs:List AV):(close m fix vs).Nodup ∧ ∀k,k<fix→(close m fix vs)[k]? = some k:=by
 obtain⟨h1,t,h2⟩:=dW (hJ vs) (upTo fix) (jS fix)
 obtain⟨h3,t',h4⟩:=l7 m (m.length+1) (ia (upTo fix) (hJ vs)) 0 h1
 refine⟨h3,fun k hk=> ?_⟩
 unfold close
 rw[h4,h2,vz,List.getElem?_append_left (by rw[iR];exact hk),xq fix k hk]
theorem fJ : ∀{l:List Nat} {n:Nat},iM l n=true → ∀i∈l,i<n
 |[],_,_,_,h=>by cases h
 |j::l,n,h,i,hi=>by
  simp only[iM,ch] at h
  cases hi with
  |head=>simpa[fi] using h.1
  |tail _ hi=>exact fJ h.2 i hi
theorem uu (ρ:Nat→Option Nat) : ∀(ord:List Nat) (m1 m:Mem),ord.Nodup→(∀i∈ord,i<m.length)→ord.length≤m1.length → ∀(i:Nat) (b:aU),(dr ρ ord m1 m)[i]? = some b →
  (i<m.length∧i∉ord∧m[i]? = some b)∨(∃(k:Nat) (b1:aU),ord[k]? = some i∧m1[k]? = some b1∧b=gd ρ b1)∨(m.length≤i ∧ ∃b1:aU,m1[ord.length+(i-m.length)]? = some b1∧b=gd ρ b1)
 |[],m1,m,_,_,_,i,b,h=>by
  simp only[dr,wb] at h
  by_cases hi:i<m.length
  · rw[if_pos hi] at h;exact .inl ⟨hi,by simp,h⟩
  · rw[if_neg hi,dC,gn] at h
    obtain⟨b1,h1,h2⟩:=h
    exact .inr (.inr ⟨by omega,b1,by simpa using h1,h2.symm⟩)
 |j::ord,[],m,_,_,hl,_,_,_=>by simp at hl
 |j::ord,b0::m1,m,hnd,hlt,hl,i,b,h=>by
  simp only[dr] at h
  have F6:=xa.1 hnd
  rcases uu ρ ord m1 (m.set j (gd ρ b0)) F6.2 (fun i hi=>by simpa using hlt i (.tail _ hi)) (by simpa using hl) i b h with⟨h1,h2,h3⟩ | ⟨k,b1,h1,h2,h3⟩ | ⟨h1,b1,h2,h3⟩
  · rw[dq] at h1
    rcases aP h3 with⟨rfl,e⟩ | ⟨hne,e⟩
    · exact .inr (.inl ⟨0,b0,rfl,rfl,e⟩)
    · exact .inl ⟨h1,fun hm=>by cases hm with
       |head=>exact hne rfl
       |tail _ hm=>exact h2 hm,e⟩
  · exact .inr (.inl ⟨k+1,b1,h1,h2,h3⟩)
  · rw[dq] at h1 h2
    exact .inr (.inr ⟨h1,b1,by rw[show(j::ord).length+(i-m.length)=(ord.length+(i-m.length))+1 by simp;omega];exact h2,h3⟩)
theorem dY (ρ:Nat→Option Nat) : ∀(ord:List Nat) (m1 m:Mem),ord.length≤m1.length→(dr ρ ord m1 m).length=m.length+(m1.length-ord.length)
 |[],m1,m,_=>by simp[dr]
 |_::_,[],_,h=>by simp at h
 |j::ord,b::m1,m,h=>by
  simp only[dr]
  rw[dY ρ ord m1 _ (by simpa using h)]
  simp
theorem pV : ∀{ord:List Nat} {k i:Nat},ord.Nodup→ord[k]? = some i→idx ord i=some k
 |[],_,_,_,h=>by simp at h
 |j::ord,0,i,_,h=>by
  simp only[List.getElem?_cons_zero,cp] at h;subst h
  simp[idx,ua]
 |j::ord,k+1,i,hnd,h=>by
  have F6:=xa.1 hnd
  simp only[List.getElem?_cons_succ] at h
  have hne:ae i j=false:=by
   rw[hZ];intro e
   have:=ag e
   subst this
   exact F6.1 (mc h)
  simp[idx,hne,pV F6.2 h]
theorem DN {ord:List Nat} {i:Nat} (h:i∉ord):idx ord i=none:=by
 cases hq:idx ord i with
 |none=>rfl
 |some k=>exact absurd (mc (Ie hq)) h
def Gh.back (g g1:Gh) (ord:List Nat) (n:Nat):Gh where
 bS i:=match idx ord i with | some k=>g1.bS k | none=>if i<n then g.bS i else g1.bS (ord.length+(i-n))
 lo i:=match idx ord i with | some k=>g1.lo k | none=>if i<n then g.lo i else g1.lo (ord.length+(i-n))
 hi i:=match idx ord i with | some k=>g1.hi k | none=>if i<n then g.hi i else g1.hi (ord.length+(i-n))
 pure:=g1.pure
def bM (g g':Gh) (n:Nat):Prop:= ∀k c,k<n→g.bS k=some c→g'.bS k=some c∧g'.lo k=g.lo k∧g'.hi k=g.hi k
theorem bM.refl (g:Gh) (n:Nat):bM g g n:=fun _ _ _ h=>⟨h,rfl,rfl⟩
theorem bM.trans {g g' g'':Gh} {n:Nat} (h:bM g g' n) (k:bM g' g'' n):bM g g'' n:=fun i c hi hc=>
 let⟨h1,h2,h3⟩:=h i c hi hc
 let⟨k1,k2,k3⟩:=k i c hi h1
 ⟨k1,k2.trans h2,k3.trans h3⟩
theorem bM.qV {g g':Gh} {w w':World} (h:Ext g w g' w') (n:Nat):bM g g' n:=fun i c _ hc=>h.bS i c hc
theorem Rel.back {g kV:Gh} {m Kk:Mem} {w w':World} (h:Rel g m w) {ord:List Nat} (hnd:ord.Nodup) (hlt : ∀i∈ord,i<m.length)
  (h1:Rel kV Kk w') (hs:dc (g.pack ord) (Am.pack m ord) w kV Kk w') (hf:bM (g.pack ord) kV ord.length) (hl:ord.length≤Kk.length) :
  Rel (g.back kV ord m.length) (dr (bw ord m.length) ord Kk m) w'∧Ext g w (g.back kV ord m.length) w'∧dc g m w (g.back kV ord m.length) (dr (bw ord m.length) ord Kk m) w' ∧
   dA (bw ord m.length) kV (g.back kV ord m.length):=by
 obtain⟨MY,MZ⟩:=h.pack hnd
 have Ih : ∀k i,ord[k]? = some i→i<m.length∧k<ord.length∧(g.back kV ord m.length).bS i=kV.bS k∧(g.back kV ord m.length).lo i=kV.lo k∧(g.back kV ord m.length).hi i=kV.hi k:=by
  intro k i hk
  have hx:=pV hnd hk
  exact⟨hlt i (mc hk),bF hk,by simp only[Gh.back,hx],by simp only[Gh.back,hx],by simp only[Gh.back,hx]⟩
 have F7 : ∀i,i∉ord→i<m.length→(g.back kV ord m.length).bS i=g.bS i∧(g.back kV ord m.length).lo i=g.lo i∧(g.back kV ord m.length).hi i=g.hi i:=by
  intro i hi hlt
  have hx:=DN hi
  simp only[Gh.back,hx,hlt,if_true,and_self]
 have SE : ∀i,m.length≤i→(g.back kV ord m.length).bS i=kV.bS (ord.length+(i-m.length))∧(g.back kV ord m.length).lo i=kV.lo (ord.length+(i-m.length))∧(g.back kV ord m.length).hi i=kV.hi (ord.length+(i-m.length)):=by
  intro i hi
  have hx:=DN (ord:=ord) (i:=i) fun hm=>by have:=hlt i hm;omega
  simp only[Gh.back,hx,uv.2 hi,if_false,and_self]
 have l8:dA (bw ord m.length) kV (g.back kV ord m.length):=by
  refine⟨fun j k hj=> ?_,rfl⟩
  unfold bw at hj
  cases ho:ord[j]? with
  |some i=>
   simp only[ho,cp] at hj;subst hj
   exact(Ih j i ho).2.2
  |none=>
   simp only[ho,cp] at hj;subst hj
   have:ord.length≤j:=List.getElem?_eq_none_iff.1 ho
   have e:ord.length+(m.length+(j-ord.length)-m.length)=j:=by omega
   have:=SE (m.length+(j-ord.length)) (by omega)
   rwa [e] at this
 have WE:Ext g w (g.back kV ord m.length) w':=by
  refine⟨fun i c hc=> ?_,fun c o p=>hs.pure c o p⟩
  have hi:i<m.length:=by
   rcases Nat.lt_or_ge i m.length with q | q
   · exact q
   · rw[h.vJ i q] at hc;cases hc
  by_cases hm:i∈ord
  · obtain⟨k,hk1,hk2⟩:=List.getElem_of_mem hm
    have hk:ord[k]? = some i:=by rw[List.getElem?_eq_getElem hk1,hk2]
    obtain⟨_,_,e1,e2,e3⟩:=Ih k i hk
    obtain⟨f1,f2,f3⟩:=hf k c hk1 (by simpa[Gh.pack,hk] using hc)
    rw[e1,e2,e3,f1,f2,f3]
    simp[Gh.pack,hk]
  · obtain⟨e1,e2,e3⟩:=F7 i hm hi
    exact⟨e1.trans hc,e2,e3⟩
 have nC : ∀i b c,i∉ord→m[i]? = some b→b.dz=true→g.bS i=some c → ¬fD (g.pack ord) (Am.pack m ord) c:=by
  intro i b c hi hb ho hc hO
  obtain⟨k,b',hk,ho',fm⟩:=hO
  obtain⟨i',q1,rfl⟩:=jR hk
  rw[lq] at ho'
  have fm:g.bS i'=some c:=by simpa[Gh.pack,q1] using fm
  have:=h.inj i i' _ _ c hb (AB ho') ho ho' hc fm
  subst this
  exact hi (mc q1)
 have Cj : ∀i b c,i∉ord→m[i]? = some b→b.dz=true→g.bS i=some c → ∀o,kV.pure c o→g.pure c o:=by
  intro i b c hi hb ho hc o p
  rcases hs.fresh c o p with q | q | q
  · exact q
  · exact absurd q (nC i b c hi hb ho hc)
  · exact absurd (h.kX ⟨i,b,hb,ho,hc⟩) (uv.2 q)
 have get:=uu (bw ord m.length) ord Kk m hnd hlt hl
 have WG : ∀i b c,(dr (bw ord m.length) ord Kk m)[i]? = some b→b.dz=true→(g.back kV ord m.length).bS i=some c →
   (i∉ord∧m[i]? = some b∧g.bS i=some c)∨(∃k b1,bw ord m.length k=some i∧Kk[k]? = some b1∧b1.dz=true∧kV.bS k=some c):=by
  intro i b c hi ho hc
  rcases get i b hi with⟨q1,q2,q3⟩ | ⟨k,b1,q1,q2,rfl⟩ | ⟨q1,b1,q2,rfl⟩
  · exact .inl ⟨q2,q3,by rw[(F7 i q2 q1).1] at hc;exact hc⟩
  · rw[lq] at ho
    exact .inr ⟨k,b1,by simp[bw,q1],q2,ho,by rw[(Ih k i q1).2.2.1] at hc;exact hc⟩
  · rw[lq] at ho
    rw[(SE i q1).1] at hc
    have hn:ord[ord.length+(i-m.length)]? = none:=dp (by omega)
    refine .inr ⟨_,b1,?_,q2,ho,hc⟩
    simp only[bw,hn,cp];omega
 refine⟨⟨fun i hi=> ?_,fun i hi=> ?_,fun i b l hi hb=> ?_,fun i c hi hc=> ?_,fun i j b b' c hi hj ho ho' hc fm=> ?_,h1.there,fun i ob l hi=> ?_⟩,WE,⟨hs.size,fun c hc hn=>hs.keep c hc fun ho=>hn (MZ c ho),hs.pure,fun c o p=> ?_,fun c ho=> ?_,hs.os,hs.tape,hs.output⟩,l8⟩
 · rw[dY _ _ _ _ hl] at hi
   rw[(SE i (by omega)).1]
   exact h1.vJ _ (by omega)
 · rcases get i _ hi with⟨q1,q0,q3⟩ | ⟨k,b1,q1,q2,q3⟩ | ⟨q1,b1,q2,q3⟩
   · rw[(F7 i q0 q1).1];exact h.free i q3
   · have q3:=sN q3.symm
     subst q3
     rw[(Ih k i q1).2.2.1];exact h1.free k q2
   · have q3:=sN q3.symm
     subst q3
     rw[(SE i q1).1];exact h1.free _ q2
 · have back : ∀k b1,bw ord m.length k=some i→Kk[k]? = some b1→b=gd (bw ord m.length) b1 →
    ∃c cs e n,(g.back kV ord m.length).bS i=some c∧w'.heap[c]? = some (.cells cs e n)∧n.2≤n.1∧FZ (g.back kV ord m.length) w' l cs.toList ∧ ∀o,¬(g.back kV ord m.length).pure c o:=by
    rintro k b1 hk SD rfl
    obtain⟨l0,q,rfl⟩:=xp hb
    obtain⟨c,cs,e,n,k1,k2,k3,k4,k5⟩:=h1.cells k b1 l0 SD q
    exact⟨c,cs,e,n,(l8.at' k i hk).1.trans k1,k2,k3,⟨k4.1.jk l8,k4.2⟩,k5⟩
   rcases get i _ hi with⟨q1,q2,q3⟩ | ⟨k,b1,q1,q2,q3⟩ | ⟨q1,b1,q2,q3⟩
   · obtain⟨c,cs,e,n,k1,k2,k3,k4,k5⟩:=h.cells i b l q3 hb
     have ho:=cU hb
     exact⟨c,cs,e,n,(F7 i q2 q1).1.trans k1,(hs.keep c (bO k2) (nC i b c q2 q3 ho k1)).trans k2,k3,k4.mono WE,fun o p=>k5 o (Cj i b c q2 q3 ho k1 o p)⟩
   · exact back k b1 (by simp[bw,q1]) q2 q3
   · have hn:ord[ord.length+(i-m.length)]? = none:=dp (by omega)
     exact back _ b1 (by simp only[bw,hn,cp];omega) q2 q3
 · have back : ∀k b1,bw ord m.length k=some i→Kk[k]? = some b1→aU.tok=gd (bw ord m.length) b1 →
    ∃cs e n,w'.heap[c]? = some (.cells cs e n)∧(g.back kV ord m.length).hi i≤cs.size∧(n.2≤n.1∨(g.back kV ord m.length).hi i≤n.1) ∧ ∀o,(g.back kV ord m.length).lo i≤o→o<(g.back kV ord m.length).hi i → ¬(g.back kV ord m.length).pure c o:=by
    intro k b1 hk SD hq
    have hq:=DM hq.symm
    subst hq
    obtain⟨e1,e2,e3⟩:=l8.at' k i hk
    rw[e2,e3]
    rw[e1] at hc
    exact h1.tok k c SD hc
   rcases get i _ hi with⟨q1,q2,q3⟩ | ⟨k,b1,q1,q2,q3⟩ | ⟨q1,b1,q2,q3⟩
   · obtain⟨e0,e2,e1⟩:=F7 i q2 q1
     have hc:g.bS i=some c:=e0.symm.trans hc
     obtain⟨cs,e,n,k2,k3,k4,k5⟩:=h.tok i c q3 hc
     rw[e1,e2]
     exact⟨cs,e,n,(hs.keep c (bO k2) (nC i _ c q2 q3 rfl hc)).trans k2,k3,k4,fun o a b p=>k5 o a b (Cj i _ c q2 q3 rfl hc o p)⟩
   · exact back k b1 (by simp[bw,q1]) q2 q3
   · have hn:ord[ord.length+(i-m.length)]? = none:=dp (by omega)
     exact back _ b1 (by simp only[bw,hn,cp];omega) q2 q3
 · have apart : ∀i b,i∉ord→m[i]? = some b→b.dz=true→g.bS i=some c → ∀k b1,Kk[k]? = some b1→b1.dz=true→kV.bS k=some c→False:=by
    intro i b q2 q3 ho hc k b1 hk ho1 gG
    rcases hs.owned c ⟨k,b1,hk,ho1,gG⟩ with q | q
    · exact nC i b c q2 q3 ho hc q
    · exact absurd (h.kX ⟨i,b,q3,ho,hc⟩) (uv.2 q)
   rcases WG i b c hi ho hc with⟨p1,p2,p3⟩ | ⟨k,b1,p1,p2,p3,p4⟩<;>rcases WG j b' c hj ho' fm with⟨q1,q2,q3⟩ | ⟨k',b1',q1,q2,q3,q4⟩
   · exact h.inj i j b b' c p2 q2 ho ho' p3 q3
   · exact(apart i b p1 p2 ho p3 k' b1' q2 q3 q4).elim
   · exact(apart j b' q1 q2 ho' q3 k b1 p2 p3 p4).elim
   · have:=h1.inj k k' b1 b1' c p2 q2 p3 q3 p4 q4
     subst this
     rw[p1] at q1;exact c8 q1
 · have back : ∀k b1,bw ord m.length k=some i→Kk[k]? = some b1→aU.ob ob l=gd (bw ord m.length) b1 →
    ∃c o vs,(g.back kV ord m.length).bS i=some c∧w'.heap[c]? = some o∧cA (g.back kV ord m.length) w' l vs∧ob.is o vs∧(∀o',¬(g.back kV ord m.length).pure c o')∧ob.room o ((g.back kV ord m.length).hi i):=by
    intro k b1 hk SD hq
    obtain⟨l0,rfl,hl0⟩:=Ic hq.symm
    obtain⟨c,o,vs,k1,k2,k3,k4,k5,k6⟩:=h1.obs k ob l0 SD
    exact⟨c,o,vs,(l8.at' k i hk).1.trans k1,k2,k3.VS l8 hl0,k4,k5,by rw[(l8.at' k i hk).2.2];exact k6⟩
   rcases get i _ hi with⟨q1,q2,q3⟩ | ⟨k,b1,q1,q2,q3⟩ | ⟨q1,b1,q2,q3⟩
   · obtain⟨c,o,vs,k1,k2,k3,k4,k5,k6⟩:=h.obs i ob l q3
     exact⟨c,o,vs,(F7 i q2 q1).1.trans k1,(hs.keep c (bO k2) (nC i _ c q2 q3 rfl k1)).trans k2,k3.mono WE,k4,fun o' p=>k5 o' (Cj i _ c q2 q3 rfl k1 o' p),by rw[(F7 i q2 q1).2.2];exact k6⟩
   · exact back k b1 (by simp[bw,q1]) q2 q3
   · have hn:ord[ord.length+(i-m.length)]? = none:=dp (by omega)
     exact back _ b1 (by simp only[bw,hn,cp];omega) q2 q3
 · rcases hs.fresh c o p with q | q | q
   · exact .inl q
   · exact .inr (.inl (MZ c q))
   · exact .inr (.inr q)
 · obtain⟨i,b,hi,hb,hc⟩:=ho
   rcases WG i b c hi hb hc with⟨_,p2,p3⟩ | ⟨k,b1,p1,p2,p3,p4⟩
   · exact .inl ⟨i,b,p2,hb,p3⟩
   · rcases hs.owned c ⟨k,b1,p2,p3,p4⟩ with q | q
     · exact .inl (MZ c q)
     · exact .inr q
def er:It→List Item
 |.code _ c=>[.code c]
 |.ops _ ops k _=>[.inRegion ops (wx k (ops.size-k))]
 |.inBlock id=>[.inBlock id]
 |.inLoop _ b=>[.inLoop b]
 |.inScope b=>[.inScope b]
 |.forget _=>[]
 |.fin=>[]
 |.begin=>[.beginRound]
 |.zz _=>[]
 |.gQ _=>[]
 |.leave=>[]
def It.pl:It→Prop
 |.fin | .zz _ | .gQ _ | .leave=>False
 |_=>True
def dU:List It→List Item
 |[]=>[]
 |x::k=>er x++dU k
def fY (E:Env) (g:Gh) (w:World):Prop:= ∀i cs,E.cQ i=some cs→VP g w (.pp 0 cs) (.pointer (some ⟨i,0,none⟩))
theorem fY.mono {E:Env} {g g':Gh} {w w':World} (h:fY E g w) (e : ∀c o,g.pure c o→g'.pure c o∧w'.cell? ⟨c,o,none⟩=w.cell? ⟨c,o,none⟩):fY E g' w':=fun i cs hi=>(h i cs hi).mono e
structure cK (E:Env) (g:Gh) (st:St) (a:Act) (w:World):Prop where
 tm : ∀k,VA g w (look st.tm k) (a.tmps.getD k undef)
 nt:a.tmps.size=st.nt
 rel:Rel g st.mem w
 fix:st.fix≤st.mem.length
 cQ:fY E g w
def eJ (g:Gh) (r:VK) (b:Frame):Prop:=match r with
 |.call=>b.kind = .normal∧b.roundOf=none
 |.round i=>b.kind = .normal ∧ ∃l,g.bS i=some l∧b.roundOf=some l
 |.late=>b.kind = .deferred∧b.roundOf=none
theorem eJ.ext {g g':Gh} (e : ∀i c,g.bS i=some c→g'.bS i=some c) {r:VK} {b:Frame} (h:eJ g r b):eJ g' r b:=by
 cases r with
 |call=>exact h
 |late=>exact h
 |round i=>
  obtain⟨h1,l,q1,q2⟩:=h
  exact⟨h1,l,e i l q1,q2⟩
theorem eJ.Ck {g:Gh} {r:VK} {b:Frame} (h:eJ g r b) (hn : ∀i,r ≠ .round i):b.roundOf=none:=by
 cases r with
 |call=>exact h.2
 |late=>exact h.2
 |round i=>exact absurd rfl (hn i)
def Mps (g:Gh) (l:List (Nat×Nat)) (cs:List Value):Prop:=bH (fun q v=> ∃c,g.bS q.1=some c∧v = .pointer (some ⟨c,q.2,none⟩)) l cs
def Mark.Ok (g:Gh):Mark→Deferred→Prop
 |.range b,d=> ∃D,g.bS b=some D∧d={target:= .collected D,args:= #[]}
 |.late f l m,d=> ∃fa ca:Array Value,Mps g l fa.toList∧Mps g m ca.toList∧d={target:= .fn (.func f) ca,args:=fa}
theorem Mark.Ok.ext {g g':Gh} (e : ∀i c,g.bS i=some c→g'.bS i=some c) {mk:Mark} {d:Deferred} (h:mk.Ok g d):mk.Ok g' d:=by
 cases mk with
 |range b=>
  obtain⟨D,q1,q2⟩:=h
  exact⟨D,e _ D q1,q2⟩
 |late f l m=>
  obtain⟨fa,ca,q1,q2,q3⟩:=h
  exact⟨fa,ca,bH.mono (fun _ _ ⟨c,k1,k2⟩=>⟨c,e _ c k1,k2⟩) q1,bH.mono (fun _ _ ⟨c,k1,k2⟩=>⟨c,e _ c k1,k2⟩) q2,q3⟩
def Mk (g:Gh) (mk:List Mark) (ds:List Deferred):Prop:=bH (fun b d=>b.Ok g d) mk ds
theorem Mk.ext {g g':Gh} (e : ∀i c,g.bS i=some c→g'.bS i=some c) {mk:List Mark} {ds:List Deferred} (h:Mk g mk ds):Mk g' mk ds:=
 bH.mono (fun _ _ q=>q.ext e) h
def M0 (P:Program) (r:VK) (fr:Frame) (w:World) (cv:Value) (w2:World):Prop:=match r with
 |.call=>fr.leaving P w (.returned cv)∧w2=w
 |.late=>(fr.going P w (.returned cv)∧fr.kind = .deferred)∧w2=w
 |.round _=> ∀(c:Frame) (cs:List Frame),Steps P (lone fr (c::cs) w) (lone (c.finish cv) cs w2)
def cX:Option Value→Bool→FrameMode
 |none,_=> .returning
 |some v,b=> .panicking [{v:=v,recovered:=b}]
def dN (P:Program) (E:Env) (g:Gh) (c:cm) (fr:Frame) (w:World):Prop:=
 match c.todo with
 |.fin::_=>fr.fn=c.f ∧ ∃cv w2,M0 P c.st.b9 fr w cv w2∧VA g w2 (look c.st.tm 0) cv∧Rel g c.st.mem w2∧dc g c.st.mem w g c.st.mem w2∧c.st.fix≤c.st.mem.length
 |.zz u::_=>fr.fn=c.f ∧ ∃cv,fr.leaving P w (.panicked [{v:=cv,recovered:=false}])∧VA g w u cv∧Rel g c.st.mem w∧c.st.fix≤c.st.mem.length
 |.gQ u::_=> ∃(b:Frame) (a:Act) (todo:List Item) (cv:Value),fr={b.atR a todo with mode:=cX (some cv) false}∧b.fn=c.f∧eJ g c.st.b9 b∧Mk g c.st.cw a.defers∧cK E g c.st a w∧VA g w u cv
 |.leave::_=> ∃(b:Frame) (a:Act) (todo:List Item),fr={b.atR a todo with mode:= .returning}∧b.fn=c.f∧eJ g c.st.b9 b∧(∀i,c.st.b9 ≠ .round i)∧c.st.cw=[]∧a.defers=[]∧cK E g c.st a w
 |_=> ∃(b:Frame) (a:Act),fr=b.atR a (dU c.todo)∧b.fn=c.f∧eJ g c.st.b9 b∧Mk g c.st.cw a.defers∧cK E g c.st a w ∧ ∀x∈c.todo,It.pl x
def eN (P:Program) (E:Env) (g:Gh) (c:cm) (fr:Frame) (w:World) (c':cm):Prop:=
 ∀cs,∃g' fr' w',Steps P (lone fr cs w) (lone fr' cs w')∧dN P E g' c' fr' w'∧dc g c.st.mem w g' c'.st.mem w'∧bM g g' c.st.fix∧c'.f=c.f∧c'.st.fix=c.st.fix∧c'.st.b9=c.st.b9
def an (P:Program) (E:Env) (f:FuncId) (args:List AV) (m:Mem) (v:AV) (m':Mem):Prop:=
 (∃fn,P.funcs[f]? = some fn∧fn.body.isSome=true∧(fn.name == "runtime.NumGoroutine")=false) ∧
 ∀(g:Gh) (w:World) (cJ:Array Value) (cs:List Frame),Rel g m w→cA g w args cJ.toList→fY E g w →
  ∃w' g' cv fr,Steps P (lone (xc P f cJ .normal) cs w) (lone fr cs w')∧fr.leaving P w' (.returned cv)∧fr.fn=f ∧
   VA g' w' v cv∧Rel g' m' w'∧dc g m w g' m' w'∧bM g g' m.length∧m.length≤m'.length
def M1 (P:Program) (E:Env) (f:FuncId) (args:List AV) (m:Mem) (v:AV) (m':Mem):Prop:=
 (∃fn,P.funcs[f]? = some fn∧fn.body.isSome=true∧(fn.name == "runtime.NumGoroutine")=false) ∧
 ∀(g:Gh) (w:World) (cJ:Array Value) (cs:List Frame),Rel g m w→cA g w args cJ.toList→fY E g w →
  ∃w' g' cv fr,Steps P (lone (xc P f cJ .normal) cs w) (lone fr cs w')∧fr.leaving P w' (.panicked [{v:=cv,recovered:=false}])∧fr.fn=f ∧
   VA g' w' v cv∧Rel g' m' w'∧dc g m w g' m' w'∧bM g g' m.length∧m.length≤m'.length
def M3 (g:Gh) (w:World):Option AV→Option Value→Prop
 |none,none=>True
 |some u,some v=>VA g w u v
 |_,_=>False
def M4 (P:Program) (E:Env) (f:FuncId) (args:List AV) (m:Mem) (pv:Option AV) (m':Mem):Prop:=
 (∃fn,P.funcs[f]? = some fn∧fn.body.isSome=true∧(fn.name == "runtime.NumGoroutine")=false) ∧
 ∀(g:Gh) (w:World) (cJ:Array Value) (qW:Option Value) (c0:Frame) (cs:List Frame),c0.mode=cX qW false→M3 g w pv qW→Rel g m w→cA g w args cJ.toList→fY E g w →
  ∃w' g' cv fr,Steps P (lone (xc P f cJ .deferred) (c0::cs) w) (lone fr ({c0 with mode:=cX qW true}::cs) w')∧fr.going P w' (.returned cv)∧fr.kind = .deferred ∧
   Rel g' m' w'∧dc g m w g' m' w'∧bM g g' m.length∧m.length≤m'.length
def Ii (P:Program) (E:Env) (args:List AV) (m:Mem) (v:AV) (m':Mem):Prop:=
 ∀(g:Gh) (w:World) (i l:Nat) (xs:List AV) (SF:Array Value) (c:Frame) (cs:List Frame),args = .vy i::xs→Rel g m w→g.bS i=some l→cA g w xs SF.toList→fY E g w →
  ∃f tmps as bd w' g' cv,(Instr.yield l SF).run P w = .ok (.round l f tmps as bd) w∧Steps P (lone (Frame.round l f tmps as bd .normal) (c::cs) w) (lone (c.finish cv) cs w') ∧
   VA g' w' v cv∧Rel g' m' w'∧dc g m w g' m' w'∧bM g g' m.length∧m.length≤m'.length
section
variable {P:Program} {E:Env} {g:Gh} {w:World}
theorem gk {st:St} {a:Act} (h:cK E g st a w) (x:Operand):VA g w (ev E st.tm x) (a.eval x):=by
 cases x with
 |tmp t=>exact h.tm t
 |const v=>exact VA.Se v
 |global i=>
  simp only[ev,Act.eval]
  cases hg:E.cQ i with
  |none=>exact .p _ _ (.sc _)
  |some cs=>exact .p _ _ (h.cQ i cs hg)
 |func f=>exact VA.fns.2 ⟨#[],#[],rfl,trivial,trivial⟩
theorem jy (tm:sA) (d k:Nat) (v:AV):look ((d,v)::tm) k=if d=k then v else look tm k:=by
 simp only[look]
 by_cases h:d=k
 · subst h;simp[ua]
 · have:ae d k=false:=by rw[hZ];intro e;exact h (ag e)
   simp[this,h]
theorem cK.put {st:St} {a:Act} {g':Gh} {w':World} {m':Mem} (h:cK E g st a w) {dst:Option Tmp} {v:AV} {cv:Value} (hf:fits st dst=true) (hv:VA g' w' v cv) (he:Ext g w g' w') (hr:Rel g' m' w') (hx:st.fix≤m'.length) :
  cK E g' (Am.put {st with mem:=m'} dst v) (a.put dst cv) w':=by
 cases dst with
 |none=>exact⟨fun k=>(h.tm k).mono he,h.nt,hr,hx,h.cQ.mono he.pure⟩
 |some d=>
  have hd:d<a.tmps.size:=by rw[h.nt];simpa[fits,fi] using hf
  refine⟨fun k=> ?_,by simp[Act.put,Am.put,h.nt],hr,hx,h.cQ.mono he.pure⟩
  simp only[Am.put,jy,Act.put]
  by_cases hk:d=k
  · subst hk
    simp only[if_true,xb,Array.getElem?_setIfInBounds_self_of_lt hd,Option.getD_some]
    exact hv
  · simp only[hk,if_false,xb]
    rw[Array.getElem?_setIfInBounds_ne hk,←xb]
    exact(h.tm k).mono he
theorem cK.known {st:St} {a:Act} (h:cK E g st a w) {d:Nat} {v:AV} (hv:VA g w v (a.tmps.getD d undef)):cK E g (Am.put st (some d) v) a w:=by
 refine⟨fun k=> ?_,h.nt,h.rel,h.fix,h.cQ⟩
 simp only[Am.put,jy]
 by_cases hk:d=k
 · subst hk;simp only[if_true];exact hv
 · simp only[hk,if_false];exact h.tm k
theorem nD {k n:Nat} (h:k<n):wx k (n-k)=k::wx (k+1) (n-(k+1)):=by
 rw[show n-k=(n-(k+1))+1 by omega,List.range'_succ]
theorem semAt_eq {o:Oper} {ro:Option Nat} {ρ:Operand→Value} {n:Next} {w':World} (hr:(execOp ρ o).run P w = .ok n w') (hn : ∀d,n ≠ .defer d):o.semAt ro ρ=execOp ρ o:=by
 unfold Oper.semAt
 cases ro with
 |none=>rfl
 |some l=>
  cases ho:o.op<;>first
   |rfl
   |(exfalso
     simp only[execOp,ho,il] at hr
     revert hr
     cases(resolve ρ _ o.type).run P w<;>intro hr<;>simp[pa] at hr
     exact hn _ hr.1.symm)
theorem oy {b:Frame} {a:Act} {k:List Item} {cs:List Frame} {w':World} {ops:Array Oper} {i:Nat} {rest:List Nat} {o:Oper} {v:Value} (ho:ops[i]? = some o) (hw:xf o (yielded ops a.tmps)=true)
  (hr:(execOp a.eval o).run P w = .ok (.value v) w'∨((execOp a.eval o).run P w = .ok .skip w'∧v=undef)) :
  _root_.Go.step P (lone (b.atR a (.inRegion ops (i::rest)::k)) cs w) = .next (lone (b.atR (a.put o.dst v) (.inRegion ops rest::k)) cs w'):=by
 have hg:=stepGR_op (P:=P) (b:=b) (k:=k) (cs:=cs) (w:=w) (rest:=rest) ho hw
 have nE:(b.atR a (.inRegion ops (i::rest)::k)).finish v=b.atR (a.put o.dst v) (.inRegion ops rest::k):=by rw[Frame.finish_atR,ho];rfl
 refine step_lone_go ?_
 rw[hg,←nE]
 rcases hr with hr | ⟨hr,rfl⟩
 · rw[semAt_eq hr fun _ e=>by cases e];simp[stepG.apply,hr]
 · rw[semAt_eq hr fun _ e=>by cases e];simp[stepG.apply,hr]
theorem pW {b:Frame} {a:Act} {k:List Item} {cs:List Frame} {w':World} {ops:Array Oper} {i:Nat} {rest:List Nat} {o:Oper} {f:FuncId} {args:Array Value} (ho:ops[i]? = some o) (hw:xf o (yielded ops a.tmps)=true)
  (hr:(execOp a.eval o).run P w = .ok (.enter f args) w') :
  _root_.Go.step P (lone (b.atR a (.inRegion ops (i::rest)::k)) cs w) = .next (lone (xc P f args .normal) (b.atR a (.inRegion ops (i::rest)::k)::cs) w'):=by
 have hg:=stepGR_op (P:=P) (b:=b) (k:=k) (cs:=cs) (w:=w) (rest:=rest) ho hw
 exact step_lone_go (by rw[hg,semAt_eq hr fun _ e=>by cases e];simp[stepG.apply,hr,Frame.atR])
theorem oz {st:St} {a:Act} (h:cK E g st a w) {ops:Array Oper} {o:Oper} :
  (ep ops st.tm o = .yes→xf o (yielded ops a.tmps)=true)∧(ep ops st.tm o = .no→xf o (yielded ops a.tmps)=false) ∧
  (∀d b want,ep ops st.tm o = .ask d b want→xf o (yielded ops a.tmps)=(b==want)∧a.tmps.getD d undef = .bool b):=by
 unfold ep xf
 cases hg:o.guard with
 |none=>simp
 |some q=>
  obtain⟨j,want⟩:=q
  simp only[yielded]
  cases hj:ops[j]? with
  |none=>simp
  |some oj=>
   simp only[tp]
   cases hd:oj.dst with
   |none=>simp
   |some d=>
    simp only[tp]
    have hv:=h.tm d
    have lp:a.tmps.getD d undef=(a.tmps[d]?).getD undef:=by rw[xb]
    generalize hz:a.tmps.getD d undef=z at hv lp
    generalize hl:look st.tm d=x at hv
    cases hv with
    |p pv cv hp=>
     cases hp with
     |sc=>
      cases z with
      |bool b=>
       have:a.tmps[d]? = some (.bool b):=by
        cases ha:a.tmps[d]? with
        |none=>rw[ha] at lp;cases lp
        |some u=>rw[ha] at lp;simp at lp;rw[lp]
       refine⟨fun h=>(by cases h),fun h=>(by cases h),?_⟩
       rintro d' b' w' e
       cases e
       refine⟨?_,hz⟩
       simp only[this]
       cases b<;>cases want<;>rfl
      |_=>exact⟨fun h=>(by cases h),fun h=>(by cases h),fun _ _ _ h=>(by cases h)⟩
     |_=>exact⟨fun h=>(by cases h),fun h=>(by cases h),fun _ _ _ h=>(by cases h)⟩
    |aA l cs hl' hh=>
     refine⟨fun h=>(by cases h),fun _=> ?_,fun _ _ _ h=>(by cases h)⟩
     cases ha:a.tmps[d]? with
     |none=>simp
     |some u=>
      rw[ha] at lp;simp at lp
      subst lp
      simp
    |_=>exact⟨fun h=>(by cases h),fun h=>(by cases h),fun _ _ _ h=>(by cases h)⟩
end
end Go.Am
end
