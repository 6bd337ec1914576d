import Derived.Test.YtjfgfhaoeicpdaaGreatDoorMF
import Derived.WalkKit
import Derived.ProofKit
import Derived.OpenShut
import Derived.Carry
import Derived.Lib.LaidU8
import Derived.ChangeArms
open Go.DataW renaming trod→aa0,TrodAll→aa1,TrodVars→aa2,trod_int→aa3
open Go.IntKind renaming signed→aa4,bits→aa5,wrap→aba,i64→rn,u32→abb
open Nat renaming eq_of_beq_eq_true→ag,lt_or_ge→fb,le_refl→bj,beq→ae,zero_le→QQ
open Option.some renaming injEq→cp
open List renaming getElem?_eq_getElem→bm,getD_eq_getElem?_getD→cb,length_append→de,getElem?_map→dC,mem_append→mi,nodup_nil→abg
section
namespace Go.Am
open Go.RowKit Go.ChangeShapes
section
variable {P:Program} {E:Env}
def bare (pure:Nat→Nat→Prop):Gh:=⟨fun _=>none,fun _=>0,fun _=>0,pure⟩
theorem Rel.bare {pure:Nat→Nat→Prop} {w:World} (h : ∀c o,pure c o → ∃v,w.cell? ⟨c,o,none⟩=some v):Rel (Am.bare pure) [] w where
 vJ _ _:=rfl
 free _ _:=rfl
 cells i b l hi:=by simp at hi
 tok i c hi:=by simp at hi
 inj i j b b' c hi:=by simp at hi
 there:=h
 obs i k l hi:=by simp at hi
theorem zX {f:FuncId} {args:List AV} {m':Mem} {x:Value} {pure:Nat→Nat→Prop} {w:World} {cJ:Array Value} (h:an P E f args [] (.p (.sc x)) m')
  (hp : ∀c o,pure c o → ∃v,w.cell? ⟨c,o,none⟩=some v) (ha:cA (Am.bare pure) w args cJ.toList) (hg:fY E (Am.bare pure) w) :
  Calls P f cJ w fun e w'=>e = .returned x∧Below w.heap.size w w':=by
 intro cs
 obtain⟨_,h⟩:=h
 obtain⟨w',g',cv,fr,h1,h2,h3,h4,_,h6,_,_⟩:=h _ w cJ cs (Rel.bare hp) ha hg
 rw[VA.pv] at h4
 cases h4
 refine⟨.returned x,w',fr,⟨rfl,h6.os,h6.tape,h6.output,h6.size,fun k hk=>h6.keep k hk ?_⟩,h1,h3,h2⟩
 rintro ⟨i,b,hi,_⟩
 simp at hi
theorem fY.none {E:Env} {g:Gh} {w:World} (h : ∀i,E.cQ i=none):fY E g w:=fun i cs hi=>by rw[h i] at hi;cases hi
section
variable {H:Type} {enc:TypeId×Value→H}
theorem rC {W:World} {sp:Nat→Bool}:aa2 enc P W sp [] [] []:=by simp[aa2]
theorem pE (hl:laidOutB P=true) {W W':World} (hb:Below W.heap.size W W') {sp:Nat→Bool} : ∀{ts:List TypeId} {vs:List Value} {ds:List (DataW H)} {ps:List MemPlace},
  (∀t∈ts,P.readableRec t=true∧t<P.types.size)→aa1 enc P W 0 (fun _=>true) true ts vs ds ps→(∀p∈ps,p.block<W.heap.size∧sp p.block=true)→aa1 enc P W' 0 sp true ts vs ds ps
 |[],_,_,_,_,h,_=>by
  obtain⟨rfl,rfl,rfl⟩:=trodAll_nil h
  exact trodAll_mk0
 |t::ts,_,_,_,ht,h,hp=>by
  obtain⟨v,vs1,d,ds1,a,b,rfl,rfl,rfl,h1,h2⟩:=trodAll_cons h
  refine⟨a,b,WideElems.Trod_stays hl (ht t (.head _)).1 (ht t (.head _)).2 h1 (fun x hx=>hb.same (hp x (by simp[hx])).1) (fun x hx=>(hp x (by simp[hx])).2),?_,rfl⟩
  exact pE hl hb (fun u hu=>ht u (.tail _ hu)) h2 fun x hx=>hp x (by simp[hx])
theorem Ny {f:Func} {s:ChangeSpec} {apart fresh handsOn again:Bool} {W W':World} {args:Array Value} {ds gs:List (DataW H)} {before:List MemPlace} {tb:TypeId}
  (hl:laidOutB P=true) (ht : ∀t∈f.params.toList,P.readableRec t=true∧t<P.types.size) (hrt:f.resultTypes = #[tb]) (hub:P.underlying tb=some .bool) (hvs:s.vars=[])
  (hW:DataW.Whole enc P f.params.toList s.vars apart W args.toList ds gs before) (hf:s.fn H (ds++gs)={results:=[.lit (.bool true)],args:=ds}) (hb:Below W.heap.size W W') :
  s.post enc P f apart fresh handsOn again W args (.bool true) W':=by
 have hW':=hW
 obtain⟨p,q,hA,hV,rfl,hfz,hnd⟩:=hW
 rw[hvs] at hV
 obtain⟨rfl,rfl⟩:=trodVars_none hV
 have hlt : ∀x∈p,x.block<W.heap.size:=fun x hx=>hW'.lt x (by simp[hx])
 have hargs : ∀sp:Nat→Bool,(∀x∈p,sp x.block=true)→aa1 enc P W' 0 sp true f.params.toList args.toList ds p:=fun sp hsp=>pE hl hb ht hA fun x hx=>⟨hlt x hx,hsp x hx⟩
 have hres : ∀(b:Nat) (sp:Nat→Bool) (hd:Bool),aa1 enc P W' b sp hd f.resultTypes.toList ((Value.bool true).resultList f.resultTypes.size) [.lit (.bool true)] []:=by
  intro b sp hd
  rw[hrt]
  exact trodAll_cons_mk (shut_bool hub _) trodAll_mk0
 refine⟨ds,[],p++[],[],p,[],hW',?_,?_,?_,hb.frame _,fun _=>⟨?_,[.lit (.bool true)]++ds,[],([]++p)++[],⟨[]++p,[],?_,?_,rfl,?_,?_⟩,?_⟩⟩
 · rw[hf];exact hres _ _ _
 · rw[hf];exact hargs _ fun x hx=>by simpa using hlt x hx
 · rw[hf,hvs];exact rC
 · exact ok_one hrt rfl (okWide_bool_mk hub _)
 · exact trodAll_append (hargs _ fun _ _=>rfl) (hres _ _ _)
 · rw[hvs];exact rC
 · intro b off hx
   rw[hb.frozen (hlt _ (by simpa using hx))]
   exact hfz b off (by simpa using hx)
 · intro ha
   simpa using hnd ha
 · intro x hx _
   simpa using hx
end
end
end Go.Am
end
section
namespace Go.Am
theorem af0 (n:Int):rn.wrap n=(n+9223372036854775808)%18446744073709551616-9223372036854775808:=by
 simp only[aba,aa5,aa4];simp;split<;>omega
theorem Xg (n:Int):abb.wrap n=n%4294967296:=by simp[aba,aa5,aa4]
theorem af1 (n:Int):IntKind.u64.wrap n=n%18446744073709551616:=by simp[aba,aa5,aa4]
theorem Iu {n:Int} (h:(Lit.int .u32 n).wf=true):0≤n∧n≤4294967295:=by
 simpa[Lit.wf,IntKind.min,IntKind.max,aa4,aa5] using h
theorem aO {n:Int} (h : -9223372036854775808≤n) (h':n≤9223372036854775807):rn.wrap n=n:=by rw[af0];omega
theorem V4 {n:Int} (h:0≤n) (h':n≤4294967295):abb.wrap n=n:=by rw[Xg];omega
open Go.Lib
def pF:List (Nat×List Value)→Nat→Option (List PV)
 |[],_=>none
 |(g,vs)::r,i=>cond (ae g i) (some (vs.map .sc)) (pF r i)
def S3 (T:List (Nat×List Value)):Env:={cQ:=pF T,wr:=fun _ _=>false,keep:=fun _ _=>none}
def jW (T:List (Nat×List Value)) (W:World):Prop:= ∀q∈T,∀k v,q.2[k]? = some v→W.cell? ⟨q.1,k,none⟩=some v∧v.oneCell'=true
def xU (T:List (Nat×List Value)) (c o:Nat):Prop:= ∃q∈T,c=q.1∧o<q.2.length
theorem xV : ∀{T:List (Nat×List Value)} {i:Nat} {cs:List PV},pF T i=some cs → ∃vs,(i,vs)∈T∧cs=vs.map .sc
 |[],_,_,h=>by cases h
 |(g,vs)::r,i,cs,h=>by
  simp only[pF] at h
  cases hb:ae g i with
  |true=>
   have:=ag hb
   subst this
   simp only[hb,cond_true,cp] at h
   exact⟨vs,.head _,h.symm⟩
  |false=>
   simp only[hb,cond_false] at h
   obtain⟨us,h1,h2⟩:=xV h
   exact⟨us,.tail _ h1,h2⟩
theorem Kw {T:List (Nat×List Value)} {W:World} (h:jW T W):fY (S3 T) (bare (xU T)) W:=by
 intro i cs hi
 obtain⟨vs,hm,rfl⟩:=xV hi
 refine .pp 0 _ i 0 (fun k=>vs.getD k undef) (fun k hk=> ?_) (fun k hk=> ?_)
 · rw[List.length_map] at hk
   have hv:vs[k]? = some (vs.getD k undef):=by rw[cb,bm hk];rfl
   obtain⟨h1,h2⟩:=h _ hm k _ hv
   rw[Nat.zero_add]
   exact⟨⟨_,hm,rfl,hk⟩,h1,h2⟩
 · have hk':k<vs.length:=by simpa using hk
   have:(vs.map PV.sc)[k] = .sc (vs.getD k undef):=by
    rw[List.getElem_map,cb,bm hk'];rfl
   rw[this]
   exact .sc _
theorem Gw {E:Env} {T:List (Nat×List Value)} {W:World} (h:jW T W) (he:E.cQ=pF T):fY E (bare (xU T)) W:=fun i cs hi=>Kw h i cs (by rw[he] at hi;exact hi)
theorem Gx {T:List (Nat×List Value)} {W:World} (h:jW T W) : ∀c o,xU T c o → ∃v,W.cell? ⟨c,o,none⟩=some v:=by
 rintro c o ⟨q,hm,rfl,ho⟩
 exact⟨_,(h q hm o _ (bm ho)).1⟩
theorem uF {P:Program} {W:World} {name:String} {d:DataW Unit} {k:IntKind} {zs:List Int} {g t e n:Nat} (h:VarReads P W name d) (hd:d = .agg (zs.map fun z=> .lit (.int k z))) (hg:P.globalNamed name=some g) (ht:(P.globals[g]?).map (·.type)=some t)
  (hu:P.underlying t=some (.array n e)) (he:P.underlying e=some (.int k)) (hc:P.cellsOf e=1) (hn:zs.length≤n) : ∀(i:Nat) (v:Value),(zs.map (Value.int k))[i]? = some v→W.cell? ⟨g,i,none⟩=some v∧v.oneCell'=true:=by
 intro i v hv
 subst hd
 obtain⟨g',t',cs,fuel,p,h1,h2,h3,h4⟩:=h
 rw[hg] at h1;cases h1
 rw[ht] at h2;cases h2
 rw[dC,Option.map_eq_some_iff] at hv
 obtain⟨z,hz,rfl⟩:=hv
 have hi:i<zs.length:=(List.getElem?_eq_some_iff.1 hz).1
 obtain⟨fuel',d,q,hd,VY⟩:=array_elem hu h4 i (by omega)
 rw[dC,hz] at hd
 simp only[Option.map_some,cp] at hd
 subst hd
 obtain⟨z',hcz,hx,_⟩:=aa3 he VY
 simp only[Prod.mk.injEq,DataW.lit.injEq,Lit.int.injEq,true_and] at hx
 obtain⟨rfl,_⟩:=hx
 refine⟨?_,rfl⟩
 rw[World.var?_cell hg h3 i,←Array.getElem?_toList]
 have:=congrArg (·[0]?) hcz
 simpa[List.getElem?_take,List.getElem?_drop,hc] using this
theorem CB {W:World}:jW [] W:=fun _ h=>by cases h
theorem kO {W:World} {g:Nat} {vs:List Value} {T:List (Nat×List Value)} (h : ∀(i:Nat) (v:Value),vs[i]? = some v→W.cell? ⟨g,i,none⟩=some v∧v.oneCell'=true) (hT:jW T W):jW ((g,vs)::T) W:=by
 intro q hq
 cases hq with
 |head=>exact h
 |tail _ hq=>exact hT q hq
end Go.Am
end
section
namespace Go.Am
open Go.RowKit
def qI (w:World):Gh:=bare fun c o=> ∃v,w.cell? ⟨c,o,none⟩=some v
def bT (w:World) (l:List PV) (cs:List Value):Prop:=HZ (qI w) w l cs ∧ ∀v∈cs,v.oneCell'=true
theorem bT.one {w:World} {x:PV} {v:Value} (h:VP (qI w) w x v) (ho:v.oneCell'=true):bT w [x] [v]:=⟨⟨h,trivial⟩,fun u hu=>by simp at hu;subst hu;exact ho⟩
theorem bT.append {w:World} {l m:List PV} {cs ds:List Value} (h:bT w l cs) (k:bT w m ds):bT w (l++m) (cs++ds):=
 ⟨h.1.append k.1,fun v hv=>(mi.1 hv).elim (h.2 v) (k.2 v)⟩
section
variable {H:Type} {enc:TypeId×Value→H} {P:Program} {w:World} {base:Nat} {spare:Nat→Bool} {held:Bool} {fuel:Nat} {t:TypeId} {cs:List Value} {x:DataW H×List MemPlace}
theorem kP (ht:P.underlying t=some .bool) (h:aa0 enc P w base spare held fuel t cs=some x) : ∃b:Bool,bT w [.sc (.bool b)] cs:=by
 obtain⟨b,rfl,_⟩:=DataW.trod_bool ht h
 exact⟨b,.one (.sc _) rfl⟩
theorem bU {k:IntKind} (ht:P.underlying t=some (.int k)) (h:aa0 enc P w base spare held fuel t cs=some x) : ∃n:Int,(Lit.int k n).wf=true∧bT w [.sc (.int k n)] cs:=by
 obtain⟨n,rfl,_,hw⟩:=aa3 ht h
 exact⟨n,hw,.one (.sc _) rfl⟩
theorem iZ (ht:P.underlying t=some .string) (h:aa0 enc P w base spare held fuel t cs=some x) : ∃s:ByteArray,s.size≤maxLen∧bT w [.sc (.string s)] cs:=by
 obtain⟨s,rfl,_,hw⟩:=DataW.trod_string ht h
 exact⟨s,hw,.one (.sc _) rfl⟩
theorem D8 {α β:Type} {f:α→Option β} : ∀{l:List α} {m:List β},l.mapM f=some m→m.length=l.length ∧ ∀(i:Nat) (a:α),l[i]? = some a→f a=m[i]?
 |[],m,h=>by
  simp at h;subst h
  exact⟨rfl,fun i a h=>by simp at h⟩
 |a::l,m,h=>by
  rw[List.mapM_cons] at h
  cases ha:f a with
  |none=>rw[ha] at h;cases h
  |some b=>
   rw[ha] at h
   cases hl:l.mapM f with
   |none=>rw[hl] at h;cases h
   |some bs=>
    rw[hl] at h
    cases h
    obtain⟨h1,h2⟩:=D8 hl
    refine⟨by simp[h1],fun i c hc=> ?_⟩
    cases i with
    |zero=>simp at hc;subst hc;simpa using ha
    |succ i=>simpa using h2 i c (by simpa using hc)
theorem Gy {a:Addr} {n:Nat} {us:List Value} (h:w.cells? base a n=some us):us.length=n ∧ ∀(i:Nat) (v:Value),us[i]? = some v→w.cell? (a.add i)=some v:=by
 unfold World.cells? at h
 split at h
 · obtain⟨h1,h2⟩:=D8 h
   simp only[List.length_range] at h1
   refine⟨h1,fun i v hv=> ?_⟩
   have hi:i<n:=by
    rcases fb i n with q | q
    · exact q
    · rw[List.getElem?_eq_none (by omega)] at hv;cases hv
   rw[h2 i i (by rw[List.getElem?_range hi])]
   exact hv
 · cases h
theorem CC (a:Addr) (m n:Nat):(a.add m).add n=a.add (m+n):=by
 obtain⟨b,o,s⟩:=a
 unfold Addr.add
 by_cases hm:m=0<;>by_cases hn:n=0<;>simp[hm,hn,Nat.add_assoc]
theorem jX {α:Type} {e:TypeId} {mm:α→List PV} {wf:α→Prop} (ht:P.underlying t=some (.slice e)) (hz:1≤P.cellsOf e) (h:aa0 enc P w base spare held fuel t cs=some x)
  (hE : ∀n,n<fuel → ∀us y,aa0 enc P w base spare held n e us=some y → ∃a:α,wf a∧bT w (mm a) us) :
  ∃xs:List α,xs.length≤maxLen∧(∀a∈xs,wf a)∧bT w [.ps xs.length (P.cellsOf e) (xs.flatMap mm)] cs:=by
 rcases DataW.trod_slice ht h with⟨rfl,_⟩ | ⟨a,len,cap,elems,rest,n,rfl,rfl,_,hb,hl,hmx,hel,lp,_⟩
 · exact⟨[],QQ _,(fun _ h=>by cases h),.one (.pP _ _ _ (.inl hz)) rfl⟩
 · have build : ∀k,k≤len → ∃(xs:List α) (us:List Value),xs.length=k∧(∀y∈xs,wf y)∧us.length=k*P.cellsOf e∧bT w (xs.flatMap mm) us ∧ ∀(j:Nat) (v:Value),us[j]? = some v→w.cell? (a.add j)=some v:=by
    intro k
    induction k with
    |zero=>exact fun _=>⟨[],[],rfl,(fun _ h=>by cases h),by simp,⟨trivial,(fun _ h=>by cases h)⟩,fun j v h=>by simp at h⟩
    |succ k ih=>
     intro hk
     obtain⟨xs,us,h1,h2,h3,h4,h5⟩:=ih (by omega)
     have hg:=lp k (by omega)
     rw[bm (by omega:k<elems.length)] at hg
     cases hc:w.cells? base (a.add (k*P.cellsOf e)) (P.cellsOf e) with
     |none=>rw[hc] at hg;cases hg
     |some ci=>
      rw[hc] at hg
      obtain⟨y,hy,hyc⟩:=hE n (by omega) ci _ hg
      obtain⟨c1,c2⟩:=Gy hc
      refine⟨xs++[y],us++ci,by simp[h1],(fun z hz=>(mi.1 hz).elim (h2 z) fun q=>by simp at q;subst q;exact hy),?_,?_,fun j v hj=> ?_⟩
      · rw[de,h3,c1,Nat.succ_mul]
      · rw[List.flatMap_append]
        simpa using h4.append hyc
      · rcases fb j us.length with q | q
        · rw[List.getElem?_append_left q] at hj;exact h5 j v hj
        · rw[List.getElem?_append_right q] at hj
          have h:=c2 _ v hj
          rw[CC] at h
          rw[←h]
          congr 2
          omega
   obtain⟨xs,us,h1,h2,h3,h4,h5⟩:=build len (bj _)
   refine⟨xs,by omega,h2,.one ?_ rfl⟩
   rw[h1]
   rcases Nat.eq_zero_or_pos len with e0 | e0
   · subst e0
     have:xs=[]:=List.eq_nil_of_length_eq_zero h1
     subst this
     exact .pP _ _ _ (.inl hz)
   · have hp:0<us.length:=by rw[h3];exact Nat.mul_pos e0 hz
     have h0:=h5 0 us[0] (bm hp)
     obtain⟨ab,ao,asp⟩:=a
     have hsp:asp=none:=by
      unfold World.cell? at h0
      split at h0
      · cases asp with
        |none=>rfl
        |some q=>simp[Addr.add] at h0
      · cases h0
     subst hsp
     exact VP.mk (us:=us) h4.1 h3 hl hz fun k v hk=>by
      have h:=h5 k v hk
      rw[cP] at h
      exact⟨h,⟨v,h⟩,h4.2 v (List.mem_of_getElem? hk)⟩
theorem pG {e:TypeId} {k:IntKind} (ht:P.underlying t=some (.slice e)) (he:P.underlying e=some (.int k)) (hz:P.cellsOf e=1) (h:aa0 enc P w base spare held fuel t cs=some x) :
  ∃ns:List Int,ns.length≤maxLen∧(∀n∈ns,(Lit.int k n).wf=true)∧bT w [.ps ns.length 1 (ns.map fun n=> .sc (.int k n))] cs:=by
 obtain⟨xs,h0,h1,h2⟩:=jX (mm:=fun n=>[PV.sc (.int k n)]) (wf:=fun n=>(Lit.int k n).wf=true) ht (by omega) h fun n _ us y hy=>bU he hy
 refine⟨xs,h0,h1,?_⟩
 rw[hz] at h2
 have:xs.flatMap (fun n=>[PV.sc (.int k n)])=xs.map fun n=> .sc (.int k n):=(List.map_eq_flatMap ..).symm
 rw[this] at h2
 exact h2
theorem jc {fs:Array Field} (ht:P.underlying t=some (.struct fs)) (h:aa0 enc P w base spare held fuel t cs=some x) :
  ∃n,fuel=n+1∧cs.length=P.cellsOf t ∧ ∀(i:Nat) (f:Field),fs[i]? = some f → ∃y,aa0 enc P w base spare held n f.type ((cs.drop f.offset).take (P.cellsOf f.type))=some y:=by
 obtain⟨xs,n,h1,_,h3,h4,h5⟩:=DataW.trod_struct ht h
 refine⟨n,h1,h3,fun i f hf=> ?_⟩
 have hi:i<xs.length:=by
  rw[h4]
  rcases fb i fs.size with q | q
  · exact q
  · rw[Array.getElem?_eq_none q] at hf;cases hf
 exact⟨xs[i],by rw[h5 i f hf,bm hi]⟩
end
section
variable {P:Program} {E:Env}
theorem an.weak {f:FuncId} {args:List AV} {v v':AV} {m':Mem} (h:an P E f args [] v m') (hv : ∀(g:Gh) (w:World) (cv:Value),VA g w v cv→VA {g with bS:=fun _=>none} w v' cv):an P E f args [] v' []:=by
 obtain⟨hf,h⟩:=h
 refine⟨hf,fun g w cJ cs hr ha hg=> ?_⟩
 obtain⟨w',g',cv,fr,h1,h2,h3,h4,h5,h6,_,_⟩:=h g w cJ cs hr ha hg
 have no : ∀c,¬fD ({g' with bS:=fun _=>none}:Gh) [] c:=fun c ⟨i,b,hi,_⟩=>by simp at hi
 refine⟨w',{g' with bS:=fun _=>none},cv,fr,h1,h2,h3,hv _ _ _ h4,?_,⟨h6.size,h6.keep,h6.pure,h6.fresh,fun c hc=>absurd hc (no c),h6.os,h6.tape,h6.output⟩,fun k c hk=>by simp at hk,bj _⟩
 exact⟨fun _ _=>rfl,fun _ _=>rfl,fun i b l hi=>by simp at hi,fun i c hi=>by simp at hi,fun i j b b' c hi=>by simp at hi,h5.there,fun i k l hi=>by simp at hi⟩
theorem an.pure {f:FuncId} {args:List AV} {tok:Option Nat} {len sz:Nat} {cells:List PV} {m':Mem} (h:an P E f args [] (.os tok len sz cells) m'):an P E f args [] (.p (.ps len sz cells)) []:=
 h.weak fun g w cv hv=>by
   cases hv with
   |os _ _ _ _ a cap h _=>exact .p _ _ (VP.mono (g:=g) (g':={g with bS:=fun _=>none}) (w:=w) (w':=w) (fun _ _ q=>⟨q,rfl⟩) h)
theorem an.nil {f:FuncId} {args:List AV} {tok:Option Nat} {sz:Nat} {m':Mem} (h:an P E f args [] (.os tok 0 sz []) m') {k:Nat} (hk:1≤k):an P E f args [] (.p (.ps 0 k [])) []:=
 h.weak fun g w cv hv=>by
   cases hv with
   |os _ _ _ _ a cap h _=>exact .p _ _ (.pP _ _ _ (.inl hk))
end
def S4 (x y:PV):Prop:= ∀(g:Gh) (w:World) (v:Value),VP g w x v→VP g w y v
theorem S4.refl (x:PV):S4 x x:=fun _ _ _ h=>h
theorem S4.nil {k:Nat}:S4 (.ps 0 0 []) (.ps 0 k []):=fun g w v h=>by
 cases h with
 |ps _ _ _ b o cap f hl hc hz hp hv=>omega
 |pP _ a cap hz=>
  rcases hz with hz | ⟨rfl,rfl⟩
  · omega
  · exact .pP _ _ _ (.inr ⟨rfl,rfl⟩)
def CD (l m:List PV):Prop:=bH S4 l m
theorem CD.refl : ∀l:List PV,CD l l
 |[]=>trivial
 |x::l=>⟨.refl x,CD.refl l⟩
theorem CD.append : ∀{l m l' m':List PV},CD l m→CD l' m'→CD (l++l') (m++m')
 |[],[],_,_,_,k=>k
 |_::_,_::_,_,_,h,k=>⟨h.1,CD.append h.2 k⟩
 |[],_::_,_,_,h,_=>h.elim
 |_::_,[],_,_,h,_=>h.elim
theorem S4.ps {n z:Nat} {l m:List PV} (h:CD l m):S4 (.ps n z l) (.ps n z m):=fun g w v hv=>by
 have hlen:l.length=m.length:=bH.len h
 cases hv with
 |ps _ _ _ b o cap f hl hc hz hp hv=>
  exact .ps n z m b o cap f (hlen▸hl) hc hz (fun k hk=>hp k (by omega)) fun k hk=>bH.get h k (by omega) hk g w _ (hv k (by omega))
 |pP _ a cap hz=>
  cases m with
  |nil=>exact .pP _ _ _ hz
  |cons _ _=>cases hlen
def Iv (a b:AV):Prop:= ∀(g:Gh) (w:World) (v:Value),VA g w a v→VA (g.pack []) w b v
theorem VP.packed {g:Gh} {w:World} {x:PV} {v:Value} (h:VP g w x v):VP (g.pack []) w x v:=h.F4 (dA.pack g []).pure
theorem Iv.p {x y:PV} (h:S4 x y):Iv (.p x) (.p y):=fun g w v hv=>by
 cases hv with
 |p _ _ hv=>exact .p _ _ (h _ _ _ hv).packed
theorem Iv.os {tok:Option Nat} {n z:Nat} {cs:List PV} {y:PV} (h:S4 (.ps n z cs) y):Iv (.os tok n z cs) (.p y):=fun g w v hv=>by
 cases hv with
 |os _ _ _ _ a cap hv _=>exact .p _ _ (h _ _ _ hv).packed
section
variable {P:Program} {E:Env}
theorem an.abU {f:FuncId} {args args':List AV} {v:AV} {m m1:Mem} (h:an P E f args' [] v m1) (ha:bH Iv args args'):an P E f args m (jk (bw [] m.length) v) (m++m1.map (gd (bw [] m.length))):=by
 obtain⟨hf,h⟩:=h
 refine⟨hf,fun g w cJ cs hr hv hg=> ?_⟩
 obtain⟨hp,_⟩:=hr.pack (ord:=[]) abg
 have zK:cA (g.pack []) w args' cJ.toList:=by
  have key : ∀(l l':List AV) (vs:List Value),bH Iv l l'→cA g w l vs→cA (g.pack []) w l' vs:=by
   intro l
   induction l with
   |nil=>intro l' vs h1 h2;cases l'<;>cases vs<;>first | trivial | exact h1.elim | exact h2.elim
   |cons a l ih=>
    intro l' vs h1 h2
    cases l' with
    |nil=>exact h1.elim
    |cons b l'=>cases vs with
     |nil=>exact h2.elim
     |cons x vs=>exact⟨h1.1 g w x h2.1,ih l' vs h1.2 h2.2⟩
  exact key _ _ _ ha hv
 obtain⟨w',g1,cv,fr,h1,h2,h3,h4,h5,h6,h7,h8⟩:=h (g.pack []) w cJ cs hp zK (hg.mono fun c o q=>⟨q,rfl⟩)
 obtain⟨r1,r2,r3,r4⟩:=hr.back (ord:=[]) abg (fun i hi=>by cases hi) h5 h6 (fun k c hk=>by simp at hk) (QQ _)
 exact⟨w',_,cv,fr,h1,h2,h3,h4.jk r4,r1,r3,fun k c _ hc=>r2.bS k c hc,by rw[de];omega⟩
theorem an.env {E':Env} {f:FuncId} {args:List AV} {v:AV} {m m':Mem} (h:an P E f args m v m') (he : ∀i cs,E.cQ i=some cs→E'.cQ i=some cs):an P E' f args m v m':=
 ⟨h.1,fun g w cJ cs hr ha hg=>h.2 g w cJ cs hr ha fun i c hi=>hg i c (he i c hi)⟩
end
section
variable {P:Program} {E:Env} {g:Gh} {m:Mem} {w:World}
def CE (c:cm):Bool:=match c.todo with
 |.code .. :: _=>true
 |_=>false
def AT (n i:Nat):Option Nat:=cond (ae i 1) (some n) (some i)
end
section
variable {P:Program} {E:Env}
theorem bR.weak {c:cm} {v v':AV} {m':Mem} (h:bR P E c (.ret v m')) (hf:c.st.fix=0)
  (hv : ∀(g:Gh) (w:World) (cv:Value),VA g w v cv→VA {g with bS:=fun _=>none} w v' cv):bR P E c (.ret v' []):=by
 intro g fr w cs hc
 obtain⟨g',fr',w',cv,w2,q1,q2,q3,q4,q5,h6,_,_⟩:=h g fr w cs hc
 have no : ∀c,¬fD ({g' with bS:=fun _=>none}:Gh) [] c:=fun c ⟨i,b,hi,_⟩=>by simp at hi
 refine⟨{g' with bS:=fun _=>none},fr',w',cv,w2,q1,q2,q3,hv _ _ _ q4,?_,⟨h6.size,h6.keep,h6.pure,h6.fresh,fun c hc=>absurd hc (no c),h6.os,h6.tape,h6.output⟩,fun k c hk=>by simp[hf] at hk,by rw[hf];exact bj _⟩
 exact⟨fun _ _=>rfl,fun _ _=>rfl,fun i b l hi=>by simp at hi,fun i c hi=>by simp at hi,fun i j b b' c hi=>by simp at hi,q5.there,fun i k l hi=>by simp at hi⟩
def skip (P:Program) (E:Env):Nat→cm→cm
 |0,c=>c
 |n+1,c=>match step P E c with
  |.next c'=>skip P E n c'
  |.must b c'=>match b with
   |true=>skip P E n c'
   |false=>c
  |_=>c
theorem th : ∀(n:Nat) (c:cm) {o:Out},bR P E (skip P E n c) o→bR P E c o
 |0,_,_,h=>h
 |n+1,c,o,h=>by
  unfold skip at h
  split at h
  · rename_i c' hs;exact bR.bz (oB hs) (th n c' h)
  · rename_i b c' hs
    cases b with
    |true=>exact bR.bz (sY hs) (th n c' h)
    |false=>exact h
  · exact h
def Nz (P:Program) (E:Env) (n:Nat) (f:FuncId) (args:List AV):Option (cm×cm):=
 match init P f args [] with
 |some c=>match step P E (skip P E n c) with
  |.fork [y,z]=>some (y,z)
  |_=>none
 |none=>none
def tj (P:Program) (E:Env) (O:bD) (n:Nat) (f:FuncId) (args:List AV) (s1 s2:Sc):Option (aC×aC):=
 match Nz P E n f args with
 |some (y,z)=>match ae y.st.fix 0&&ae z.st.fix 0 with
  |true=>some (grow P E O n true y s1 atEnd,grow P E O n true z s2 atEnd)
  |false=>none
 |none=>none
theorem Kx (hN:fq P) {O:bD} {n:Nat} {f:FuncId} {args:List AV} {s1 s2:Sc} {t1 t2:aC} {v1 v2 v:AV} {m1 m2:Mem} (ht:tj P E O n f args s1 s2=some (t1,t2))
  (h1:t1.ok P E (.ret v1 m1)) (h2:t2.ok P E (.ret v2 m2))
  (w1 : ∀(g:Gh) (w:World) (cv:Value),VA g w v1 cv→VA {g with bS:=fun _=>none} w v cv)
  (w2 : ∀(g:Gh) (w:World) (cv:Value),VA g w v2 cv→VA {g with bS:=fun _=>none} w v cv):an P E f args [] v []:=by
 unfold tj at ht
 split at ht
 · rename_i y z hf
   split at ht
   · rename_i hb
     obtain⟨b1,b2⟩:=Bool.and_eq_true_iff.1 hb
     simp only[cp,Prod.mk.injEq] at ht
     obtain⟨e1,e2⟩:=ht
     unfold Nz at hf
     split at hf
     · rename_i c hi
       split at hf
       · rename_i y' z' hs
         simp only[cp,Prod.mk.injEq] at hf
         obtain⟨rfl,rfl⟩:=hf
         refine eC hN hi (th n c (bR.Ni (AQ hs) fun c' fm=> ?_))
         rcases List.mem_cons.1 fm with rfl | fm
         · exact(ah hN e1 h1).weak (ag b1) w1
         · obtain rfl:=List.mem_singleton.1 fm
           exact(ah hN e2 h2).weak (ag b2) w2
       · cases hf
     · cases hf
   · cases ht
 · cases ht
end
end Go.Am
end
