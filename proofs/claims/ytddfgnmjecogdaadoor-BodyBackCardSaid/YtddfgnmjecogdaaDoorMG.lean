import Derived.Test.YtddfgnmjecogdaaDoorMF
import Derived.WalkKit
import Derived.ProofKit
import Derived.OpenShut
import Derived.Carry
import Derived.Lib.LaidU8
import Derived.ChangeArms
open Go.DataW renaming trod→VH,TrodAll→VI,TrodVars→VJ,trod_int→VK
open Go.IntKind renaming signed→VL,wrap→VM,bits→VN,i64→vj,u32→VO
open Nat renaming eq_of_beq_eq_true→bm,le_refl→df,lt_or_ge→ik,beq→be,zero_le→Vr
open Option.some renaming injEq→dC,inj→dE
open List renaming getElem?_eq_getElem→dp,getD_eq_getElem?_getD→dt,length_append→ei,getElem?_append_right→Va,getElem?_map→fv,length_cons→pa,mem_append→pn,nodup_nil→VQ
section
namespace Go.Am
open Go.RowKit Go.ChangeShapes
section
variable {P:Program} {E:Env}
def bare (pure:Nat→Nat→Prop):Gh:=⟨fun _=>none,fun _=>0,fun _=>0,pure⟩
theorem Rel.bare {pure:Nat→Nat→Prop} {w:World} (h : ∀c o,pure c o → ∃v,w.cell? ⟨c,o,none⟩=some v):Rel (Am.bare pure) [] w where
 rJ _ _:=rfl
 free _ _:=rfl
 cells i b l hi:=by simp at hi
 tok i c hi:=by simp at hi
 inj i j b b' c hi:=by simp at hi
 there:=h
 obs i k l hi:=by simp at hi
theorem xM {f:FuncId} {args:List AV} {m':Mem} {x:Value} {pure:Nat→Nat→Prop} {w:World} {cK:Array Value} (h:aG P E f args [] (.p (.sc x)) m')
  (hp : ∀c o,pure c o → ∃v,w.cell? ⟨c,o,none⟩=some v) (ha:bN (Am.bare pure) w args cK.toList) (hg:fP E (Am.bare pure) w) :
  Calls P f cK w fun e w'=>e = .returned x∧Below w.heap.size w w':=by
 intro cs
 obtain⟨_,h⟩:=h
 obtain⟨w',g',cv,fr,h1,h2,h3,h4,_,h6,_,_⟩:=h _ w cK cs (Rel.bare hp) ha hg
 rw[VA.pv] at h4
 cases h4
 refine⟨.returned x,w',fr,⟨rfl,h6.os,h6.tape,h6.output,h6.size,fun k hk=>h6.keep k hk ?_⟩,h1,h3,h2⟩
 rintro ⟨i,b,hi,_⟩
 simp at hi
theorem fP.none {E:Env} {g:Gh} {w:World} (h : ∀i,E.cL i=none):fP E g w:=fun i cs hi=>by rw[h i] at hi;cases hi
section
variable {H:Type} {enc:TypeId×Value→H}
theorem q9 {W:World} {sp:Nat→Bool}:VJ enc P W sp [] [] []:=by simp[VJ]
theorem o8 (hl:laidOutB P=true) {W W':World} (hb:Below W.heap.size W W') {sp:Nat→Bool} : ∀{ts:List TypeId} {vs:List Value} {ds:List (DataW H)} {ps:List MemPlace},
  (∀t∈ts,P.readableRec t=true∧t<P.types.size)→VI enc P W 0 (fun _=>true) true ts vs ds ps→(∀p∈ps,p.block<W.heap.size∧sp p.block=true)→VI enc P W' 0 sp true ts vs ds ps
 |[],_,_,_,_,h,_=>by
  obtain⟨rfl,rfl,rfl⟩:=trodAll_nil h
  exact trodAll_mk0
 |t::ts,_,_,_,ht,h,hp=>by
  obtain⟨v,vs1,d,Qs,a,b,rfl,rfl,rfl,h1,h2⟩:=trodAll_cons h
  refine⟨a,b,WideElems.Trod_stays hl (ht t (.head _)).1 (ht t (.head _)).2 h1 (fun x hx=>hb.same (hp x (by simp[hx])).1) (fun x hx=>(hp x (by simp[hx])).2),?_,rfl⟩
  exact o8 hl hb (fun u hu=>ht u (.tail _ hu)) h2 fun x hx=>hp x (by simp[hx])
theorem F9 {f:Func} {s:ChangeSpec} {apart fresh handsOn again:Bool} {W W':World} {args:Array Value} {ds gs:List (DataW H)} {before:List MemPlace} {tb:TypeId}
  (hl:laidOutB P=true) (ht : ∀t∈f.params.toList,P.readableRec t=true∧t<P.types.size) (SH:f.resultTypes = #[tb]) (Og:P.underlying tb=some .bool) (hvs:s.vars=[])
  (hW:DataW.Whole enc P f.params.toList s.vars apart W args.toList ds gs before) (hf:s.fn H (ds++gs)={results:=[.lit (.bool true)],args:=ds}) (hb:Below W.heap.size W W') :
  s.post enc P f apart fresh handsOn again W args (.bool true) W':=by
 have N1:=hW
 obtain⟨p,q,hA,hV,rfl,hfz,hnd⟩:=hW
 rw[hvs] at hV
 obtain⟨rfl,rfl⟩:=trodVars_none hV
 have hlt : ∀x∈p,x.block<W.heap.size:=fun x hx=>N1.lt x (by simp[hx])
 have hargs : ∀sp:Nat→Bool,(∀x∈p,sp x.block=true)→VI enc P W' 0 sp true f.params.toList args.toList ds p:=fun sp hsp=>o8 hl hb ht hA fun x hx=>⟨hlt x hx,hsp x hx⟩
 have hres : ∀(b:Nat) (sp:Nat→Bool) (hd:Bool),VI enc P W' b sp hd f.resultTypes.toList ((Value.bool true).resultList f.resultTypes.size) [.lit (.bool true)] []:=by
  intro b sp hd
  rw[SH]
  exact trodAll_cons_mk (shut_bool Og _) trodAll_mk0
 refine⟨ds,[],p++[],[],p,[],N1,?_,?_,?_,hb.frame _,fun _=>⟨?_,[.lit (.bool true)]++ds,[],([]++p)++[],⟨[]++p,[],?_,?_,rfl,?_,?_⟩,?_⟩⟩
 · rw[hf];exact hres _ _ _
 · rw[hf];exact hargs _ fun x hx=>by simpa using hlt x hx
 · rw[hf,hvs];exact q9
 · exact ok_one SH rfl (okWide_bool_mk Og _)
 · exact trodAll_append (hargs _ fun _ _=>rfl) (hres _ _ _)
 · rw[hvs];exact q9
 · intro b off hx
   rw[hb.frozen (hlt _ (by simpa using hx))]
   exact hfz b off (by simpa using hx)
 · intro ha
   simpa using hnd ha
 · intro x hx _
   simpa using hx
end
end
end Go.Am
end
section
namespace Go.Am
theorem Mz (n:Int):IntKind.i32.wrap n=(n+2147483648)%4294967296-2147483648:=by
 simp only[VM,VN,VL];simp;split<;>omega
theorem OW (n:Int):vj.wrap n=(n+9223372036854775808)%18446744073709551616-9223372036854775808:=by
 simp only[VM,VN,VL];simp;split<;>omega
theorem SI (n:Int):IntKind.u8.wrap n=n%256:=by simp[VM,VN,VL]
theorem OX (n:Int):VO.wrap n=n%4294967296:=by simp[VM,VN,VL]
theorem OY (n:Int):IntKind.u64.wrap n=n%18446744073709551616:=by simp[VM,VN,VL]
theorem aX {n:Int} (h : -9223372036854775808≤n) (h':n≤9223372036854775807):vj.wrap n=n:=by rw[OW];omega
theorem zm {n:Int} (h:0≤n) (h':n≤4294967295):VO.wrap n=n:=by rw[OX];omega
open Go.Lib
def ue:List (Nat×List Value)→Nat→Option (List PV)
 |[],_=>none
 |(g,vs)::r,i=>cond (be g i) (some (vs.map .sc)) (ue r i)
def JX (T:List (Nat×List Value)):Env:={cL:=ue T,wr:=fun _ _=>false,keep:=fun _ _=>none}
def jY (T:List (Nat×List Value)) (W:World):Prop:= ∀q∈T,∀k v,q.2[k]? = some v→W.cell? ⟨q.1,k,none⟩=some v∧v.oneCell'=true
def wN (T:List (Nat×List Value)) (c o:Nat):Prop:= ∃q∈T,c=q.1∧o<q.2.length
theorem wO : ∀{T:List (Nat×List Value)} {i:Nat} {cs:List PV},ue T i=some cs → ∃vs,(i,vs)∈T∧cs=vs.map .sc
 |[],_,_,h=>by cases h
 |(g,vs)::r,i,cs,h=>by
  simp only[ue] at h
  cases hb:be g i with
  |true=>
   have:=bm hb
   subst this
   simp only[hb,cond_true,dC] at h
   exact⟨vs,.head _,h.symm⟩
  |false=>
   simp only[hb,cond_false] at h
   obtain⟨us,h1,h2⟩:=wO h
   exact⟨us,.tail _ h1,h2⟩
theorem FA {T:List (Nat×List Value)} {W:World} (h:jY T W):fP (JX T) (bare (wN T)) W:=by
 intro i cs hi
 obtain⟨vs,hm,rfl⟩:=wO hi
 refine .pp 0 _ i 0 (fun k=>vs.getD k undef) (fun k hk=> ?_) (fun k hk=> ?_)
 · rw[List.length_map] at hk
   have hv:vs[k]? = some (vs.getD k undef):=by rw[dt,dp hk];rfl
   obtain⟨h1,h2⟩:=h _ hm k _ hv
   rw[Nat.zero_add]
   exact⟨⟨_,hm,rfl,hk⟩,h1,h2⟩
 · have hk':k<vs.length:=by simpa using hk
   have:(vs.map PV.sc)[k] = .sc (vs.getD k undef):=by
    rw[List.getElem_map,dt,dp hk'];rfl
   rw[this]
   exact .sc _
theorem CO {E:Env} {T:List (Nat×List Value)} {W:World} (h:jY T W) (he:E.cL=ue T):fP E (bare (wN T)) W:=fun i cs hi=>FA h i cs (by rw[he] at hi;exact hi)
theorem CP {T:List (Nat×List Value)} {W:World} (h:jY T W) : ∀c o,wN T c o → ∃v,W.cell? ⟨c,o,none⟩=some v:=by
 rintro c o ⟨q,hm,rfl,ho⟩
 exact⟨_,(h q hm o _ (dp ho)).1⟩
theorem Cd {P:Program} {W:World} {name:String} {d:DataW Unit} {k:IntKind} {zs:List Int} {g t e n:Nat} (h:VarReads P W name d) (hd:d = .agg (zs.map fun z=> .lit (.int k z))) (hg:P.globalNamed name=some g) (ht:(P.globals[g]?).map (·.type)=some t)
  (hu:P.underlying t=some (.array n e)) (he:P.underlying e=some (.int k)) (hc:P.cellsOf e=1) (hn:zs.length≤n) : ∀(i:Nat) (v:Value),(zs.map (Value.int k))[i]? = some v→W.cell? ⟨g,i,none⟩=some v∧v.oneCell'=true:=by
 intro i v hv
 subst hd
 obtain⟨g',t',cs,fuel,p,h1,h2,h3,h4⟩:=h
 rw[hg] at h1;cases h1
 rw[ht] at h2;cases h2
 rw[fv,Option.map_eq_some_iff] at hv
 obtain⟨z,hz,rfl⟩:=hv
 have hi:i<zs.length:=(List.getElem?_eq_some_iff.1 hz).1
 obtain⟨fuel',d,q,hd,NR⟩:=array_elem hu h4 i (by omega)
 rw[fv,hz] at hd
 simp only[Option.map_some,dC] at hd
 subst hd
 obtain⟨z',hcz,hx,_⟩:=VK he NR
 simp only[Prod.mk.injEq,DataW.lit.injEq,Lit.int.injEq,true_and] at hx
 obtain⟨rfl,_⟩:=hx
 refine⟨?_,rfl⟩
 rw[World.var?_cell hg h3 i,←Array.getElem?_toList]
 have:=congrArg (·[0]?) hcz
 simpa[List.getElem?_take,List.getElem?_drop,hc] using this
theorem AN {W:World}:jY [] W:=fun _ h=>by cases h
theorem yq {W:World} {g:Nat} {vs:List Value} {T:List (Nat×List Value)} (h : ∀(i:Nat) (v:Value),vs[i]? = some v→W.cell? ⟨g,i,none⟩=some v∧v.oneCell'=true) (hT:jY T W):jY ((g,vs)::T) W:=by
 intro q hq
 cases hq with
 |head=>exact h
 |tail _ hq=>exact hT q hq
end Go.Am
end
section
namespace Go.Am
open Go.RowKit
def kr (w:World):Gh:=bare fun c o=> ∃v,w.cell? ⟨c,o,none⟩=some v
def eg (w:World) (l:List PV) (cs:List Value):Prop:=rI (kr w) w l cs ∧ ∀v∈cs,v.oneCell'=true
theorem eg.one {w:World} {x:PV} {v:Value} (h:VP (kr w) w x v) (ho:v.oneCell'=true):eg w [x] [v]:=⟨⟨h,trivial⟩,fun u hu=>by simp at hu;subst hu;exact ho⟩
theorem eg.append {w:World} {l m:List PV} {cs ds:List Value} (h:eg w l cs) (k:eg w m ds):eg w (l++m) (cs++ds):=
 ⟨h.1.append k.1,fun v hv=>(pn.1 hv).elim (h.2 v) (k.2 v)⟩
section
variable {H:Type} {enc:TypeId×Value→H} {P:Program} {w:World} {base:Nat} {spare:Nat→Bool} {held:Bool} {fuel:Nat} {t:TypeId} {cs:List Value} {x:DataW H×List MemPlace}
theorem ez {k:IntKind} (ht:P.underlying t=some (.int k)) (h:VH enc P w base spare held fuel t cs=some x) : ∃n:Int,(Lit.int k n).wf=true∧eg w [.sc (.int k n)] cs:=by
 obtain⟨n,rfl,_,hw⟩:=VK ht h
 exact⟨n,hw,.one (.sc _) rfl⟩
theorem Ce {α β:Type} {f:α→Option β} : ∀{l:List α} {m:List β},l.mapM f=some m→m.length=l.length ∧ ∀(i:Nat) (a:α),l[i]? = some a→f a=m[i]?
 |[],m,h=>by
  simp at h;subst h
  exact⟨rfl,fun i a h=>by simp at h⟩
 |a::l,m,h=>by
  rw[List.mapM_cons] at h
  cases ha:f a with
  |none=>rw[ha] at h;cases h
  |some b=>
   rw[ha] at h
   cases hl:l.mapM f with
   |none=>rw[hl] at h;cases h
   |some bs=>
    rw[hl] at h
    cases h
    obtain⟨h1,h2⟩:=Ce hl
    refine⟨by simp[h1],fun i c hc=> ?_⟩
    cases i with
    |zero=>simp at hc;subst hc;simpa using ha
    |succ i=>simpa using h2 i c (by simpa using hc)
theorem Dz {a:Addr} {n:Nat} {us:List Value} (h:w.cells? base a n=some us):us.length=n ∧ ∀(i:Nat) (v:Value),us[i]? = some v→w.cell? (a.add i)=some v:=by
 unfold World.cells? at h
 split at h
 · obtain⟨h1,h2⟩:=Ce h
   simp only[List.length_range] at h1
   refine⟨h1,fun i v hv=> ?_⟩
   have hi:i<n:=by
    rcases ik i n with q | q
    · exact q
    · rw[List.getElem?_eq_none (by omega)] at hv;cases hv
   rw[h2 i i (by rw[List.getElem?_range hi])]
   exact hv
 · cases h
theorem AO (a:Addr) (m n:Nat):(a.add m).add n=a.add (m+n):=by
 obtain⟨b,o,s⟩:=a
 unfold Addr.add
 by_cases hm:m=0<;>by_cases hn:n=0<;>simp[hm,hn,Nat.add_assoc]
theorem nR {α:Type} {e:TypeId} {Hv:α→List PV} {wf:α→Prop} (ht:P.underlying t=some (.slice e)) (hz:1≤P.cellsOf e) (h:VH enc P w base spare held fuel t cs=some x)
  (hE : ∀n,n<fuel → ∀us y,VH enc P w base spare held n e us=some y → ∃a:α,wf a∧eg w (Hv a) us) :
  ∃xs:List α,xs.length≤maxLen∧(∀a∈xs,wf a)∧eg w [.ps xs.length (P.cellsOf e) (xs.flatMap Hv)] cs:=by
 rcases DataW.trod_slice ht h with⟨rfl,_⟩ | ⟨a,len,cap,elems,rest,n,rfl,rfl,_,hb,hl,UL,hel,ny,_⟩
 · exact⟨[],Vr _,(fun _ h=>by cases h),.one (.mT _ _ _ (.inl hz)) rfl⟩
 · have build : ∀k,k≤len → ∃(xs:List α) (us:List Value),xs.length=k∧(∀y∈xs,wf y)∧us.length=k*P.cellsOf e∧eg w (xs.flatMap Hv) us ∧ ∀(j:Nat) (v:Value),us[j]? = some v→w.cell? (a.add j)=some v:=by
    intro k
    induction k with
    |zero=>exact fun _=>⟨[],[],rfl,(fun _ h=>by cases h),by simp,⟨trivial,(fun _ h=>by cases h)⟩,fun j v h=>by simp at h⟩
    |succ k ih=>
     intro hk
     obtain⟨xs,us,h1,h2,h3,h4,h5⟩:=ih (by omega)
     have hg:=ny k (by omega)
     rw[dp (by omega:k<elems.length)] at hg
     cases hc:w.cells? base (a.add (k*P.cellsOf e)) (P.cellsOf e) with
     |none=>rw[hc] at hg;cases hg
     |some ci=>
      rw[hc] at hg
      obtain⟨y,hy,QG⟩:=hE n (by omega) ci _ hg
      obtain⟨c1,c2⟩:=Dz hc
      refine⟨xs++[y],us++ci,by simp[h1],(fun z hz=>(pn.1 hz).elim (h2 z) fun q=>by simp at q;subst q;exact hy),?_,?_,fun j v hj=> ?_⟩
      · rw[ei,h3,c1,Nat.succ_mul]
      · rw[List.flatMap_append]
        simpa using h4.append QG
      · rcases ik j us.length with q | q
        · rw[List.getElem?_append_left q] at hj;exact h5 j v hj
        · rw[Va q] at hj
          have h:=c2 _ v hj
          rw[AO] at h
          rw[←h]
          congr 2
          omega
   obtain⟨xs,us,h1,h2,h3,h4,h5⟩:=build len (df _)
   refine⟨xs,by omega,h2,.one ?_ rfl⟩
   rw[h1]
   rcases Nat.eq_zero_or_pos len with e0 | e0
   · subst e0
     have:xs=[]:=List.eq_nil_of_length_eq_zero h1
     subst this
     exact .mT _ _ _ (.inl hz)
   · have hp:0<us.length:=by rw[h3];exact Nat.mul_pos e0 hz
     have h0:=h5 0 us[0] (dp hp)
     obtain⟨ab,ao,SJ⟩:=a
     have hsp:SJ=none:=by
      unfold World.cell? at h0
      split at h0
      · cases SJ with
        |none=>rfl
        |some q=>simp[Addr.add] at h0
      · cases h0
     subst hsp
     exact VP.mk (us:=us) h4.1 h3 hl hz fun k v hk=>by
      have h:=h5 k v hk
      rw[cB] at h
      exact⟨h,⟨v,h⟩,h4.2 v (List.mem_of_getElem? hk)⟩
theorem oP {e:TypeId} {k:IntKind} (ht:P.underlying t=some (.slice e)) (he:P.underlying e=some (.int k)) (hz:P.cellsOf e=1) (h:VH enc P w base spare held fuel t cs=some x) :
  ∃ns:List Int,ns.length≤maxLen∧(∀n∈ns,(Lit.int k n).wf=true)∧eg w [.ps ns.length 1 (ns.map fun n=> .sc (.int k n))] cs:=by
 obtain⟨xs,h0,h1,h2⟩:=nR (Hv:=fun n=>[PV.sc (.int k n)]) (wf:=fun n=>(Lit.int k n).wf=true) ht (by omega) h fun n _ us y hy=>ez he hy
 refine⟨xs,h0,h1,?_⟩
 rw[hz] at h2
 have:xs.flatMap (fun n=>[PV.sc (.int k n)])=xs.map fun n=> .sc (.int k n):=(List.map_eq_flatMap ..).symm
 rw[this] at h2
 exact h2
theorem mQ {fs:Array Field} (ht:P.underlying t=some (.struct fs)) (h:VH enc P w base spare held fuel t cs=some x) :
  ∃n,fuel=n+1∧cs.length=P.cellsOf t ∧ ∀(i:Nat) (f:Field),fs[i]? = some f → ∃y,VH enc P w base spare held n f.type ((cs.drop f.offset).take (P.cellsOf f.type))=some y:=by
 obtain⟨xs,n,h1,_,h3,h4,h5⟩:=DataW.trod_struct ht h
 refine⟨n,h1,h3,fun i f hf=> ?_⟩
 have hi:i<xs.length:=by
  rw[h4]
  rcases ik i fs.size with q | q
  · exact q
  · rw[Array.getElem?_eq_none q] at hf;cases hf
 exact⟨xs[i],by rw[h5 i f hf,dp hi]⟩
end
section
variable {P:Program} {E:Env}
theorem aG.weak {f:FuncId} {args:List AV} {v v':AV} {m':Mem} (h:aG P E f args [] v m') (hv : ∀(g:Gh) (w:World) (cv:Value),VA g w v cv→VA {g with aP:=fun _=>none} w v' cv):aG P E f args [] v' []:=by
 obtain⟨hf,h⟩:=h
 refine⟨hf,fun g w cK cs hr ha hg=> ?_⟩
 obtain⟨w',g',cv,fr,h1,h2,h3,h4,h5,h6,_,_⟩:=h g w cK cs hr ha hg
 have no : ∀c,¬cA ({g' with aP:=fun _=>none}:Gh) [] c:=fun c ⟨i,b,hi,_⟩=>by simp at hi
 refine⟨w',{g' with aP:=fun _=>none},cv,fr,h1,h2,h3,hv _ _ _ h4,?_,⟨h6.size,h6.keep,h6.pure,h6.fresh,fun c hc=>absurd hc (no c),h6.os,h6.tape,h6.output⟩,fun k c hk=>by simp at hk,df _⟩
 exact⟨fun _ _=>rfl,fun _ _=>rfl,fun i b l hi=>by simp at hi,fun i c hi=>by simp at hi,fun i j b b' c hi=>by simp at hi,h5.there,fun i k l hi=>by simp at hi⟩
theorem aG.pure {f:FuncId} {args:List AV} {tok:Option Nat} {len sz:Nat} {cells:List PV} {m':Mem} (h:aG P E f args [] (.os tok len sz cells) m'):aG P E f args [] (.p (.ps len sz cells)) []:=
 h.weak fun g w cv hv=>by
   cases hv with
   |os _ _ _ _ a cap h _=>exact .p _ _ (VP.mono (g:=g) (g':={g with aP:=fun _=>none}) (w:=w) (w':=w) (fun _ _ q=>⟨q,rfl⟩) h)
theorem aG.nil {f:FuncId} {args:List AV} {tok:Option Nat} {sz:Nat} {m':Mem} (h:aG P E f args [] (.os tok 0 sz []) m') {k:Nat} (hk:1≤k):aG P E f args [] (.p (.ps 0 k [])) []:=
 h.weak fun g w cv hv=>by
   cases hv with
   |os _ _ _ _ a cap h _=>exact .p _ _ (.mT _ _ _ (.inl hk))
end
def Ji (x y:PV):Prop:= ∀(g:Gh) (w:World) (v:Value),VP g w x v→VP g w y v
theorem Ji.refl (x:PV):Ji x x:=fun _ _ _ h=>h
theorem Ji.nil {k:Nat}:Ji (.ps 0 0 []) (.ps 0 k []):=fun g w v h=>by
 cases h with
 |ps _ _ _ b o cap f hl hc hz hp hv=>omega
 |mT _ a cap hz=>
  rcases hz with hz | ⟨rfl,rfl⟩
  · omega
  · exact .mT _ _ _ (.inr ⟨rfl,rfl⟩)
def AP (l m:List PV):Prop:=aW Ji l m
theorem AP.refl : ∀l:List PV,AP l l
 |[]=>trivial
 |x::l=>⟨.refl x,AP.refl l⟩
theorem AP.append : ∀{l m l' m':List PV},AP l m→AP l' m'→AP (l++l') (m++m')
 |[],[],_,_,_,k=>k
 |_::_,_::_,_,_,h,k=>⟨h.1,AP.append h.2 k⟩
 |[],_::_,_,_,h,_=>h.elim
 |_::_,[],_,_,h,_=>h.elim
theorem Ji.ps {n z:Nat} {l m:List PV} (h:AP l m):Ji (.ps n z l) (.ps n z m):=fun g w v hv=>by
 have hlen:l.length=m.length:=aW.len h
 cases hv with
 |ps _ _ _ b o cap f hl hc hz hp hv=>
  exact .ps n z m b o cap f (hlen▸hl) hc hz (fun k hk=>hp k (by omega)) fun k hk=>aW.get h k (by omega) hk g w _ (hv k (by omega))
 |mT _ a cap hz=>
  cases m with
  |nil=>exact .mT _ _ _ hz
  |cons _ _=>cases hlen
def Ls (a b:AV):Prop:= ∀(g:Gh) (w:World) (v:Value),VA g w a v→VA (g.pack []) w b v
theorem VP.packed {g:Gh} {w:World} {x:PV} {v:Value} (h:VP g w x v):VP (g.pack []) w x v:=h.C6 (cT.pack g []).pure
theorem Ls.p {x y:PV} (h:Ji x y):Ls (.p x) (.p y):=fun g w v hv=>by
 cases hv with
 |p _ _ hv=>exact .p _ _ (h _ _ _ hv).packed
theorem Ls.os {tok:Option Nat} {n z:Nat} {cs:List PV} {y:PV} (h:Ji (.ps n z cs) y):Ls (.os tok n z cs) (.p y):=fun g w v hv=>by
 cases hv with
 |os _ _ _ _ a cap hv _=>exact .p _ _ (h _ _ _ hv).packed
section
variable {P:Program} {E:Env}
theorem aG.Rn {f:FuncId} {args args':List AV} {v:AV} {m m1:Mem} (h:aG P E f args' [] v m1) (ha:aW Ls args args'):aG P E f args m (jo (bf [] m.length) v) (m++m1.map (gw (bf [] m.length))):=by
 obtain⟨hf,h⟩:=h
 refine⟨hf,fun g w cK cs hr hv hg=> ?_⟩
 obtain⟨hp,_⟩:=hr.pack (ord:=[]) VQ
 have xZ:bN (g.pack []) w args' cK.toList:=by
  have key : ∀(l l':List AV) (vs:List Value),aW Ls l l'→bN g w l vs→bN (g.pack []) w l' vs:=by
   intro l
   induction l with
   |nil=>intro l' vs h1 h2;cases l'<;>cases vs<;>first | trivial | exact h1.elim | exact h2.elim
   |cons a l ih=>
    intro l' vs h1 h2
    cases l' with
    |nil=>exact h1.elim
    |cons b l'=>cases vs with
     |nil=>exact h2.elim
     |cons x vs=>exact⟨h1.1 g w x h2.1,ih l' vs h1.2 h2.2⟩
  exact key _ _ _ ha hv
 obtain⟨w',g1,cv,fr,h1,h2,h3,h4,h5,h6,h7,h8⟩:=h (g.pack []) w cK cs hp xZ (hg.mono fun c o q=>⟨q,rfl⟩)
 obtain⟨r1,r2,r3,r4⟩:=hr.back (ord:=[]) VQ (fun i hi=>by cases hi) h5 h6 (fun k c hk=>by simp at hk) (Vr _)
 exact⟨w',_,cv,fr,h1,h2,h3,h4.jo r4,r1,r3,fun k c _ hc=>r2.aP k c hc,by rw[ei];omega⟩
theorem aG.env {E':Env} {f:FuncId} {args:List AV} {v:AV} {m m':Mem} (h:aG P E f args m v m') (he : ∀i cs,E.cL i=some cs→E'.cL i=some cs):aG P E' f args m v m':=
 ⟨h.1,fun g w cK cs hr ha hg=>h.2 g w cK cs hr ha fun i c hi=>hg i c (he i c hi)⟩
end
section
variable {P:Program} {E:Env} {g:Gh} {m:Mem} {w:World}
theorem Rel.DA (h:Rel g m w) {i:Nat} {k:fR} {l l':List AV} (hb:m[i]? = some (.ob k l)) (hl : ∀vs,bN g w l vs→bN g w l' vs) :
  Rel g (m.set i (.ob k l')) w∧cr g m w g (m.set i (.ob k l')) w:=by
 have own : ∀(j:Nat) (x:aH),(m.set i (.ob k l'))[j]? = some x→x.bX=true → ∃y:aH,m[j]? = some y∧y.bX=true:=fun j x hj ho=>by
  rcases aq hj with⟨rfl,_⟩ | ⟨_,q⟩
  · exact⟨_,hb,rfl⟩
  · exact⟨x,q,ho⟩
 refine⟨⟨fun j hj=>h.rJ j (by simpa using hj),fun j hj=> ?_,fun j x cs hj hx=> ?_,fun j c hj hc=> ?_,fun j q x x' c hj hq ho ho' hc dJ=> ?_,h.there,fun j k1 l1 hj=> ?_⟩,
  ⟨df _,fun _ _ _=>rfl,fun _ _ p=>⟨p,rfl⟩,fun _ _ p=> .inl p,fun c ho=> ?_,rfl,rfl,rfl⟩⟩
 · rcases aq hj with⟨_,q⟩ | ⟨_,q⟩
   · cases q
   · exact h.free j q
 · rcases aq hj with⟨_,rfl⟩ | ⟨_,q⟩
   · cases hx
   · exact h.cells j x cs q hx
 · rcases aq hj with⟨_,q⟩ | ⟨_,q⟩
   · cases q
   · exact h.tok j c q hc
 · obtain⟨y,y1,y2⟩:=own j x hj ho
   obtain⟨z,z1,z2⟩:=own q x' hq ho'
   exact h.inj j q y z c y1 z1 y2 z2 hc dJ
 · rcases aq hj with⟨rfl,q⟩ | ⟨_,q⟩
   · cases q
     obtain⟨c,o,vs,k1,k2,k3,k4,k5,k6⟩:=h.obs _ _ _ hb
     exact⟨c,o,vs,k1,k2,hl vs k3,k4,k5,k6⟩
   · exact h.obs j k1 l1 q
 · obtain⟨j,x,hj,hx,hc⟩:=ho
   obtain⟨y,y1,y2⟩:=own j x hj hx
   exact .inl ⟨j,y,y1,y2,hc⟩
def jg (c:bB):Bool:=match c.todo with
 |.code .. :: _=>true
 |_=>false
def zn (n i:Nat):Option Nat:=cond (be i 1) (some n) (some i)
theorem dK.nS {c:bB} {k0:fR} {l0 X:List AV} {t:TypeId} {q:Bool} {r:Mem} {o:Out} (hm:c.st.mem = .ob k0 l0 :: .ob (.gr t q) X::r) (hc:jg c=true)
  (h:dK P E {c with st:={c.st with mem:= .ob k0 (eA (zn (r.length+2)) l0) :: .dead::r++[.ob (.gr t q) X]}} o):dK P E c o:=by
 refine dK.au (fun g fr w hr cs=> ?_) h
 obtain⟨f,todo,st⟩:=c
 obtain⟨tm,nt,mem,fix,bT,bK⟩:=st
 dsimp only at hm
 subst hm
 match todo,hc with
 |.code i x::k,_=>
  obtain⟨b,a,q1,q2,q3,q4,q5,q6⟩:=hr
  have hJ:Rel g (.ob k0 l0 :: .ob (.gr t q) X::r) w:=q5.rel
  obtain⟨f1,f2⟩:=hJ.bC 1
  have hlen:(.ob k0 l0 :: .ob (.gr t q) X::r:Mem).length=r.length+2:=rfl
  have hb:((.ob k0 l0 :: .ob (.gr t q) X::r:Mem)++bC 1)[1]? = some (.ob (.gr t q) X):=rfl
  obtain⟨c1,o1,vs1,b1,b2,b3,b4,b5,b6⟩:=f1.obs 1 _ _ hb
  have hn:((.ob k0 l0 :: .ob (.gr t q) X::r:Mem)++bC 1)[r.length+2]? = some .free:=by
   rw[Va (by rw[hlen];exact df _),hlen,Nat.sub_self];rfl
  obtain⟨m1,m2,m3⟩:=f1.move hb b1 hn
  have hb0:((((.ob k0 l0 :: .ob (.gr t q) X::r:Mem)++bC 1).set 1 .dead).set (r.length+2) (.ob (.gr t q) X))[0]? = some (.ob k0 l0):=by
   rw[List.getElem?_set_ne (by omega)];rfl
  have TM:cT (zn (r.length+2)) (g.put (r.length+2) c1 (g.lo 1) (g.hi 1)) (g.put (r.length+2) c1 (g.lo 1) (g.hi 1)):=⟨fun i k hk=>by
   unfold zn at hk
   cases hi:be i 1 with
   |true=>
    rw[hi] at hk
    obtain rfl:=dE hk
    obtain rfl:=bm hi
    simp[Gh.put,b1]
   |false=>
    rw[hi] at hk
    obtain rfl:=dE hk
    exact⟨rfl,rfl,rfl⟩,rfl⟩
  obtain⟨n1,n2⟩:=m1.DA hb0 (l':=eA (zn (r.length+2)) l0) fun vs hv=>hv.jo TM
  have hmem:((((.ob k0 l0 :: .ob (.gr t q) X::r:Mem)++bC 1).set 1 .dead).set (r.length+2) (.ob (.gr t q) X)).set 0 (.ob k0 (eA (zn (r.length+2)) l0)) = .ob k0 (eA (zn (r.length+2)) l0) :: .dead::r++[.ob (.gr t q) X]:=by
   simp[bC]
  rw[hmem] at n1 n2
  refine⟨_,fr,w,Steps.refl _ _,⟨b,a,q1,q2,q3.ext (fun i c q=>(m2.aP i c q).1),q4.ext (fun i c q=>(m2.aP i c q).1),⟨fun k=>(q5.tm k).mono m2,q5.nt,n1,?_,q5.cL.mono fun c o p=>⟨p,rfl⟩⟩,q6⟩,(f2.trans m3).trans n2,fun k c' hk dJ=> ?_,rfl,rfl,rfl⟩
  · have:=q5.fix
    simp only[ei,pa,List.length_nil] at this ⊢
    omega
  · have h1:k≠r.length+2:=by
     have:=q5.fix
     simp only[pa] at this
     dsimp only at hk
     omega
    simp[Gh.put,h1,dJ]
end
end Go.Am
end
