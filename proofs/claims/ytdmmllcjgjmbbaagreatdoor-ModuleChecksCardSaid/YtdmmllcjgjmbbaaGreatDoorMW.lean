/-
How long a module's lists are, at most: by the row's bound on sizes. And arrays of pairs that a row lists.
What the row's condition tells: the library's tables, cell by cell; the types of modules.
-/
import Derived.Test.YtdmmllcjgjmbbaaGreatDoorMN
import Derived.Test.YtdmmllcjgjmbbaaGreatDoorMH
import Derived.Test.YtdmmllcjgjmbbaaGreatDoorRows
import Derived.MakeChecks
section
set_option linter.unusedVariables false
namespace Go.Am
open Go.RowKit Go.Lib
section
variable {H:Type} {enc:TypeId×Value→H} {P:Program} {w:World} {base:Nat} {spare:Nat→Bool} {held:Bool}
theorem vN {lt te:TypeId} (ht:P.underlying lt=some (.slice te)) (hb:1≤P.bytesOf te) {fuel:Nat} {v:Value} {x:DataW H×List MemPlace} (h:DataW.trod enc P w base spare held fuel lt [v]=some x)
  (hw : ∀n∈x.1.weights P lt,n≤reachBytes) {g:Gh} {len sz:Nat} {cells:List PV} (hv:VP g w (.ps len sz cells) v):len≤reachBytes:=by
 rcases DataW.trod_slice ht h with⟨e,_⟩ | ⟨a,len',cap,elems,rest,n,rfl,e,rfl,_,_,_,hel,_,_,_⟩
 · obtain rfl:v = .slice none 0 0:=(List.cons.inj e).1
   cases hv with
   |qp=>exact Nat.zero_le _
 · obtain rfl:v = .slice (some a) len' cap:=(List.cons.inj e).1
   have hm:(elems.length+rest.length)*P.bytesOf te∈DataW.weights P lt (.slice (elems.map (·.1)) (rest.map (·.1))):=by
    rw[DataW.weights,ht]
    simp
   have q:=hw _ hm
   have r:elems.length≤(elems.length+rest.length)*P.bytesOf te:=Nat.le_trans (Nat.le_add_right _ _) (Nat.le_mul_of_pos_right _ hb)
   have hlen:len=len':=by cases hv<;>rfl
   omega
theorem mm : ∀{ts:List TypeId} {ds:List (DataW H)} {i:Nat} {t:TypeId} {d:DataW H},ts[i]? = some t→ds[i]? = some d → ∀n∈d.weights P t,n∈DataW.weightsEach P ts ds
 |t'::ts,d'::ds,0,t,d,h1,h2,n,hn=>by
  simp only[List.getElem?_cons_zero,Option.some.injEq] at h1 h2
  subst h1;subst h2
  rw[DataW.weightsEach]
  exact List.mem_append_left _ hn
 |t'::ts,d'::ds,i+1,t,d,h1,h2,n,hn=>by
  simp only[List.getElem?_cons_succ] at h1 h2
  rw[DataW.weightsEach]
  exact List.mem_append_right _ (mm h1 h2 n hn)
variable {tM o7 o8 o9 kP pe pg pz pE qR qS rW wE oN qT qU qV qW tL tI ti tu tn tt ts tb t8 tk:TypeId}
theorem Nb (T:CS P tM o7 o8 o9 kP pe pg pz pE qR qS rW wE oN qT qU qV qW tL tI ti tu tn tt ts tb t8 tk) (hb : ∀t∈[qR,qS,rW,oN,qT,qU,qV,qW],1≤P.bytesOf t)
  {fuel:Nat} {cs:List Value} {x:DataW H×List MemPlace} (h:DataW.trod enc P w base spare held fuel tM cs=some x) (hw : ∀n∈x.1.weights P tM,n≤reachBytes) {g:Gh} {M:Mo} (hv:AY g w M.aE cs):M.short:=by
 obtain⟨fs,q1,q2,q3⟩:=T.st (tM,[o7,o8,o9,kP,kP,pe,pg,tb,tu,pz,pE]) (by simp)
 obtain⟨xs,n,rfl,rfl,h3,h4,h5⟩:=DataW.trod_struct q1 h
 have hW : ∀n∈DataW.weightsEach P (fs.toList.map (·.type)) (xs.map (·.1)),n≤reachBytes:=by
  intro n hn
  refine hw n ?_
  rw[DataW.weights,q1]
  exact hn
 have one : ∀(i:Nat) (lt te:TypeId) (len sz:Nat) (cells:List PV) (v:Value),[o7,o8,o9,kP,kP,pe,pg,tb,tu,pz,pE][i]? = some lt→(lt,te)∈[(o7,qR),(o8,qS),(o9,rW),(kP,oN),(pe,qT),(pg,qU),(pz,qV),(pE,qW)] →
   P.cellsOf lt=1→1≤P.bytesOf te→(cs.drop i).take 1=[v]→VP g w (.ps len sz cells) v→len≤1000000000000000:=by
  intro i lt te len sz cells v hi hm ff Rd hcs hvp
  obtain⟨f,f1,f2,f3⟩:=RP (fs:=fs) (i:=i) (o:=i) (t:=lt) (by rw[q3,List.getElem?_map,List.getElem?_zipIdx,hi];simp)
  have e:=h5 i f f1
  rw[f2,f3,ff,hcs] at e
  have nX:i<xs.length:=by
   rw[h4]
   rcases Nat.lt_or_ge i fs.size with q | q
   · exact q
   · rw[Array.getElem?_eq_none q] at f1;cases f1
  rw[List.getElem?_eq_getElem nX] at e
  have r:=vN (T.sl (lt,te) hm) Rd e (fun n hn=>hW n (mm (i:=i) (t:=lt) (d:=xs[i].1) (by rw[List.getElem?_map,Array.getElem?_toList,f1];simp[f3]) (by rw[List.getElem?_map,List.getElem?_eq_getElem nX];rfl) n hn)) hvp
  have:reachBytes≤1000000000000000:=by decide
  omega
 match cs,hv with
 |[u0,u1,u2,u3,u4,u5,u6,u7,u8,u9,u10],hv=>
  obtain⟨v0,v1,v2,v3,v4,v5,v6,v7,v8,v9,v10,_⟩:=hv
  exact⟨one 0 o7 qR _ _ _ u0 rfl (by simp) (T.c1 (by simp)) (hb _ (by simp)) rfl v0,one 1 o8 qS _ _ _ u1 rfl (by simp) (T.c1 (by simp)) (hb _ (by simp)) rfl v1,one 2 o9 rW _ _ _ u2 rfl (by simp) (T.c1 (by simp)) (hb _ (by simp)) rfl v2,
   one 3 kP oN _ _ _ u3 rfl (by simp) (T.c1 (by simp)) (hb _ (by simp)) rfl v3,one 4 kP oN _ _ _ u4 rfl (by simp) (T.c1 (by simp)) (hb _ (by simp)) rfl v4,one 5 pe qT _ _ _ u5 rfl (by simp) (T.c1 (by simp)) (hb _ (by simp)) rfl v5,
   one 6 pg qU _ _ _ u6 rfl (by simp) (T.c1 (by simp)) (hb _ (by simp)) rfl v6,one 9 pz qV _ _ _ u9 rfl (by simp) (T.c1 (by simp)) (hb _ (by simp)) rfl v9,one 10 pE qW _ _ _ u10 rfl (by simp) (T.c1 (by simp)) (hb _ (by simp)) rfl v10⟩
end
theorem Es {P:Program} {W:World} {name:String} {d:DataW Unit} {k:IntKind} {zs:List (Int×Int)} {g t e n t1:Nat} {fs:Array Field} (h:VarReads P W name d) (hd:d = .agg (zs.map fun z=> .agg [.lit (.int k z.1),.lit (.int k z.2)])) (hg:P.globalNamed name=some g)
  (ht:(P.globals[g]?).map (·.type)=some t) (hu:P.underlying t=some (.array n e)) (he:P.underlying e=some (.struct fs)) (hf:(fs.toList.map fun f=>(f.offset,f.type))=[(0,t1),(1,t1)]) (hk:P.underlying t1=some (.int k)) (hc:P.cellsOf e=2) (ff:P.cellsOf t1=1) (hn:zs.length≤n) :
  ∀(i:Nat) (v:Value),((zs.flatMap fun z=>[z.1,z.2]).map (Value.int k))[i]? = some v→W.cell? ⟨g,i,none⟩=some v∧v.oneCell'=true:=by
 subst hd
 obtain⟨g',t',cs,fuel,p,h1,h2,h3,h4⟩:=h
 rw[hg] at h1;cases h1
 rw[ht] at h2;cases h2
 have two : ∀(i:Nat) (z:Int×Int),zs[i]? = some z→W.cell? ⟨g,i*2,none⟩=some (.int k z.1)∧W.cell? ⟨g,i*2+1,none⟩=some (.int k z.2):=by
  intro i z hz
  have hi:i<zs.length:=(List.getElem?_eq_some_iff.1 hz).1
  obtain⟨fuel',d,q,hd,QG⟩:=array_elem hu h4 i (by omega)
  rw[List.getElem?_map,hz] at hd
  simp only[Option.map_some,Option.some.injEq] at hd
  subst hd
  obtain⟨xs,m,rfl,hx,hl,hxl,jB⟩:=DataW.trod_struct he QG
  obtain⟨f0,a1,a2,a3⟩:=RP (fs:=fs) (i:=0) (o:=0) (t:=t1) (by rw[hf];rfl)
  obtain⟨f1,b1,b2,b3⟩:=RP (fs:=fs) (i:=1) (o:=1) (t:=t1) (by rw[hf];rfl)
  have e0:=jB 0 f0 a1
  have e1:=jB 1 f1 b1
  rw[a2,a3,ff] at e0
  rw[b2,b3,ff] at e1
  have hxs:=congrArg Prod.fst hx
  simp only[DataW.agg.injEq] at hxs
  have hs:fs.size=2:=by
   have:=congrArg List.length hf
   simpa using this
  rw[hs] at hxl
  match xs,hxl with
  |[x0,x1],_=>
   simp only[List.map_cons,List.map_nil,List.cons.injEq,and_true] at hxs
   simp only[List.getElem?_cons_zero,List.getElem?_cons_succ] at e0 e1
   obtain⟨z0,g0,k0,_⟩:=DataW.trod_int hk e0
   obtain⟨z1,g1,k1,_⟩:=DataW.trod_int hk e1
   obtain⟨y0,y1⟩:=hxs
   rw[k0] at y0
   rw[k1] at y1
   simp only[DataW.lit.injEq,Lit.int.injEq,true_and] at y0 y1
   subst y0;subst y1
   refine⟨?_,?_⟩
   · rw[World.var?_cell hg h3 (i*2),←Array.getElem?_toList]
     have:=congrArg (·[0]?) g0
     simpa[List.getElem?_take,List.getElem?_drop,hc] using this
   · rw[World.var?_cell hg h3 (i*2+1),←Array.getElem?_toList]
     have:=congrArg (·[0]?) g1
     simpa[List.getElem?_take,List.getElem?_drop,hc] using this
 have at2 : ∀(l:List (Int×Int)) (i:Nat) (v:Int),(l.flatMap fun z=>[z.1,z.2])[i]? = some v → ∃z,l[i / 2]? = some z∧((i%2=0∧v=z.1)∨(i%2=1∧v=z.2)):=by
  intro l
  induction l with
  |nil=>intro i v h;cases h
  |cons z r ih=>
   intro i v h
   match i,h with
   |0,h=>exact⟨z,rfl,.inl ⟨rfl,by simpa using h.symm⟩⟩
   |1,h=>exact⟨z,rfl,.inr ⟨rfl,by simpa using h.symm⟩⟩
   |i+2,h=>
    obtain⟨y,h1,h2⟩:=ih i v (by simpa using h)
    refine⟨y,?_,?_⟩
    · rw[show(i+2) / 2=i / 2+1 by omega];exact h1
    · rcases h2 with⟨a,b⟩ | ⟨a,b⟩
      · exact .inl ⟨by omega,b⟩
      · exact .inr ⟨by omega,b⟩
 intro i v hv
 rw[List.getElem?_map,Option.map_eq_some_iff] at hv
 obtain⟨z,hz,rfl⟩:=hv
 obtain⟨y,h1,h2⟩:=at2 zs i z hz
 obtain⟨c1,c2⟩:=two (i / 2) y h1
 refine⟨?_,rfl⟩
 rcases h2 with⟨a,rfl⟩ | ⟨a,rfl⟩
 · rw[show i / 2*2=i by omega] at c1;exact c1
 · rw[show i / 2*2+1=i by omega] at c2;exact c2
end Go.Am
end
section
namespace Go.Proofs.YtdmmllcjgjmbbaaGreatDoor.N
open Go Go.Am
def mP:List (String×DataW Unit):=Rows.moduleChecksRow.laid
def Ze:List (Int×Int):=[(128,191),(160,191),(128,159),(144,191),(128,143)]++List.replicate 11 (0,0)
theorem abe:W3=Ze.flatMap fun z=>[z.1,z.2]:=by decide
noncomputable def fieldsOf (t:TypeId):Array Field:=match Tryz.prog.underlying t with
 |some (.struct fs)=>fs
 |_=> #[]
theorem zh {W:World} (h:laidMetH Tryz.prog mP W):iI tabs W:=by
 rw[MakeChecks.laidMetH_plain _ _ _ (by kernel_rfl)] at h
 refine jr (qN (n:=256) (t:=190) (e:=5) (k:= .u8) (zs:=JC) (Lib.laidMet.reads h (n:= "strings.asciiSpace") (d:=Rows.laid_strings_asciiSpace) (.tail _ (.tail _ (.head _)))) (by kernel_rfl) (by kernel_rfl) (by kernel_rfl) (by kernel_rfl) (by kernel_rfl) (by kernel_rfl) (Nat.le_of_ble_eq_true (by kernel_rfl)))
  (jr (qN (n:=256) (t:=190) (e:=5) (k:= .u8) (zs:=gb) (Lib.laidMet.reads h (n:= "unicode/utf8.first") (d:=Rows.laid_unicode_utf8_first) (.tail _ (.tail _ (.tail _ (.head _))))) (by kernel_rfl) (by kernel_rfl) (by kernel_rfl) (by kernel_rfl) (by kernel_rfl) (by kernel_rfl) (Nat.le_of_ble_eq_true (by kernel_rfl)))
  (jr ?_ Ag))
 rw[abe]
 exact Es (n:=16) (t:=194) (e:=193) (t1:=5) (k:= .u8) (zs:=Ze) (fs:=fieldsOf 193) (Lib.laidMet.reads h (n:= "unicode/utf8.acceptRanges") (d:=Rows.laid_unicode_utf8_acceptRanges) (.head _)) (by kernel_rfl) (by kernel_rfl) (by kernel_rfl) (by kernel_rfl) (by kernel_rfl) (by kernel_rfl) (by kernel_rfl) (by kernel_rfl) (by kernel_rfl) (Nat.le_of_ble_eq_true (by kernel_rfl))
theorem abf:RO Tryz.prog 53 55 3 28 21 52 (fieldsOf 55) where
 hL:=by kernel_rfl
 hI:=by kernel_rfl
 hz:=by kernel_rfl
 hf:=by kernel_rfl
 h1:=⟨by kernel_rfl,by kernel_rfl,by kernel_rfl,by kernel_rfl,by kernel_rfl⟩
 ki:=by kernel_rfl
 ku:=by kernel_rfl
 kn:=by kernel_rfl
 kt:=by kernel_rfl
theorem moT:CS Tryz.prog 32 22 23 24 25 26 27 29 30 36 70 59 57 105 63 72 65 68 53 55 3 28 21 52 9 4 66 5 where
 ins:=⟨_,abf⟩
 us:=by kernel_rfl
 ub:=by kernel_rfl
 u8:=by kernel_rfl
 uk:=by kernel_rfl
 one:=by kernel_rfl
 sl q hq:=by
  simp only[List.mem_cons,List.not_mem_nil,or_false] at hq
  rcases hq with rfl | rfl | rfl | rfl | rfl | rfl | rfl | rfl
  · kernel_rfl
  · kernel_rfl
  · kernel_rfl
  · kernel_rfl
  · kernel_rfl
  · kernel_rfl
  · kernel_rfl
  · kernel_rfl
 st q hq:=by
  simp only[List.mem_cons,List.not_mem_nil,or_false] at hq
  rcases hq with rfl | rfl | rfl | rfl | rfl | rfl | rfl | rfl | rfl
  · exact⟨fieldsOf 32,by kernel_rfl,by kernel_rfl,by kernel_rfl⟩
  · exact⟨fieldsOf 36,by kernel_rfl,by kernel_rfl,by kernel_rfl⟩
  · exact⟨fieldsOf 70,by kernel_rfl,by kernel_rfl,by kernel_rfl⟩
  · exact⟨fieldsOf 57,by kernel_rfl,by kernel_rfl,by kernel_rfl⟩
  · exact⟨fieldsOf 105,by kernel_rfl,by kernel_rfl,by kernel_rfl⟩
  · exact⟨fieldsOf 63,by kernel_rfl,by kernel_rfl,by kernel_rfl⟩
  · exact⟨fieldsOf 72,by kernel_rfl,by kernel_rfl,by kernel_rfl⟩
  · exact⟨fieldsOf 65,by kernel_rfl,by kernel_rfl,by kernel_rfl⟩
  · exact⟨fieldsOf 68,by kernel_rfl,by kernel_rfl,by kernel_rfl⟩
 fu:=⟨fieldsOf 59,by kernel_rfl,by kernel_rfl,by kernel_rfl⟩
theorem moB : ∀t∈[36,70,59,105,63,72,65,68],1≤Tryz.prog.bytesOf t:=by
 have h:([36,70,59,105,63,72,65,68].all fun t=>Nat.ble 1 (Tryz.prog.bytesOf t))=true:=by kernel_rfl
 intro t ht
 exact Nat.le_of_ble_eq_true (List.all_eq_true.1 h t ht)
end Go.Proofs.YtdmmllcjgjmbbaaGreatDoor.N
end
