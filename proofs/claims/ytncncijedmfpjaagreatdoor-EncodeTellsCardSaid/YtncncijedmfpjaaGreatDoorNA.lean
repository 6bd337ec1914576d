import Derived.Test.YtncncijedmfpjaaGreatDoorMP
import Derived.Test.YtncncijedmfpjaaGreatDoorMH
import Derived.Test.YtncncijedmfpjaaGreatDoorRows
import Derived.MakeChecks
open Go.DataW renaming weightsEach→amM,weights→amO,trod_struct→amP,trod_int→aeC,trod→aec
open List renaming getElem?_map→ek,getElem?_eq_getElem→da,getElem?_cons_zero→mf,getElem?_cons_succ→mi,getElem?_take→dq,getElem?_drop→dv,not_mem_nil→amQ,mem_cons→yo
open Array renaming getElem?_toList→lL
open Go.Proofs.Tryz renaming prog→ae
open Go.Lib.laidMet renaming reads→amR
open Nat renaming le_of_ble_eq_true→fg
noncomputable section
section
set_option linter.unusedVariables false
namespace Go.Am
open Go.RowKit Go.Lib
section
variable {H:Type} {enc:TypeId×Value→H} {P:Program} {w:World} {base:Nat} {spare:Nat→Bool} {held:Bool}
theorem zX {lt te:TypeId} (ht:P.underlying lt=some (.slice te)) (hb:1≤P.bytesOf te) {fuel:Nat} {v:Value} {x:DataW H×List MemPlace} (h:aec enc P w base spare held fuel lt [v]=some x)
  (hw : ∀n∈x.1.weights P lt,n≤reachBytes) {g:Gh} {len sz:Nat} {cells:List PV} (hv:VP g w (.ps len sz cells) v):len≤reachBytes:=by
 rcases DataW.trod_slice ht h with⟨e,_⟩ | ⟨a,len',cap,elems,rest,n,rfl,e,rfl,_,_,_,hel,_,_,_⟩
 · obtain rfl:v = .slice none 0 0:=(List.cons.inj e).1
   cases hv with
   |qA=>exact Nat.zero_le _
 · obtain rfl:v = .slice (some a) len' cap:=(List.cons.inj e).1
   have hm:(elems.length+rest.length)*P.bytesOf te∈amO P lt (.slice (elems.map (·.1)) (rest.map (·.1))):=by
    rw[amO,ht]
    simp
   have q:=hw _ hm
   have r:elems.length≤(elems.length+rest.length)*P.bytesOf te:=Nat.le_trans (Nat.le_add_right _ _) (Nat.le_mul_of_pos_right _ hb)
   have hlen:len=len':=by cases hv<;>rfl
   omega
theorem nN : ∀{ts:List TypeId} {ds:List (DataW H)} {i:Nat} {t:TypeId} {d:DataW H},ts[i]? = some t→ds[i]? = some d → ∀n∈d.weights P t,n∈amM P ts ds
 |t'::ts,d'::ds,0,t,d,h1,h2,n,hn=>by
  simp only[mf,Option.some.injEq] at h1 h2
  subst h1;subst h2
  rw[amM]
  exact List.mem_append_left _ hn
 |t'::ts,d'::ds,i+1,t,d,h1,h2,n,hn=>by
  simp only[mi] at h1 h2
  rw[amM]
  exact List.mem_append_right _ (nN h1 h2 n hn)
variable {tM sX sY sZ nM td th tj tq uY uZ vQ AB sw va vc ve vf tL tI ti tu tn tt ts tb t8 tk:TypeId}
theorem N3 (T:HL P tM sX sY sZ nM td th tj tq uY uZ vQ AB sw va vc ve vf tL tI ti tu tn tt ts tb t8 tk) (hb : ∀t∈[uY,uZ,vQ,sw,va,vc,ve,vf],1≤P.bytesOf t)
  {fuel:Nat} {cs:List Value} {x:DataW H×List MemPlace} (h:aec enc P w base spare held fuel tM cs=some x) (hw : ∀n∈x.1.weights P tM,n≤reachBytes) {g:Gh} {M:Mo} (hv:JQ g w M.aJ cs):M.short:=by
 obtain⟨fs,q1,q2,q3⟩:=T.st (tM,[sX,sY,sZ,nM,nM,td,th,tb,tu,tj,tq]) (by simp)
 obtain⟨xs,n,rfl,rfl,h3,h4,h5⟩:=amP q1 h
 have hW : ∀n∈amM P (fs.toList.map (·.type)) (xs.map (·.1)),n≤reachBytes:=by
  intro n hn
  refine hw n ?_
  rw[amO,q1]
  exact hn
 have one : ∀(i:Nat) (lt te:TypeId) (len sz:Nat) (cells:List PV) (v:Value),[sX,sY,sZ,nM,nM,td,th,tb,tu,tj,tq][i]? = some lt→(lt,te)∈[(sX,uY),(sY,uZ),(sZ,vQ),(nM,sw),(td,va),(th,vc),(tj,ve),(tq,vf)] →
   P.cellsOf lt=1→1≤P.bytesOf te→(cs.drop i).take 1=[v]→VP g w (.ps len sz cells) v→len≤1000000000000000:=by
  intro i lt te len sz cells v hi hm gu OF hcs hvp
  obtain⟨f,f1,f2,f3⟩:=Zs (fs:=fs) (i:=i) (o:=i) (t:=lt) (by rw[q3,ek,List.getElem?_zipIdx,hi];simp)
  have e:=h5 i f f1
  rw[f2,f3,gu,hcs] at e
  have nW:i<xs.length:=by
   rw[h4]
   rcases Nat.lt_or_ge i fs.size with q | q
   · exact q
   · rw[Array.getElem?_eq_none q] at f1;cases f1
  rw[da nW] at e
  have r:=zX (T.sl (lt,te) hm) OF e (fun n hn=>hW n (nN (i:=i) (t:=lt) (d:=xs[i].1) (by rw[ek,lL,f1];simp[f3]) (by rw[ek,da nW];rfl) n hn)) hvp
  have:reachBytes≤1000000000000000:=by decide
  omega
 match cs,hv with
 |[u0,u1,u2,u3,u4,u5,u6,u7,u8,u9,u10],hv=>
  obtain⟨v0,v1,v2,v3,v4,v5,v6,v7,v8,v9,v10,_⟩:=hv
  exact⟨one 0 sX uY _ _ _ u0 rfl (by simp) (T.c1 (by simp)) (hb _ (by simp)) rfl v0,one 1 sY uZ _ _ _ u1 rfl (by simp) (T.c1 (by simp)) (hb _ (by simp)) rfl v1,one 2 sZ vQ _ _ _ u2 rfl (by simp) (T.c1 (by simp)) (hb _ (by simp)) rfl v2,
   one 3 nM sw _ _ _ u3 rfl (by simp) (T.c1 (by simp)) (hb _ (by simp)) rfl v3,one 4 nM sw _ _ _ u4 rfl (by simp) (T.c1 (by simp)) (hb _ (by simp)) rfl v4,one 5 td va _ _ _ u5 rfl (by simp) (T.c1 (by simp)) (hb _ (by simp)) rfl v5,
   one 6 th vc _ _ _ u6 rfl (by simp) (T.c1 (by simp)) (hb _ (by simp)) rfl v6,one 9 tj ve _ _ _ u9 rfl (by simp) (T.c1 (by simp)) (hb _ (by simp)) rfl v9,one 10 tq vf _ _ _ u10 rfl (by simp) (T.c1 (by simp)) (hb _ (by simp)) rfl v10⟩
end
theorem JD {P:Program} {W:World} {name:String} {d:DataW Unit} {k:IntKind} {zs:List (Int×Int)} {g t e n t1:Nat} {fs:Array Field} (h:VarReads P W name d) (hd:d = .agg (zs.map fun z=> .agg [.lit (.int k z.1),.lit (.int k z.2)])) (hg:P.globalNamed name=some g)
  (ht:(P.globals[g]?).map (·.type)=some t) (hu:P.underlying t=some (.array n e)) (he:P.underlying e=some (.struct fs)) (hf:(fs.toList.map fun f=>(f.offset,f.type))=[(0,t1),(1,t1)]) (hk:P.underlying t1=some (.int k)) (hc:P.cellsOf e=2) (gu:P.cellsOf t1=1) (hn:zs.length≤n) :
  ∀(i:Nat) (v:Value),((zs.flatMap fun z=>[z.1,z.2]).map (Value.int k))[i]? = some v→W.cell? ⟨g,i,none⟩=some v∧v.oneCell'=true:=by
 subst hd
 obtain⟨g',t',cs,fuel,p,h1,h2,h3,h4⟩:=h
 rw[hg] at h1;cases h1
 rw[ht] at h2;cases h2
 have two : ∀(i:Nat) (z:Int×Int),zs[i]? = some z→W.cell? ⟨g,i*2,none⟩=some (.int k z.1)∧W.cell? ⟨g,i*2+1,none⟩=some (.int k z.2):=by
  intro i z hz
  have hi:i<zs.length:=(List.getElem?_eq_some_iff.1 hz).1
  obtain⟨fuel',d,q,hd,Yb⟩:=array_elem hu h4 i (by omega)
  rw[ek,hz] at hd
  simp only[Option.map_some,Option.some.injEq] at hd
  subst hd
  obtain⟨xs,m,rfl,hx,hl,hxl,l7⟩:=amP he Yb
  obtain⟨f0,a1,a2,a3⟩:=Zs (fs:=fs) (i:=0) (o:=0) (t:=t1) (by rw[hf];rfl)
  obtain⟨f1,b1,b2,b3⟩:=Zs (fs:=fs) (i:=1) (o:=1) (t:=t1) (by rw[hf];rfl)
  have e0:=l7 0 f0 a1
  have e1:=l7 1 f1 b1
  rw[a2,a3,gu] at e0
  rw[b2,b3,gu] at e1
  have hxs:=congrArg Prod.fst hx
  simp only[DataW.agg.injEq] at hxs
  have hs:fs.size=2:=by
   have:=congrArg List.length hf
   simpa using this
  rw[hs] at hxl
  match xs,hxl with
  |[x0,x1],_=>
   simp only[List.map_cons,List.map_nil,List.cons.injEq,and_true] at hxs
   simp only[mf,mi] at e0 e1
   obtain⟨z0,g0,k0,_⟩:=aeC hk e0
   obtain⟨z1,g1,k1,_⟩:=aeC hk e1
   obtain⟨y0,y1⟩:=hxs
   rw[k0] at y0
   rw[k1] at y1
   simp only[DataW.lit.injEq,Lit.int.injEq,true_and] at y0 y1
   subst y0;subst y1
   refine⟨?_,?_⟩
   · rw[World.var?_cell hg h3 (i*2),←lL]
     have:=congrArg (·[0]?) g0
     simpa[dq,dv,hc] using this
   · rw[World.var?_cell hg h3 (i*2+1),←lL]
     have:=congrArg (·[0]?) g1
     simpa[dq,dv,hc] using this
 have at2 : ∀(l:List (Int×Int)) (i:Nat) (v:Int),(l.flatMap fun z=>[z.1,z.2])[i]? = some v → ∃z,l[i / 2]? = some z∧((i%2=0∧v=z.1)∨(i%2=1∧v=z.2)):=by
  intro l
  induction l with
  |nil=>intro i v h;cases h
  |cons z r ih=>
   intro i v h
   match i,h with
   |0,h=>exact⟨z,rfl,.inl ⟨rfl,by simpa using h.symm⟩⟩
   |1,h=>exact⟨z,rfl,.inr ⟨rfl,by simpa using h.symm⟩⟩
   |i+2,h=>
    obtain⟨y,h1,h2⟩:=ih i v (by simpa using h)
    refine⟨y,?_,?_⟩
    · rw[show(i+2) / 2=i / 2+1 by omega];exact h1
    · rcases h2 with⟨a,b⟩ | ⟨a,b⟩
      · exact .inl ⟨by omega,b⟩
      · exact .inr ⟨by omega,b⟩
 intro i v hv
 rw[ek,Option.map_eq_some_iff] at hv
 obtain⟨z,hz,rfl⟩:=hv
 obtain⟨y,h1,h2⟩:=at2 zs i z hz
 obtain⟨c1,c2⟩:=two (i / 2) y h1
 refine⟨?_,rfl⟩
 rcases h2 with⟨a,rfl⟩ | ⟨a,rfl⟩
 · rw[show i / 2*2=i by omega] at c1;exact c1
 · rw[show i / 2*2+1=i by omega] at c2;exact c2
end Go.Am
end
section
namespace Go.Proofs.YtncncijedmfpjaaGreatDoor.N
open Go Go.Am
def oW:List (String×DataW Unit):=Rows.encodeTellsRow.laid
def ajm:List (Int×Int):=[(128,191),(160,191),(128,159),(144,191),(128,143)]++List.replicate 11 (0,0)
theorem amK:afB=ajm.flatMap fun z=>[z.1,z.2]:=by decide
def fieldsOf (t:TypeId):Array Field:=match ae.underlying t with
 |some (.struct fs)=>fs
 |_=> #[]
theorem AO {W:World} (h:laidMetH ae oW W):kH tabs W:=by
 rw[MakeChecks.laidMetH_plain _ _ _ (by kernel_rfl)] at h
 refine lO (uS (n:=256) (t:=161) (e:=5) (k:= .u8) (zs:=Pj) (amR h (n:= "strings.asciiSpace") (d:=Rows.laid_strings_asciiSpace) (.tail _ (.tail _ (.head _)))) (by kernel_rfl) (by kernel_rfl) (by kernel_rfl) (by kernel_rfl) (by kernel_rfl) (by kernel_rfl) (fg (by kernel_rfl)))
  (lO (uS (n:=256) (t:=161) (e:=5) (k:= .u8) (zs:=iR) (amR h (n:= "unicode/utf8.first") (d:=Rows.laid_unicode_utf8_first) (.tail _ (.tail _ (.tail _ (.head _))))) (by kernel_rfl) (by kernel_rfl) (by kernel_rfl) (by kernel_rfl) (by kernel_rfl) (by kernel_rfl) (fg (by kernel_rfl)))
  (lO ?_ Dp))
 rw[amK]
 exact JD (n:=16) (t:=164) (e:=163) (t1:=5) (k:= .u8) (zs:=ajm) (fs:=fieldsOf 163) (amR h (n:= "unicode/utf8.acceptRanges") (d:=Rows.laid_unicode_utf8_acceptRanges) (.head _)) (by kernel_rfl) (by kernel_rfl) (by kernel_rfl) (by kernel_rfl) (by kernel_rfl) (by kernel_rfl) (by kernel_rfl) (by kernel_rfl) (by kernel_rfl) (fg (by kernel_rfl))
theorem amL:Zr ae 48 75 3 28 21 55 (fieldsOf 75) where
 hL:=by kernel_rfl
 hI:=by kernel_rfl
 hz:=by kernel_rfl
 hf:=by kernel_rfl
 h1:=⟨by kernel_rfl,by kernel_rfl,by kernel_rfl,by kernel_rfl,by kernel_rfl⟩
 ki:=by kernel_rfl
 ku:=by kernel_rfl
 kn:=by kernel_rfl
 kt:=by kernel_rfl
theorem moT:HL ae 32 22 23 24 25 26 27 29 30 70 61 52 50 45 54 63 57 59 48 75 3 28 21 55 9 4 35 5 where
 ins:=⟨_,amL⟩
 us:=by kernel_rfl
 ub:=by kernel_rfl
 u8:=by kernel_rfl
 uk:=by kernel_rfl
 one:=by kernel_rfl
 sl q hq:=by
  simp only[yo,amQ,or_false] at hq
  rcases hq with rfl | rfl | rfl | rfl | rfl | rfl | rfl | rfl
  · kernel_rfl
  · kernel_rfl
  · kernel_rfl
  · kernel_rfl
  · kernel_rfl
  · kernel_rfl
  · kernel_rfl
  · kernel_rfl
 st q hq:=by
  simp only[yo,amQ,or_false] at hq
  rcases hq with rfl | rfl | rfl | rfl | rfl | rfl | rfl | rfl | rfl
  · exact⟨fieldsOf 32,by kernel_rfl,by kernel_rfl,by kernel_rfl⟩
  · exact⟨fieldsOf 70,by kernel_rfl,by kernel_rfl,by kernel_rfl⟩
  · exact⟨fieldsOf 61,by kernel_rfl,by kernel_rfl,by kernel_rfl⟩
  · exact⟨fieldsOf 50,by kernel_rfl,by kernel_rfl,by kernel_rfl⟩
  · exact⟨fieldsOf 45,by kernel_rfl,by kernel_rfl,by kernel_rfl⟩
  · exact⟨fieldsOf 54,by kernel_rfl,by kernel_rfl,by kernel_rfl⟩
  · exact⟨fieldsOf 63,by kernel_rfl,by kernel_rfl,by kernel_rfl⟩
  · exact⟨fieldsOf 57,by kernel_rfl,by kernel_rfl,by kernel_rfl⟩
  · exact⟨fieldsOf 59,by kernel_rfl,by kernel_rfl,by kernel_rfl⟩
 fu:=⟨fieldsOf 52,by kernel_rfl,by kernel_rfl,by kernel_rfl⟩
theorem moB : ∀t∈[70,61,52,45,54,63,57,59],1≤ae.bytesOf t:=by
 have h:([70,61,52,45,54,63,57,59].all fun t=>Nat.ble 1 (ae.bytesOf t))=true:=by kernel_rfl
 intro t ht
 exact fg (List.all_eq_true.1 h t ht)
end Go.Proofs.YtncncijedmfpjaaGreatDoor.N
end
