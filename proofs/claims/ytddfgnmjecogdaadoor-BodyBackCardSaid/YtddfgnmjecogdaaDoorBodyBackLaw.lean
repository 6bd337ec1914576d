import Derived.Test.YtddfgnmjecogdaaDoorMS
import Derived.Test.YtddfgnmjecogdaaDoorRows
import Derived.Test.YtddfgnmjecogdaaDoorCards
import Derived.Test.YtddfgnmjecogdaaDoorTie
import Derived.SevenTiedAt
import Derived.Lay
open Go.Proofs.Tryd renaming prog→ae,f7→ag,params7→ai,checked→ar,func7→aw
open List renaming map_congr_left→a6,all_eq_true→a7,map_map→a8
open Go.Proofs.YtddfgnmjecogdaaDoor.Rows renaming bodyBackSpec→ba,bodyBackRow→bc
noncomputable section
section
namespace Go.Proofs.YtddfgnmjecogdaaDoor.bodyBack
open Go.ChangeShapes Go.WideShapes Go.ChangeAt Go.RowKit Go.Am
theorem own:ownKnob ae.godebug=none:=by kernel_rfl
theorem Jo : ∀t∈ag.params.toList,ae.readableRec t=true∧t<ae.types.size:=by
 rw[ai]
 intro t ht
 have h:(([38,23]:List TypeId).all fun t=>ae.readableRec t&&decide (t<ae.types.size))=true:=by kernel_rfl
 simpa using(a7.1 h) t ht
def E3:Array Field:=match ae.underlying 62 with
 |some (.struct fs)=>fs
 |_=> #[]
theorem NZ:N0 ae 24 62 3 59 21 60 E3 where
 hL:=by kernel_rfl
 hI:=by kernel_rfl
 hz:=by kernel_rfl
 hf:=by kernel_rfl
 h1:=⟨by kernel_rfl,by kernel_rfl,by kernel_rfl,by kernel_rfl,by kernel_rfl⟩
 ki:=by kernel_rfl
 ku:=by kernel_rfl
 kn:=by kernel_rfl
 kt:=by kernel_rfl
def CN:Array Field:=match ae.underlying 38 with
 |some (.struct fs)=>fs
 |_=> #[]
theorem K8:ae.underlying 38=some (.struct CN):=by kernel_rfl
theorem bytesOf (ns:List Int) (h : ∀n∈ns,(Lit.int .u8 n).wf=true) : ∃b:List Nat,(∀x∈b,x<256)∧ns=b.map (fun n:Nat=>(n:Int))∧(ns.map fun n=>PV.sc (.int .u8 n))=N.bt b:=by
 have hr : ∀n∈ns,0≤n∧n<256:=fun n hn=>by
  have k:IntKind.u8.min≤n∧n≤IntKind.u8.max:=by simpa[Lit.wf] using h n hn
  exact⟨k.1,Int.lt_of_le_of_lt k.2 (by decide)⟩
 refine⟨ns.map Int.toNat,fun x hx=> ?_,?_,?_⟩
 · obtain⟨n,hn,rfl⟩:=List.mem_map.1 hx
   have:=hr n hn
   omega
 · rw[a8]
   conv=>lhs;rw[←List.map_id ns]
   exact a6 fun n hn=>by have:=hr n hn;simp only[id_eq,Function.comp_apply];omega
 · unfold N.bt
   rw[a8]
   exact a6 fun n hn=>by
    have:=hr n hn
    have e:((n.toNat:Nat):Int)=n:=by omega
    simp only[Function.comp_apply,e]
theorem walk (w:World) (lo:Int) (l:List Ins) (hl:l.length≤maxLen) (hw:tA l) (v0:Value) (h0:VA (kr w) w (.agg [sI .i64 lo,aL l]) v0) (b:List Nat) (hb : ∀x∈b,x<256) (v1:Value) (h1:VA (kr w) w (.p (.ps b.length 1 (N.bt b))) v1) (hL:laidMetH ae N.oh w) :
  Calls ae 7 #[v0,v1] w fun e w'=>e = .returned (.bool true)∧Below w.heap.size w w':=
 xM (E:=N.env) (args:=[.agg [sI .i64 lo,aL l],.p (.ps b.length 1 (N.bt b))]) (pure:=fun c o=> ∃v,w.cell? ⟨c,o,none⟩=some v) (N.Jp lo l hl hw b hb) (fun _ _ h=>h)
  ⟨h0,h1,trivial⟩ ((CO (N.yy hL) rfl).mono fun _ _ p=>⟨CP (N.yy hL) _ _ p,rfl⟩)
set_option maxRecDepth 100000 in
theorem lifted (os:Os) (started:os.Started) (H:Type) (enc:TypeId×Value→H) :
  ReturnsInHanded {} ar os 7 .any (fun w args=>(ba.pre enc ae ag [] false w args∧laidMetH ae N.oh w)∧sizedMet enc ae ag (OpenSpec.ofChange ba) false w args) (ba.post enc ae ag false true false false):=by
 refine returnsInHanded_of_change_and (C:=ar) (X:=fun w _=>laidMetH ae N.oh w) (fun _ _ _ hh h=>h.of_heap hh) own started (by kernel_rfl) aw
  (ChangeSpec.witness_shaped (enc:=enc) (C:=ar) (os:=os) (X:=fun w _=>laidMetH ae N.oh w) false (World.laidAll ae os N.oh) #[.agg #[.int .i64 0,.slice none 0 0],.slice none 0 0] 8 (World.laidAll_os _ _ _)
    (World.shaped_of_ZipB (by kernel_rfl) (by kernel_rfl)) (by kernel_rfl) (by kernel_rfl) (by kernel_rfl)
    (by rw[MakeChecks.laidMetH_plain _ _ _ (by kernel_rfl)];exact laidMet_laidAll _ (by kernel_rfl) (by kernel_rfl))) ?_
 intro W base args ds gs before K9 hW _ _ hL _
 have N1:=hW
 obtain⟨p,q,Sj,hV,rfl,hfz,hnd⟩:=hW
 have hA:DataW.TrodAll enc ae W 0 (fun _=>true) true ag.params.toList args.toList ds p:=Sj
 have hval : ∀(j:Nat) t v,ag.params[j]? = some t→args[j]? = some v→Value.okWide ae W .any base t v:=K9
 rw[ai] at hA hval
 obtain⟨v0,SZ,d0,Uy,p0,q0,hargs,rfl,rfl,h0,r0⟩:=trodAll_cons hA
 obtain⟨v1,vs1,d1,Qs,p1,q1,rfl,rfl,rfl,h1,r1⟩:=trodAll_cons r0
 obtain⟨rfl,rfl,rfl⟩:=trodAll_nil r1
 obtain rfl:args = #[v0,v1]:=by cases args;simp_all
 obtain⟨rfl,rfl⟩:=trodVars_none hV
 obtain⟨cs0,rfl,_⟩:=okWide_struct K8 (hval 0 38 v0 rfl rfl)
 obtain⟨Sk,h0⟩:=h0
 obtain⟨u0,u1,m0,y0,y1,e0,g0,g1⟩:=xN K8 (by kernel_rfl) (t1:=3) (t2:=24) (by kernel_rfl) (by kernel_rfl) (by kernel_rfl) h0
 obtain⟨lo,_,k0⟩:=ez NZ.ki g0
 obtain⟨l,⟨hl,hw⟩,k1⟩:=Bf NZ m0 _ _ g1
 have Qt:VA (kr W) W (.agg [sI .i64 lo,aL l]) (.agg cs0):=LF (l:=[.sc (.int .i64 lo),.ps l.length 8 (aa l)]) (by have e:cs0.toList=[u0,u1]:=e0;rw[e];exact(k0.cat k1).1)
 obtain⟨S0,Qu,Qv,rfl⟩:=okWide_slice (P:=ae) (e:=5) (by kernel_rfl) (hval 1 23 v1 rfl rfl)
 obtain⟨fuel1,h1⟩:=h1
 obtain⟨ns,tB,hw1,eI,_⟩:=oP (P:=ae) (e:=5) (k:= .u8) (by kernel_rfl) (by kernel_rfl) (by kernel_rfl) h1
 obtain⟨b,hb,rfl,e1⟩:=bytesOf ns hw1
 rw[e1,List.length_map] at eI
 have Qw:VA (kr W) W (.p (.ps b.length 1 (N.bt b))) (.slice S0 Qu Qv):= .p _ _ eI.1
 clear Sj K9
 simp only[List.append_nil] at N1
 refine(walk W lo l hl hw _ Qt b hb _ Qw hL).mono fun e W' ⟨he,hg⟩=> ?_
 subst he
 exact⟨_,rfl,F9 (by kernel_rfl) Jo rfl Tryd.underlying4 rfl N1 rfl hg⟩
theorem over:bc.holds Tryd.pinned (OpenSpec.ofChange ba):=
 OpenClaim.holds_of_wide 7 ag rfl rfl rfl rfl rfl rfl rfl ⟨rfl,rfl,rfl,rfl,rfl⟩ rfl rfl rfl rfl rfl (by kernel_rfl) aw (by kernel_rfl)
  (of_decide_eq_true (by kernel_rfl)) (by unfold Func.isWrapper;first | (rw[if_pos (by decide +kernel)];kernel_rfl) | (rw[if_neg (by decide +kernel)];exact⟨rfl,rfl⟩))
  (fun os started H enc _=>lifted os started H enc)
theorem E4:Rows.BodyBackSaid:=over
theorem proved:Rows.BodyBackCardSaid:=
 Claim7.holds_tied_plain_at .later [] [.listed,.data] true Rows.bodyBackCard.stood.harness false
  E4 (fun _ h=>by cases h) (by kernel_rfl) (fun _ h=>by cases h) bodyBack_row_tie rfl ⟨rfl,rfl⟩ (by kernel_rfl) rfl
  (fun f fn hf hfn=>by
    obtain rfl:f=7:=Option.some.inj ((show ae.funcNamed bc.func=some 7 by kernel_rfl).symm.trans hf) |>.symm
    obtain rfl:fn=ag:=(Option.some.inj (aw.symm.trans hfn)).symm
    exact⟨by kernel_rfl,fun j t ht=>by
     rw[ai] at ht
     have hm:t∈([38,23]:List TypeId):=by simpa using Array.mem_of_getElem? ht
     have hall:(([38,23]:List TypeId).all fun u=> !Tryd.prog.wantsStandIn u)=true:=by kernel_rfl
     exact(show ae.wantsStandIn t=false by simpa using a7.1 hall t hm)⟩)
  (by kernel_rfl)
#print axioms proved
end Go.Proofs.YtddfgnmjecogdaaDoor.bodyBack
end
