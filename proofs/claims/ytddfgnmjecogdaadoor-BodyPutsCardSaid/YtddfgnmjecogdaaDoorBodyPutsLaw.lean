/-
BodyPuts, the tied card: for every input the call returns true, and each argument reads as before. No condition but the row's own: the library's tables hold what the program's text lays in them (the card ties that to the text). The parts of its proof: the executor (the texts Am..), pure values (Ins..), what each function tells.
-/
import Derived.Test.YtddfgnmjecogdaaDoorMN
import Derived.Test.YtddfgnmjecogdaaDoorRows
import Derived.Test.YtddfgnmjecogdaaDoorCards
import Derived.Test.YtddfgnmjecogdaaDoorTie
import Derived.SevenTiedAt
import Derived.Lay
section
namespace Go.Proofs.YtddfgnmjecogdaaDoor.bodyPuts
open Go.ChangeShapes Go.WideShapes Go.ChangeAt Go.RowKit Go.Am
theorem own:ownKnob Tryd.prog.godebug=none:=by kernel_rfl
theorem Dn : ∀t∈Tryd.f5.params.toList,Tryd.prog.readableRec t=true∧t<Tryd.prog.types.size:=by
 rw[Tryd.params5]
 intro t ht
 have h:(([38]:List TypeId).all fun t=>Tryd.prog.readableRec t&&decide (t<Tryd.prog.types.size))=true:=by kernel_rfl
 simpa using(List.all_eq_true.1 h) t ht
noncomputable def zZ:Array Field:=match Tryd.prog.underlying 62 with
 |some (.struct fs)=>fs
 |_=> #[]
theorem Hw:Hx Tryd.prog 24 62 3 59 21 60 zZ where
 hL:=by kernel_rfl
 hI:=by kernel_rfl
 hz:=by kernel_rfl
 hf:=by kernel_rfl
 h1:=⟨by kernel_rfl,by kernel_rfl,by kernel_rfl,by kernel_rfl,by kernel_rfl⟩
 ki:=by kernel_rfl
 ku:=by kernel_rfl
 kn:=by kernel_rfl
 kt:=by kernel_rfl
noncomputable def xC:Array Field:=match Tryd.prog.underlying 38 with
 |some (.struct fs)=>fs
 |_=> #[]
theorem EH:Tryd.prog.underlying 38=some (.struct xC):=by kernel_rfl
theorem walk (w:World) (lo:Int) (l:List Ins) (hl:l.length≤maxLen) (hw:so l) (v0:Value) (h0:VA (jV w) w (.agg [sI .i64 lo,aL l]) v0) (hL:laidMetH Tryd.prog N.jW w) :
  Calls Tryd.prog 5 #[v0] w fun e w'=>e = .returned (.bool true)∧Below w.heap.size w w':=
 rD (E:=N.env) (args:=[.agg [sI .i64 lo,aL l]]) (pure:=fun c o=> ∃v,w.cell? ⟨c,o,none⟩=some v) (N.Dp lo l hl hw) (fun _ _ h=>h)
  ⟨h0,trivial⟩ ((xD (N.sq hL) rfl).mono fun _ _ p=>⟨xE (N.sq hL) _ _ p,rfl⟩)
set_option maxRecDepth 100000 in
theorem lifted (os:Os) (started:os.Started) (H:Type) (enc:TypeId×Value→H) :
  ReturnsInHanded {} Tryd.checked os 5 .any (fun w args=>(Rows.bodyPutsSpec.pre enc Tryd.prog Tryd.f5 [] false w args∧laidMetH Tryd.prog N.jW w)∧sizedMet enc Tryd.prog Tryd.f5 (OpenSpec.ofChange Rows.bodyPutsSpec) false w args) (Rows.bodyPutsSpec.post enc Tryd.prog Tryd.f5 false true false false):=by
 refine returnsInHanded_of_change_and (C:=Tryd.checked) (X:=fun w _=>laidMetH Tryd.prog N.jW w) (fun _ _ _ hh h=>h.of_heap hh) own started (by kernel_rfl) Tryd.func5
  (ChangeSpec.witness_shaped (enc:=enc) (C:=Tryd.checked) (os:=os) (X:=fun w _=>laidMetH Tryd.prog N.jW w) false (World.laidAll Tryd.prog os N.jW) #[.agg #[.int .i64 0,.slice none 0 0]] 8 (World.laidAll_os _ _ _)
    (World.shaped_of_ZipB (by kernel_rfl) (by kernel_rfl)) (by kernel_rfl) (by kernel_rfl) (by kernel_rfl)
    (by rw[MakeChecks.laidMetH_plain _ _ _ (by kernel_rfl)];exact laidMet_laidAll _ (by kernel_rfl) (by kernel_rfl))) ?_
 intro W base args ds gs before EI hW _ _ hL _
 have Hy:=hW
 obtain⟨p,q,Lc,hV,rfl,hfz,hnd⟩:=hW
 have hA:DataW.TrodAll enc Tryd.prog W 0 (fun _=>true) true Tryd.f5.params.toList args.toList ds p:=Lc
 have hval : ∀(j:Nat) t v,Tryd.f5.params[j]? = some t→args[j]? = some v→Value.okWide Tryd.prog W .any base t v:=EI
 rw[Tryd.params5] at hA hval
 obtain⟨v0,LP,d0,MY,p0,q0,hargs,rfl,rfl,h0,r0⟩:=trodAll_cons hA
 obtain⟨rfl,rfl,rfl⟩:=trodAll_nil r0
 obtain rfl:args = #[v0]:=by cases args;simp_all
 obtain⟨rfl,rfl⟩:=trodVars_none hV
 obtain⟨cs0,rfl,_⟩:=okWide_struct EH (hval 0 38 v0 rfl rfl)
 obtain⟨Ld,h0⟩:=h0
 obtain⟨u0,u1,m0,y0,y1,e0,g0,g1⟩:=rE EH (by kernel_rfl) (t1:=3) (t2:=24) (by kernel_rfl) (by kernel_rfl) (by kernel_rfl) h0
 obtain⟨lo,_,k0⟩:=cN Hw.ki g0
 obtain⟨l,⟨hl,hw⟩,k1⟩:=vA Hw m0 _ _ g1
 have JK:VA (jV W) W (.agg [sI .i64 lo,aL l]) (.agg cs0):=E2 (l:=[.sc (.int .i64 lo),.ps l.length 8 (aa l)]) (by have e:cs0.toList=[u0,u1]:=e0;rw[e];exact(k0.cat k1).1)
 clear Lc EI
 simp only[List.append_nil] at Hy
 refine(walk W lo l hl hw _ JK hL).mono fun e W' ⟨he,hg⟩=> ?_
 subst he
 exact⟨_,rfl,A1 (by kernel_rfl) Dn rfl Tryd.underlying4 rfl Hy rfl hg⟩
theorem over:Rows.bodyPutsRow.holds Tryd.pinned (OpenSpec.ofChange Rows.bodyPutsSpec):=
 OpenClaim.holds_of_wide 5 Tryd.f5 rfl rfl rfl rfl rfl rfl rfl ⟨rfl,rfl,rfl,rfl,rfl⟩ rfl rfl rfl rfl rfl (by kernel_rfl) Tryd.func5 (by kernel_rfl)
  (of_decide_eq_true (by kernel_rfl)) (by unfold Func.isWrapper;first | (rw[if_pos (by decide +kernel)];kernel_rfl) | (rw[if_neg (by decide +kernel)];exact⟨rfl,rfl⟩))
  (fun os started H enc _=>lifted os started H enc)
theorem z6:Rows.BodyPutsSaid:=over
theorem proved:Rows.BodyPutsCardSaid:=
 Claim7.holds_tied_plain_at .later [] [.listed,.data] true Rows.bodyPutsCard.stood.harness false
  z6 (fun _ h=>by cases h) (by kernel_rfl) (fun _ h=>by cases h) bodyPuts_row_tie rfl ⟨rfl,rfl⟩ (by kernel_rfl) rfl
  (fun f fn hf hfn=>by
    obtain rfl:f=5:=Option.some.inj ((show Tryd.prog.funcNamed Rows.bodyPutsRow.func=some 5 by kernel_rfl).symm.trans hf) |>.symm
    obtain rfl:fn=Tryd.f5:=(Option.some.inj (Tryd.func5.symm.trans hfn)).symm
    exact⟨by kernel_rfl,fun j t ht=>by
     rw[Tryd.params5] at ht
     have hm:t∈([38]:List TypeId):=by simpa using Array.mem_of_getElem? ht
     have hall:(([38]:List TypeId).all fun u=> !Tryd.prog.wantsStandIn u)=true:=by kernel_rfl
     exact(show Tryd.prog.wantsStandIn t=false by simpa using List.all_eq_true.1 hall t hm)⟩)
  (by kernel_rfl)
#print axioms proved
end Go.Proofs.YtddfgnmjecogdaaDoor.bodyPuts
end
