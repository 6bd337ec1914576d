import Derived.Test.YtddfgnmjecogdaaDoorMR
import Derived.Test.YtddfgnmjecogdaaDoorRows
import Derived.Test.YtddfgnmjecogdaaDoorCards
import Derived.Test.YtddfgnmjecogdaaDoorTie
import Derived.SevenTiedAt
import Derived.Lay
open Go.Proofs.Tryd renaming prog→ae,f4→ag,params4→ai,checked→ar,func4→aw
noncomputable section
section
namespace Go.Proofs.YtddfgnmjecogdaaDoor.bodyCut
open Go.ChangeShapes Go.WideShapes Go.ChangeAt Go.RowKit Go.Am
theorem own:ownKnob ae.godebug=none:=by kernel_rfl
theorem Hr : ∀t∈ag.params.toList,ae.readableRec t=true∧t<ae.types.size:=by
 rw[ai]
 intro t ht
 have h:(([24,3]:List TypeId).all fun t=>ae.readableRec t&&decide (t<ae.types.size))=true:=by kernel_rfl
 simpa using(List.all_eq_true.1 h) t ht
def DA:Array Field:=match ae.underlying 62 with
 |some (.struct fs)=>fs
 |_=> #[]
theorem LL:LM ae 24 62 3 59 21 60 DA where
 hL:=by kernel_rfl
 hI:=by kernel_rfl
 hz:=by kernel_rfl
 hf:=by kernel_rfl
 h1:=⟨by kernel_rfl,by kernel_rfl,by kernel_rfl,by kernel_rfl,by kernel_rfl⟩
 ki:=by kernel_rfl
 ku:=by kernel_rfl
 kn:=by kernel_rfl
 kt:=by kernel_rfl
theorem walk (w:World) (a0:List Ins) (JF:a0.length≤maxLen) (hw0:zH a0) (v0:Value) (QA:VA (m9 w) w (aL a0) v0) (a1:Int) (_w1:(Lit.int .i64 a1).wf=true) (hL:laidMetH ae N.ng w) :
  Calls ae 4 #[v0,.int .i64 a1] w fun e w'=>e = .returned (.bool true)∧Below w.heap.size w w':=
 v8 (E:=N.env) (args:=[aL a0,sI .i64 a1]) (pure:=fun c o=> ∃v,w.cell? ⟨c,o,none⟩=some v) (N.Hs a0 JF hw0 a1) (fun _ _ h=>h)
  ⟨QA,⟨.p _ _ (.sc _),trivial⟩⟩ ((BA (N.wY hL) rfl).mono fun _ _ p=>⟨BB (N.wY hL) _ _ p,rfl⟩)
set_option maxRecDepth 100000 in
theorem lifted (os:Os) (started:os.Started) (H:Type) (enc:TypeId×Value→H) :
  ReturnsInHanded {} ar os 4 .any (fun w args=>(Rows.bodyCutSpec.pre enc ae ag [] false w args∧laidMetH ae N.ng w)∧sizedMet enc ae ag (OpenSpec.ofChange Rows.bodyCutSpec) false w args) (Rows.bodyCutSpec.post enc ae ag false true false false):=by
 refine returnsInHanded_of_change_and (C:=ar) (X:=fun w _=>laidMetH ae N.ng w) (fun _ _ _ hh h=>h.of_heap hh) own started (by kernel_rfl) aw
  (ChangeSpec.witness_shaped (enc:=enc) (C:=ar) (os:=os) (X:=fun w _=>laidMetH ae N.ng w) false (World.laidAll ae os N.ng) #[.slice none 0 0,.int .i64 0] 8 (World.laidAll_os _ _ _)
    (World.shaped_of_ZipB (by kernel_rfl) (by kernel_rfl)) (by kernel_rfl) (by kernel_rfl) (by kernel_rfl)
    (by rw[MakeChecks.laidMetH_plain _ _ _ (by kernel_rfl)];exact laidMet_laidAll _ (by kernel_rfl) (by kernel_rfl))) ?_
 intro W base args ds gs before Jf hW _ _ hL _
 have LN:=hW
 obtain⟨p,q,P1,hV,rfl,hfz,hnd⟩:=hW
 have hA:DataW.TrodAll enc ae W 0 (fun _=>true) true ag.params.toList args.toList ds p:=P1
 have hval : ∀(j:Nat) t v,ag.params[j]? = some t→args[j]? = some v→Value.okWide ae W .any base t v:=Jf
 rw[ai] at hA hval
 obtain⟨v0,QB,d0,Se,p0,q0,hargs,rfl,rfl,h0,r0⟩:=trodAll_cons hA
 obtain⟨v1,vs1,d1,Oa,p1,q1,rfl,rfl,rfl,h1,r1⟩:=trodAll_cons r0
 obtain⟨rfl,rfl,rfl⟩:=trodAll_nil r1
 obtain rfl:args = #[v0,v1]:=by cases args;simp_all
 obtain⟨rfl,rfl⟩:=trodVars_none hV
 obtain⟨QC,Ob,Oc,rfl⟩:=okWide_slice LL.hL (hval 0 24 v0 rfl rfl)
 obtain⟨LO,h0⟩:=h0
 obtain⟨a0,⟨JF,hw0⟩,hc0,_⟩:=zM LL LO _ _ h0
 have Od:VA (m9 W) W (aL a0) (.slice QC Ob Oc):= .p _ _ hc0.1
 obtain⟨a1,rfl,rfl,rfl,w1⟩:=open_int Tryd.underlying3 (hval 1 3 v1 rfl rfl) h1
 clear P1 Jf
 simp only[List.append_nil] at LN
 refine(walk W a0 JF hw0 _ Od a1 w1 hL).mono fun e W' ⟨he,hg⟩=> ?_
 subst he
 exact⟨_,rfl,Ez (by kernel_rfl) Hr rfl Tryd.underlying4 rfl LN rfl hg⟩
theorem over:Rows.bodyCutRow.holds Tryd.pinned (OpenSpec.ofChange Rows.bodyCutSpec):=
 OpenClaim.holds_of_wide 4 ag rfl rfl rfl rfl rfl rfl rfl ⟨rfl,rfl,rfl,rfl,rfl⟩ rfl rfl rfl rfl rfl (by kernel_rfl) aw (by kernel_rfl)
  (of_decide_eq_true (by kernel_rfl)) (by unfold Func.isWrapper;first | (rw[if_pos (by decide +kernel)];kernel_rfl) | (rw[if_neg (by decide +kernel)];exact⟨rfl,rfl⟩))
  (fun os started H enc _=>lifted os started H enc)
theorem DB:Rows.BodyCutSaid:=over
theorem proved:Rows.BodyCutCardSaid:=
 Claim7.holds_tied_plain_at .later [] [.listed,.data] true Rows.bodyCutCard.stood.harness false
  DB (fun _ h=>by cases h) (by kernel_rfl) (fun _ h=>by cases h) bodyCut_row_tie rfl ⟨rfl,rfl⟩ (by kernel_rfl) rfl
  (fun f fn hf hfn=>by
    obtain rfl:f=4:=Option.some.inj ((show ae.funcNamed Rows.bodyCutRow.func=some 4 by kernel_rfl).symm.trans hf) |>.symm
    obtain rfl:fn=ag:=(Option.some.inj (aw.symm.trans hfn)).symm
    exact⟨by kernel_rfl,fun j t ht=>by
     rw[ai] at ht
     have hm:t∈([24,3]:List TypeId):=by simpa using Array.mem_of_getElem? ht
     have hall:(([24,3]:List TypeId).all fun u=> !Tryd.prog.wantsStandIn u)=true:=by kernel_rfl
     exact(show ae.wantsStandIn t=false by simpa using List.all_eq_true.1 hall t hm)⟩)
  (by kernel_rfl)
#print axioms proved
end Go.Proofs.YtddfgnmjecogdaaDoor.bodyCut
end
