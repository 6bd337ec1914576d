import Derived.Test.YtdmmllcjgjmbbaaGreatDoorMU
import Derived.Test.YtdmmllcjgjmbbaaGreatDoorRows
import Derived.Test.YtdmmllcjgjmbbaaGreatDoorCards
import Derived.Test.YtdmmllcjgjmbbaaGreatDoorTie
import Derived.SevenTiedAt
import Derived.Lay
open Go.Proofs.Tryz renaming prog→acb,f5→afF,params5→afG,checked→afH,func5→afI
open List renaming all_eq_true→PQ
open Go.Proofs.YtdmmllcjgjmbbaaGreatDoor.Rows renaming validLessSpec→afJ,validLessRow→afK
section
namespace Go.Proofs.YtdmmllcjgjmbbaaGreatDoor.validLess
open Go.ChangeShapes Go.WideShapes Go.ChangeAt Go.RowKit Go.Am
theorem own:ownKnob acb.godebug=none:=by kernel_rfl
theorem Tq : ∀t∈afF.params.toList,acb.readableRec t=true∧t<acb.types.size:=by
 rw[afG]
 intro t ht
 have h:(([32]:List TypeId).all fun t=>acb.readableRec t&&decide (t<acb.types.size))=true:=by kernel_rfl
 simpa using(PQ.1 h) t ht
theorem walk (w:World) (M:Mo) (hM:M.wf) (hs:M.short) (v0:Value) (h0:VA (qR w) w (.agg (M.aI.map .p)) v0) (hL:laidMetH acb N.pz w) :
  Calls acb 5 #[v0] w fun e w'=>e = .returned (.bool true)∧Below w.heap.size w w':=
 zO (E:=N.env) (args:=[.agg (M.aI.map .p)]) (pure:=fun c o=> ∃v,w.cell? ⟨c,o,none⟩=some v) (N.Tp M hM hs) (fun _ _ h=>h)
  ⟨h0,trivial⟩ ((FX (N.By hL) rfl).mono fun _ _ p=>⟨FY (N.By hL) _ _ p,rfl⟩)
set_option maxRecDepth 100000 in
theorem lifted (os:Os) (started:os.Started) (H:Type) (enc:TypeId×Value→H) :
  ReturnsInHanded {} afH os 5 .any (fun w args=>(afJ.pre enc acb afF [] false w args∧laidMetH acb N.pz w)∧sizedMet enc acb afF (OpenSpec.ofChange afJ) false w args) (afJ.post enc acb afF false true false false):=by
 refine returnsInHanded_of_change_and (C:=afH) (X:=fun w _=>laidMetH acb N.pz w) (fun _ _ _ hh h=>h.of_heap hh) own started (by kernel_rfl) afI
  (ChangeSpec.witness_shaped (enc:=enc) (C:=afH) (os:=os) (X:=fun w _=>laidMetH acb N.pz w) false (World.laidAll acb os N.pz) #[.agg #[.slice none 0 0,.slice none 0 0,.slice none 0 0,.slice none 0 0,.slice none 0 0,.slice none 0 0,.slice none 0 0,.bool false,.int .u32 0,.slice none 0 0,.slice none 0 0]] 8 (World.laidAll_os _ _ _)
    (World.shaped_of_ZipB (by kernel_rfl) (by kernel_rfl)) (by kernel_rfl) (by kernel_rfl) (by kernel_rfl)
    (by rw[MakeChecks.laidMetH_plain _ _ _ (by kernel_rfl)];exact laidMet_laidAll _ (by kernel_rfl) (by kernel_rfl))) ?_
 intro W base args ds gs before TW hW _ FF hL _
 have Zg:=hW
 obtain⟨p,q,hA0,hV,rfl,hfz,hnd⟩:=hW
 have hA:DataW.TrodAll enc acb W 0 (fun _=>true) true afF.params.toList args.toList ds p:=hA0
 have hval : ∀(j:Nat) t v,afF.params[j]? = some t→args[j]? = some v→Value.okWide acb W .any base t v:=TW
 rw[afG] at hA hval
 obtain⟨v0,vs0,d0,ds0,p0,q0,hargs,rfl,rfl,h0,r0⟩:=trodAll_cons hA
 obtain⟨rfl,rfl,rfl⟩:=trodAll_nil r0
 obtain rfl:args = #[v0]:=by cases args;simp_all
 obtain⟨rfl,rfl⟩:=trodVars_none hV
 obtain⟨cs0,rfl,_⟩:=okWide_struct (fs:=N.fieldsOf 32) (by kernel_rfl) (hval 0 32 v0 rfl rfl)
 obtain⟨afC,h0⟩:=h0
 obtain⟨M,hM,hc,_⟩:=Gb N.moT h0
 have Uq:M.short:=PW N.moT N.moB h0 (fun n hn=>by
  have hall:=PQ.1 FF n (oH (P:=acb) (i:=0) (t:=32) (d:=d0) (by rw[afG];rfl) rfl n hn)
  simpa using hall) hc
 have aeL:=U4 (cs:=cs0) (l:=M.aI) hc
 clear hA0 TW
 simp only[List.append_nil] at Zg
 refine(walk W M hM Uq _ aeL hL).mono fun e W' ⟨he,hg⟩=> ?_
 subst he
 exact⟨_,rfl,L6 (by kernel_rfl) Tq rfl Tryz.underlying4 rfl Zg rfl hg⟩
theorem over:afK.holds Tryz.pinned (OpenSpec.ofChange afJ):=
 OpenClaim.holds_of_wide 5 afF rfl rfl rfl rfl rfl rfl rfl ⟨rfl,rfl,rfl,rfl,rfl⟩ rfl rfl rfl rfl rfl (by kernel_rfl) afI (by kernel_rfl)
  (of_decide_eq_true (by kernel_rfl)) (by unfold Func.isWrapper;first | (rw[if_pos (by decide +kernel)];kernel_rfl) | (rw[if_neg (by decide +kernel)];exact⟨rfl,rfl⟩))
  (fun os started H enc _=>lifted os started H enc)
theorem KO:Rows.ValidLessSaid:=over
theorem proved:Rows.ValidLessCardSaid:=
 Claim7.holds_tied_plain_at .later [] [.data,.listed,.data,.pinned] true Rows.validLessCard.stood.harness false
  KO (fun _ h=>by cases h) (by kernel_rfl) (fun _ h=>by cases h) validLess_row_tie rfl ⟨rfl,rfl⟩ (by kernel_rfl) rfl
  (fun f fn hf hfn=>by
    obtain rfl:f=5:=Option.some.inj ((show acb.funcNamed afK.func=some 5 by kernel_rfl).symm.trans hf) |>.symm
    obtain rfl:fn=afF:=(Option.some.inj (afI.symm.trans hfn)).symm
    exact⟨by kernel_rfl,fun j t ht=>by
     rw[afG] at ht
     have hm:t∈([32]:List TypeId):=by simpa using Array.mem_of_getElem? ht
     have hall:(([32]:List TypeId).all fun u=> !Tryz.prog.wantsStandIn u)=true:=by kernel_rfl
     exact(show acb.wantsStandIn t=false by simpa using PQ.1 hall t hm)⟩)
  (by kernel_rfl)
#print axioms proved
end Go.Proofs.YtdmmllcjgjmbbaaGreatDoor.validLess
end
