/-
ModuleChecks, the tied card: for every input the call returns true, and each argument reads as before. No condition but the row's own: the library's tables hold what the program's text lays in them (the card ties that to the text). The parts of its proof: the executor (the texts Am..), pure values (Ins.., Mo..), what each function tells (the chapter's own texts).
-/
import Derived.Test.YtdmmllcjgjmbbaaGreatDoorMV
import Derived.Test.YtdmmllcjgjmbbaaGreatDoorMW
import Derived.Test.YtdmmllcjgjmbbaaGreatDoorRows
import Derived.Test.YtdmmllcjgjmbbaaGreatDoorCards
import Derived.Test.YtdmmllcjgjmbbaaGreatDoorTie
import Derived.SevenTiedAt
import Derived.Lay
section
namespace Go.Proofs.YtdmmllcjgjmbbaaGreatDoor.moduleChecks
open Go.ChangeShapes Go.WideShapes Go.ChangeAt Go.RowKit Go.Am
theorem own:ownKnob Tryz.prog.godebug=none:=by kernel_rfl
theorem Qv : ∀t∈Tryz.f3.params.toList,Tryz.prog.readableRec t=true∧t<Tryz.prog.types.size:=by
 rw[Tryz.params3]
 intro t ht
 have h:(([32,28,9,3]:List TypeId).all fun t=>Tryz.prog.readableRec t&&decide (t<Tryz.prog.types.size))=true:=by kernel_rfl
 simpa using(List.all_eq_true.1 h) t ht
theorem walk (w:World) (M:Mo) (hM:M.wf) (hs:M.short) (a:Int) (ha:(Lit.int .u32 a).wf=true) (nm:ByteArray) (kd:Int) (v0:Value) (h0:VA (nY w) w (.agg (M.aE.map .p)) v0) (hL:laidMetH Tryz.prog N.mP w) :
  Calls Tryz.prog 3 #[v0,.int .u32 a,.string nm,.int .i64 kd] w fun e w'=>e = .returned (.bool true)∧Below w.heap.size w w':=
 wD (E:=N.M7) (args:=[.agg (M.aE.map .p),sI .u32 a,.p (.sc (.string nm)),sI .i64 kd]) (pure:=fun c o=> ∃v,w.cell? ⟨c,o,none⟩=some v) (N.Qu M hM hs a ha nm kd) (fun _ _ h=>h)
  ⟨h0,⟨.p _ _ (.sc _),⟨.p _ _ (.sc _),⟨.p _ _ (.sc _),trivial⟩⟩⟩⟩ ((Dz (N.zh hL) rfl).mono fun _ _ p=>⟨DA (N.zh hL) _ _ p,rfl⟩)
set_option maxRecDepth 100000 in
theorem lifted (os:Os) (started:os.Started) (H:Type) (enc:TypeId×Value→H) :
  ReturnsInHanded {} Tryz.checked os 3 .any (fun w args=>(Rows.moduleChecksSpec.pre enc Tryz.prog Tryz.f3 [] false w args∧laidMetH Tryz.prog N.mP w)∧sizedMet enc Tryz.prog Tryz.f3 (OpenSpec.ofChange Rows.moduleChecksSpec) false w args) (Rows.moduleChecksSpec.post enc Tryz.prog Tryz.f3 false true false false):=by
 refine returnsInHanded_of_change_and (C:=Tryz.checked) (X:=fun w _=>laidMetH Tryz.prog N.mP w) (fun _ _ _ hh h=>h.of_heap hh) own started (by kernel_rfl) Tryz.func3
  (ChangeSpec.witness_shaped (enc:=enc) (C:=Tryz.checked) (os:=os) (X:=fun w _=>laidMetH Tryz.prog N.mP w) false (World.laidAll Tryz.prog os N.mP) #[.agg #[.slice none 0 0,.slice none 0 0,.slice none 0 0,.slice none 0 0,.slice none 0 0,.slice none 0 0,.slice none 0 0,.bool false,.int .u32 0,.slice none 0 0,.slice none 0 0],.int .u32 0,.string ⟨#[]⟩,.int .i64 0] 8 (World.laidAll_os _ _ _)
    (World.shaped_of_ZipB (by kernel_rfl) (by kernel_rfl)) (by kernel_rfl) (by kernel_rfl) (by kernel_rfl)
    (by rw[MakeChecks.laidMetH_plain _ _ _ (by kernel_rfl)];exact laidMet_laidAll _ (by kernel_rfl) (by kernel_rfl))) ?_
 intro W base args ds gs before QV hW _ Dj hL _
 have W0:=hW
 obtain⟨p,q,hA0,hV,rfl,hfz,hnd⟩:=hW
 have hA:DataW.TrodAll enc Tryz.prog W 0 (fun _=>true) true Tryz.f3.params.toList args.toList ds p:=hA0
 have hval : ∀(j:Nat) t v,Tryz.f3.params[j]? = some t→args[j]? = some v→Value.okWide Tryz.prog W .any base t v:=QV
 rw[Tryz.params3] at hA hval
 obtain⟨v0,vs0,d0,ds0,p0,q0,hargs,rfl,rfl,h0,r0⟩:=trodAll_cons hA
 obtain⟨v1,vs1,d1,ZN,p1,q1,rfl,rfl,rfl,h1,r1⟩:=trodAll_cons r0
 obtain⟨v2,vs2,d2,Z4,p2,q2,rfl,rfl,rfl,h2,r2⟩:=trodAll_cons r1
 obtain⟨v3,vs3,d3,ds3,p3,q3,rfl,rfl,rfl,h3,r3⟩:=trodAll_cons r2
 obtain⟨rfl,rfl,rfl⟩:=trodAll_nil r3
 obtain rfl:args = #[v0,v1,v2,v3]:=by cases args;simp_all
 obtain⟨rfl,rfl⟩:=trodVars_none hV
 obtain⟨cs0,rfl,_⟩:=okWide_struct (fs:=N.fieldsOf 32) (by kernel_rfl) (hval 0 32 v0 rfl rfl)
 obtain⟨abT,h0⟩:=h0
 obtain⟨M,hM,hc,_⟩:=DM N.moT h0
 have Wv:M.short:=Nb N.moT N.moB h0 (fun n hn=>by
  have hall:=List.all_eq_true.1 Dj n (mm (P:=Tryz.prog) (i:=0) (t:=32) (d:=d0) (by rw[Tryz.params3];rfl) rfl n hn)
  simpa using hall) hc
 have abg:=R0 (cs:=cs0) (l:=M.aE) hc
 obtain⟨a1,rfl,rfl,rfl,w1⟩:=open_int (k:= .u32) (by kernel_rfl) (hval 1 28 v1 rfl rfl) h1
 obtain⟨s2,rfl,rfl,rfl,_⟩:=Go.ChangeMaps.open_string (by kernel_rfl) (hval 2 9 v2 rfl rfl) h2
 obtain⟨a3,rfl,rfl,rfl,w3⟩:=open_int Tryz.underlying3 (hval 3 3 v3 rfl rfl) h3
 clear hA0 QV
 simp only[List.append_nil] at W0
 refine(walk W M hM Wv a1 w1 s2 a3 _ abg hL).mono fun e W' ⟨he,hg⟩=> ?_
 subst he
 exact⟨_,rfl,Jy (by kernel_rfl) Qv rfl Tryz.underlying4 rfl W0 rfl hg⟩
theorem over:Rows.moduleChecksRow.holds Tryz.pinned (OpenSpec.ofChange Rows.moduleChecksSpec):=
 OpenClaim.holds_of_wide 3 Tryz.f3 rfl rfl rfl rfl rfl rfl rfl ⟨rfl,rfl,rfl,rfl,rfl⟩ rfl rfl rfl rfl rfl (by kernel_rfl) Tryz.func3 (by kernel_rfl)
  (of_decide_eq_true (by kernel_rfl)) (by unfold Func.isWrapper;first | (rw[if_pos (by decide +kernel)];kernel_rfl) | (rw[if_neg (by decide +kernel)];exact⟨rfl,rfl⟩))
  (fun os started H enc _=>lifted os started H enc)
theorem Ig:Rows.ModuleChecksSaid:=over
theorem proved:Rows.ModuleChecksCardSaid:=
 Claim7.holds_tied_plain_at .later [] [.data,.listed,.data,.pinned] true Rows.moduleChecksCard.stood.harness false
  Ig (fun _ h=>by cases h) (by kernel_rfl) (fun _ h=>by cases h) moduleChecks_row_tie rfl ⟨rfl,rfl⟩ (by kernel_rfl) rfl
  (fun f fn hf hfn=>by
    obtain rfl:f=3:=Option.some.inj ((show Tryz.prog.funcNamed Rows.moduleChecksRow.func=some 3 by kernel_rfl).symm.trans hf) |>.symm
    obtain rfl:fn=Tryz.f3:=(Option.some.inj (Tryz.func3.symm.trans hfn)).symm
    exact⟨by kernel_rfl,fun j t ht=>by
     rw[Tryz.params3] at ht
     have hm:t∈([32,28,9,3]:List TypeId):=by simpa using Array.mem_of_getElem? ht
     have hall:(([32,28,9,3]:List TypeId).all fun u=> !Tryz.prog.wantsStandIn u)=true:=by kernel_rfl
     exact(show Tryz.prog.wantsStandIn t=false by simpa using List.all_eq_true.1 hall t hm)⟩)
  (by kernel_rfl)
#print axioms proved
end Go.Proofs.YtdmmllcjgjmbbaaGreatDoor.moduleChecks
end
