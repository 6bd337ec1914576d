import Derived.Test.YtncncijedmfpjaaGreatDoorMZ
import Derived.Test.YtncncijedmfpjaaGreatDoorNA
import Derived.Test.YtncncijedmfpjaaGreatDoorRows
import Derived.Test.YtncncijedmfpjaaGreatDoorCards
import Derived.Test.YtncncijedmfpjaaGreatDoorTie
import Derived.SevenTiedAt
import Derived.Lay
open Go.Proofs.Tryz renaming prog→ae,f4→ag,params4→ai,checked→ar,func4→aw
open List renaming all_eq_true→a6
open Go.Proofs.YtncncijedmfpjaaGreatDoor.Rows renaming encodeTellsSpec→a7,encodeTellsRow→a8
section
namespace Go.Proofs.YtncncijedmfpjaaGreatDoor.encodeTells
open Go.ChangeShapes Go.WideShapes Go.ChangeAt Go.RowKit Go.Am
theorem own:ownKnob ae.godebug=none:=by kernel_rfl
theorem TB : ∀t∈ag.params.toList,ae.readableRec t=true∧t<ae.types.size:=by
 rw[ai]
 intro t ht
 have h:(([32,3]:List TypeId).all fun t=>ae.readableRec t&&decide (t<ae.types.size))=true:=by kernel_rfl
 simpa using(a6.1 h) t ht
theorem walk (w:World) (M:Mo) (hM:M.wf) (hs:M.short) (d:Int) (v0:Value) (h0:VA (qZ w) w (.agg (M.aJ.map .p)) v0) (hL:laidMetH ae N.oW w) :
  Calls ae 4 #[v0,.int .i64 d] w fun e w'=>e = .returned (.bool true)∧Below w.heap.size w w':=
 z8 (E:=N.env) (args:=[.agg (M.aJ.map .p),sI .i64 d]) (pure:=fun c o=> ∃v,w.cell? ⟨c,o,none⟩=some v) (N.TC M hM hs d) (fun _ _ h=>h)
  ⟨h0,⟨.p _ _ (.sc _),trivial⟩⟩ ((HP (N.AO hL) rfl).mono fun _ _ p=>⟨HQ (N.AO hL) _ _ p,rfl⟩)
set_option maxRecDepth 100000 in
theorem lifted (os:Os) (started:os.Started) (H:Type) (enc:TypeId×Value→H) :
  ReturnsInHanded {} ar os 4 .any (fun w args=>(a7.pre enc ae ag [] false w args∧laidMetH ae N.oW w)∧sizedMet enc ae ag (OpenSpec.ofChange a7) false w args) (a7.post enc ae ag false true false false):=by
 refine returnsInHanded_of_change_and (C:=ar) (X:=fun w _=>laidMetH ae N.oW w) (fun _ _ _ hh h=>h.of_heap hh) own started (by kernel_rfl) aw
  (ChangeSpec.witness_shaped (enc:=enc) (C:=ar) (os:=os) (X:=fun w _=>laidMetH ae N.oW w) false (World.laidAll ae os N.oW) #[.agg #[.slice none 0 0,.slice none 0 0,.slice none 0 0,.slice none 0 0,.slice none 0 0,.slice none 0 0,.slice none 0 0,.bool false,.int .u32 0,.slice none 0 0,.slice none 0 0],.int .i64 0] 8 (World.laidAll_os _ _ _)
    (World.shaped_of_ZipB (by kernel_rfl) (by kernel_rfl)) (by kernel_rfl) (by kernel_rfl) (by kernel_rfl)
    (by rw[MakeChecks.laidMetH_plain _ _ _ (by kernel_rfl)];exact laidMet_laidAll _ (by kernel_rfl) (by kernel_rfl))) ?_
 intro W base args ds gs before XY hW _ HR hL _
 have hW':=hW
 obtain⟨p,q,hA0,hV,rfl,hfz,hnd⟩:=hW
 have hA:DataW.TrodAll enc ae W 0 (fun _=>true) true ag.params.toList args.toList ds p:=hA0
 have hval : ∀(j:Nat) t v,ag.params[j]? = some t→args[j]? = some v→Value.okWide ae W .any base t v:=XY
 rw[ai] at hA hval
 obtain⟨v0,vs0,d0,ds0,p0,q0,hargs,rfl,rfl,h0,r0⟩:=trodAll_cons hA
 obtain⟨v1,vs1,d1,ds1,p1,q1,rfl,rfl,rfl,h1,r1⟩:=trodAll_cons r0
 obtain⟨rfl,rfl,rfl⟩:=trodAll_nil r1
 obtain rfl:args = #[v0,v1]:=by cases args;simp_all
 obtain⟨rfl,rfl⟩:=trodVars_none hV
 obtain⟨cs0,rfl,_⟩:=okWide_struct (fs:=N.fieldsOf 32) (by kernel_rfl) (hval 0 32 v0 rfl rfl)
 obtain⟨amN,h0⟩:=h0
 obtain⟨M,hM,hc,_⟩:=HS N.moT h0
 have hms:M.short:=N3 N.moT N.moB h0 (fun n hn=>by
  have hall:=a6.1 HR n (nN (P:=ae) (i:=0) (t:=32) (d:=d0) (by rw[ai];rfl) rfl n hn)
  simpa using hall) hc
 have ajI:=Yu (cs:=cs0) (l:=M.aJ) hc
 obtain⟨a1,rfl,rfl,rfl,w1⟩:=open_int Tryz.underlying3 (hval 1 3 v1 rfl rfl) h1
 clear hA0 XY
 simp only[List.append_nil] at hW'
 refine(walk W M hM hms a1 _ ajI hL).mono fun e W' ⟨he,hg⟩=> ?_
 subst he
 exact⟨_,rfl,N4 (by kernel_rfl) TB rfl Tryz.underlying4 rfl hW' rfl hg⟩
theorem over:a8.holds Tryz.pinned (OpenSpec.ofChange a7):=
 OpenClaim.holds_of_wide 4 ag rfl rfl rfl rfl rfl rfl rfl ⟨rfl,rfl,rfl,rfl,rfl⟩ rfl rfl rfl rfl rfl (by kernel_rfl) aw (by kernel_rfl)
  (of_decide_eq_true (by kernel_rfl)) (by unfold Func.isWrapper;first | (rw[if_pos (by decide +kernel)];kernel_rfl) | (rw[if_neg (by decide +kernel)];exact⟨rfl,rfl⟩))
  (fun os started H enc _=>lifted os started H enc)
theorem Lw:Rows.EncodeTellsSaid:=over
theorem proved:Rows.EncodeTellsCardSaid:=
 Claim7.holds_tied_plain_at .later [] [.data,.listed,.data,.pinned] true Rows.encodeTellsCard.stood.harness false
  Lw (fun _ h=>by cases h) (by kernel_rfl) (fun _ h=>by cases h) encodeTells_row_tie rfl ⟨rfl,rfl⟩ (by kernel_rfl) rfl
  (fun f fn hf hfn=>by
    obtain rfl:f=4:=Option.some.inj ((show ae.funcNamed a8.func=some 4 by kernel_rfl).symm.trans hf) |>.symm
    obtain rfl:fn=ag:=(Option.some.inj (aw.symm.trans hfn)).symm
    exact⟨by kernel_rfl,fun j t ht=>by
     rw[ai] at ht
     have hm:t∈([32,3]:List TypeId):=by simpa using Array.mem_of_getElem? ht
     have hall:(([32,3]:List TypeId).all fun u=> !Tryz.prog.wantsStandIn u)=true:=by kernel_rfl
     exact(show ae.wantsStandIn t=false by simpa using a6.1 hall t hm)⟩)
  (by kernel_rfl)
#print axioms proved
end Go.Proofs.YtncncijedmfpjaaGreatDoor.encodeTells
end
