import Derived.Test.YtncncijedmfpjaaGreatDoorMU
import Derived.Test.YtncncijedmfpjaaGreatDoorRows
import Derived.Test.YtncncijedmfpjaaGreatDoorCards
import Derived.Test.YtncncijedmfpjaaGreatDoorTie
import Derived.SevenTiedAt
import Derived.Lay
open Go.Proofs.Tryz renaming prog→ae,params3→ag,f3→ai,checked→ar,func3→aw
open List renaming all_eq_true→ba
open Go.Proofs.YtncncijedmfpjaaGreatDoor.Rows renaming encodeApartSpec→bc,encodeApartRow→be
section
namespace Go.Proofs.YtncncijedmfpjaaGreatDoor.encodeApart
open Go.ChangeShapes Go.WideShapes Go.ChangeAt Go.RowKit Go.Am
theorem own:ownKnob ae.godebug=none:=by kernel_rfl
theorem N1 : ∀t∈ai.params.toList,ae.readableRec t=true∧t<ae.types.size:=by
 rw[ag]
 intro t ht
 have h:(([32,32]:List TypeId).all fun t=>ae.readableRec t&&decide (t<ae.types.size))=true:=by kernel_rfl
 simpa using(ba.1 h) t ht
theorem walk (w:World) (M K:Mo) (hM:M.wf) (hs:M.short) (hK:K.wf) (hs':K.short) (v0 v1:Value) (h0:VA (nD w) w (.agg (M.aJ.map .p)) v0) (h1:VA (nD w) w (.agg (K.aJ.map .p)) v1) (hL:laidMetH ae N.nE w) :
  Calls ae 3 #[v0,v1] w fun e w'=>e = .returned (.bool true)∧Below w.heap.size w w':=
 xA (E:=N.env) (args:=[.agg (M.aJ.map .p),.agg (K.aJ.map .p)]) (pure:=fun c o=> ∃v,w.cell? ⟨c,o,none⟩=some v) (N.JP M K hM hs hK hs') (fun _ _ h=>h)
  ⟨h0,⟨h1,trivial⟩⟩ ((Er (N.yq hL) rfl).mono fun _ _ p=>⟨Es (N.yq hL) _ _ p,rfl⟩)
set_option maxRecDepth 100000 in
theorem lifted (os:Os) (started:os.Started) (H:Type) (enc:TypeId×Value→H) :
  ReturnsInHanded {} ar os 3 .any (fun w args=>(bc.pre enc ae ai [] false w args∧laidMetH ae N.nE w)∧sizedMet enc ae ai (OpenSpec.ofChange bc) false w args) (bc.post enc ae ai false true false false):=by
 refine returnsInHanded_of_change_and (C:=ar) (X:=fun w _=>laidMetH ae N.nE w) (fun _ _ _ hh h=>h.of_heap hh) own started (by kernel_rfl) aw
  (ChangeSpec.witness_shaped (enc:=enc) (C:=ar) (os:=os) (X:=fun w _=>laidMetH ae N.nE w) false (World.laidAll ae os N.nE) #[.agg #[.slice none 0 0,.slice none 0 0,.slice none 0 0,.slice none 0 0,.slice none 0 0,.slice none 0 0,.slice none 0 0,.bool false,.int .u32 0,.slice none 0 0,.slice none 0 0],.agg #[.slice none 0 0,.slice none 0 0,.slice none 0 0,.slice none 0 0,.slice none 0 0,.slice none 0 0,.slice none 0 0,.bool false,.int .u32 0,.slice none 0 0,.slice none 0 0]] 8 (World.laidAll_os _ _ _)
    (World.shaped_of_ZipB (by kernel_rfl) (by kernel_rfl)) (by kernel_rfl) (by kernel_rfl) (by kernel_rfl)
    (by rw[MakeChecks.laidMetH_plain _ _ _ (by kernel_rfl)];exact laidMet_laidAll _ (by kernel_rfl) (by kernel_rfl))) ?_
 intro W base args ds gs before Rf hW _ Ei hL _
 have WD:=hW
 obtain⟨p,q,hA0,hV,rfl,hfz,hnd⟩:=hW
 have hA:DataW.TrodAll enc ae W 0 (fun _=>true) true ai.params.toList args.toList ds p:=hA0
 have hval : ∀(j:Nat) t v,ai.params[j]? = some t→args[j]? = some v→Value.okWide ae W .any base t v:=Rf
 rw[ag] at hA hval
 obtain⟨v0,vs0,d0,ds0,p0,q0,hargs,rfl,rfl,h0,r0⟩:=trodAll_cons hA
 obtain⟨v1,vs1,d1,Z0,p1,q1,rfl,rfl,rfl,h1,r1⟩:=trodAll_cons r0
 obtain⟨rfl,rfl,rfl⟩:=trodAll_nil r1
 obtain rfl:args = #[v0,v1]:=by cases args;simp_all
 obtain⟨rfl,rfl⟩:=trodVars_none hV
 obtain⟨cs0,rfl,_⟩:=okWide_struct (fs:=N.fieldsOf 32) (by kernel_rfl) (hval 0 32 v0 rfl rfl)
 obtain⟨acr,h0⟩:=h0
 obtain⟨M,hM,hc,_⟩:=uj N.ZI h0
 have WE:M.short:=BS N.ZI N.moB h0 (fun n hn=>by
  have hall:=ba.1 Ei n (jV (P:=ae) (i:=0) (t:=32) (d:=d0) (by rw[ag];rfl) rfl n hn)
  simpa using hall) hc
 have Z1:=JQ (cs:=cs0) (l:=M.aJ) hc
 obtain⟨cs1,rfl,_⟩:=okWide_struct (fs:=N.fieldsOf 32) (by kernel_rfl) (hval 1 32 v1 rfl rfl)
 obtain⟨fuel1,h1⟩:=h1
 obtain⟨K,hK,eB,_⟩:=uj N.ZI h1
 have hks:K.short:=BS N.ZI N.moB h1 (fun n hn=>by
  have hall:=ba.1 Ei n (jV (P:=ae) (i:=1) (t:=32) (d:=d1) (by rw[ag];rfl) rfl n hn)
  simpa using hall) eB
 have Z2:=JQ (cs:=cs1) (l:=K.aJ) eB
 clear hA0 Rf
 simp only[List.append_nil] at WD
 refine(walk W M K hM WE hK hks _ _ Z1 Z2 hL).mono fun e W' ⟨he,hg⟩=> ?_
 subst he
 exact⟨_,rfl,JR (by kernel_rfl) N1 rfl Tryz.underlying4 rfl WD rfl hg⟩
theorem over:be.holds Tryz.pinned (OpenSpec.ofChange bc):=
 OpenClaim.holds_of_wide 3 ai rfl rfl rfl rfl rfl rfl rfl ⟨rfl,rfl,rfl,rfl,rfl⟩ rfl rfl rfl rfl rfl (by kernel_rfl) aw (by kernel_rfl)
  (of_decide_eq_true (by kernel_rfl)) (by unfold Func.isWrapper;first | (rw[if_pos (by decide +kernel)];kernel_rfl) | (rw[if_neg (by decide +kernel)];exact⟨rfl,rfl⟩))
  (fun os started H enc _=>lifted os started H enc)
theorem Hw:Rows.EncodeApartSaid:=over
theorem proved:Rows.EncodeApartCardSaid:=
 Claim7.holds_tied_plain_at .later [] [.data,.listed,.data,.pinned] true Rows.encodeApartCard.stood.harness false
  Hw (fun _ h=>by cases h) (by kernel_rfl) (fun _ h=>by cases h) encodeApart_row_tie rfl ⟨rfl,rfl⟩ (by kernel_rfl) rfl
  (fun f fn hf hfn=>by
    obtain rfl:f=3:=Option.some.inj ((show ae.funcNamed be.func=some 3 by kernel_rfl).symm.trans hf) |>.symm
    obtain rfl:fn=ai:=(Option.some.inj (aw.symm.trans hfn)).symm
    exact⟨by kernel_rfl,fun j t ht=>by
     rw[ag] at ht
     have hm:t∈([32,32]:List TypeId):=by simpa using Array.mem_of_getElem? ht
     have hall:(([32,32]:List TypeId).all fun u=> !Tryz.prog.wantsStandIn u)=true:=by kernel_rfl
     exact(show ae.wantsStandIn t=false by simpa using ba.1 hall t hm)⟩)
  (by kernel_rfl)
#print axioms proved
end Go.Proofs.YtncncijedmfpjaaGreatDoor.encodeApart
end
