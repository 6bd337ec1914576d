import Derived.Test.YtdmmllcjgjmbbaaGreatDoorPI
import Derived.Test.YtdmmllcjgjmbbaaGreatDoorRows
import Derived.Test.YtdmmllcjgjmbbaaGreatDoorCards
import Derived.Test.YtdmmllcjgjmbbaaGreatDoorTie
import Derived.SevenTiedAt
import Derived.Lay
open Go.Proofs.Tryz renaming prog→aeB,f4→ahk,params4→ahl,checked→ahm,func4→ahn
open List renaming all_eq_true→QQ
open Go.Proofs.YtdmmllcjgjmbbaaGreatDoor.Rows renaming validTellsSpec→aho,validTellsRow→ahp
section
namespace Go.Proofs.YtdmmllcjgjmbbaaGreatDoor.validTells
open Go.ChangeShapes Go.WideShapes Go.ChangeAt Go.RowKit Go.Am
theorem own:ownKnob aeB.godebug=none:=by kernel_rfl
theorem YU : ∀t∈ahk.params.toList,aeB.readableRec t=true∧t<aeB.types.size:=by
 rw[ahl]
 intro t ht
 have h:(([32,3]:List TypeId).all fun t=>aeB.readableRec t&&decide (t<aeB.types.size))=true:=by kernel_rfl
 simpa using(QQ.1 h) t ht
theorem walk (w:World) (M:Mo) (hM:M.wf) (hs:M.short) (k:Int) (v0:Value) (h0:VA (vq w) w (.agg (M.aH.map .p)) v0) (hL:laidMetH aeB N.tJ w) :
  Calls aeB 4 #[v0,.int .i64 k] w fun e w'=>e = .returned (.bool true)∧Below w.heap.size w w':=
 CS (E:=N.env) (args:=[.agg (M.aH.map .p),sI .i64 k]) (pure:=fun c o=> ∃v,w.cell? ⟨c,o,none⟩=some v) (N.YT M hM hs k) (fun _ _ h=>h)
  ⟨h0,⟨.p _ _ (.sc _),trivial⟩⟩ ((Kb (N.Ff hL) rfl).mono fun _ _ p=>⟨Kc (N.Ff hL) _ _ p,rfl⟩)
set_option maxRecDepth 100000 in
theorem lifted (os:Os) (started:os.Started) (H:Type) (enc:TypeId×Value→H) :
  ReturnsInHanded {} ahm os 4 .any (fun w args=>(aho.pre enc aeB ahk [] false w args∧laidMetH aeB N.tJ w)∧sizedMet enc aeB ahk (OpenSpec.ofChange aho) false w args) (aho.post enc aeB ahk false true false false):=by
 refine returnsInHanded_of_change_and (C:=ahm) (X:=fun w _=>laidMetH aeB N.tJ w) (fun _ _ _ hh h=>h.of_heap hh) own started (by kernel_rfl) ahn
  (ChangeSpec.witness_shaped (enc:=enc) (C:=ahm) (os:=os) (X:=fun w _=>laidMetH aeB N.tJ w) false (World.laidAll aeB os N.tJ) #[.agg #[.slice none 0 0,.slice none 0 0,.slice none 0 0,.slice none 0 0,.slice none 0 0,.slice none 0 0,.slice none 0 0,.bool false,.int .u32 0,.slice none 0 0,.slice none 0 0],.int .i64 0] 8 (World.laidAll_os _ _ _)
    (World.shaped_of_ZipB (by kernel_rfl) (by kernel_rfl)) (by kernel_rfl) (by kernel_rfl) (by kernel_rfl)
    (by rw[MakeChecks.laidMetH_plain _ _ _ (by kernel_rfl)];exact laidMet_laidAll _ (by kernel_rfl) (by kernel_rfl))) ?_
 intro W base args ds gs before Zz hW _ JU hL _
 have hW':=hW
 obtain⟨p,q,hA0,hV,rfl,hfz,hnd⟩:=hW
 have hA:DataW.TrodAll enc aeB W 0 (fun _=>true) true ahk.params.toList args.toList ds p:=hA0
 have hval : ∀(j:Nat) t v,ahk.params[j]? = some t→args[j]? = some v→Value.okWide aeB W .any base t v:=Zz
 rw[ahl] at hA hval
 obtain⟨v0,vs0,d0,ds0,p0,q0,hargs,rfl,rfl,h0,r0⟩:=trodAll_cons hA
 obtain⟨v1,vs1,d1,ds1,p1,q1,rfl,rfl,rfl,h1,r1⟩:=trodAll_cons r0
 obtain⟨rfl,rfl,rfl⟩:=trodAll_nil r1
 obtain rfl:args = #[v0,v1]:=by cases args;simp_all
 obtain⟨rfl,rfl⟩:=trodVars_none hV
 obtain⟨cs0,rfl,_⟩:=okWide_struct (fs:=N.fieldsOf 32) (by kernel_rfl) (hval 0 32 v0 rfl rfl)
 obtain⟨ah6,h0⟩:=h0
 obtain⟨M,hM,hc,_⟩:=Kn N.moT h0
 have Z4:M.short:=VV N.moT N.moB h0 (fun n hn=>by
  have hall:=QQ.1 JU n (sM (P:=aeB) (i:=0) (t:=32) (d:=d0) (by rw[ahl];rfl) rfl n hn)
  simpa using hall) hc
 have ag0:=aaz (cs:=cs0) (l:=M.aH) hc
 obtain⟨a1,rfl,rfl,rfl,w1⟩:=open_int Tryz.underlying3 (hval 1 3 v1 rfl rfl) h1
 clear hA0 Zz
 simp only[List.append_nil] at hW'
 refine(walk W M hM Z4 a1 _ ag0 hL).mono fun e W' ⟨he,hg⟩=> ?_
 subst he
 exact⟨_,rfl,QV (by kernel_rfl) YU rfl Tryz.underlying4 rfl hW' rfl hg⟩
theorem over:ahp.holds Tryz.pinned (OpenSpec.ofChange aho):=
 OpenClaim.holds_of_wide 4 ahk rfl rfl rfl rfl rfl rfl rfl ⟨rfl,rfl,rfl,rfl,rfl⟩ rfl rfl rfl rfl rfl (by kernel_rfl) ahn (by kernel_rfl)
  (of_decide_eq_true (by kernel_rfl)) (by unfold Func.isWrapper;first | (rw[if_pos (by decide +kernel)];kernel_rfl) | (rw[if_neg (by decide +kernel)];exact⟨rfl,rfl⟩))
  (fun os started H enc _=>lifted os started H enc)
theorem Pv:Rows.ValidTellsSaid:=over
theorem proved:Rows.ValidTellsCardSaid:=
 Claim7.holds_tied_plain_at .later [] [.data,.listed,.data,.pinned] true Rows.validTellsCard.stood.harness false
  Pv (fun _ h=>by cases h) (by kernel_rfl) (fun _ h=>by cases h) validTells_row_tie rfl ⟨rfl,rfl⟩ (by kernel_rfl) rfl
  (fun f fn hf hfn=>by
    obtain rfl:f=4:=Option.some.inj ((show aeB.funcNamed ahp.func=some 4 by kernel_rfl).symm.trans hf) |>.symm
    obtain rfl:fn=ahk:=(Option.some.inj (ahn.symm.trans hfn)).symm
    exact⟨by kernel_rfl,fun j t ht=>by
     rw[ahl] at ht
     have hm:t∈([32,3]:List TypeId):=by simpa using Array.mem_of_getElem? ht
     have hall:(([32,3]:List TypeId).all fun u=> !Tryz.prog.wantsStandIn u)=true:=by kernel_rfl
     exact(show aeB.wantsStandIn t=false by simpa using QQ.1 hall t hm)⟩)
  (by kernel_rfl)
#print axioms proved
end Go.Proofs.YtdmmllcjgjmbbaaGreatDoor.validTells
end
