import Derived.Test.YtjfgfhaoeicpdaaGreatDoorMW
import Derived.Test.YtjfgfhaoeicpdaaGreatDoorRows
import Derived.Test.YtjfgfhaoeicpdaaGreatDoorCards
import Derived.Test.YtjfgfhaoeicpdaaGreatDoorTie
import Derived.SevenTiedAt
import Derived.Lay
open Go.Proofs.Tryz renaming prog→ab5,f3→aif,params3→aih,checked→aii,func3→aij
open List renaming all_eq_true→Lk
open Go.Proofs.YtjfgfhaoeicpdaaGreatDoor.Rows renaming placeReadySpec→ail,placeReadyRow→aim
section
namespace Go.Proofs.YtjfgfhaoeicpdaaGreatDoor.placeReady
open Go.ChangeShapes Go.WideShapes Go.ChangeAt Go.RowKit Go.Am
theorem own:ownKnob ab5.godebug=none:=by kernel_rfl
theorem VH : ∀t∈aif.params.toList,ab5.readableRec t=true∧t<ab5.types.size:=by
 rw[aih]
 intro t ht
 have h:(([32,28,28]:List TypeId).all fun t=>ab5.readableRec t&&decide (t<ab5.types.size))=true:=by kernel_rfl
 simpa using(Lk.1 h) t ht
theorem walk (w:World) (M:Mo) (hM:M.wf) (hs:M.short) (a:Int) (ha:(Lit.int .u32 a).wf=true) (b:Int) (hb:(Lit.int .u32 b).wf=true) (v0:Value) (h0:VA (qI w) w (.agg (M.aJ.map .p)) v0) (hL:laidMetH ab5 N.oK w) :
  Calls ab5 3 #[v0,.int .u32 a,.int .u32 b] w fun e w'=>e = .returned (.bool true)∧Below w.heap.size w w':=
 zX (E:=N.hH) (args:=[.agg (M.aJ.map .p),sI .u32 a,sI .u32 b]) (pure:=fun c o=> ∃v,w.cell? ⟨c,o,none⟩=some v) (N.VG M hM hs a ha b hb) (fun _ _ h=>h)
  ⟨h0,⟨.p _ _ (.sc _),⟨.p _ _ (.sc _),trivial⟩⟩⟩ ((Gw (N.BR hL) rfl).mono fun _ _ p=>⟨Gx (N.BR hL) _ _ p,rfl⟩)
set_option maxRecDepth 100000 in
theorem lifted (os:Os) (started:os.Started) (H:Type) (enc:TypeId×Value→H) :
  ReturnsInHanded {} aii os 3 .any (fun w args=>(ail.pre enc ab5 aif [] false w args∧laidMetH ab5 N.oK w)∧sizedMet enc ab5 aif (OpenSpec.ofChange ail) false w args) (ail.post enc ab5 aif false true false false):=by
 refine returnsInHanded_of_change_and (C:=aii) (X:=fun w _=>laidMetH ab5 N.oK w) (fun _ _ _ hh h=>h.of_heap hh) own started (by kernel_rfl) aij
  (ChangeSpec.witness_shaped (enc:=enc) (C:=aii) (os:=os) (X:=fun w _=>laidMetH ab5 N.oK w) false (World.laidAll ab5 os N.oK) #[.agg #[.slice none 0 0,.slice none 0 0,.slice none 0 0,.slice none 0 0,.slice none 0 0,.slice none 0 0,.slice none 0 0,.bool false,.int .u32 0,.slice none 0 0,.slice none 0 0],.int .u32 0,.int .u32 0] 8 (World.laidAll_os _ _ _)
    (World.shaped_of_ZipB (by kernel_rfl) (by kernel_rfl)) (by kernel_rfl) (by kernel_rfl) (by kernel_rfl)
    (by rw[MakeChecks.laidMetH_plain _ _ _ (by kernel_rfl)];exact laidMet_laidAll _ (by kernel_rfl) (by kernel_rfl))) ?_
 intro W base args ds gs before Wi hW _ Gc hL _
 have hW':=hW
 obtain⟨p,q,hA0,hV,rfl,hfz,hnd⟩:=hW
 have hA:DataW.TrodAll enc ab5 W 0 (fun _=>true) true aif.params.toList args.toList ds p:=hA0
 have hval : ∀(j:Nat) t v,aif.params[j]? = some t→args[j]? = some v→Value.okWide ab5 W .any base t v:=Wi
 rw[aih] at hA hval
 obtain⟨v0,vs0,d0,ds0,p0,q0,hargs,rfl,rfl,h0,r0⟩:=trodAll_cons hA
 obtain⟨v1,vs1,d1,ds1,p1,q1,rfl,rfl,rfl,h1,r1⟩:=trodAll_cons r0
 obtain⟨v2,vs2,d2,ds2,p2,q2,rfl,rfl,rfl,h2,r2⟩:=trodAll_cons r1
 obtain⟨rfl,rfl,rfl⟩:=trodAll_nil r2
 obtain rfl:args = #[v0,v1,v2]:=by cases args;simp_all
 obtain⟨rfl,rfl⟩:=trodVars_none hV
 obtain⟨cs0,rfl,_⟩:=okWide_struct (fs:=N.fieldsOf 32) (by kernel_rfl) (hval 0 32 v0 rfl rfl)
 obtain⟨aiV,h0⟩:=h0
 obtain⟨M,hM,hc,_⟩:=GJ N.moT h0
 have WO:M.short:=Sd N.moT N.moB h0 (fun n hn=>by
  have hall:=Lk.1 Gc n (oc (P:=ab5) (i:=0) (t:=32) (d:=d0) (by rw[aih];rfl) rfl n hn)
  simpa using hall) hc
 have ah3:=Xq (cs:=cs0) (l:=M.aJ) hc
 obtain⟨a1,rfl,rfl,rfl,w1⟩:=open_int (k:= .u32) (by kernel_rfl) (hval 1 28 v1 rfl rfl) h1
 obtain⟨a2,rfl,rfl,rfl,w2⟩:=open_int (k:= .u32) (by kernel_rfl) (hval 2 28 v2 rfl rfl) h2
 clear hA0 Wi
 simp only[List.append_nil] at hW'
 refine(walk W M hM WO a1 w1 a2 w2 _ ah3 hL).mono fun e W' ⟨he,hg⟩=> ?_
 subst he
 exact⟨_,rfl,Ny (by kernel_rfl) VH rfl Tryz.underlying4 rfl hW' rfl hg⟩
theorem over:aim.holds Tryz.pinned (OpenSpec.ofChange ail):=
 OpenClaim.holds_of_wide 3 aif rfl rfl rfl rfl rfl rfl rfl ⟨rfl,rfl,rfl,rfl,rfl⟩ rfl rfl rfl rfl rfl (by kernel_rfl) aij (by kernel_rfl)
  (of_decide_eq_true (by kernel_rfl)) (by unfold Func.isWrapper;first | (rw[if_pos (by decide +kernel)];kernel_rfl) | (rw[if_neg (by decide +kernel)];exact⟨rfl,rfl⟩))
  (fun os started H enc _=>lifted os started H enc)
theorem Mg:Rows.PlaceReadySaid:=over
theorem proved:Rows.PlaceReadyCardSaid:=
 Claim7.holds_tied_plain_at .later [] [.data,.listed,.data,.pinned] true Rows.placeReadyCard.stood.harness false
  Mg (fun _ h=>by cases h) (by kernel_rfl) (fun _ h=>by cases h) placeReady_row_tie rfl ⟨rfl,rfl⟩ (by kernel_rfl) rfl
  (fun f fn hf hfn=>by
    obtain rfl:f=3:=Option.some.inj ((show ab5.funcNamed aim.func=some 3 by kernel_rfl).symm.trans hf) |>.symm
    obtain rfl:fn=aif:=(Option.some.inj (aij.symm.trans hfn)).symm
    exact⟨by kernel_rfl,fun j t ht=>by
     rw[aih] at ht
     have hm:t∈([32,28,28]:List TypeId):=by simpa using Array.mem_of_getElem? ht
     have hall:(([32,28,28]:List TypeId).all fun u=> !Tryz.prog.wantsStandIn u)=true:=by kernel_rfl
     exact(show ab5.wantsStandIn t=false by simpa using Lk.1 hall t hm)⟩)
  (by kernel_rfl)
#print axioms proved
end Go.Proofs.YtjfgfhaoeicpdaaGreatDoor.placeReady
end
