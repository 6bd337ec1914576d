import Derived.Test.YtdmmllcjgjmbbaaGreatDoorPE
import Derived.Test.YtdmmllcjgjmbbaaGreatDoorPD
import Derived.Lib.DecodeN
open Nat renaming beq→ai,mul_one→aez,zero_add→ri,le_refl→aw,blt→bx,blt_eq→db,ble_eq→aey,reduceAdd→aex
open Go.Proofs.Tryz renaming prog→aeB
open Go.IntKind renaming i64→tp,i32→aeY,u32→acU,u8→aeZ,u64→ae1
open List renaming flatMap→adw,getElem?_eq_some_iff→dt,getElem?_eq_getElem→df,mem_of_getElem?→mf,drop_eq_getElem_cons→aeo,getD_eq_getElem?_getD→de,map→adP,range→fh,drop_zero→adr,mem_filter→ae2,drop_eq_nil_of_le→ae4,mem_range→abk,getElem_mem→eQ,length_append→du,getElem?_eq_none→dT,drop_length→aes,length_drop→ee,mem_append→oE,mem_map→fg,length_cons→na,nil_append→H0,mem_cons→pB,any_cons→aew
open True renaming intro→aeQ
open Int renaming toNat_natCast→aeL,add_assoc→ae6
open Bool renaming and_true→aeN,true_and→aeO,and_eq_true→jn,true_or→ae7,or_true→ae9,not_eq_true'→ka,false_or→xo,or_eq_true→j1,and_false→afa,false_and→afc,not_eq_false'→afe,or_eq_false_iff→qs,or_false→afm,false_eq_true→pD,not_false→qf
open Go.Value renaming int→vd,string→aeH
open ByteArray renaming mk→aeV
open BitVec renaming ofInt→fi
open Go.Utf8 renaming decode→afp
open Go.Lib renaming slowN→afv,decodeN→afC,decode_at→afG
open Min renaming min→aeJ
open Max renaming max→aeK
noncomputable section
section
set_option linter.unusedSimpArgs false
set_option linter.unusedVariables false
namespace Go.Proofs.YtdmmllcjgjmbbaaGreatDoor.N
open Go Go.Am
def vnQ (M:Mo) (i:Nat) (b:Bool) (e:Int) (k:Nat) (f:FuncId) (args:List AV) (m:Mem):Option (AV×Mem):=cond (ai f 88) (some (sB b,m)) (cond (ai f 92||ai f 98) (some (.aD [sI .i64 e,sI .i64 0],m)) none)
def vzC (M:Mo) (i:Nat) (p q e a:Int) (b:Bool) (f:FuncId) (args:List AV) (m:Mem):Option (AV×Mem):=cond (ai f 40||ai f 92) (some (.aD [sI .i64 e,sI .i64 a],m)) (cond (ai f 8) (some (.aD [.agg [sI .i64 p,sI .i64 q],sB b],m)) none)
abbrev jf (x0:List Ins):List AV:=[.p (.ps x0.length 8 (ak x0))]
theorem wv (l:List Ins) (c:Int):aE aeB env (aJ (fun f _ m=>cond (ai f 106) (some (sI .i64 c,m)) none) av [] (fm 89 [(2,4),(2,11),(0,0)]) (fm 89 [(2,5),(2,7),(4,1),(4,3)])) 1000000 89 ([aL l]) ([]) (jv 4 5659).1 =
(.test ((↑l.length:Int) != 1)
 (.out (.ret (.aD [sI .u32 0,sI .i64 210]) []))
 (.must (bE 0 l.length&&true&&true)
 (.must (isInt tp (aA (ak l) 0)&&true)
 (.test (au (aA (ak l) 0) != 65)
 (.out (.ret (.aD [sI .u32 0,sI .i64 210]) []))
 (.call ⟨106,(jf l),[],sI .i64 c,[]⟩
 (.test (c != 0)
 (.out (.ret (.aD [sI .u32 0,sI .i64 210]) []))
 (.must (bE 0 l.length&&true&&true)
 (.must (isInt aeY (aA (ak l) 4)&&true)
 (.out (.ret (.aD [sI .u32 (acU.wrap (au (aA (ak l) 4))),sI .i64 0]) [])))))))))):=by kernel_rfl
theorem Xb (l:List Ins) (u e:Int):aE aeB env (aJ (fun f _ m=>cond (ai f 89) (some (.aD [sI .u32 u,sI .i64 e],m)) none) av [] [] []) 1000000 88 ([aL l]) ([]) (.fin) =
(.call ⟨89,(jf l),[],.aD [sI .u32 u,sI .i64 e],[]⟩
 (.out (.ret (.p (.sc (.bool (e==0)))) []))):=by kernel_rfl
abbrev rZ (x0:Mo) (x1:Nat):List AV:=[.p (.ps (aq (aA (adw bC x0.gls) (aF x1*2+1))) (aK (aA (adw bC x0.gls) (aF x1*2+1))) (aj (aA (adw bC x0.gls) (aF x1*2+1))))]
theorem Xc (M:Mo) (i:Nat) (b:Bool) (e:Int):aE aeB env (aJ aB av [] [] [(94,0,0)]) 1000000 94 ([sI tp (↑i:Int),AV.mp 0 0,AV.mp 1 0]) ([bf.ac [AV.fn (Fn.func 88) [] []],bf.pc M.aH]) (.ou 94 1 (vnQ M i b e 0) .fin) =
(.call ⟨88,(rZ M i),[],.p (.sc (.bool b)),[]⟩
 (.call ⟨92,[.p (.sc (.bool b)),sI .i64 210],[],(fO e),[]⟩
 (.must (bE (↑i:Int) M.gls.length&&true&&true&&(aX (aA (adw bC M.gls) (aF i*2+1))&&true&&true)&&true)
 (.must true
 (.out (.ret (.aD [sI .i64 e,sI .i64 0]) (jd M))))))):=by kernel_rfl
abbrev sj (x0:Mo) (x1:Nat):List AV:=[.p (.ps (aq (aA (adw bz x0.bw) (aF x1*2+0))) (aK (aA (adw bz x0.bw) (aF x1*2+0))) (aj (aA (adw bz x0.bw) (aF x1*2+0))))]
theorem Xd (M:Mo) (i:Nat) (b:Bool) (e:Int):aE aeB env (aJ aB av [] [(100,0,0)] [(100,0,1)]) 1000000 100 ([sI tp (↑i:Int),AV.mp 0 0,AV.mp 1 0]) ([bf.pc M.aH,bf.ac [AV.fn (Fn.func 88) [] []]]) (.fork .fin (.ou 100 3 (vnQ M i b e 0) .fin)) =
(.test ((↑M.cL.length:Int)==0)
 (.must true
 (.out (.ret (.aD [sI .i64 6,sI .i64 0]) (gm M))))
 (.call ⟨88,(sj M i),[],.p (.sc (.bool b)),[]⟩
 (.call ⟨92,[.p (.sc (.bool b)),sI .i64 210],[],(fO e),[]⟩
 (.must (bE (↑i:Int) M.bw.length&&true&&true&&(aX (aA (adw bz M.bw) (aF i*2+0))&&true&&true)&&true)
 (.must true
 (.out (.ret (.aD [sI .i64 e,sI .i64 0]) (gm M)))))))):=by kernel_rfl
theorem Xe (M:Mo) (i:Nat) (b:Bool) (e:Int):aE aeB env (aJ aB av [] [] [(97,0,0)]) 1000000 97 ([sI tp (↑i:Int),AV.mp 0 0,AV.mp 1 0]) ([bf.pc M.aH,bf.ac [AV.fn (Fn.func 88) [] []]]) (.ou 97 1 (vnQ M i b e 0) .fin) =
(.call ⟨98,[.agg (adP AV.p M.aH),.agg [.p (.ps (aq (aA (adw aT M.els) (aF i*2))) (aK (aA (adw aT M.els) (aF i*2))) (aj (aA (adw aT M.els) (aF i*2)))),.p (.ps (aq (aA (adw aT M.els) (aF i*2+1))) (aK (aA (adw aT M.els) (aF i*2+1))) (aj (aA (adw aT M.els) (aF i*2+1))))],.fn (Fn.func 88) [] []],[],(fO e),[]⟩
 (.must (bE (↑i:Int) M.els.length&&true&&true&&(aX (aA (adw aT M.els) (aF i*2))&&(aX (aA (adw aT M.els) (aF i*2+1))&&true)&&true&&true)&&true)
 (.must true
 (.out (.ret (.aD [sI .i64 e,sI .i64 0]) (gm M)))))):=by kernel_rfl
abbrev oy (x0:Mo) (x1:Nat):List AV:=[.agg (adP AV.p x0.aH),sI .i64 (↑x1:Int)]
theorem Xf (M:Mo) (i:Nat) (p q e a:Int) (b:Bool):aE aeB env (aJ (vzC M i p q e a b) av [] [] []) 1000000 99 ([sI tp (↑i:Int),AV.mp 0 0]) ([bf.pc M.aH]) (.fin) =
(.call ⟨40,(oy M i),[],(eg e a),[]⟩
 (.out (.ret (.aD [sI .i64 e,sI .i64 a]) [.pc M.aH]))):=by kernel_rfl
abbrev gp (x0:Int) (x1:Int) (x2:Bool):AV:= .aD [.agg [sI .i64 x0,sI .i64 x1],.p (.sc (.bool x2))]
theorem Mu (M:Mo) (i:Nat) (p q e a:Int) (b:Bool):aE aeB env (aJ (vzC M i p q e a b) av [] [(96,0,0)] []) 1000000 96 ([sI tp (↑i:Int),AV.mp 0 0]) ([bf.pc M.aH]) (.fin) =
(.call ⟨8,[.agg (adP AV.p M.aH),sI .u32 M.sn],[],(gp p q b),[]⟩
 (.test (!b)
 (.out (.ret (.aD [sI .i64 6,sI .i64 0]) [.pc M.aH]))
 (.call ⟨92,[.p (.sc (.bool ((fun r=>p==0&&r) ((fun r=>q==0&&r) true)))),sI .i64 213],[],(eg e a),[]⟩
 (.out (.ret (.aD [sI .i64 e,sI .i64 a]) [.pc M.aH]))))):=by kernel_rfl
theorem Xg (M:Mo) (l:List Ins) (fs:List Int) (b:Bool):aE aeB env (aJ (fun f _ m=>cond (ai f 88) (some (sB b,m)) none) av [(98,2)] [(98,0,0),(98,0,1)] []) 1000000 98 ([AV.agg (adP AV.p M.aH),AV.agg [aL l,AV.p (PV.ps fs.length 1 (dg acU fs))],AV.fn (Fn.func 88) [] []]) ([]) (.fin) =
(.test ((↑M.cN.length:Int)==0)
 (.out (.ret (.aD [sI .i64 6,sI .i64 0]) []))
 (.call ⟨88,(jf l),[],.p (.sc (.bool b)),[]⟩
 (.test (!b)
 (.out (.ret (.aD [sI .i64 210,sI .i64 0]) []))
 (.at (ah aeB env 98 2 [.mp 0 0,.p (.ps fs.length 1 (dg acU fs)),sI .i64 (↑fs.length:Int),sI .i64 0] ([.pc M.aH]) 0 40))))):=by kernel_rfl
def iD (l:List Ins):Int:=match l with
 |[.mk op _ _ _ _ _ _ _]=>if op=65 then(if cT je l=0 then 0 else 210) else 210
 |_=>210
theorem KA (l:List Ins) (h:bF l≤100000000000) : ∃u,an aeB env 89 [aL l] [] (.aD [sI .u32 u,sI .i64 (iD l)]) []:=by
 have hc:=BJ DX l h
 match l,hc with
 |[],hc=>exact⟨0,aa aI (wv [] 0) (by simp[jf,br,aG.ok];rfl)⟩
 |x::y::r,hc=>
  have e:iD (x::y::r)=210:=by simp[iD]
  rw[e]
  exact⟨0,aa aI (wv (x::y::r) 0) ⟨fun _=>rfl,fun q=>by simp at q;omega⟩⟩
 |[.mk op r a b n tg ll le],hc=>
  by_cases ho:op=65
  · subst ho
    by_cases z:cT je [.mk 65 r a b n tg ll le]=0
    · have e:iD [.mk 65 r a b n tg ll le]=0:=by simp[iD,z]
      rw[z] at hc
      rw[e]
      exact⟨acU.wrap n,aa aI (wv _ 0) ⟨fun q=>by simp at q,fun _=>⟨rfl,rfl,fun q=>absurd (show((65:Int) != 65)=true from q) (by decide),fun _=>⟨hc,fun q=>by simp at q,fun _=>⟨rfl,rfl,rfl⟩⟩⟩⟩⟩
    · have e:iD [.mk 65 r a b n tg ll le]=210:=by simp[iD,z]
      rw[e]
      exact⟨0,aa aI (wv _ _) ⟨fun q=>by simp at q,fun _=>⟨rfl,rfl,fun q=>absurd (show((65:Int) != 65)=true from q) (by decide),fun _=>⟨hc,fun _=>rfl,fun q=>absurd (by simpa using q) z⟩⟩⟩⟩
  · have e:iD [.mk op r a b n tg ll le]=210:=by simp[iD,ho]
    rw[e]
    exact⟨0,aa aI (wv _ 0) ⟨fun q=>by simp at q,fun _=>⟨rfl,rfl,fun _=>rfl,fun q=>absurd (show(op != 65)=false from q) (by simpa using ho)⟩⟩⟩
theorem qe (l:List Ins) (h:bF l≤100000000000):an aeB env 88 [aL l] [] (sB (iD l==0)) []:=by
 obtain⟨u,k⟩:=KA l h
 refine aa aI (Xb l u (iD l)) ?_
 simp only[jf,aG.ok]
 exact⟨k,(by first|exact aeQ|rfl)⟩
def Cs (l:List Ins):Int:=if(iD l==0)=true then 0 else 210
theorem Xh (M:Mo) {i:Nat} (hi:i<M.gls.length) (h:bF M.gls[i].l≤100000000000):an aeB env 94 [sI .i64 i,.mp 0 0,.mp 1 0] (HG M) (.aD [sI .i64 (Cs M.gls[i].l),sI .i64 0]) (HG M):=by
 have hx:M.gls[i]? = some M.gls[i]:=df hi
 have c:=aQ (z:=2) (enc:=bC) (fun _=>rfl) hx
 have c0:(M.gls.flatMap bC).getD (i*2+1) .aU = .ps M.gls[i].l.length 8 (ak M.gls[i].l):=c 1 (by decide)
 have hin:=kg (i:=i) (n:=M.gls.length) (by omega)
 refine aa aI (Xc M i (iD M.gls[i].l==0) (Cs M.gls[i].l)) ?_
 simp only[rZ,jd,fO,br,aG.ok,aX,aq,aK,aj,aeL,c0,hin,aeN,aeO]
 exact⟨qe _ h,fI _ 210,(by first|rfl|trivial),(by first|rfl|trivial),(by first|rfl|trivial)⟩
theorem Xi (M:Mo) {i:Nat} (hi:i<M.bw.length) (h:bF M.bw[i].l≤100000000000):an aeB env 100 [sI .i64 i,.mp 0 0,.mp 1 0] (CX M) (.aD [sI .i64 (if M.cL.length=0 then 6 else Cs M.bw[i].l),sI .i64 0]) (CX M):=by
 have hx:M.bw[i]? = some M.bw[i]:=df hi
 have c:=aQ (z:=2) (enc:=bz) (fun _=>rfl) hx
 have c0:(M.bw.flatMap bz).getD (i*2+0) .aU = .ps M.bw[i].l.length 8 (ak M.bw[i].l):=c 0 (by decide)
 have hin:=kg (i:=i) (n:=M.bw.length) (by omega)
 refine aa aI (Xd M i (iD M.bw[i].l==0) (Cs M.bw[i].l)) ?_
 simp only[sj,gm,fO,br,aG.ok,aX,aq,aK,aj,aeL,c0,hin,aeN,aeO]
 by_cases z:M.cL.length=0
 · rw[if_pos z]
   exact⟨fun _=>(by first|exact⟨aeQ,rfl⟩|rfl),fun q=>absurd z (by intro e;simp[e] at q)⟩
 · rw[if_neg z]
   exact⟨fun q=>absurd (by simpa using q) z,fun _=>⟨qe _ h,fI _ 210,(by first|rfl|trivial),(by first|rfl|trivial),(by first|rfl|trivial)⟩⟩
end Go.Proofs.YtdmmllcjgjmbbaaGreatDoor.N
end
section
namespace Go.Am
open Go.RowKit
section
variable {P:Program} {E:Env} {g:Gh} {m:Mem} {w:World}
theorem Rel.Xj (h:Rel g m w) {i:Nat} {k k':eG} {l:List AV} (hb:m[i]? = some (.ob k l)) (hk : ∀ob vs,k.is ob vs→k'.is ob vs) (hr : ∀ob n,k'.room ob n) :
  Rel g (m.set i (.ob k' l)) w∧dU g m w g (m.set i (.ob k' l)) w:=by
 have own : ∀(j:Nat) (x:bf),(m.set i (.ob k' l))[j]? = some x→x.ep=true → ∃y:bf,m[j]? = some y∧y.ep=true:=fun j x hj ho=>by
  rcases bn hj with⟨rfl,_⟩|⟨_,q⟩
  · exact⟨_,hb,rfl⟩
  · exact⟨x,q,ho⟩
 refine⟨⟨fun j hj=>h.Cp j (by simpa using hj),fun j hj=> ?_,fun j x cs hj hx=> ?_,fun j c hj hc=> ?_,fun j q x x' c hj hq ho ho' hc iS=> ?_,h.there,fun j k1 l1 hj=> ?_⟩,
  ⟨aw _,fun _ _ _=>rfl,fun _ _ p=>⟨p,rfl⟩,fun _ _ p=> .inl p,fun c ho=> ?_,rfl,rfl,rfl⟩⟩
 · rcases bn hj with⟨_,q⟩|⟨_,q⟩
   · cases q
   · exact h.free j q
 · rcases bn hj with⟨_,rfl⟩|⟨_,q⟩
   · cases hx
   · exact h.cells j x cs q hx
 · rcases bn hj with⟨_,q⟩|⟨_,q⟩
   · cases q
   · exact h.tok j c q hc
 · obtain⟨y,y1,y2⟩:=own j x hj ho
   obtain⟨z,z1,z2⟩:=own q x' hq ho'
   exact h.inj j q y z c y1 z1 y2 z2 hc iS
 · rcases bn hj with⟨rfl,q⟩|⟨_,q⟩
   · cases q
     obtain⟨c,o,vs,k1,k2,k3,k4,k5,k6⟩:=h.obs _ _ _ hb
     exact⟨c,o,vs,k1,k2,k3,hk _ _ k4,k5,hr _ _⟩
   · exact h.obs j k1 l1 q
 · obtain⟨j,x,hj,hx,hc⟩:=ho
   obtain⟨y,y1,y2⟩:=own j x hj hx
   exact .inl ⟨j,y,y1,y2,hc⟩
theorem bp.more {c:cw} {s:ByteArray} {i:Nat} {o:Out} (hm:c.st.mem=[.ob (.iter s i) []]) (hc:nk c=true)
  (h:bp P E {c with st:={c.st with mem:=[.ob (.Wd s i (bx i s.size)) []]}} o):bp P E c o:=by
 refine bp.bL (fun g fr w hr cs=> ?_) h
 obtain⟨f,todo,st⟩:=c
 obtain⟨tm,nt,mem,fix,dj,cR⟩:=st
 dsimp only at hm
 subst hm
 match todo,hc with
 |.code j x::k,_=>
  obtain⟨b,a,q1,q2,q3,q4,q5,q6⟩:=hr
  obtain⟨n1,n2⟩:=q5.rel.Xj (i:=0) (k':= .Wd s i (bx i s.size)) rfl (fun ob vs e=>⟨e.1,e.2,rfl⟩) fun _ _=>trivial
  exact⟨g,fr,w,Steps.refl _ _,⟨b,a,q1,q2,q3,q4,⟨q5.tm,q5.nt,n1,q5.fix,q5.cX⟩,q6⟩,n2,fun _ _ _ iS=>⟨iS,rfl,rfl⟩,rfl,rfl,rfl⟩
end
end Go.Am
end
section
set_option linter.unusedSimpArgs false
set_option linter.unusedVariables false
namespace Go.Proofs.YtdmmllcjgjmbbaaGreatDoor.N
open Go Go.Am
def gz:List PV:=kO.map fun z=> .sc (.int .u8 z)
def drC (s:ByteArray) (w:Int) (fn:FuncId) (_:List AV) (m:Mem):Option (AV×Mem):=cond (ai fn 126) (some (.aD [.az,sI .i64 w],m)) none
def afR (s:ByteArray):FuncId→Nat→Nat→Option (AV→AV):=cJ [(126,6,2,sI .u8 241)]
def afS (s:ByteArray):FuncId→Nat→Nat→Option (AV→AV):=cJ [(126,6,2,sI .u8 2)]
def afT (s:ByteArray):FuncId→Nat→Nat→Option (AV→AV):=cJ [(126,6,2,sI .u8 19)]
def afU (s:ByteArray):FuncId→Nat→Nat→Option (AV→AV):=cJ [(126,6,2,sI .u8 3)]
def afV (s:ByteArray):FuncId→Nat→Nat→Option (AV→AV):=cJ [(126,6,2,sI .u8 35)]
def afW (s:ByteArray):FuncId→Nat→Nat→Option (AV→AV):=cJ [(126,6,2,sI .u8 52)]
def afX (s:ByteArray):FuncId→Nat→Nat→Option (AV→AV):=cJ [(126,6,2,sI .u8 4)]
def afY (s:ByteArray):FuncId→Nat→Nat→Option (AV→AV):=cJ [(126,6,2,sI .u8 68)]
def blC (s:ByteArray) (i:Nat) (w:Int) (fn:FuncId) (_:List AV) (m:Mem):Option (AV×Mem):=cond (ai fn 111) (some (.aD [.az,sI .i64 w],m)) none
abbrev dP (x0:ByteArray):Bool:=bE 0 x0.data.toList.length&&true
theorem HY (s:ByteArray) (w:Int):aE aeB env (aJ (drC s w) av [] [(111,2,3),(111,0,0)] [(111,2,4),(111,3,1)]) 1000000 111 ([AV.p (PV.sc (aeH s))]) ([]) (.fork .fin (.lit .fin)) =
(.test (!s.data.toList==(aeV #[]).data.toList)
 (.must ((dP s))
 (.test (decide ((↑(s.data.toList.getD 0 0).toNat:Int)<128))
 (.must ((dP s))
 (.out (.ret (.aD [sI .i32 (aeY.wrap (↑(s.data.toList.getD 0 0).toNat:Int)),sI .i64 1]) [])))
 (.call ⟨126,[.p (.sc (.string s))],[],.aD [.az,sI .i64 w],[]⟩
 (.out (.ret (.aD [.az,sI .i64 w]) [])))))
 (.call ⟨126,[.p (.sc (.string s))],[],.aD [.az,sI .i64 w],[]⟩
 (.out (.ret (.aD [.az,sI .i64 w]) [])))):=by kernel_rfl
abbrev eT (x0:ByteArray):Bool:=decide ((↑x0.data.toList.length:Int)<1)
abbrev eU (x0:ByteArray):Bool:=bE (↑(x0.data.toList.getD 0 0).toNat:Int) 256&&true
abbrev ig (x0:ByteArray):Bool:=isInt aeZ (aA gz (0+(↑(x0.data.toList.getD 0 0).toNat:Int).toNat*1))&&true
theorem Sy (s:ByteArray):aE aeB env (fc aB av [] [(126,0,0)] (fm 126 [(5,1),(6,1),(6,2),(9,1)]) (afR s)) 1000000 126 ([AV.p (PV.sc (aeH s))]) ([]) (.fin) =
(.test ((eT s))
 (.out (.ret (.aD [sI .i32 65533,sI .i64 0]) []))
 (.must ((dP s))
 (.must ((eU s))
 (.must ((ig s))
 (.need (sI .u8 (au (aA gz (0+(↑(s.data.toList.getD 0 0).toNat:Int).toNat*1)))=sI aeZ 241)
 (.must ((dP s))
 (.out (.ret (.aD [sI .i32 (aeY.wrap (↑(fi 32 (aeY.wrap (↑(fi 32 (aeY.wrap (↑(s.data.toList.getD 0 0).toNat:Int)) &&& ~~~fi 32 (-1)).toNat:Int))|||fi 32 65533).toNat:Int)),sI .i64 1]) [])))))))):=by kernel_rfl
theorem wz (s:ByteArray):aE aeB env (fc aB av [] (fm 126 [(0,0),(0,2),(15,5),(0,3)]) (fm 126 [(5,1),(6,1),(6,2),(14,1)]) (afS s)) 1000000 126 ([AV.p (PV.sc (aeH s))]) ([]) (jv 5 5729).1 =
(.test ((eT s))
 (.out (.ret (.aD [sI .i32 65533,sI .i64 0]) []))
 (.must ((dP s))
 (.must ((eU s))
 (.must ((ig s))
 (.need (sI .u8 (au (aA gz (0+(↑(s.data.toList.getD 0 0).toNat:Int).toNat*1)))=sI aeZ 2)
 (.test (decide ((↑s.data.toList.length:Int)<2))
 (.out (.ret (.aD [sI .i32 65533,sI .i64 1]) []))
 (.must (bE 1 s.data.toList.length&&true)
 (.test (decide ((↑(s.data.toList.getD 1 0).toNat:Int)<128))
 (.out (.ret (.aD [sI .i32 65533,sI .i64 1]) []))
 (.test (decide (191<(↑(s.data.toList.getD 1 0).toNat:Int)))
 (.out (.ret (.aD [sI .i32 65533,sI .i64 1]) []))
 (.out (.ret (.aD [sI .i32 (aeY.wrap (↑(fi 32 (aeY.wrap (aeY.wrap (aeZ.wrap (↑(fi 8 (↑(s.data.toList.getD 0 0).toNat:Int)&&&fi 8 31).toNat:Int))*64))|||fi 32 (aeY.wrap (aeZ.wrap (↑(fi 8 (↑(s.data.toList.getD 1 0).toNat:Int)&&&fi 8 63).toNat:Int)))).toNat:Int)),sI .i64 2]) []))))))))))):=by kernel_rfl
def aa2 (s:ByteArray):oP:=fc aB av [] (fm 126 [(0,0),(0,2),(15,5),(0,3),(20,3),(0,5)]) (fm 126 [(5,1),(6,1),(6,2),(14,1),(19,1)]) (afT s)
def adF:Sc:=(jv 7 17896354).1
def eV:aG:=
 (.out (.ret (.aD [sI .i32 65533,sI .i64 1]) []))
def jg (s:ByteArray) (v lo hi:Nat):aG:=
 (.test ((eT s))
 (.out (.ret (.aD [sI .i32 65533,sI .i64 0]) []))
 (.must ((dP s))
 (.must ((eU s))
 (.must ((ig s))
 (.need (sI .u8 (au (aA gz (0+(↑(s.data.toList.getD 0 0).toNat:Int).toNat*1)))=sI aeZ (↑v:Int))
 (.test (decide ((↑s.data.toList.length:Int)<3))
 (eV)
 (.must (bE 1 s.data.toList.length&&true)
 (.test (decide ((↑(s.data.toList.getD 1 0).toNat:Int)<(↑lo:Int)))
 (eV)
 (.test (decide ((↑hi:Int)<(↑(s.data.toList.getD 1 0).toNat:Int)))
 (eV)
 (.must (bE 2 s.data.toList.length&&true)
 (.test (decide ((↑(s.data.toList.getD 2 0).toNat:Int)<128))
 (eV)
 (.test (decide (191<(↑(s.data.toList.getD 2 0).toNat:Int)))
 (eV)
 (.out (.ret (.aD [sI .i32 (aeY.wrap (↑(fi 32 (aeY.wrap (↑(fi 32 (aeY.wrap (aeY.wrap (aeZ.wrap (↑(fi 8 (↑(s.data.toList.getD 0 0).toNat:Int)&&&fi 8 15).toNat:Int))*4096))|||fi 32 (aeY.wrap (aeY.wrap (aeZ.wrap (↑(fi 8 (↑(s.data.toList.getD 1 0).toNat:Int)&&&fi 8 63).toNat:Int))*64))).toNat:Int))|||fi 32 (aeY.wrap (aeZ.wrap (↑(fi 8 (↑(s.data.toList.getD 2 0).toNat:Int)&&&fi 8 63).toNat:Int)))).toNat:Int)),sI .i64 3]) []))))))))))))))
theorem Sz (s:ByteArray):aE aeB env (aa2 s) 1000000 126 ([AV.p (PV.sc (aeH s))]) ([]) adF=jg s 19 160 191:=by kernel_rfl
def aa3 (s:ByteArray):oP:=fc aB av [] (fm 126 [(0,0),(0,2),(15,5),(0,3),(20,3),(0,5)]) (fm 126 [(5,1),(6,1),(6,2),(14,1),(19,1)]) (afU s)
def adG:Sc:=(jv 7 17896354).1
theorem SA (s:ByteArray):aE aeB env (aa3 s) 1000000 126 ([AV.p (PV.sc (aeH s))]) ([]) adG=jg s 3 128 191:=by kernel_rfl
def aa4 (s:ByteArray):oP:=fc aB av [] (fm 126 [(0,0),(0,2),(15,5),(0,3),(20,3),(0,5)]) (fm 126 [(5,1),(6,1),(6,2),(14,1),(19,1)]) (afV s)
def adH:Sc:=(jv 7 17896354).1
theorem SB (s:ByteArray):aE aeB env (aa4 s) 1000000 126 ([AV.p (PV.sc (aeH s))]) ([]) adH=jg s 35 128 159:=by kernel_rfl
def aa5 (s:ByteArray):oP:=fc aB av [] (fm 126 [(0,0),(0,2),(15,5),(0,3),(20,3),(0,5),(25,3),(0,7)]) (fm 126 [(5,1),(6,1),(6,2),(14,1),(19,1),(24,1)]) (afW s)
def adI:Sc:=(jv 9 55926099479).1
def dn:aG:=
 (.out (.ret (.aD [sI .i32 65533,sI .i64 1]) []))
def gH (s:ByteArray) (v lo hi:Nat):aG:=
 (.test ((eT s))
 (.out (.ret (.aD [sI .i32 65533,sI .i64 0]) []))
 (.must ((dP s))
 (.must ((eU s))
 (.must ((ig s))
 (.need (sI .u8 (au (aA gz (0+(↑(s.data.toList.getD 0 0).toNat:Int).toNat*1)))=sI aeZ (↑v:Int))
 (.test (decide ((↑s.data.toList.length:Int)<4))
 (dn)
 (.must (bE 1 s.data.toList.length&&true)
 (.test (decide ((↑(s.data.toList.getD 1 0).toNat:Int)<(↑lo:Int)))
 (dn)
 (.test (decide ((↑hi:Int)<(↑(s.data.toList.getD 1 0).toNat:Int)))
 (dn)
 (.must (bE 2 s.data.toList.length&&true)
 (.test (decide ((↑(s.data.toList.getD 2 0).toNat:Int)<128))
 (dn)
 (.test (decide (191<(↑(s.data.toList.getD 2 0).toNat:Int)))
 (dn)
 (.must (bE 3 s.data.toList.length&&true)
 (.test (decide ((↑(s.data.toList.getD 3 0).toNat:Int)<128))
 (dn)
 (.test (decide (191<(↑(s.data.toList.getD 3 0).toNat:Int)))
 (dn)
 (.out (.ret (.aD [sI .i32 (aeY.wrap (↑(fi 32 (aeY.wrap (↑(fi 32 (aeY.wrap (↑(fi 32 (aeY.wrap (aeY.wrap (aeZ.wrap (↑(fi 8 (↑(s.data.toList.getD 0 0).toNat:Int)&&&fi 8 7).toNat:Int))*262144))|||fi 32 (aeY.wrap (aeY.wrap (aeZ.wrap (↑(fi 8 (↑(s.data.toList.getD 1 0).toNat:Int)&&&fi 8 63).toNat:Int))*4096))).toNat:Int))|||fi 32 (aeY.wrap (aeY.wrap (aeZ.wrap (↑(fi 8 (↑(s.data.toList.getD 2 0).toNat:Int)&&&fi 8 63).toNat:Int))*64))).toNat:Int))|||fi 32 (aeY.wrap (aeZ.wrap (↑(fi 8 (↑(s.data.toList.getD 3 0).toNat:Int)&&&fi 8 63).toNat:Int)))).toNat:Int)),sI .i64 4]) [])))))))))))))))))
theorem SC (s:ByteArray):aE aeB env (aa5 s) 1000000 126 ([AV.p (PV.sc (aeH s))]) ([]) adI=gH s 52 144 191:=by kernel_rfl
def aa6 (s:ByteArray):oP:=fc aB av [] (fm 126 [(0,0),(0,2),(15,5),(0,3),(20,3),(0,5),(25,3),(0,7)]) (fm 126 [(5,1),(6,1),(6,2),(14,1),(19,1),(24,1)]) (afX s)
def adJ:Sc:=(jv 9 55926099479).1
theorem SD (s:ByteArray):aE aeB env (aa6 s) 1000000 126 ([AV.p (PV.sc (aeH s))]) ([]) adJ=gH s 4 128 191:=by kernel_rfl
def aa7 (s:ByteArray):oP:=fc aB av [] (fm 126 [(0,0),(0,2),(15,5),(0,3),(20,3),(0,5),(25,3),(0,7)]) (fm 126 [(5,1),(6,1),(6,2),(14,1),(19,1),(24,1)]) (afY s)
def adK:Sc:=(jv 9 55926099479).1
theorem SE (s:ByteArray):aE aeB env (aa7 s) 1000000 126 ([AV.p (PV.sc (aeH s))]) ([]) adK=gH s 68 128 143:=by kernel_rfl
theorem SF (n:Nat) (l:List PV):aE aeB env (aJ aB av [(67,0)] [] [(67,2,1)]) 1000000 67 ([AV.p (PV.ps n 1 l)]) ([]) (.fin) =
(.must (l.all isByte&&true)
 (.at (ah aeB env 67 0 [.p (.sc (.string (aeV (adP Am.byteOf l).toArray))),.mp 0 0] ([.ob (eG.iter (aeV (adP Am.byteOf l).toArray) 0) []]) 0 28))):=by kernel_rfl
theorem SG (s:ByteArray) (i:Nat) (w:Int):grow aeB env (aJ (blC s i w) av [(67,0)] [(67,0,2),(67,0,3)] [(67,7,2)]) 1000000 true (ah aeB env 67 0 ([AV.p (PV.sc (aeH s)),AV.mp 0 0]) ([bf.ob (eG.Wd s i true) []]) 0 28) (.fin) atEnd =
(.test ((↑(afp s i).fst:Int) != 65533)
 (.at (ah aeB env 67 0 [.p (.sc (.string s)),.mp 0 0] ([.ob (eG.iter s (i+(afp s i).snd)) []]) 0 28))
 (.must ((aF i).ble s.data.toList.length&&s.data.toList.length.ble s.data.toList.length&&true)
 (.call ⟨111,[.p (.sc (.string (s.extract (aF i) s.data.toList.length)))],[],.aD [.az,sI .i64 w],[]⟩
 (.test (w==1)
 (.out (.ret (sI .i64 (↑i:Int)) []))
 (.at (ah aeB env 67 0 [.p (.sc (.string s)),.mp 0 0] ([.ob (eG.iter s (i+(afp s i).snd)) []]) 0 28)))))):=by kernel_rfl
theorem HZ (s:ByteArray) (i:Nat) (w:Int):grow aeB env (aJ (blC s i w) av [(67,0)] [] []) 1000000 true (ah aeB env 67 0 ([AV.p (PV.sc (aeH s)),AV.mp 0 0]) ([bf.ob (eG.Wd s i false) []]) 0 28) (.fin) atEnd =
(.out (.ret (sI .i64 (-1)) [])):=by kernel_rfl
theorem eA {f:FuncId} {args:List AV} {r w:Int} (h:an aeB env f args [] (.aD [sI .i32 r,sI .i64 w]) []):an aeB env f args [] (.aD [.az,sI .i64 w]) []:=
 h.weak fun g wd cv q=>by
   cases q with
   |aD _ cs hl hc=>
    have hv:dz g wd [sI .i32 r,sI .i64 w] cs.toList:=bN.dY hl hc
    refine VA.pP.2 ?_
    generalize cs.toList=vs at hv
    match vs,hv with
    |[u,t],hv=>
     obtain⟨_,h2,_⟩:=hv
     cases h2 with
     |p _ _ h2=>cases h2 with
      |sc=>exact⟨.az _,.p _ _ (.sc _),trivial⟩
theorem iq {b:Nat} (h:b<256):gz.getD b .aU = .sc (.int .u8 (kO.getD b 0)):=by
 have hl:kO.length=256:=by decide +kernel
 rw[gz,de,List.getElem?_map,df (by omega),de,df (by omega)]
 rfl
section
variable (s:ByteArray)
abbrev cY (j:Nat):Nat:=(s.data.toList.getD j 0).toNat
def nP (sz lo hi:Nat):Nat×Nat:=afv s.data.toList.length (cY s 0) (cY s 1) (cY s 2) (cY s 3) sz lo hi
theorem lZ (j:Nat):cY s j<256:=(s.data.toList.getD j 0).toNat_lt
theorem aa8 (b:Nat) (h:128≤b∧b<194∨245≤b∧b<256):gz.getD b .aU = .sc (.int .u8 241):=by
 have hb:b<256:=by omega
 have h:b∈(fh 256).filter (fun b=>decide (128≤b∧b<194∨245≤b∧b<256)):=ae2.2 ⟨abk.2 (by omega),decide_eq_true h⟩
 have hall : ∀b∈(fh 256).filter (fun b=>decide (128≤b∧b<194∨245≤b∧b<256)),kO.getD b 0=241:=by decide +kernel
 rw[iq hb,hall b h]
theorem SH (h0:0<s.data.toList.length) (hb:128≤cY s 0∧cY s 0<194∨245≤cY s 0∧cY s 0<256):an aeB env 126 [.p (.sc (.string s))] [] (.aD [.az,sI .i64 1]) []:=by
 have firstAt:gz.getD (0+(s.data.toList.getD 0 0).toNat*1) .aU = .sc (.int .u8 241):=by rw[ri,aez];exact aa8 (cY s 0) hb
 have hn0:decide ((s.data.toList.length:Int)<1)=false:=decide_eq_false (by omega)
 have hin : ∀j:Nat,j<s.data.toList.length→bE (j:Int) s.data.toList.length=true:=fun j h=>by simp only[bE,jn,decide_eq_true_eq];omega
 have nL:bE 0 s.data.toList.length=true:=hin 0 h0
 have iN:bE (cY s 0:Int) 256=true:=by simp only[bE,jn,decide_eq_true_eq];omega
 refine eA (r:=(aeY.wrap (↑(fi 32 (aeY.wrap (↑(fi 32 (aeY.wrap (↑(s.data.toList.getD 0 0).toNat:Int)) &&& ~~~fi 32 (-1)).toNat:Int))|||fi 32 65533).toNat:Int))) (aa aI (Sy s) ?_)
 simp only[ig,dP,eU,eT,br,aG.ok,hn0,nL,iN,aeL,firstAt,isInt,au,aeN,dO]
 first|rfl|exact⟨rfl,rfl⟩|exact⟨rfl,rfl,rfl⟩
theorem aa9 (b:Nat) (h:194≤b∧b<224):gz.getD b .aU = .sc (.int .u8 2):=by
 have hb:b<256:=by omega
 have h:b∈(fh 256).filter (fun b=>decide (194≤b∧b<224)):=ae2.2 ⟨abk.2 (by omega),decide_eq_true h⟩
 have hall : ∀b∈(fh 256).filter (fun b=>decide (194≤b∧b<224)),kO.getD b 0=2:=by decide +kernel
 rw[iq hb,hall b h]
theorem SI (h0:0<s.data.toList.length) (hb:194≤cY s 0∧cY s 0<224):an aeB env 126 [.p (.sc (.string s))] [] (.aD [.az,sI .i64 ((nP s 2 128 191).2:Nat)]) []:=by
 have firstAt:gz.getD (0+(s.data.toList.getD 0 0).toNat*1) .aU = .sc (.int .u8 2):=by rw[ri,aez];exact aa9 (cY s 0) hb
 have hn0:decide ((s.data.toList.length:Int)<1)=false:=decide_eq_false (by omega)
 have hin : ∀j:Nat,j<s.data.toList.length→bE (j:Int) s.data.toList.length=true:=fun j h=>by simp only[bE,jn,decide_eq_true_eq];omega
 have nL:bE 0 s.data.toList.length=true:=hin 0 h0
 have iN:bE (cY s 0:Int) 256=true:=by simp only[bE,jn,decide_eq_true_eq];omega
 by_cases q0:s.data.toList.length<2
 · have e0:decide ((s.data.toList.length:Int)<2)=true:=decide_eq_true (by omega)
   have hs:nP s 2 128 191=(65533,1):=by unfold nP afv;rw[if_pos q0]
   rw[hs]
   refine eA (r:=65533) (aa aI (wz s) ?_)
   simp only[ig,dP,eU,eT,br,aG.ok,hn0,nL,iN,aeL,firstAt,isInt,au,aeN,dO,e0]
   first|rfl|exact⟨rfl,rfl⟩|exact⟨rfl,rfl,rfl⟩
 have e0:decide ((s.data.toList.length:Int)<2)=false:=decide_eq_false (by omega)
 have hi1:bE 1 s.data.toList.length=true:=hin 1 (by omega)
 by_cases q1:cY s 1<128
 · have e1:decide ((cY s 1:Int)<128)=true:=decide_eq_true (by omega)
   have hs:nP s 2 128 191=(65533,1):=by unfold nP afv;rw[if_neg q0,if_pos (.inl q1)]
   rw[hs]
   refine eA (r:=65533) (aa aI (wz s) ?_)
   simp only[ig,dP,eU,eT,br,aG.ok,hn0,nL,iN,aeL,firstAt,isInt,au,aeN,dO,e0,e1,hi1]
   first|rfl|exact⟨rfl,rfl⟩|exact⟨rfl,rfl,rfl⟩
 have e1:decide ((cY s 1:Int)<128)=false:=decide_eq_false (by omega)
 by_cases q2:191<cY s 1
 · have e2:decide (191<(cY s 1:Int))=true:=decide_eq_true (by omega)
   have hs:nP s 2 128 191=(65533,1):=by unfold nP afv;rw[if_neg q0,if_pos (.inr q2)]
   rw[hs]
   refine eA (r:=65533) (aa aI (wz s) ?_)
   simp only[ig,dP,eU,eT,br,aG.ok,hn0,nL,iN,aeL,firstAt,isInt,au,aeN,dO,e0,e1,e2,hi1]
   first|rfl|exact⟨rfl,rfl⟩|exact⟨rfl,rfl,rfl⟩
 have e2:decide (191<(cY s 1:Int))=false:=decide_eq_false (by omega)
 have hs:nP s 2 128 191=(cY s 0%32*64+cY s 1%64,2):=by unfold nP afv;rw[if_neg q0,if_neg (not_or.2 ⟨q1,q2⟩),if_pos (by decide)]
 rw[hs]
 refine eA (r:=(aeY.wrap (↑(fi 32 (aeY.wrap (aeY.wrap (aeZ.wrap (↑(fi 8 (↑(s.data.toList.getD 0 0).toNat:Int)&&&fi 8 31).toNat:Int))*64))|||fi 32 (aeY.wrap (aeZ.wrap (↑(fi 8 (↑(s.data.toList.getD 1 0).toNat:Int)&&&fi 8 63).toNat:Int)))).toNat:Int))) (aa aI (wz s) ?_)
 simp only[ig,dP,eU,eT,br,aG.ok,hn0,nL,iN,aeL,firstAt,isInt,au,aeN,dO,e0,e1,e2,hi1]
 first|rfl|exact⟨rfl,rfl⟩|exact⟨rfl,rfl,rfl⟩
theorem yh {o:oP} {sc:Sc} {v lo hi:Nat} (ht:aE aeB env o 1000000 126 ([AV.p (PV.sc (aeH s))]) ([]) sc=jg s v lo hi) (h0:0<s.data.toList.length) (firstAt:gz.getD (0+(s.data.toList.getD 0 0).toNat*1) .aU = .sc (.int .u8 (v:Nat))):an aeB env 126 [.p (.sc (.string s))] [] (.aD [.az,sI .i64 ((nP s 3 lo hi).2:Nat)]) []:=by
 have hbl:=lZ s 0
 have hn0:decide ((s.data.toList.length:Int)<1)=false:=decide_eq_false (by omega)
 have hin : ∀j:Nat,j<s.data.toList.length→bE (j:Int) s.data.toList.length=true:=fun j h=>by simp only[bE,jn,decide_eq_true_eq];omega
 have nL:bE 0 s.data.toList.length=true:=hin 0 h0
 have iN:bE (cY s 0:Int) 256=true:=by simp only[bE,jn,decide_eq_true_eq];omega
 by_cases q0:s.data.toList.length<3
 · have e0:decide ((s.data.toList.length:Int)<3)=true:=decide_eq_true (by omega)
   have hs:nP s 3 lo hi=(65533,1):=by unfold nP afv;rw[if_pos q0]
   rw[hs]
   refine eA (r:=65533) (aa aI (ht) ?_)
   simp only[jg,ig,dP,eU,eT,eV,br,aG.ok,hn0,nL,iN,aeL,firstAt,isInt,au,aeN,dO,e0]
   first|rfl|exact⟨rfl,rfl⟩|exact⟨rfl,rfl,rfl⟩
 have e0:decide ((s.data.toList.length:Int)<3)=false:=decide_eq_false (by omega)
 have hi1:bE 1 s.data.toList.length=true:=hin 1 (by omega)
 by_cases q1:cY s 1<lo
 · have e1:decide ((cY s 1:Int)<(lo:Int))=true:=decide_eq_true (by omega)
   have hs:nP s 3 lo hi=(65533,1):=by unfold nP afv;rw[if_neg q0,if_pos (.inl q1)]
   rw[hs]
   refine eA (r:=65533) (aa aI (ht) ?_)
   simp only[jg,ig,dP,eU,eT,eV,br,aG.ok,hn0,nL,iN,aeL,firstAt,isInt,au,aeN,dO,e0,e1,hi1]
   first|rfl|exact⟨rfl,rfl⟩|exact⟨rfl,rfl,rfl⟩
 have e1:decide ((cY s 1:Int)<(lo:Int))=false:=decide_eq_false (by omega)
 by_cases q2:hi<cY s 1
 · have e2:decide ((hi:Int)<(cY s 1:Int))=true:=decide_eq_true (by omega)
   have hs:nP s 3 lo hi=(65533,1):=by unfold nP afv;rw[if_neg q0,if_pos (.inr q2)]
   rw[hs]
   refine eA (r:=65533) (aa aI (ht) ?_)
   simp only[jg,ig,dP,eU,eT,eV,br,aG.ok,hn0,nL,iN,aeL,firstAt,isInt,au,aeN,dO,e0,e1,e2,hi1]
   first|rfl|exact⟨rfl,rfl⟩|exact⟨rfl,rfl,rfl⟩
 have e2:decide ((hi:Int)<(cY s 1:Int))=false:=decide_eq_false (by omega)
 have hi2:bE 2 s.data.toList.length=true:=hin 2 (by omega)
 by_cases q3:cY s 2<128
 · have e3:decide ((cY s 2:Int)<128)=true:=decide_eq_true (by omega)
   have hs:nP s 3 lo hi=(65533,1):=by unfold nP afv;rw[if_neg q0,if_neg (not_or.2 ⟨q1,q2⟩),if_neg (by decide),if_pos (.inl q3)]
   rw[hs]
   refine eA (r:=65533) (aa aI (ht) ?_)
   simp only[jg,ig,dP,eU,eT,eV,br,aG.ok,hn0,nL,iN,aeL,firstAt,isInt,au,aeN,dO,e0,e1,e2,e3,hi1,hi2]
   first|rfl|exact⟨rfl,rfl⟩|exact⟨rfl,rfl,rfl⟩
 have e3:decide ((cY s 2:Int)<128)=false:=decide_eq_false (by omega)
 by_cases q4:191<cY s 2
 · have e4:decide (191<(cY s 2:Int))=true:=decide_eq_true (by omega)
   have hs:nP s 3 lo hi=(65533,1):=by unfold nP afv;rw[if_neg q0,if_neg (not_or.2 ⟨q1,q2⟩),if_neg (by decide),if_pos (.inr q4)]
   rw[hs]
   refine eA (r:=65533) (aa aI (ht) ?_)
   simp only[jg,ig,dP,eU,eT,eV,br,aG.ok,hn0,nL,iN,aeL,firstAt,isInt,au,aeN,dO,e0,e1,e2,e3,e4,hi1,hi2]
   first|rfl|exact⟨rfl,rfl⟩|exact⟨rfl,rfl,rfl⟩
 have e4:decide (191<(cY s 2:Int))=false:=decide_eq_false (by omega)
 have hs:nP s 3 lo hi=(cY s 0%16*4096+cY s 1%64*64+cY s 2%64,3):=by unfold nP afv;rw[if_neg q0,if_neg (not_or.2 ⟨q1,q2⟩),if_neg (by decide),if_neg (not_or.2 ⟨q3,q4⟩),if_pos (by decide)]
 rw[hs]
 refine eA (r:=(aeY.wrap (↑(fi 32 (aeY.wrap (↑(fi 32 (aeY.wrap (aeY.wrap (aeZ.wrap (↑(fi 8 (↑(s.data.toList.getD 0 0).toNat:Int)&&&fi 8 15).toNat:Int))*4096))|||fi 32 (aeY.wrap (aeY.wrap (aeZ.wrap (↑(fi 8 (↑(s.data.toList.getD 1 0).toNat:Int)&&&fi 8 63).toNat:Int))*64))).toNat:Int))|||fi 32 (aeY.wrap (aeZ.wrap (↑(fi 8 (↑(s.data.toList.getD 2 0).toNat:Int)&&&fi 8 63).toNat:Int)))).toNat:Int))) (aa aI (ht) ?_)
 simp only[jg,ig,dP,eU,eT,eV,br,aG.ok,hn0,nL,iN,aeL,firstAt,isInt,au,aeN,dO,e0,e1,e2,e3,e4,hi1,hi2]
 first|rfl|exact⟨rfl,rfl⟩|exact⟨rfl,rfl,rfl⟩
theorem aba (b:Nat) (h:b=224):gz.getD b .aU = .sc (.int .u8 19):=by
 have hb:b<256:=by omega
 have h:b∈(fh 256).filter (fun b=>decide (b=224)):=ae2.2 ⟨abk.2 (by omega),decide_eq_true h⟩
 have hall : ∀b∈(fh 256).filter (fun b=>decide (b=224)),kO.getD b 0=19:=by decide +kernel
 rw[iq hb,hall b h]
theorem SJ (h0:0<s.data.toList.length) (hb:cY s 0=224):an aeB env 126 [.p (.sc (.string s))] [] (.aD [.az,sI .i64 ((nP s 3 160 191).2:Nat)]) []:=
 yh s (Sz s) h0 (by rw[ri,aez];exact aba (cY s 0) hb)
theorem abb (b:Nat) (h:225≤b∧b<237∨238≤b∧b<240):gz.getD b .aU = .sc (.int .u8 3):=by
 have hb:b<256:=by omega
 have h:b∈(fh 256).filter (fun b=>decide (225≤b∧b<237∨238≤b∧b<240)):=ae2.2 ⟨abk.2 (by omega),decide_eq_true h⟩
 have hall : ∀b∈(fh 256).filter (fun b=>decide (225≤b∧b<237∨238≤b∧b<240)),kO.getD b 0=3:=by decide +kernel
 rw[iq hb,hall b h]
theorem SK (h0:0<s.data.toList.length) (hb:225≤cY s 0∧cY s 0<237∨238≤cY s 0∧cY s 0<240):an aeB env 126 [.p (.sc (.string s))] [] (.aD [.az,sI .i64 ((nP s 3 128 191).2:Nat)]) []:=
 yh s (SA s) h0 (by rw[ri,aez];exact abb (cY s 0) hb)
theorem abc (b:Nat) (h:b=237):gz.getD b .aU = .sc (.int .u8 35):=by
 have hb:b<256:=by omega
 have h:b∈(fh 256).filter (fun b=>decide (b=237)):=ae2.2 ⟨abk.2 (by omega),decide_eq_true h⟩
 have hall : ∀b∈(fh 256).filter (fun b=>decide (b=237)),kO.getD b 0=35:=by decide +kernel
 rw[iq hb,hall b h]
theorem SL (h0:0<s.data.toList.length) (hb:cY s 0=237):an aeB env 126 [.p (.sc (.string s))] [] (.aD [.az,sI .i64 ((nP s 3 128 159).2:Nat)]) []:=
 yh s (SB s) h0 (by rw[ri,aez];exact abc (cY s 0) hb)
theorem yj {o:oP} {sc:Sc} {v lo hi:Nat} (ht:aE aeB env o 1000000 126 ([AV.p (PV.sc (aeH s))]) ([]) sc=gH s v lo hi) (h0:0<s.data.toList.length) (firstAt:gz.getD (0+(s.data.toList.getD 0 0).toNat*1) .aU = .sc (.int .u8 (v:Nat))):an aeB env 126 [.p (.sc (.string s))] [] (.aD [.az,sI .i64 ((nP s 4 lo hi).2:Nat)]) []:=by
 have hbl:=lZ s 0
 have hn0:decide ((s.data.toList.length:Int)<1)=false:=decide_eq_false (by omega)
 have hin : ∀j:Nat,j<s.data.toList.length→bE (j:Int) s.data.toList.length=true:=fun j h=>by simp only[bE,jn,decide_eq_true_eq];omega
 have nL:bE 0 s.data.toList.length=true:=hin 0 h0
 have iN:bE (cY s 0:Int) 256=true:=by simp only[bE,jn,decide_eq_true_eq];omega
 by_cases q0:s.data.toList.length<4
 · have e0:decide ((s.data.toList.length:Int)<4)=true:=decide_eq_true (by omega)
   have hs:nP s 4 lo hi=(65533,1):=by unfold nP afv;rw[if_pos q0]
   rw[hs]
   refine eA (r:=65533) (aa aI (ht) ?_)
   simp only[gH,ig,dP,eU,eT,dn,br,aG.ok,hn0,nL,iN,aeL,firstAt,isInt,au,aeN,dO,e0]
   first|rfl|exact⟨rfl,rfl⟩|exact⟨rfl,rfl,rfl⟩
 have e0:decide ((s.data.toList.length:Int)<4)=false:=decide_eq_false (by omega)
 have hi1:bE 1 s.data.toList.length=true:=hin 1 (by omega)
 by_cases q1:cY s 1<lo
 · have e1:decide ((cY s 1:Int)<(lo:Int))=true:=decide_eq_true (by omega)
   have hs:nP s 4 lo hi=(65533,1):=by unfold nP afv;rw[if_neg q0,if_pos (.inl q1)]
   rw[hs]
   refine eA (r:=65533) (aa aI (ht) ?_)
   simp only[gH,ig,dP,eU,eT,dn,br,aG.ok,hn0,nL,iN,aeL,firstAt,isInt,au,aeN,dO,e0,e1,hi1]
   first|rfl|exact⟨rfl,rfl⟩|exact⟨rfl,rfl,rfl⟩
 have e1:decide ((cY s 1:Int)<(lo:Int))=false:=decide_eq_false (by omega)
 by_cases q2:hi<cY s 1
 · have e2:decide ((hi:Int)<(cY s 1:Int))=true:=decide_eq_true (by omega)
   have hs:nP s 4 lo hi=(65533,1):=by unfold nP afv;rw[if_neg q0,if_pos (.inr q2)]
   rw[hs]
   refine eA (r:=65533) (aa aI (ht) ?_)
   simp only[gH,ig,dP,eU,eT,dn,br,aG.ok,hn0,nL,iN,aeL,firstAt,isInt,au,aeN,dO,e0,e1,e2,hi1]
   first|rfl|exact⟨rfl,rfl⟩|exact⟨rfl,rfl,rfl⟩
 have e2:decide ((hi:Int)<(cY s 1:Int))=false:=decide_eq_false (by omega)
 have hi2:bE 2 s.data.toList.length=true:=hin 2 (by omega)
 by_cases q3:cY s 2<128
 · have e3:decide ((cY s 2:Int)<128)=true:=decide_eq_true (by omega)
   have hs:nP s 4 lo hi=(65533,1):=by unfold nP afv;rw[if_neg q0,if_neg (not_or.2 ⟨q1,q2⟩),if_neg (by decide),if_pos (.inl q3)]
   rw[hs]
   refine eA (r:=65533) (aa aI (ht) ?_)
   simp only[gH,ig,dP,eU,eT,dn,br,aG.ok,hn0,nL,iN,aeL,firstAt,isInt,au,aeN,dO,e0,e1,e2,e3,hi1,hi2]
   first|rfl|exact⟨rfl,rfl⟩|exact⟨rfl,rfl,rfl⟩
 have e3:decide ((cY s 2:Int)<128)=false:=decide_eq_false (by omega)
 by_cases q4:191<cY s 2
 · have e4:decide (191<(cY s 2:Int))=true:=decide_eq_true (by omega)
   have hs:nP s 4 lo hi=(65533,1):=by unfold nP afv;rw[if_neg q0,if_neg (not_or.2 ⟨q1,q2⟩),if_neg (by decide),if_pos (.inr q4)]
   rw[hs]
   refine eA (r:=65533) (aa aI (ht) ?_)
   simp only[gH,ig,dP,eU,eT,dn,br,aG.ok,hn0,nL,iN,aeL,firstAt,isInt,au,aeN,dO,e0,e1,e2,e3,e4,hi1,hi2]
   first|rfl|exact⟨rfl,rfl⟩|exact⟨rfl,rfl,rfl⟩
 have e4:decide (191<(cY s 2:Int))=false:=decide_eq_false (by omega)
 have hi3:bE 3 s.data.toList.length=true:=hin 3 (by omega)
 by_cases q5:cY s 3<128
 · have e5:decide ((cY s 3:Int)<128)=true:=decide_eq_true (by omega)
   have hs:nP s 4 lo hi=(65533,1):=by unfold nP afv;rw[if_neg q0,if_neg (not_or.2 ⟨q1,q2⟩),if_neg (by decide),if_neg (not_or.2 ⟨q3,q4⟩),if_neg (by decide),if_pos (.inl q5)]
   rw[hs]
   refine eA (r:=65533) (aa aI (ht) ?_)
   simp only[gH,ig,dP,eU,eT,dn,br,aG.ok,hn0,nL,iN,aeL,firstAt,isInt,au,aeN,dO,e0,e1,e2,e3,e4,e5,hi1,hi2,hi3]
   first|rfl|exact⟨rfl,rfl⟩|exact⟨rfl,rfl,rfl⟩
 have e5:decide ((cY s 3:Int)<128)=false:=decide_eq_false (by omega)
 by_cases q6:191<cY s 3
 · have e6:decide (191<(cY s 3:Int))=true:=decide_eq_true (by omega)
   have hs:nP s 4 lo hi=(65533,1):=by unfold nP afv;rw[if_neg q0,if_neg (not_or.2 ⟨q1,q2⟩),if_neg (by decide),if_neg (not_or.2 ⟨q3,q4⟩),if_neg (by decide),if_pos (.inr q6)]
   rw[hs]
   refine eA (r:=65533) (aa aI (ht) ?_)
   simp only[gH,ig,dP,eU,eT,dn,br,aG.ok,hn0,nL,iN,aeL,firstAt,isInt,au,aeN,dO,e0,e1,e2,e3,e4,e5,e6,hi1,hi2,hi3]
   first|rfl|exact⟨rfl,rfl⟩|exact⟨rfl,rfl,rfl⟩
 have e6:decide (191<(cY s 3:Int))=false:=decide_eq_false (by omega)
 have hs:nP s 4 lo hi=(cY s 0%8*262144+cY s 1%64*4096+cY s 2%64*64+cY s 3%64,4):=by unfold nP afv;rw[if_neg q0,if_neg (not_or.2 ⟨q1,q2⟩),if_neg (by decide),if_neg (not_or.2 ⟨q3,q4⟩),if_neg (by decide),if_neg (not_or.2 ⟨q5,q6⟩)]
 rw[hs]
 refine eA (r:=(aeY.wrap (↑(fi 32 (aeY.wrap (↑(fi 32 (aeY.wrap (↑(fi 32 (aeY.wrap (aeY.wrap (aeZ.wrap (↑(fi 8 (↑(s.data.toList.getD 0 0).toNat:Int)&&&fi 8 7).toNat:Int))*262144))|||fi 32 (aeY.wrap (aeY.wrap (aeZ.wrap (↑(fi 8 (↑(s.data.toList.getD 1 0).toNat:Int)&&&fi 8 63).toNat:Int))*4096))).toNat:Int))|||fi 32 (aeY.wrap (aeY.wrap (aeZ.wrap (↑(fi 8 (↑(s.data.toList.getD 2 0).toNat:Int)&&&fi 8 63).toNat:Int))*64))).toNat:Int))|||fi 32 (aeY.wrap (aeZ.wrap (↑(fi 8 (↑(s.data.toList.getD 3 0).toNat:Int)&&&fi 8 63).toNat:Int)))).toNat:Int))) (aa aI (ht) ?_)
 simp only[gH,ig,dP,eU,eT,dn,br,aG.ok,hn0,nL,iN,aeL,firstAt,isInt,au,aeN,dO,e0,e1,e2,e3,e4,e5,e6,hi1,hi2,hi3]
 first|rfl|exact⟨rfl,rfl⟩|exact⟨rfl,rfl,rfl⟩
theorem abd (b:Nat) (h:b=240):gz.getD b .aU = .sc (.int .u8 52):=by
 have hb:b<256:=by omega
 have h:b∈(fh 256).filter (fun b=>decide (b=240)):=ae2.2 ⟨abk.2 (by omega),decide_eq_true h⟩
 have hall : ∀b∈(fh 256).filter (fun b=>decide (b=240)),kO.getD b 0=52:=by decide +kernel
 rw[iq hb,hall b h]
theorem SM (h0:0<s.data.toList.length) (hb:cY s 0=240):an aeB env 126 [.p (.sc (.string s))] [] (.aD [.az,sI .i64 ((nP s 4 144 191).2:Nat)]) []:=
 yj s (SC s) h0 (by rw[ri,aez];exact abd (cY s 0) hb)
theorem abe (b:Nat) (h:241≤b∧b<244):gz.getD b .aU = .sc (.int .u8 4):=by
 have hb:b<256:=by omega
 have h:b∈(fh 256).filter (fun b=>decide (241≤b∧b<244)):=ae2.2 ⟨abk.2 (by omega),decide_eq_true h⟩
 have hall : ∀b∈(fh 256).filter (fun b=>decide (241≤b∧b<244)),kO.getD b 0=4:=by decide +kernel
 rw[iq hb,hall b h]
theorem SN (h0:0<s.data.toList.length) (hb:241≤cY s 0∧cY s 0<244):an aeB env 126 [.p (.sc (.string s))] [] (.aD [.az,sI .i64 ((nP s 4 128 191).2:Nat)]) []:=
 yj s (SD s) h0 (by rw[ri,aez];exact abe (cY s 0) hb)
theorem abf (b:Nat) (h:b=244):gz.getD b .aU = .sc (.int .u8 68):=by
 have hb:b<256:=by omega
 have h:b∈(fh 256).filter (fun b=>decide (b=244)):=ae2.2 ⟨abk.2 (by omega),decide_eq_true h⟩
 have hall : ∀b∈(fh 256).filter (fun b=>decide (b=244)),kO.getD b 0=68:=by decide +kernel
 rw[iq hb,hall b h]
theorem SO (h0:0<s.data.toList.length) (hb:cY s 0=244):an aeB env 126 [.p (.sc (.string s))] [] (.aD [.az,sI .i64 ((nP s 4 128 143).2:Nat)]) []:=
 yj s (SE s) h0 (by rw[ri,aez];exact abf (cY s 0) hb)
theorem SP (n b0 b1 b2 b3:Nat) (h:128≤b0∧b0<194∨245≤b0∧b0<256):(afC n b0 b1 b2 b3).2=1:=by
 unfold afC
 repeat' split
 all_goals first|rfl|omega
abbrev KB:Nat×Nat:=afC s.data.toList.length (cY s 0) (cY s 1) (cY s 2) (cY s 3)
theorem NZ (h0:0<s.data.toList.length) (hb:128≤cY s 0):an aeB env 126 [.p (.sc (.string s))] [] (.aD [.az,sI .i64 ((KB s).2:Nat)]) []:=by
 have a0:=lZ s 0
 have a1:=lZ s 1
 have a2:=lZ s 2
 have a3:=lZ s 3
 by_cases cB:128≤cY s 0∧cY s 0<194∨245≤cY s 0∧cY s 0<256
 · rw[KB,SP _ _ _ _ _ cB];exact SH s h0 cB
 by_cases cC:194≤cY s 0∧cY s 0<224
 · rw[KB,←Lib.slow_C2 _ _ _ _ _ h0 a1 a2 a3 cC];exact SI s h0 cC
 by_cases cD:cY s 0=224
 · rw[KB,←Lib.slow_E0 _ _ _ _ _ h0 a1 a2 a3 cD];exact SJ s h0 cD
 by_cases cE:225≤cY s 0∧cY s 0<237∨238≤cY s 0∧cY s 0<240
 · rw[KB,←Lib.slow_E1 _ _ _ _ _ h0 a1 a2 a3 cE];exact SK s h0 cE
 by_cases cF:cY s 0=237
 · rw[KB,←Lib.slow_ED _ _ _ _ _ h0 a1 a2 a3 cF];exact SL s h0 cF
 by_cases cG:cY s 0=240
 · rw[KB,←Lib.slow_F0 _ _ _ _ _ h0 a1 a2 a3 cG];exact SM s h0 cG
 by_cases cH:241≤cY s 0∧cY s 0<244
 · rw[KB,←Lib.slow_F1 _ _ _ _ _ h0 a1 a2 a3 cH];exact SN s h0 cH
 · have cI:cY s 0=244:=by omega
   rw[KB,←Lib.slow_F4 _ _ _ _ _ h0 a1 a2 a3 cI];exact SO s h0 cI
theorem KC (h0:0<s.data.toList.length):an aeB env 111 [.p (.sc (.string s))] [] (.aD [.az,sI .i64 ((KB s).2:Nat)]) []:=by
 have he:(s.data.toList==(aeV #[]).data.toList)=false:=by
  cases h:s.data.toList with
  |nil=>rw[h] at h0;cases h0
  |cons a r=>rfl
 have nL:bE 0 s.data.toList.length=true:=by simp only[bE,jn,decide_eq_true_eq];omega
 by_cases hb:cY s 0<128
 · have e:decide ((cY s 0:Int)<128)=true:=decide_eq_true (by omega)
   have hd:(KB s).2=1:=by unfold KB afC;rw[if_pos hb]
   rw[hd]
   refine eA (r:=aeY.wrap (cY s 0:Nat)) (aa aI (HY s 0) ?_)
   simp only[dP,aG.ok,he,nL,e,qf,aeN,dO]
   first|rfl|trivial
 · have e:decide ((cY s 0:Int)<128)=false:=decide_eq_false (by omega)
   refine aa aI (HY s ((KB s).2:Nat)) ?_
   simp only[dP,aG.ok,he,nL,e,qf,aeN,dO]
   exact NZ s h0 (by omega)
end
theorem Mv (s:ByteArray) (i:Nat):1≤(afp s i).2:=by
 rw[afG]
 unfold afC
 repeat' split
 all_goals simp
theorem qg (s:ByteArray) (i:Nat):(s.extract i s.data.toList.length).data.toList=s.data.toList.drop i:=by
 simp only[ByteArray.data_extract,Array.toList_extract,List.extract_eq_take_drop]
 rw[List.take_of_length_le]
 rw[ee]
 exact aw _
theorem H6 (s:ByteArray) (j:Nat):s.get! j=s.data.toList.getD j 0:=by
 obtain⟨d⟩:=s
 show d[j]! = d.toList.getD j 0
 rw[Array.getElem!_eq_getD,de,Array.getElem?_toList]
 by_cases h:j<d.size
 · simp[Array.getD,h]
 · simp[Array.getD,h];rfl
theorem SQ (s:ByteArray) (i:Nat):KB (s.extract i s.data.toList.length)=afp s i:=by
 have g : ∀j,(s.get! (i+j)).toNat=cY (s.extract i s.data.toList.length) j:=fun j=>by
  rw[H6,cY,qg,de,de,List.getElem?_drop]
 have g0:=g 0
 rw[Nat.add_zero] at g0
 rw[afG,KB,g0,g 1,g 2,g 3,qg,ee]
 rfl
def BR (s:ByteArray):Nat→Nat→Int
 |0,_=> -1
 |k+1,i=>if i<s.size then(if(afp s i).1=65533∧(afp s i).2=1 then i else BR s k (i+(afp s i).2)) else -1
def sk (s:ByteArray):Int:=BR s (s.size+1) 0
noncomputable abbrev zA (s:ByteArray) (k:eG):cw:=ah aeB env 67 0 [.p (.sc (.string s)),.mp 0 0] [.ob k []] 0 28
theorem abg (s:ByteArray) (i:Nat):(zA s (.iter s i)).st.mem=[.ob (.iter s i) []]:=by kernel_rfl
theorem Xk (s:ByteArray) (i:Nat):nk (zA s (.iter s i))=true:=by kernel_rfl
theorem Xl (s:ByteArray) (i:Nat) (b:Bool):({zA s (.iter s i) with st:={(zA s (.iter s i)).st with mem:=[.ob (.Wd s i b) []]}}:cw)=zA s (.Wd s i b):=by kernel_rfl
theorem Mw (s:ByteArray) (i:Nat) (o:Out) (h:bp aeB env (zA s (.Wd s i (bx i s.size))) o):bp aeB env (zA s (.iter s i)) o:=by
 rw[←Xl] at h
 have e1:=abg s i
 have e2:=Xk s i
 generalize zA s (.iter s i)=c at h e1 e2 ⊢
 exact Go.Am.bp.more e1 e2 h
theorem Xm (s:ByteArray) (hs:s.size≤maxLen) : ∀(k i:Nat),s.size+1≤i+k →
  bp aeB env (ah aeB env 67 0 [.p (.sc (.string s)),.mp 0 0] [.ob (.iter s i) []] 0 28) (.ret (sI .i64 (BR s k i)) []):=by
 intro k
 induction k with
 |zero=>
  intro i hi
  refine Mw s i _ ?_
  have hb:bx i s.size=false:=by cases h:bx i s.size with|false=>rfl|true=>rw[db] at h;omega
  rw[hb]
  exact af aI (HZ s i 0) rfl
 |succ k ih=>
  intro i hi
  refine Mw s i _ ?_
  by_cases hlt:i<s.size
  · have hb:bx i s.size=true:=by rw[db];exact hlt
    have hp:=Mv s i
    have hn:s.data.toList.length=s.size:=Array.length_toList
    have hc:=KC (s.extract i s.data.toList.length) (by rw[qg,ee];omega)
    rw[SQ] at hc
    rw[hb]
    refine af aI (SG s i ((afp s i).2:Nat)) ?_
    have next:=ih (i+(afp s i).2) (by omega)
    simp only[br,aG.ok,aeL,BR,if_pos hlt]
    refine⟨fun q=> ?_,fun q=>⟨?_,hc,fun r=> ?_,fun r=> ?_⟩⟩
    · have q:(afp s i).1≠65533:=fun h=>by rw[h] at q;exact absurd q (by decide)
      rw[if_neg (fun h=>q h.1)]
      exact next
    · simp only[aeN,jn,aey];omega
    · have q:(afp s i).1=65533:=by simp only[bne_eq_false_iff_eq] at q;omega
      have r:(afp s i).2=1:=by simp only[beq_iff_eq] at r;omega
      rw[if_pos ⟨q,r⟩]
    · have r:(afp s i).2≠1:=fun h=>by rw[h] at r;exact absurd r (by decide)
      rw[if_neg (fun h=>r h.2)]
      exact next
  · have hb:bx i s.size=false:=by cases h:bx i s.size with|false=>rfl|true=>rw[db] at h;omega
    rw[hb]
    refine af aI (HZ s i 0) ?_
    simp only[aG.ok,BR,if_neg hlt]
theorem Gb (s:ByteArray):aeV ((s.data.toList.map jx).map Am.byteOf).toArray=s:=by
 have h:(Am.byteOf ∘ jx)=id:=funext fun b=>by
  show UInt8.ofNat ((b.toNat:Int)).toNat=b
  simp
 rw[List.map_map,h,List.map_id]
theorem SR (l:List UInt8):(l.map jx).all isByte=true:=by
 rw[List.all_map,List.all_eq_true]
 intro b _
 rfl
theorem N0 (s:ByteArray) (hs:s.size≤maxLen):an aeB env 67 [.p (.ps s.data.toList.length 1 (s.data.toList.map jx))] [] (sI .i64 (sk s)) []:=by
 refine aa aI (SF s.data.toList.length (s.data.toList.map jx)) ?_
 simp only[aG.ok,Gb]
 exact⟨by rw[SR];rfl,Xm s hs (s.size+1) 0 (by omega)⟩
theorem SS (l:List Ins) (most:Int):aE aeB env (aJ aB av [(23,0)] [] []) 1000000 23 ([aL l,sI tp most]) ([]) (.fin) =
(.at (ah aeB env 23 0 [AV.p (PV.ps l.length 8 (ak l)),AV.p (PV.sc (vd tp most)),AV.p (PV.sc (vd tp 0)),AV.p (PV.sc (vd tp 0))] ([]) 0 58)):=by kernel_rfl
theorem D1 (l:List Ins) (most:Int) (n:Int) (i:Int) (R:List AV→Int):grow aeB env (aJ (fun f args m=>cond (ai f 23) (some (sI .i64 (R args),m)) none) av [(23,0)] (fm 23 [(4,5),(0,1),(0,2),(0,3)]) (fm 23 [(6,4),(6,6),(8,3),(8,5),(10,3),(10,5)])) 1000000 true (ah aeB env 23 0 ([aL l,sI tp most,sI tp n,sI tp i]) ([]) 0 58) (jv 5 80124).1 atEnd =
(.test (decide (i<(↑l.length:Int)))
   (.test (decide (n≤most))
    (.must (bE i l.length&&true&&true)
     (.must (aX (aA (ak l) (i.toNat*8+5))&&true)
      (.test (decide (tp.wrap (tp.wrap (n+1)+bif true then aeJ (↑(aq (aA (ak l) (i.toNat*8+5))):Int) most else aeK (↑(aq (aA (ak l) (i.toNat*8+5))):Int) most)≤most))
       (.must (bE i l.length&&true&&true)
        (.must (aX (aA (ak l) (i.toNat*8+6))&&true)
         (.call ⟨23,[AV.p (PV.ps (aq (aA (ak l) (i.toNat*8+6))) (aK (aA (ak l) (i.toNat*8+6))) (aj (aA (ak l) (i.toNat*8+6)))),AV.p (PV.sc (vd tp (tp.wrap (most-tp.wrap (tp.wrap (n+1)+bif true then aeJ (↑(aq (aA (ak l) (i.toNat*8+5))):Int) most else aeK (↑(aq (aA (ak l) (i.toNat*8+5))):Int) most)))))],[],AV.p (PV.sc (vd tp (R [AV.p (PV.ps (aq (aA (ak l) (i.toNat*8+6))) (aK (aA (ak l) (i.toNat*8+6))) (aj (aA (ak l) (i.toNat*8+6)))),AV.p (PV.sc (vd tp (tp.wrap (most-tp.wrap (tp.wrap (n+1)+bif true then aeJ (↑(aq (aA (ak l) (i.toNat*8+5))):Int) most else aeK (↑(aq (aA (ak l) (i.toNat*8+5))):Int) most)))))]))),[]⟩
          (.test (decide (tp.wrap (tp.wrap (tp.wrap (n+1)+bif true then aeJ (↑(aq (aA (ak l) (i.toNat*8+5))):Int) most else aeK (↑(aq (aA (ak l) (i.toNat*8+5))):Int) most)+R [AV.p (PV.ps (aq (aA (ak l) (i.toNat*8+6))) (aK (aA (ak l) (i.toNat*8+6))) (aj (aA (ak l) (i.toNat*8+6)))),AV.p (PV.sc (vd tp (tp.wrap (most-tp.wrap (tp.wrap (n+1)+bif true then aeJ (↑(aq (aA (ak l) (i.toNat*8+5))):Int) most else aeK (↑(aq (aA (ak l) (i.toNat*8+5))):Int) most)))))])≤most))
           (.must (bE i l.length&&true&&true)
            (.must (aX (aA (ak l) (i.toNat*8+7))&&true)
             (.call ⟨23,[AV.p (PV.ps (aq (aA (ak l) (i.toNat*8+7))) (aK (aA (ak l) (i.toNat*8+7))) (aj (aA (ak l) (i.toNat*8+7)))),AV.p (PV.sc (vd tp (tp.wrap (most-tp.wrap (tp.wrap (tp.wrap (n+1)+bif true then aeJ (↑(aq (aA (ak l) (i.toNat*8+5))):Int) most else aeK (↑(aq (aA (ak l) (i.toNat*8+5))):Int) most)+R [AV.p (PV.ps (aq (aA (ak l) (i.toNat*8+6))) (aK (aA (ak l) (i.toNat*8+6))) (aj (aA (ak l) (i.toNat*8+6)))),AV.p (PV.sc (vd tp (tp.wrap (most-tp.wrap (tp.wrap (n+1)+bif true then aeJ (↑(aq (aA (ak l) (i.toNat*8+5))):Int) most else aeK (↑(aq (aA (ak l) (i.toNat*8+5))):Int) most)))))])))))],[],AV.p (PV.sc (vd tp (R [AV.p (PV.ps (aq (aA (ak l) (i.toNat*8+7))) (aK (aA (ak l) (i.toNat*8+7))) (aj (aA (ak l) (i.toNat*8+7)))),AV.p (PV.sc (vd tp (tp.wrap (most-tp.wrap (tp.wrap (tp.wrap (n+1)+bif true then aeJ (↑(aq (aA (ak l) (i.toNat*8+5))):Int) most else aeK (↑(aq (aA (ak l) (i.toNat*8+5))):Int) most)+R [AV.p (PV.ps (aq (aA (ak l) (i.toNat*8+6))) (aK (aA (ak l) (i.toNat*8+6))) (aj (aA (ak l) (i.toNat*8+6)))),AV.p (PV.sc (vd tp (tp.wrap (most-tp.wrap (tp.wrap (n+1)+bif true then aeJ (↑(aq (aA (ak l) (i.toNat*8+5))):Int) most else aeK (↑(aq (aA (ak l) (i.toNat*8+5))):Int) most)))))])))))]))),[]⟩
              (.at (ah aeB env 23 0 [AV.p (PV.ps l.length 8 (ak l)),AV.p (PV.sc (vd tp most)),AV.p (PV.sc (vd tp (tp.wrap (tp.wrap (tp.wrap (tp.wrap (n+1)+bif true then aeJ (↑(aq (aA (ak l) (i.toNat*8+5))):Int) most else aeK (↑(aq (aA (ak l) (i.toNat*8+5))):Int) most)+R [AV.p (PV.ps (aq (aA (ak l) (i.toNat*8+6))) (aK (aA (ak l) (i.toNat*8+6))) (aj (aA (ak l) (i.toNat*8+6)))),AV.p (PV.sc (vd tp (tp.wrap (most-tp.wrap (tp.wrap (n+1)+bif true then aeJ (↑(aq (aA (ak l) (i.toNat*8+5))):Int) most else aeK (↑(aq (aA (ak l) (i.toNat*8+5))):Int) most)))))])+R [AV.p (PV.ps (aq (aA (ak l) (i.toNat*8+7))) (aK (aA (ak l) (i.toNat*8+7))) (aj (aA (ak l) (i.toNat*8+7)))),AV.p (PV.sc (vd tp (tp.wrap (most-tp.wrap (tp.wrap (tp.wrap (n+1)+bif true then aeJ (↑(aq (aA (ak l) (i.toNat*8+5))):Int) most else aeK (↑(aq (aA (ak l) (i.toNat*8+5))):Int) most)+R [AV.p (PV.ps (aq (aA (ak l) (i.toNat*8+6))) (aK (aA (ak l) (i.toNat*8+6))) (aj (aA (ak l) (i.toNat*8+6)))),AV.p (PV.sc (vd tp (tp.wrap (most-tp.wrap (tp.wrap (n+1)+bif true then aeJ (↑(aq (aA (ak l) (i.toNat*8+5))):Int) most else aeK (↑(aq (aA (ak l) (i.toNat*8+5))):Int) most)))))])))))])))),AV.p (PV.sc (vd tp (tp.wrap (i+1))))] ([]) 0 58)))))
           (.at (ah aeB env 23 0 [AV.p (PV.ps l.length 8 (ak l)),AV.p (PV.sc (vd tp most)),AV.p (PV.sc (vd tp (tp.wrap (tp.wrap (tp.wrap (n+1)+bif true then aeJ (↑(aq (aA (ak l) (i.toNat*8+5))):Int) most else aeK (↑(aq (aA (ak l) (i.toNat*8+5))):Int) most)+R [AV.p (PV.ps (aq (aA (ak l) (i.toNat*8+6))) (aK (aA (ak l) (i.toNat*8+6))) (aj (aA (ak l) (i.toNat*8+6)))),AV.p (PV.sc (vd tp (tp.wrap (most-tp.wrap (tp.wrap (n+1)+bif true then aeJ (↑(aq (aA (ak l) (i.toNat*8+5))):Int) most else aeK (↑(aq (aA (ak l) (i.toNat*8+5))):Int) most)))))])))),AV.p (PV.sc (vd tp (tp.wrap (i+1))))] ([]) 0 58))))))
       (.must (!(decide (tp.wrap (tp.wrap (n+1)+bif true then aeJ (↑(aq (aA (ak l) (i.toNat*8+5))):Int) most else aeK (↑(aq (aA (ak l) (i.toNat*8+5))):Int) most)≤most)))
        (.at (ah aeB env 23 0 [AV.p (PV.ps l.length 8 (ak l)),AV.p (PV.sc (vd tp most)),AV.p (PV.sc (vd tp (tp.wrap (tp.wrap (n+1)+bif true then aeJ (↑(aq (aA (ak l) (i.toNat*8+5))):Int) most else aeK (↑(aq (aA (ak l) (i.toNat*8+5))):Int) most)))),AV.p (PV.sc (vd tp (tp.wrap (i+1))))] ([]) 0 58))))))
    (.out (Out.ret (AV.p (PV.sc (vd tp n))) [])))
   (.out (Out.ret (AV.p (PV.sc (vd tp n))) []))):=by kernel_rfl
theorem H7 (R:List AV→Int) (hR : ∀l most,R [aL l,sI .i64 most]=dA l most 0) (l:List Ins) (most:Int) (h0:0≤most) (hm:most≤1000000000000) (hl:l.length≤maxLen)
  (IH : ∀x∈l,∀m':Int,0≤m'→m'≤most→an aeB env 23 [aL x.l,sI .i64 m'] [] (sI .i64 (dA x.l m' 0)) []∧an aeB env 23 [aL x.e,sI .i64 m'] [] (sI .i64 (dA x.e m' 0)) []) :
  ∀(r k:Nat) (n:Int),k+r=l.length→0≤n→n≤2*most+1→bp aeB env (ah aeB env 23 0 [aL l,sI .i64 most,sI .i64 n,sI .i64 k] [] 0 58) (.ret (sI .i64 (dA (l.drop k) most n)) []):=by
 intro r
 induction r with
 |zero=>
  intro k n hk hn0 hn
  refine af aI (D1 l most n k R) ?_
  have h1:l.drop k=[]:=ae4 (by omega)
  have h2 : ¬((k:Int)<l.length):=by omega
  simp[br,aG.ok,h1,h2,dA]
 |succ r ih=>
  intro k n hk hn0 hn
  refine af aI (D1 l most n k R) ?_
  have nM:k<l.length:=by omega
  have CT:l[k]? = some l[k]:=df nM
  have hmem:l[k]∈l:=eQ nM
  have hd:l.drop k=l[k]::l.drop (k+1):=aeo nM
  rw[hd]
  generalize l[k]=x at *
  obtain⟨op,rs,a,b,nn,tags,ll,le⟩:=x
  have hc:=oS CT
  have c5:(ak l).getD (k*8+5) .aU = .ps tags.length 1 (dg .u32 tags):=hc 5 (by omega)
  have c6:(ak l).getD (k*8+6) .aU = .ps ll.length 8 (ak ll):=hc 6 (by omega)
  have c7:(ak l).getD (k*8+7) .aU = .ps le.length 8 (ak le):=hc 7 (by omega)
  have hML:maxLen=9223372036854775807:=rfl
  have hw:tp.wrap ((k:Int)+1)=((k+1:Nat):Int):=by rw[aZ (by omega) (by omega)];rfl
  have hw1:tp.wrap (n+1)=n+1:=aZ (by omega) (by omega)
  have BS:(k:Int)<(l.length:Int):=by omega
  simp only[br,aG.ok,c5,c6,c7,aq,aK,aj,aX,aeL,bE,cond_true,hw,hw1]
  refine⟨fun _=>⟨fun hnm=>⟨by simp[BS],rfl,?_⟩,fun hnm=> ?_⟩,fun h=>absurd BS (by simpa using h)⟩
  · have hnm:n≤most:=by simpa using hnm
    have uq:=IH _ hmem
    simp only[dA,if_pos hnm,BB,Ins.l,Ins.e] at uq ⊢
    generalize hn1:n+1+min (tags.length:Int) most=n1
    have CN:0≤n1∧n1≤2*most+1:=by omega
    have hw2:tp.wrap n1=n1:=aZ (by omega) (by omega)
    simp only[hw2]
    have hw3:tp.wrap (most-n1)=most-n1:=aZ (by omega) (by omega)
    simp only[hw3,hR]
    refine⟨fun h1=> ?_,fun h1=> ?_⟩
    · have h1:n1≤most:=by simpa using h1
      rw[if_pos h1]
      have hb:=cP ll (most-n1) 0 (by omega) (by omega) (by omega)
      have hw4:tp.wrap (n1+dA ll (most-n1) 0)=n1+dA ll (most-n1) 0:=aZ (by omega) (by omega)
      refine⟨by simp[BS],rfl,(uq (most-n1) (by omega) (by omega)).1,?_⟩
      simp only[hw4]
      generalize hn2:n1+dA ll (most-n1) 0=n2
      have hr2:0≤n2∧n2≤2*most+1:=by omega
      have hw5:tp.wrap (most-n2)=most-n2:=aZ (by omega) (by omega)
      simp only[hw5]
      refine⟨fun h2=> ?_,fun h2=> ?_⟩
      · have h2:n2≤most:=by simpa using h2
        rw[if_pos h2]
        have hb2:=cP le (most-n2) 0 (by omega) (by omega) (by omega)
        have hw6:tp.wrap (n2+dA le (most-n2) 0)=n2+dA le (most-n2) 0:=aZ (by omega) (by omega)
        refine⟨by simp[BS],rfl,(uq (most-n2) (by omega) (by omega)).2,?_⟩
        simp only[hw6]
        exact ih (k+1) _ (by omega) (by omega) (by omega)
      · have h2 : ¬n2≤most:=by simpa using h2
        rw[if_neg h2]
        exact ih (k+1) n2 (by omega) (by omega) (by omega)
    · have h1 : ¬n1≤most:=by simpa using h1
      rw[if_neg h1,if_neg h1]
      refine⟨by simpa using h1,?_⟩
      exact ih (k+1) n1 (by omega) (by omega) (by omega)
  · have hnm : ¬n≤most:=by simpa using hnm
    simp only[dA,if_neg hnm]
theorem Q5 {l m:List Ins} (h:aL l=aL m):l=m:=by
 simp only[AV.p.injEq,PV.ps.injEq] at h
 exact oQ h.2.2
open Classical in
def abh (args:List AV):Int:=if h : ∃l most,args=[aL l,sI .i64 most] then dA h.choose h.choose_spec.choose 0 else 0
theorem Xn (l:List Ins) (most:Int):abh [aL l,sI .i64 most]=dA l most 0:=by
 have h : ∃l' most',[aL l,sI .i64 most]=[aL l',sI .i64 most']:=⟨l,most,rfl⟩
 have e:=h.choose_spec.choose_spec
 unfold abh
 rw[dif_pos h]
 have e1:=Q5 (List.cons.inj e).1
 have e2:most=h.choose_spec.choose:=by
  have:=(List.cons.inj (List.cons.inj e).2).1
  simpa only[AV.p.injEq,PV.sc.injEq,Value.int.injEq,true_and] using this
 have e:(h.choose,h.choose_spec.choose)=(l,most):=by rw[Prod.mk.injEq];exact⟨e1.symm,e2.symm⟩
 exact congrArg (fun q:List Ins×Int=>dA q.1 q.2 0) e
theorem jJ : ∀(N:Nat) (l:List Ins) (most:Int),gx l≤N→l.length≤maxLen→Ke l→0≤most→most≤1000000000000→an aeB env 23 [aL l,sI .i64 most] [] (sI .i64 (dA l most 0)) []
 |N,l,most,hN,hl,hw,h0,hm=>by
  have IH : ∀x∈l,∀m':Int,0≤m'→m'≤most→an aeB env 23 [aL x.l,sI .i64 m'] [] (sI .i64 (dA x.l m' 0)) []∧an aeB env 23 [aL x.e,sI .i64 m'] [] (sI .i64 (dA x.e m' 0)) []:=by
   intro x hx m' h0' hm'
   have hc:=nq hx
   have hwx:=Go.Am.qa hw hx
   obtain⟨op,rs,a,b,nn,tags,ll,le⟩:=x
   simp only[uM] at hc
   simp only[Jt] at hwx
   match N,hN with
   |0,hN=>omega
   |N+1,hN=>exact⟨jJ N ll m' (by omega) hwx.2.2.2.2.2.2.1.1 hwx.2.2.2.2.2.2.1.2 h0' (by omega),jJ N le m' (by omega) hwx.2.2.2.2.2.2.2.1 hwx.2.2.2.2.2.2.2.2 h0' (by omega)⟩
  refine aa aI (SS l most) ?_
  have h:=H7 abh Xn l most h0 hm hl IH l.length 0 0 (by omega) (by omega) (by omega)
  rw[adr] at h
  exact h
def lrC (M:Mo) (most n:Int) (i:Nat) (r:Int) (_:Nat) (f:FuncId) (_:List AV) (m:Mem):Option (AV×Mem):=cond (ai f 23) (some (sI .i64 r,m)) none
theorem SU (M:Mo) (most:Int):aE aeB env (aJ aB av [(6,1)] [(6,0,0)] []) 1000000 6 ([AV.agg (adP AV.p M.aH),sI tp most]) ([]) (.fin) =
(.test (decide (tp.wrap (tp.wrap (tp.wrap (tp.wrap (tp.wrap (tp.wrap (tp.wrap (tp.wrap ((↑M.tys.length:Int)+(↑M.aP.length:Int))+(↑M.fns.length:Int))+(↑M.cN.length:Int))+(↑M.cL.length:Int))+(↑M.gls.length:Int))+(↑M.exs.length:Int))+(↑M.els.length:Int))+(↑M.bw.length:Int))>most))
 iT
 (.at (ah aeB env 6 1 [sI .i64 most,.mp 0 0,sI .i64 (tp.wrap (tp.wrap (tp.wrap (tp.wrap (tp.wrap (tp.wrap (tp.wrap (tp.wrap ((↑M.tys.length:Int)+(↑M.aP.length:Int))+(↑M.fns.length:Int))+(↑M.cN.length:Int))+(↑M.cL.length:Int))+(↑M.gls.length:Int))+(↑M.exs.length:Int))+(↑M.els.length:Int))+(↑M.bw.length:Int))),sI .i64 0] ([.pc M.aH]) 0 188))):=by kernel_rfl
abbrev jC (x0:Nat) (x1:Mo):Bool:=bE (↑x0:Int) x1.fns.length&&true&&true
abbrev D2 (x0:Mo) (x1:Nat) (x2:Int):List AV:=[.p (.ps (aq (aA (adw aM x0.fns) (aF x1*3+1+1))) (aK (aA (adw aM x0.fns) (aF x1*3+1+1))) (aj (aA (adw aM x0.fns) (aF x1*3+1+1)))),sI .i64 x2]
abbrev gU (x0:Nat) (x1:Mo):Bool:=decide ((↑x0:Int)<(↑x1.fns.length:Int))
theorem D3 (M:Mo) (most n:Int) (i:Nat) (r:Int):grow aeB env (aJ aB av [(6,1),(6,3)] [(6,0,2)] [(6,8,4),(6,8,7)]) 1000000 true (ah aeB env 6 1 ([sI tp most,AV.mp 0 0,sI tp n,sI tp (↑i:Int)]) ([bf.pc M.aH]) 0 188) (.fork (.ans 23 (sI .i64 r) ([]) .fin) .fin) atEnd =
(.test ((gU i M))
 (.must ((jC i M))
 (.must (aX (aA (adw aM M.fns) (aF i*3+1+1))&&true)
 (.call ⟨23,(D2 M i most),[],sI .i64 r,[]⟩
 (.at (ah aeB env 6 1 [sI .i64 most,.mp 0 0,sI .i64 (tp.wrap (n+r)),sI .i64 (tp.wrap ((↑i:Int)+1))] ([.pc M.aH]) 0 188)))))
 (.at (ah aeB env 6 3 [sI .i64 most,.mp 0 0,sI .i64 n,sI .i64 0] ([.pc M.aH]) 0 188))):=by kernel_rfl
abbrev qh (x0:Mo) (x1:Nat):Bool:=aX (aA (adw bC x0.gls) (aF x1*2+1))&&true
abbrev D4 (x0:Mo) (x1:Nat) (x2:Int):List AV:=[.p (.ps (aq (aA (adw bC x0.gls) (aF x1*2+1))) (aK (aA (adw bC x0.gls) (aF x1*2+1))) (aj (aA (adw bC x0.gls) (aF x1*2+1)))),sI .i64 x2]
abbrev kD (x0:Nat) (x1:Mo):Bool:=decide ((↑x0:Int)<(↑x1.gls.length:Int))
theorem D5 (M:Mo) (most n:Int) (i:Nat) (r:Int):grow aeB env (aJ aB av [(6,3),(6,5)] [(6,0,4)] [(6,12,4),(6,12,6)]) 1000000 true (ah aeB env 6 3 ([sI tp most,AV.mp 0 0,sI tp n,sI tp (↑i:Int)]) ([bf.pc M.aH]) 0 188) (.fork (.ans 23 (sI .i64 r) ([]) .fin) .fin) atEnd =
(.test ((kD i M))
 (.must (bE (↑i:Int) M.gls.length&&true&&true)
 (.must ((qh M i))
 (.call ⟨23,(D4 M i most),[],sI .i64 r,[]⟩
 (.at (ah aeB env 6 3 [sI .i64 most,.mp 0 0,sI .i64 (tp.wrap (n+r)),sI .i64 (tp.wrap ((↑i:Int)+1))] ([.pc M.aH]) 0 188)))))
 (.at (ah aeB env 6 5 [sI .i64 most,.mp 0 0,sI .i64 n,sI .i64 0] ([.pc M.aH]) 0 188))):=by kernel_rfl
abbrev D6 (x0:Mo) (x1:Nat) (x2:Int):List AV:=[.p (.ps (aq (aA (adw aT x0.els) (aF x1*2+0))) (aK (aA (adw aT x0.els) (aF x1*2+0))) (aj (aA (adw aT x0.els) (aF x1*2+0)))),sI .i64 x2]
abbrev jh (x0:Nat) (x1:Mo):Bool:=decide ((↑x0:Int)<(↑x1.els.length:Int))
theorem D7 (M:Mo) (most n:Int) (i:Nat) (r:Int):grow aeB env (aJ aB av [(6,5),(6,7)] [(6,0,6)] [(6,0,7)]) 1000000 true (ah aeB env 6 5 ([sI tp most,AV.mp 0 0,sI tp n,sI tp (↑i:Int)]) ([bf.pc M.aH]) 0 188) (.fork (.ou 6 15 (lrC M most n i r 0) .fin) .fin) atEnd =
(.test ((jh i M))
 (.call ⟨23,(D6 M i most),[],sI .i64 r,[]⟩
 (.must (bE (↑i:Int) M.els.length&&true&&true&&(aX (aA (adw aT M.els) (aF i*2+0))&&true&&(bE (↑i:Int) M.els.length&&true&&true&&(aX (aA (adw aT M.els) (aF i*2+1))&&true&&true)))&&true)
 (.at (ah aeB env 6 5 [sI .i64 most,.mp 0 0,sI .i64 (tp.wrap (tp.wrap (n+r)+bif true then aeJ (↑(aq (aA (adw aT M.els) (aF i*2+1))):Int) most else aeK (↑(aq (aA (adw aT M.els) (aF i*2+1))):Int) most)),sI .i64 (tp.wrap ((↑i:Int)+1))] ([.pc M.aH]) 0 188))))
 (.at (ah aeB env 6 7 [sI .i64 most,.mp 0 0,sI .i64 n,sI .i64 0] ([.pc M.aH]) 0 188))):=by kernel_rfl
abbrev D8 (x0:Mo) (x1:Nat) (x2:Int):List AV:=[.p (.ps (aq (aA (adw bz x0.bw) (aF x1*2+0))) (aK (aA (adw bz x0.bw) (aF x1*2+0))) (aj (aA (adw bz x0.bw) (aF x1*2+0)))),sI .i64 x2]
abbrev ji (x0:Nat) (x1:Mo):Bool:=decide ((↑x0:Int)<(↑x1.bw.length:Int))
theorem D9 (M:Mo) (most n:Int) (i:Nat) (r:Int):grow aeB env (aJ aB av [(6,7),(6,9)] [(6,0,8)] [(6,0,9)]) 1000000 true (ah aeB env 6 7 ([sI tp most,AV.mp 0 0,sI tp n,sI tp (↑i:Int)]) ([bf.pc M.aH]) 0 188) (.fork (.ou 6 19 (lrC M most n i r 0) .fin) .fin) atEnd =
(.test ((ji i M))
 (.call ⟨23,(D8 M i most),[],sI .i64 r,[]⟩
 (.must (bE (↑i:Int) M.bw.length&&true&&true&&(aX (aA (adw bz M.bw) (aF i*2+0))&&true&&(bE (↑i:Int) M.bw.length&&true&&true&&(aX (aA (adw bz M.bw) (aF i*2+1))&&true&&true)))&&true)
 (.at (ah aeB env 6 7 [sI .i64 most,.mp 0 0,sI .i64 (tp.wrap (tp.wrap (n+r)+bif true then aeJ (↑(aq (aA (adw bz M.bw) (aF i*2+1))):Int) most else aeK (↑(aq (aA (adw bz M.bw) (aF i*2+1))):Int) most)),sI .i64 (tp.wrap ((↑i:Int)+1))] ([.pc M.aH]) 0 188))))
 (.at (ah aeB env 6 9 [sI .i64 most,.mp 0 0,sI .i64 n,sI .i64 0] ([.pc M.aH]) 0 188))):=by kernel_rfl
abbrev kE (x0:Nat) (x1:Mo):Bool:=decide ((↑x0:Int)<(↑x1.aP.length:Int))
theorem Ea (M:Mo) (most n:Int) (i:Nat) (r:Int):grow aeB env (aJ aB av [(6,9),(6,11)] [(6,0,10)] [(6,0,11)]) 1000000 true (ah aeB env 6 9 ([sI tp most,AV.mp 0 0,sI tp n,sI tp (↑i:Int)]) ([bf.pc M.aH]) 0 188) (.fin) atEnd =
(.test ((kE i M))
 (.must (bE (↑i:Int) M.aP.length&&true&&(isStr (aA (adw bg M.aP) (aF i*3+0))&&(bE (↑i:Int) M.aP.length&&true&&(isStr (aA (adw bg M.aP) (aF i*3+1))&&true)))&&true)
 (.at (ah aeB env 6 9 [sI .i64 most,.mp 0 0,sI .i64 (tp.wrap (tp.wrap (n+bif true then aeJ (↑(aY (aA (adw bg M.aP) (aF i*3+0))).data.toList.length:Int) most else aeK (↑(aY (aA (adw bg M.aP) (aF i*3+0))).data.toList.length:Int) most)+bif true then aeJ (↑(aY (aA (adw bg M.aP) (aF i*3+1))).data.toList.length:Int) most else aeK (↑(aY (aA (adw bg M.aP) (aF i*3+1))).data.toList.length:Int) most)),sI .i64 (tp.wrap ((↑i:Int)+1))] ([.pc M.aH]) 0 188)))
 (.at (ah aeB env 6 11 [sI .i64 most,.mp 0 0,sI .i64 n,sI .i64 0] ([.pc M.aH]) 0 188))):=by kernel_rfl
abbrev qi (x0:Mo) (x1:Nat):Bool:=isStr (aA (adw aV x0.exs) (aF x1*3+0))&&true
abbrev jL (x0:Nat) (x1:Mo):Bool:=decide ((↑x0:Int)<(↑x1.exs.length:Int))
abbrev jj (x0:Nat) (x1:Mo):Bool:=bE (↑x0:Int) x1.exs.length&&true&&true
theorem Eb (M:Mo) (most n:Int) (i:Nat) (r:Int):grow aeB env (aJ aB av [(6,11)] [(6,0,12)] [(6,28,4),(6,28,6)]) 1000000 true (ah aeB env 6 11 ([sI tp most,AV.mp 0 0,sI tp n,sI tp (↑i:Int)]) ([bf.pc M.aH]) 0 188) (.fin) atEnd =
(.test ((jL i M))
 (.must ((jj i M))
 (.must ((qi M i))
 (.at (ah aeB env 6 11 [sI .i64 most,.mp 0 0,sI .i64 (tp.wrap (n+bif true then aeJ (↑(aY (aA (adw aV M.exs) (aF i*3+0))).data.toList.length:Int) most else aeK (↑(aY (aA (adw aV M.exs) (aF i*3+0))).data.toList.length:Int) most)),sI .i64 (tp.wrap ((↑i:Int)+1))] ([.pc M.aH]) 0 188))))
 (.out (.ret (.p (.sc (.bool (decide (n>most))))) []))):=by kernel_rfl
theorem SV (s:ByteArray) (hs:s.size≤maxLen):an aeB env 66 [.p (.sc (.string s))] [] (sB (decide (sk s≥0))) []:=
 aa aI (RM s (sk s)) ⟨an.adt (m:=[.tok]) (args:=[.os (some 0) s.data.toList.length 1 (s.data.toList.map jx)]) (N0 s hs) ⟨PB.os (.refl _),trivial⟩,rfl⟩
def BT (s:ByteArray):Bool:=decide (sk s≥0)
def nZ (M:Mo):Bool:=M.tys.any yf||M.aP.any uQ||M.fns.any tN||(qP M).any BT||M.cN.any (mI 1048576)||M.cL.any (mI 65536)||M.exs.any uR||(!M.st&&M.sn != 0)
def Ec (M:Mo):Int:=if nZ M=true then 2 else if iC M 2=true then 2 else 0
theorem abi {M:Mo} (hM:M.wf) : ∀s∈qP M,s.size≤maxLen:=by
 intro s hs
 rcases oE.1 hs with h|h
 · obtain⟨x,hx,h⟩:=List.mem_flatMap.1 h
   have q:=hM.aP.2 x hx
   simp only[pB,List.not_mem_nil,or_false] at h
   rcases h with rfl|rfl
   · exact q.1
   · exact q.2.1
 · obtain⟨x,hx,rfl⟩:=fg.1 h
   exact(hM.exs.2 x hx).1
theorem N1 (M:Mo) (hM:M.fit) (hw:M.wf) (hs:M.rY):an aeB env 29 [.agg (M.aH.map .p)] [] (sI .i64 (Ec M)) []:=by
 have f1:=Sb M.tys (by have:=hM.tys;omega) yf (fun x _=>Sq x)
 have f2:=Se M.aP (by have:=hM.aP;omega) uQ (fun x _=>Su x)
 have f3:=Sg M.fns (by have:=hM.fns;omega) tN (fun x _=>Sw x)
 have f4:=R9 (qP M) (yg hM) BT (fun x hx=>SV x (abi hw x hx))
 have f5:=Si M.cN (by have:=hM.cN;omega) (mI 1048576) (fun x _=>Sr x)
 have f6:=Sk M.cL (by have:=hM.cL;omega) (mI 65536) (fun x _=>Ss x)
 have f7:=Sm M.exs (by have:=hM.exs;omega) uR (fun x _=>Sv x)
 have f8:=zz M hM hs 2
 have nd:=Sx M hM
 have hF:Ec M=if nZ M=true then 2 else if iC M 2=true then 2 else 0:=rfl
 have hB:nZ M=(M.tys.any yf||M.aP.any uQ||M.fns.any tN||(qP M).any BT||M.cN.any (mI 1048576)||M.cL.any (mI 65536)||M.exs.any uR||(!M.st&&M.sn != 0)):=rfl
 refine aa aI (RW M (M.tys.any yf) (M.aP.any uQ) (M.fns.any tN) ((qP M).any BT) (M.cN.any (mI 1048576)) (M.cL.any (mI 65536)) (M.exs.any uR) (qP M).length ((qP M).flatMap eF) (if iC M 2=true then 2 else 0)) ?_
 generalize (if iC M 2=true then(2:Int) else 0)=v at f8 hF ⊢
 rw[hF,hB]
 generalize M.tys.any yf=b1 at *
 generalize M.aP.any uQ=b2 at *
 generalize M.fns.any tN=b3 at *
 generalize (qP M).any BT=b4 at *
 generalize M.cN.any (mI 1048576)=b5 at *
 generalize M.cL.any (mI 65536)=b6 at *
 generalize M.exs.any uR=b7 at *
 simp only[Mr,bQ,iB,aG.ok]
 refine⟨f1,fun q1=> ?_,fun q1=>⟨f2,fun q2=> ?_,fun q2=>⟨f3,fun q3=> ?_,fun q3=>⟨nd,f4,fun q4=> ?_,fun q4=>⟨f5,fun q5=> ?_,fun q5=>⟨f6,fun q6=> ?_,fun q6=>⟨f7,fun q7=> ?_,fun q7=>⟨fun q9=>⟨fun q8=> ?_,fun q8=>⟨f8,?_⟩⟩,fun q9=>⟨f8,?_⟩⟩⟩⟩⟩⟩⟩⟩⟩
 · rw[if_pos (by simp only[q1,ae7])]
 · rw[if_pos (by simp only[q2,ae7,ae9])]
 · rw[if_pos (by simp only[q3,ae7,ae9])]
 · rw[if_pos (by simp only[q4,ae7,ae9])]
 · rw[if_pos (by simp only[q5,ae7,ae9])]
 · rw[if_pos (by simp only[q6,ae7,ae9])]
 · rw[if_pos (by simp only[q7,ae7,ae9])]
 · rw[if_pos (by simp only[q8,q9,aeN,ae9])]
 · rw[if_neg (by simp only[q1,q2,q3,q4,q5,q6,q7,q8,afa,afm,pD,not_false_eq_true])]
 · rw[if_neg (by simp only[q1,q2,q3,q4,q5,q6,q7,q9,afc,afm,pD,not_false_eq_true])]
def eB (M:Mo):Int:=if BQ M≠0 then BQ M else if D0 M≠0 then D0 M else Ec M
theorem zB (M:Mo) (hM:M.fit) (hw:M.wf) (hs:M.rY):an aeB env 12 [.agg (M.aH.map .p)] [] (sI .i64 (eB M)) []:=by
 refine aa aI (NV M (BQ M) (D0 M) (Ec M)) ?_
 simp only[bQ,aG.ok,eB,bne_iff_ne,ne_eq,bne_eq_false_iff_eq]
 refine⟨NY M hM hs,fun q=> ?_,fun q=>⟨NX M hM,fun r=> ?_,fun r=>⟨N1 M hM hw hs,fun t=> ?_,fun t=> ?_⟩⟩⟩
 · rw[if_pos q]
 · rw[if_neg (by simpa using q),if_pos r]
 · rw[if_neg (by simpa using q),if_neg (by simpa using r)]
 · rw[if_neg (by simpa using q),if_neg (by simpa using r),t]
def qj (x:Fu):Int:=dA x.l 5000 0
def ur (x:Gl):Int:=dA x.l 5000 0
def zC (x:El):Int:=dA x.l 5000 0+min (x.fs.length:Int) 5000
def Gx (x:Da):Int:=dA x.l 5000 0+min (x.bs.length:Int) 5000
def SW (x:Im):Int:=min (x.mo.data.toList.length:Int) 5000+min (x.nm.data.toList.length:Int) 5000
def wtF (x:Ex):Int:=min (x.nm.data.toList.length:Int) 5000
def bS {α:Type} (w:α→Int):Int→List α→Int
 |n,[]=>n
 |n,x::r=>bS w (n+w x) r
def ir (M:Mo) (t:Nat) (n:Int) (i:Nat):cw:=ah aeB env 6 t [sI .i64 5000,.mp 0 0,sI .i64 n,sI .i64 i] [.pc M.aH] 0 188
theorem tq {α:Type} {l:List α} {w:α→Int} {D:Int→Nat→cw} {K:Int→Prop} {o:Out} (hw : ∀x:α,0≤w x∧w x≤20000)
  (step : ∀(n:Int) (i:Nat) (x:α),l[i]? = some x→0≤n→n+w x≤1000000000000000→bp aeB env (D (n+w x) (i+1)) o→bp aeB env (D n i) o)
  (fin : ∀n,K n→bp aeB env (D n l.length) o) :
  ∀(r i:Nat) (n:Int),i+r=l.length→0≤n→n+r*20000≤1000000000000000→K (bS w n (l.drop i))→bp aeB env (D n i) o:=by
 intro r
 induction r with
 |zero=>
  intro i n hi h0 hn h
  obtain rfl:i=l.length:=by omega
  rw[aes] at h
  exact fin n h
 |succ r ih=>
  intro i n hi h0 hn h
  have hl:i<l.length:=by omega
  rw[aeo hl] at h
  have hx:=hw l[i]
  exact step n i l[i] (df hl) h0 (by omega) (ih (i+1) _ (by omega) (by omega) (by omega) h)
theorem bY {α:Type} {w:α→Int} (hw : ∀x:α,0≤w x∧w x≤20000) : ∀(l:List α) (n:Int),n≤bS w n l∧bS w n l≤n+l.length*20000
 |[],n=>by simp[bS]
 |x::r,n=>by
  have h:=bY hw r (n+w x)
  have hx:=hw x
  simp only[bS,na]
  omega
theorem lz {α:Type} {w:α→Int} (hw : ∀x:α,0≤w x∧w x≤20000) : ∀(l:List α) (n:Int) (x:α),x∈l→n+w x≤bS w n l
 |y::r,n,x,h=>by
  have hy:=hw y
  rcases pB.1 h with rfl|h
  · exact(bY hw r (n+w x)).1
  · have:=lz hw r (n+w y) x h
    simp only[bS]
    omega
theorem BU (x:Fu):0≤qj x∧qj x≤20000:=by have h:=cP x.l 5000 0 (by decide) (by decide) (by decide);unfold qj;omega
theorem BV (x:Gl):0≤ur x∧ur x≤20000:=by have h:=cP x.l 5000 0 (by decide) (by decide) (by decide);unfold ur;omega
theorem BW (x:El):0≤zC x∧zC x≤20000:=by have h:=cP x.l 5000 0 (by decide) (by decide) (by decide);unfold zC;omega
theorem BX (x:Da):0≤Gx x∧Gx x≤20000:=by have h:=cP x.l 5000 0 (by decide) (by decide) (by decide);unfold Gx;omega
theorem H8 (x:Im):0≤SW x∧SW x≤20000:=by unfold SW;omega
theorem Mx (x:Ex):0≤wtF x∧wtF x≤20000:=by unfold wtF;omega
theorem SX (M:Mo) (hM:M.wf) (h5:M.fns.length≤5000) (o:Out) (n:Int) (i:Nat) (x:Fu) (hx:M.fns[i]? = some x) (h0:0≤n) (hn:n+qj x≤1000000000000000) (h:bp aeB env (ir M 1 (n+qj x) (i+1)) o):bp aeB env (ir M 1 n i) o:=by
 have hi:i<M.fns.length:=(dt.1 hx).1
 have c:=aQ (z:=3) (enc:=aM) (fun _=>rfl) hx
 have c20:(M.fns.flatMap aM).getD (i*3+1+1) .aU=pL x.l:=c 2 (by decide)
 have c21:(M.fns.flatMap aM).getD (i*3+2) .aU=pL x.l:=c 2 (by decide)
 have w:=fk i (by omega)
 have hd:=kj (i:=i) (n:=M.fns.length) (by omega)
 have hI:=cP x.l 5000 0 (by decide) (by decide) (by decide)
 have hq:F6 x.l:=(hM.fns.2 x (mf hx)).2.2
 have hc:=jJ (gx x.l) x.l 5000 (aw _) hq.1 hq.2 (by decide) (by decide)
 unfold qj at h hn
 have w1:tp.wrap (n+dA x.l 5000 0)=n+dA x.l 5000 0:=aZ (by omega) (by omega)
 refine af aI (D3 M 5000 n i (dA x.l 5000 0)) ?_
 simp only[gU,D2,jC,br,aG.ok,isStr,aX,aY,aq,aK,aj,bE,aeL,c20,c21,hd,w,cond_true,cond_false,aeN,aeO,w1]
 exact⟨fun _=>⟨(by first|rfl|(simp only[jn,decide_eq_true_eq];omega)),(by first|rfl|trivial),hc,h⟩,fun q=>(by cases q)⟩
theorem Xo (M:Mo) (o:Out) (n:Int) (h:bp aeB env (ir M 3 n 0) o):bp aeB env (ir M 1 n M.fns.length) o:=by
 have hd:=lP M.fns.length
 refine af aI (D3 M 5000 n M.fns.length 0) ?_
 simp only[gU,D2,jC,br,aG.ok,hd]
 exact⟨nofun,fun _=>h⟩
theorem SY (M:Mo) (hM:M.wf) (h5:M.gls.length≤5000) (o:Out) (n:Int) (i:Nat) (x:Gl) (hx:M.gls[i]? = some x) (h0:0≤n) (hn:n+ur x≤1000000000000000) (h:bp aeB env (ir M 3 (n+ur x) (i+1)) o):bp aeB env (ir M 3 n i) o:=by
 have hi:i<M.gls.length:=(dt.1 hx).1
 have c:=aQ (z:=2) (enc:=bC) (fun _=>rfl) hx
 have c10:(M.gls.flatMap bC).getD (i*2+1) .aU=pL x.l:=c 1 (by decide)
 have w:=fk i (by omega)
 have hd:=kj (i:=i) (n:=M.gls.length) (by omega)
 have hI:=cP x.l 5000 0 (by decide) (by decide) (by decide)
 have hq:F6 x.l:=(hM.gls.2 x (mf hx))
 have hc:=jJ (gx x.l) x.l 5000 (aw _) hq.1 hq.2 (by decide) (by decide)
 unfold ur at h hn
 have w1:tp.wrap (n+dA x.l 5000 0)=n+dA x.l 5000 0:=aZ (by omega) (by omega)
 refine af aI (D5 M 5000 n i (dA x.l 5000 0)) ?_
 simp only[kD,D4,qh,br,aG.ok,isStr,aX,aY,aq,aK,aj,bE,aeL,c10,hd,w,cond_true,cond_false,aeN,aeO,w1]
 exact⟨fun _=>⟨(by first|rfl|(simp only[jn,decide_eq_true_eq];omega)),(by first|rfl|trivial),hc,h⟩,fun q=>(by cases q)⟩
theorem Xp (M:Mo) (o:Out) (n:Int) (h:bp aeB env (ir M 5 n 0) o):bp aeB env (ir M 3 n M.gls.length) o:=by
 have hd:=lP M.gls.length
 refine af aI (D5 M 5000 n M.gls.length 0) ?_
 simp only[kD,D4,qh,br,aG.ok,hd]
 exact⟨nofun,fun _=>h⟩
theorem SZ (M:Mo) (hM:M.wf) (h5:M.els.length≤5000) (o:Out) (n:Int) (i:Nat) (x:El) (hx:M.els[i]? = some x) (h0:0≤n) (hn:n+zC x≤1000000000000000) (h:bp aeB env (ir M 5 (n+zC x) (i+1)) o):bp aeB env (ir M 5 n i) o:=by
 have hi:i<M.els.length:=(dt.1 hx).1
 have c:=aQ (z:=2) (enc:=aT) (fun _=>rfl) hx
 have c00:(M.els.flatMap aT).getD (i*2) .aU=pL x.l:=c 0 (by decide)
 have c01:(M.els.flatMap aT).getD (i*2+0) .aU=pL x.l:=c 0 (by decide)
 have c12:(M.els.flatMap aT).getD (i*2+1) .aU=pT .u32 x.fs:=c 1 (by decide)
 have w:=fk i (by omega)
 have hd:=kj (i:=i) (n:=M.els.length) (by omega)
 have hI:=cP x.l 5000 0 (by decide) (by decide) (by decide)
 have hq:F6 x.l:=(hM.els.2 x (mf hx)).1
 have hc:=jJ (gx x.l) x.l 5000 (aw _) hq.1 hq.2 (by decide) (by decide)
 unfold zC at h hn
 have w1:tp.wrap (tp.wrap (n+dA x.l 5000 0)+min (x.fs.length:Int) 5000)=n+(dA x.l 5000 0+min (x.fs.length:Int) 5000):=by rw[aZ (n:=n+dA x.l 5000 0) (by omega) (by omega),ae6];exact aZ (by omega) (by omega)
 refine af aI (D7 M 5000 n i (dA x.l 5000 0)) ?_
 simp only[jh,D6,br,aG.ok,isStr,aX,aY,aq,aK,aj,bE,aeL,c00,c01,c12,hd,w,cond_true,cond_false,aeN,aeO,w1]
 exact⟨fun _=>⟨hc,(by first|rfl|(simp only[jn,decide_eq_true_eq];omega)),h⟩,fun q=>(by cases q)⟩
theorem Xq (M:Mo) (o:Out) (n:Int) (h:bp aeB env (ir M 7 n 0) o):bp aeB env (ir M 5 n M.els.length) o:=by
 have hd:=lP M.els.length
 refine af aI (D7 M 5000 n M.els.length 0) ?_
 simp only[jh,D6,br,aG.ok,hd]
 exact⟨nofun,fun _=>h⟩
theorem S0 (M:Mo) (hM:M.wf) (h5:M.bw.length≤5000) (o:Out) (n:Int) (i:Nat) (x:Da) (hx:M.bw[i]? = some x) (h0:0≤n) (hn:n+Gx x≤1000000000000000) (h:bp aeB env (ir M 7 (n+Gx x) (i+1)) o):bp aeB env (ir M 7 n i) o:=by
 have hi:i<M.bw.length:=(dt.1 hx).1
 have c:=aQ (z:=2) (enc:=bz) (fun _=>rfl) hx
 have c00:(M.bw.flatMap bz).getD (i*2) .aU=pL x.l:=c 0 (by decide)
 have c01:(M.bw.flatMap bz).getD (i*2+0) .aU=pL x.l:=c 0 (by decide)
 have c12:(M.bw.flatMap bz).getD (i*2+1) .aU=pT .u8 x.bs:=c 1 (by decide)
 have w:=fk i (by omega)
 have hd:=kj (i:=i) (n:=M.bw.length) (by omega)
 have hI:=cP x.l 5000 0 (by decide) (by decide) (by decide)
 have hq:F6 x.l:=(hM.bw.2 x (mf hx)).1
 have hc:=jJ (gx x.l) x.l 5000 (aw _) hq.1 hq.2 (by decide) (by decide)
 unfold Gx at h hn
 have w1:tp.wrap (tp.wrap (n+dA x.l 5000 0)+min (x.bs.length:Int) 5000)=n+(dA x.l 5000 0+min (x.bs.length:Int) 5000):=by rw[aZ (n:=n+dA x.l 5000 0) (by omega) (by omega),ae6];exact aZ (by omega) (by omega)
 refine af aI (D9 M 5000 n i (dA x.l 5000 0)) ?_
 simp only[ji,D8,br,aG.ok,isStr,aX,aY,aq,aK,aj,bE,aeL,c00,c01,c12,hd,w,cond_true,cond_false,aeN,aeO,w1]
 exact⟨fun _=>⟨hc,(by first|rfl|(simp only[jn,decide_eq_true_eq];omega)),h⟩,fun q=>(by cases q)⟩
theorem Xr (M:Mo) (o:Out) (n:Int) (h:bp aeB env (ir M 9 n 0) o):bp aeB env (ir M 7 n M.bw.length) o:=by
 have hd:=lP M.bw.length
 refine af aI (D9 M 5000 n M.bw.length 0) ?_
 simp only[ji,D8,br,aG.ok,hd]
 exact⟨nofun,fun _=>h⟩
theorem S1 (M:Mo) (hM:M.wf) (h5:M.aP.length≤5000) (o:Out) (n:Int) (i:Nat) (x:Im) (hx:M.aP[i]? = some x) (h0:0≤n) (hn:n+SW x≤1000000000000000) (h:bp aeB env (ir M 9 (n+SW x) (i+1)) o):bp aeB env (ir M 9 n i) o:=by
 have hi:i<M.aP.length:=(dt.1 hx).1
 have c:=aQ (z:=3) (enc:=bg) (fun _=>rfl) hx
 have c00:(M.aP.flatMap bg).getD (i*3) .aU = .sc (.string x.mo):=c 0 (by decide)
 have c01:(M.aP.flatMap bg).getD (i*3+0) .aU = .sc (.string x.mo):=c 0 (by decide)
 have c12:(M.aP.flatMap bg).getD (i*3+1) .aU = .sc (.string x.nm):=c 1 (by decide)
 have w:=fk i (by omega)
 have hd:=kj (i:=i) (n:=M.aP.length) (by omega)
 unfold SW at h hn
 have w1:tp.wrap (tp.wrap (n+min (x.mo.data.toList.length:Int) 5000)+min (x.nm.data.toList.length:Int) 5000)=n+(min (x.mo.data.toList.length:Int) 5000+min (x.nm.data.toList.length:Int) 5000):=by rw[aZ (n:=n+min (x.mo.data.toList.length:Int) 5000) (by omega) (by omega),ae6];exact aZ (by omega) (by omega)
 refine af aI (Ea M 5000 n i 0) ?_
 simp only[kE,br,aG.ok,isStr,aX,aY,aq,aK,aj,bE,aeL,c00,c01,c12,hd,w,cond_true,cond_false,aeN,aeO,w1]
 exact⟨fun _=>⟨(by first|rfl|(simp only[jn,decide_eq_true_eq];omega)),h⟩,fun q=>(by cases q)⟩
theorem Xs (M:Mo) (o:Out) (n:Int) (h:bp aeB env (ir M 11 n 0) o):bp aeB env (ir M 9 n M.aP.length) o:=by
 have hd:=lP M.aP.length
 refine af aI (Ea M 5000 n M.aP.length 0) ?_
 simp only[kE,br,aG.ok,hd]
 exact⟨nofun,fun _=>h⟩
theorem S2 (M:Mo) (hM:M.wf) (h5:M.exs.length≤5000) (o:Out) (n:Int) (i:Nat) (x:Ex) (hx:M.exs[i]? = some x) (h0:0≤n) (hn:n+wtF x≤1000000000000000) (h:bp aeB env (ir M 11 (n+wtF x) (i+1)) o):bp aeB env (ir M 11 n i) o:=by
 have hi:i<M.exs.length:=(dt.1 hx).1
 have c:=aQ (z:=3) (enc:=aV) (fun _=>rfl) hx
 have c00:(M.exs.flatMap aV).getD (i*3) .aU = .sc (.string x.nm):=c 0 (by decide)
 have c01:(M.exs.flatMap aV).getD (i*3+0) .aU = .sc (.string x.nm):=c 0 (by decide)
 have w:=fk i (by omega)
 have hd:=kj (i:=i) (n:=M.exs.length) (by omega)
 unfold wtF at h hn
 have w1:tp.wrap (n+min (x.nm.data.toList.length:Int) 5000)=n+min (x.nm.data.toList.length:Int) 5000:=aZ (by omega) (by omega)
 refine af aI (Eb M 5000 n i 0) ?_
 simp only[jj,jL,qi,br,aG.ok,isStr,aX,aY,aq,aK,aj,bE,aeL,c00,c01,hd,w,cond_true,cond_false,aeN,aeO,w1]
 exact⟨fun _=>⟨(by first|rfl|(simp only[jn,decide_eq_true_eq];omega)),(by first|rfl|trivial),h⟩,fun q=>(by cases q)⟩
theorem Xt (M:Mo) (o:Out) (n:Int) (h:Out.ret (sB (decide (n>5000))) []=o):bp aeB env (ir M 11 n M.exs.length) o:=by
 have hd:=lP M.exs.length
 refine af aI (Eb M 5000 n M.exs.length 0) ?_
 simp only[jj,jL,qi,br,aG.ok,hd]
 exact⟨nofun,fun _=>h⟩
def lens (M:Mo):Int:=M.tys.length+M.aP.length+M.fns.length+M.cN.length+M.cL.length+M.gls.length+M.exs.length+M.els.length+M.bw.length
def H9 (M:Mo):Int:=bS wtF (bS SW (bS Gx (bS zC (bS ur (bS qj (lens M) M.fns) M.gls) M.els) M.bw) M.aP) M.exs
def oz (M:Mo):Bool:=if lens M>5000 then true else decide (H9 M>5000)
def _root_.Go.Am.Mo.short (M:Mo):Prop:=M.tys.length≤1000000000000000∧M.aP.length≤1000000000000000∧M.fns.length≤1000000000000000∧M.cN.length≤1000000000000000∧M.cL.length≤1000000000000000∧M.gls.length≤1000000000000000∧M.exs.length≤1000000000000000∧M.els.length≤1000000000000000∧M.bw.length≤1000000000000000
theorem KD (M:Mo) (hw:M.wf) (hs:M.short):an aeB env 6 [.agg (M.aH.map .p),sI .i64 5000] [] (sB (oz M)) []:=by
 obtain⟨s1,s2,s3,s4,s5,s6,s7,s8,s9⟩:=hs
 have e:tp.wrap (tp.wrap (tp.wrap (tp.wrap (tp.wrap (tp.wrap (tp.wrap (tp.wrap ((M.tys.length:Int)+M.aP.length)+M.fns.length)+M.cN.length)+M.cL.length)+M.gls.length)+M.exs.length)+M.els.length)+M.bw.length)=lens M:=by
  unfold lens
  rw[aZ (n:=(M.tys.length:Int)+M.aP.length) (by omega) (by omega),aZ (n:=(M.tys.length:Int)+M.aP.length+M.fns.length) (by omega) (by omega),aZ (n:=(M.tys.length:Int)+M.aP.length+M.fns.length+M.cN.length) (by omega) (by omega),
   aZ (n:=(M.tys.length:Int)+M.aP.length+M.fns.length+M.cN.length+M.cL.length) (by omega) (by omega),aZ (n:=(M.tys.length:Int)+M.aP.length+M.fns.length+M.cN.length+M.cL.length+M.gls.length) (by omega) (by omega),
   aZ (n:=(M.tys.length:Int)+M.aP.length+M.fns.length+M.cN.length+M.cL.length+M.gls.length+M.exs.length) (by omega) (by omega),aZ (n:=(M.tys.length:Int)+M.aP.length+M.fns.length+M.cN.length+M.cL.length+M.gls.length+M.exs.length+M.els.length) (by omega) (by omega),aZ (by omega) (by omega)]
 refine aa aI (SU M 5000) ?_
 simp only[br,aG.ok,e]
 refine⟨fun q=> ?_,fun q=> ?_⟩
 · have q:lens M>5000:=by simpa using q
   rw[oz,if_pos q]
 · have q : ¬lens M>5000:=by simpa using q
   have hl:0≤lens M:=by unfold lens;omega
   rw[oz,if_neg q]
   have q:lens M≤5000:=by omega
   have l1:M.fns.length≤5000:=by unfold lens at q;omega
   have l2:M.gls.length≤5000:=by unfold lens at q;omega
   have l3:M.els.length≤5000:=by unfold lens at q;omega
   have l4:M.bw.length≤5000:=by unfold lens at q;omega
   have l5:M.aP.length≤5000:=by unfold lens at q;omega
   have l6:M.exs.length≤5000:=by unfold lens at q;omega
   have r1:=bY BU M.fns (lens M)
   have r2:=bY BV M.gls (bS qj (lens M) M.fns)
   have r3:=bY BW M.els (bS ur (bS qj (lens M) M.fns) M.gls)
   have r4:=bY BX M.bw (bS zC (bS ur (bS qj (lens M) M.fns) M.gls) M.els)
   have r5:=bY H8 M.aP (bS Gx (bS zC (bS ur (bS qj (lens M) M.fns) M.gls) M.els) M.bw)
   have k6:=tq Mx (S2 M hw l6 (.ret (sB (decide (H9 M>5000))) [])) (Xt M _) M.exs.length 0 (bS SW (bS Gx (bS zC (bS ur (bS qj (lens M) M.fns) M.gls) M.els) M.bw) M.aP) (by omega) (by omega) (by omega) rfl
   have k5:=tq H8 (S1 M hw l5 _) (Xs M _) M.aP.length 0 (bS Gx (bS zC (bS ur (bS qj (lens M) M.fns) M.gls) M.els) M.bw) (by omega) (by omega) (by omega) k6
   have k4:=tq BX (S0 M hw l4 _) (Xr M _) M.bw.length 0 (bS zC (bS ur (bS qj (lens M) M.fns) M.gls) M.els) (by omega) (by omega) (by omega) k5
   have k3:=tq BW (SZ M hw l3 _) (Xq M _) M.els.length 0 (bS ur (bS qj (lens M) M.fns) M.gls) (by omega) (by omega) (by omega) k4
   have k2:=tq BV (SY M hw l2 _) (Xp M _) M.gls.length 0 (bS qj (lens M) M.fns) (by omega) (by omega) (by omega) k3
   have k1:=tq BU (SX M hw l1 _) (Xo M _) M.fns.length 0 (lens M) (by omega) (by omega) (by omega) k2
   exact k1
theorem N2 {M:Mo} (h:oz M=false):M.fit∧M.rY∧lens M≤5000:=by
 unfold oz at h
 split at h
 · cases h
 rename_i q
 have h : ¬H9 M>5000:=by simpa using h
 have q:lens M≤5000:=by omega
 have q':=q
 unfold lens at q'
 have r1:=bY BU M.fns (lens M)
 have r2:=bY BV M.gls (bS qj (lens M) M.fns)
 have r3:=bY BW M.els (bS ur (bS qj (lens M) M.fns) M.gls)
 have r4:=bY BX M.bw (bS zC (bS ur (bS qj (lens M) M.fns) M.gls) M.els)
 have r5:=bY H8 M.aP (bS Gx (bS zC (bS ur (bS qj (lens M) M.fns) M.gls) M.els) M.bw)
 have r6:=bY Mx M.exs (bS SW (bS Gx (bS zC (bS ur (bS qj (lens M) M.fns) M.gls) M.els) M.bw) M.aP)
 unfold H9 at h
 have hl:0≤lens M:=by unfold lens;omega
 have cnt : ∀l:List Ins,dA l 5000 0≤5000→bF l≤100000000000:=fun l hl=>by
  have:=rU l 5000 0 (by decide) (by decide) hl
  have:=vZ l
  omega
 refine⟨⟨by omega,by omega,by omega,by omega,by omega,by omega,by omega,by omega,by omega⟩,fun l hm=> ?_,q⟩
 simp only[Aj,oE,fg] at hm
 rcases hm with((⟨x,hx,rfl⟩|⟨x,hx,rfl⟩)|⟨x,hx,rfl⟩)|⟨x,hx,rfl⟩
 · have:=lz BU M.fns (lens M) x hx
   exact cnt _ (by have e:qj x=dA x.l 5000 0:=rfl;omega)
 · have:=lz BV M.gls (bS qj (lens M) M.fns) x hx
   exact cnt _ (by have e:ur x=dA x.l 5000 0:=rfl;omega)
 · have:=lz BW M.els (bS ur (bS qj (lens M) M.fns) M.gls) x hx
   exact cnt _ (by have e:zC x=dA x.l 5000 0+min (x.fs.length:Int) 5000:=rfl;omega)
 · have:=lz BX M.bw (bS zC (bS ur (bS qj (lens M) M.fns) M.gls) M.els) x hx
   exact cnt _ (by have e:Gx x=dA x.l 5000 0+min (x.bs.length:Int) 5000:=rfl;omega)
def coS (_l:List Ins) (_n:Int) (i:Nat) (_op _r _a _b _nn:Int) (_tg:List Int) (_ll _le:List Ins) (_R:List PV→Int):FuncId→Nat→Nat→Option (AV→AV):=cJ [(36,5,1,sI .i64 ((i+1:Nat):Int)),(146,5,1,sI .i64 ((i+1:Nat):Int))]
def coL (_l:List Ins) (_n:Int) (_i:Nat) (_op _r _a _b _nn:Int) (_tg:List Int) (_ll _le:List Ins) (R:List PV→Int) (f:FuncId) (args:List AV) (m:Mem):Option (AV×Mem):=match args with|[.p (.ps _ _ cs)]=>cond (ai f 36||ai f 146) (some (sI .i64 (R cs),m)) none|_=>none
def alS (_l:List Ins) (i:Nat) (op r a b nn:Int) (tg:List Int) (ll le:List Ins) (_ok:Bool) (_R:List PV→Bool):FuncId→Nat→Nat→Option (AV→AV):=cJ [(145,4,1,sI .i64 ((i+1:Nat):Int)),(147,4,1,sI .i64 ((i+1:Nat):Int)),(145,5,3,cr op r a b nn tg ll le),(145,5,11,aL ll),(145,5,20,aL le),(147,5,4,.p (.ps tg.length 1 (dg .u32 tg))),(147,5,12,aL ll),(147,5,20,aL le)]
def alC (_l:List Ins) (_i:Nat) (_op _r _a _b _nn:Int) (_tg:List Int) (_ll _le:List Ins) (ok:Bool) (R:List PV→Bool) (f:FuncId) (args:List AV) (m:Mem):Option (AV×Mem):=match args with|[.p (.ps _ _ cs)]=>cond (ai f 145||ai f 147) (some (sB (R cs),m)) none|_=>cond (ai f 169) (some (sB ok,m)) none
theorem S3 (l:List Ins):aE aeB env (aJ aB av [(145,0)] [] []) 1000000 145 ([aL l]) ([]) (.fin) =
(.at (ah aeB env 145 0 [.p (.ps l.length 8 (ak l)),sI .i64 0] ([]) 0 34)):=by kernel_rfl
theorem S4 (l:List Ins):aE aeB env (aJ aB av [(36,0)] [] []) 1000000 36 ([aL l]) ([]) (.fin) =
(.at (ah aeB env 36 0 [.p (.ps l.length 8 (ak l)),sI .i64 (↑l.length:Int),sI .i64 0] ([]) 0 29)):=by kernel_rfl
theorem S5 (l:List Ins):aE aeB env (aJ aB av [(146,0)] [] []) 1000000 146 ([aL l]) ([]) (.fin) =
(.at (ah aeB env 146 0 [.p (.ps l.length 8 (ak l)),sI .i64 0,sI .i64 0] ([]) 0 28)):=by kernel_rfl
theorem S6 (l:List Ins):aE aeB env (aJ aB av [(147,0)] [] []) 1000000 147 ([aL l]) ([]) (.fin) =
(.at (ah aeB env 147 0 [.p (.ps l.length 8 (ak l)),sI .i64 0] ([]) 0 33)):=by kernel_rfl
abbrev yl (x0:List Ins) (x1:Nat):List AV:=[.p (.ps (aq (aA (ak x0) (aF x1*8+7))) (aK (aA (ak x0) (aF x1*8+7))) (aj (aA (ak x0) (aF x1*8+7))))]
abbrev ym (x0:List Ins) (x1:Nat):List AV:=[.p (.ps (aq (aA (ak x0) (aF x1*8+6))) (aK (aA (ak x0) (aF x1*8+6))) (aj (aA (ak x0) (aF x1*8+6))))]
abbrev Ed (x0:Nat) (x1:List Ins):Bool:=bE (↑x0:Int) x1.length&&true&&true&&(aX (aA (ak x1) (aF x0*8+6))&&true&&(bE (↑x0:Int) x1.length&&true&&true&&(aX (aA (ak x1) (aF x0*8+7))&&true&&true)))&&true
theorem Ia (l:List Ins) (n:Int) (i:Nat) (op r a b nn:Int) (tg:List Int) (ll:List Ins) (le:List Ins) (R:List PV→Int):grow aeB env (fc aB (coL l n i op r a b nn tg ll le R) [(36,0)] [(36,0,1)] [(36,0,2)] (coS l n i op r a b nn tg ll le R)) 1000000 true (ah aeB env 36 0 ([aL l,sI tp n,sI tp (↑i:Int)]) ([]) 0 29) (.fin) atEnd =
(.test ((dh i l))
 (.call ⟨36,(ym l i),[],sI .i64 (R (aj (aA (ak l) (aF i*8+6)))),[]⟩
 (.call ⟨36,(yl l i),[],sI .i64 (R (aj (aA (ak l) (aF i*8+7)))),[]⟩
 (.must ((Ed i l))
 (.need ((bK i))
 (.at (ah aeB env 36 0 [.p (.ps l.length 8 (ak l)),sI .i64 (tp.wrap (tp.wrap (n+R (aj (aA (ak l) (aF i*8+6))))+R (aj (aA (ak l) (aF i*8+7))))),sI .i64 (↑(i+1):Int)] ([]) 0 29))))))
 (.must true
 (.out (.ret (sI .i64 n) [])))):=by kernel_rfl
theorem Ib (l:List Ins) (n:Int) (i:Nat) (op r a b nn:Int) (tg:List Int) (ll:List Ins) (le:List Ins) (R:List PV→Int):grow aeB env (fc aB (coL l n i op r a b nn tg ll le R) [(146,0)] [(146,0,1)] [(146,0,2)] (coS l n i op r a b nn tg ll le R)) 1000000 true (ah aeB env 146 0 ([aL l,sI tp n,sI tp (↑i:Int)]) ([]) 0 28) (.fin) atEnd =
(.test ((dh i l))
 (.call ⟨146,(ym l i),[],sI .i64 (R (aj (aA (ak l) (aF i*8+6)))),[]⟩
 (.call ⟨146,(yl l i),[],sI .i64 (R (aj (aA (ak l) (aF i*8+7)))),[]⟩
 (.must ((Ed i l))
 (.need ((bK i))
 (.at (ah aeB env 146 0 [.p (.ps l.length 8 (ak l)),sI .i64 (bif false then aeJ n (tp.wrap (1+bif false then aeJ (R (aj (aA (ak l) (aF i*8+6)))) (R (aj (aA (ak l) (aF i*8+7)))) else aeK (R (aj (aA (ak l) (aF i*8+6)))) (R (aj (aA (ak l) (aF i*8+7)))))) else aeK n (tp.wrap (1+bif false then aeJ (R (aj (aA (ak l) (aF i*8+6)))) (R (aj (aA (ak l) (aF i*8+7)))) else aeK (R (aj (aA (ak l) (aF i*8+6)))) (R (aj (aA (ak l) (aF i*8+7))))))),sI .i64 (↑(i+1):Int)] ([]) 0 28))))))
 (.must true
 (.out (.ret (sI .i64 n) [])))):=by kernel_rfl
abbrev yp (x0:List Ins) (x1:Nat) (x2:List Ins):Prop:=AV.p (PV.ps (aq (aA (ak x0) (aF x1*8+7))) (aK (aA (ak x0) (aF x1*8+7))) (aj (aA (ak x0) (aF x1*8+7))))=aL x2
abbrev yq (x0:List Ins) (x1:Nat) (x2:List Ins):Prop:=AV.p (PV.ps (aq (aA (ak x0) (aF x1*8+6))) (aK (aA (ak x0) (aF x1*8+6))) (aj (aA (ak x0) (aF x1*8+6))))=aL x2
theorem Ic (l:List Ins) (i:Nat) (op r a b nn:Int) (tg:List Int) (ll:List Ins) (le:List Ins) (ok:Bool) (R:List PV→Bool):grow aeB env (fc (alC l i op r a b nn tg ll le ok R) av [(145,0)] (fm 145 [(0,1),(5,7),(5,16),(0,2)]) (fm 145 [(5,2),(5,3),(5,9),(5,11),(5,18),(5,20)]) (alS l i op r a b nn tg ll le ok R)) 1000000 true (ah aeB env 145 0 ([aL l,sI tp (↑i:Int)]) ([]) 0 34) (jv 5 28299).1 atEnd =
(.test ((dh i l))
 (.must ((gk i l))
 (.must ((qb l i))
 (.need ((qc l i op r a b nn tg ll le))
 (.call ⟨169,[.agg [sI .i64 op,sI .i64 r,sI .u32 a,sI .u32 b,sI .i32 nn,.p (.ps tg.length 1 (dg acU tg)),.p (.ps ll.length 8 (ak ll)),.p (.ps le.length 8 (ak le))]],[],.p (.sc (.bool ok)),[]⟩
 (.test (!ok)
 (.out (.ret (sB false) []))
 (.must ((gk i l))
 (.must (aX (aA (ak l) (aF i*8+6))&&true)
 (.need ((yq l i ll))
 (.call ⟨145,(jf ll),[],.p (.sc (.bool (R (ak ll)))),[]⟩
 (.test (!R (ak ll))
 (.out (.ret (sB false) []))
 (.must ((gk i l))
 (.must (aX (aA (ak l) (aF i*8+7))&&true)
 (.need ((yp l i le))
 (.call ⟨145,(jf le),[],.p (.sc (.bool (R (ak le)))),[]⟩
 (.test (!R (ak le))
 (.out (.ret (sB false) []))
 (.need ((bK i))
 (.at (ah aeB env 145 0 [.p (.ps l.length 8 (ak l)),sI .i64 (↑(i+1):Int)] ([]) 0 34))))))))))))))))))
 iT):=by kernel_rfl
theorem Ie (l:List Ins) (i:Nat) (op r a b nn:Int) (tg:List Int) (ll:List Ins) (le:List Ins) (ok:Bool) (R:List PV→Bool):grow aeB env (fc (alC l i op r a b nn tg ll le ok R) av [(147,0)] (fm 147 [(0,1),(5,8),(5,16),(0,2)]) (fm 147 [(5,2),(5,4),(5,10),(5,12),(5,18),(5,20)]) (alS l i op r a b nn tg ll le ok R)) 1000000 true (ah aeB env 147 0 ([aL l,sI tp (↑i:Int)]) ([]) 0 33) (jv 5 28299).1 atEnd =
(.test ((dh i l))
 (.must ((gk i l))
 (.must (aX (aA (ak l) (aF i*8+5))&&true)
 (.need (AV.p (PV.ps (aq (aA (ak l) (aF i*8+5))) (aK (aA (ak l) (aF i*8+5))) (aj (aA (ak l) (aF i*8+5))))=AV.p (PV.ps tg.length 1 (dg acU tg)))
 (.test (decide ((↑tg.length:Int)>16384))
 iT
 (.must ((gk i l))
 (.must (aX (aA (ak l) (aF i*8+6))&&true)
 (.need ((yq l i ll))
 (.call ⟨147,(jf ll),[],.p (.sc (.bool (R (ak ll)))),[]⟩
 (.test (R (ak ll))
 iT
 (.must ((gk i l))
 (.must (aX (aA (ak l) (aF i*8+7))&&true)
 (.need ((yp l i le))
 (.call ⟨147,(jf le),[],.p (.sc (.bool (R (ak le)))),[]⟩
 (.test (R (ak le))
 iT
 (.need ((bK i))
 (.at (ah aeB env 147 0 [.p (.ps l.length 8 (ak l)),sI .i64 (↑(i+1):Int)] ([]) 0 33)))))))))))))))))
 (.out (.ret (sB false) []))):=by kernel_rfl
theorem S7 (l:List Ins) (a:Bool) (n d:Int) (t:Bool):aE aeB env (aJ (fun f _ m=>cond (ai f 145) (some (sB a,m)) (cond (ai f 36) (some (sI .i64 n,m)) (cond (ai f 146) (some (sI .i64 d,m)) (cond (ai f 147) (some (sB t,m)) none)))) av [] (fm 124 [(0,0),(4,4),(4,9),(0,1)]) []) 1000000 124 ([aL l]) ([]) (jv 5 141479).1 =
(.call ⟨145,(jf l),[],.p (.sc (.bool a)),[]⟩
 (.test (!a)
 (.out (.ret (sI .i64 2) []))
 (.call ⟨36,(jf l),[],sI .i64 n,[]⟩
 (.test (decide (n>262144))
 (.out (.ret (sI .i64 141) []))
 (.call ⟨146,(jf l),[],sI .i64 d,[]⟩
 (.test (decide (d>900))
 (.out (.ret (sI .i64 141) []))
 (.call ⟨147,(jf l),[],.p (.sc (.bool t)),[]⟩
 (.test (t)
 (.out (.ret (sI .i64 141) []))
 (.out (.ret (sI .i64 0) [])))))))))):=by kernel_rfl
theorem N3 {p:Ins→Bool} (hp : ∀x:Ins,an aeB env 169 [HB x] [] (sB (p x)) []) : ∀l:List Ins,bF l≤jA→an aeB env 145 [aL l] [] (sB (th p l)) []:=by
 refine tj fun l IH hb=>aa aI (S3 l) ?_
 have loop : ∀(r k:Nat),k+r=l.length→bp aeB env (ah aeB env 145 0 [aL l,sI .i64 k] [] 0 34) (.ret (sB (th p (l.drop k))) []):=by
  intro r
  induction r with
  |zero=>
   intro k hk
   refine af aI (Ic l k 0 0 0 0 0 [] [] [] true (fun _=>true)) ?_
   have h2 : ¬((k:Int)<l.length):=by omega
   rw[ae4 (by omega)]
   simp only[qc,qb,bK,dh,gk,jf,yq,yp,br,aG.ok,th]
   exact⟨fun h=>absurd (by simpa using h) h2,fun _=>trivial⟩
  |succ r ih=>
   intro k hk
   have nM:k<l.length:=by omega
   have CT:l[k]? = some l[k]:=df nM
   have hmem:l[k]∈l:=eQ nM
   rw[show l.drop k=l[k]::l.drop (k+1) from aeo nM]
   have hlen:=eu l
   have GW:jA=1000000000000:=rfl
   generalize l[k]=x at *
   have uq:=IH x hmem
   have hpx:=hp x
   have Gv:=oU hmem
   obtain⟨op,rs,a,b,nn,tg,ll,le⟩:=x
   simp only[Ins.l,Ins.e,jz] at uq Gv
   obtain⟨c0,c1,c2,c3,c4,c5,c6,c7⟩:=hY CT
   have w1:=fk k (by omega)
   have BS:(k:Int)<(l.length:Int):=by omega
   refine af aI (Ic l k op rs a b nn tg ll le (p (.mk op rs a b nn tg ll le)) (jr true (th p))) ?_
   simp only[qc,qb,bK,dh,gk,jf,yq,yp,br,aG.ok,aeL,Nat.add_assoc,aex,c0,c1,c2,c3,c4,c5,c6,c7,isInt,aX,au,aq,aK,aj,bE,w1,qd,th,Gw]
   refine⟨fun _=>⟨by simp[BS],by simp,rfl,hpx,fun h=> ?_,fun h=>⟨by simp[BS],rfl,(by trivial),uq.1 (by omega),fun h1=> ?_,fun h1=>⟨by simp[BS],rfl,(by trivial),uq.2 (by omega),fun h2=> ?_,fun h2=>⟨(by trivial),?_⟩⟩⟩⟩,fun h=>absurd BS (by simpa using h)⟩
   · rw[ka] at h;rw[h];rfl
   · rw[ka] at h1;rw[h1,afc,afa,afc]
   · rw[ka] at h2;rw[h2,afa,afa,afc]
   · rw[afe] at h h1 h2
     rw[h,h1,h2]
     exact ih (k+1) (by omega)
 have h:=loop l.length 0 (by omega)
 rw[adr] at h
 exact h
theorem KE : ∀l:List Ins,bF l≤jA→an aeB env 147 [aL l] [] (sB (decide (16384<iZ l))) []:=by
 refine tj fun l IH hb=>aa aI (S6 l) ?_
 have loop : ∀(r k:Nat),k+r=l.length→bp aeB env (ah aeB env 147 0 [aL l,sI .i64 k] [] 0 33) (.ret (sB (decide (16384<iZ (l.drop k)))) []):=by
  intro r
  induction r with
  |zero=>
   intro k hk
   refine af aI (Ie l k 0 0 0 0 0 [] [] [] true (fun _=>true)) ?_
   have h2 : ¬((k:Int)<l.length):=by omega
   rw[ae4 (by omega)]
   simp only[bK,dh,gk,jf,yq,yp,br,aG.ok,iZ]
   exact⟨fun h=>absurd (by simpa using h) h2,fun _=>rfl⟩
  |succ r ih=>
   intro k hk
   have nM:k<l.length:=by omega
   have CT:l[k]? = some l[k]:=df nM
   have hmem:l[k]∈l:=eQ nM
   rw[show l.drop k=l[k]::l.drop (k+1) from aeo nM]
   have hlen:=eu l
   have GW:jA=1000000000000:=rfl
   generalize l[k]=x at *
   have uq:=IH x hmem
   have Gv:=oU hmem
   obtain⟨op,rs,a,b,nn,tg,ll,le⟩:=x
   simp only[Ins.l,Ins.e,jz] at uq Gv
   obtain⟨c0,c1,c2,c3,c4,c5,c6,c7⟩:=hY CT
   have w1:=fk k (by omega)
   have BS:(k:Int)<(l.length:Int):=by omega
   refine af aI (Ie l k op rs a b nn tg ll le true (jr true fun l=>decide (16384<iZ l))) ?_
   simp only[bK,dh,gk,jf,yq,yp,br,aG.ok,aeL,c5,c6,c7,aX,aq,aK,aj,bE,w1,qd]
   have hT:iZ (.mk op rs a b nn tg ll le::l.drop (k+1))=max (max tg.length (max (iZ ll) (iZ le))) (iZ (l.drop (k+1))):=by simp only[iZ,vY]
   generalize iZ (.mk op rs a b nn tg ll le::l.drop (k+1))=T at *
   have out:16384<T→Out.ret (.p (.sc (.bool true))) []=Out.ret (sB (decide (16384<T))) []:=fun hq=>by rw[decide_eq_true hq]
   refine⟨fun _=>⟨by simp[BS],rfl,(by trivial),fun h=>out ?_,fun h=>⟨by simp[BS],rfl,(by trivial),uq.1 (by omega),fun h1=>out ?_,fun h1=>⟨by simp[BS],rfl,(by trivial),uq.2 (by omega),fun h2=>out ?_,fun h2=>⟨(by trivial),?_⟩⟩⟩⟩,fun h=>absurd BS (by simpa using h)⟩
   · rw[decide_eq_true_eq] at h;omega
   · rw[decide_eq_true_eq] at h1;omega
   · rw[decide_eq_true_eq] at h2;omega
   · rw[decide_eq_false_iff_not] at h h1 h2
     have:=ih (k+1) (by omega)
     rw[show decide (16384<T)=decide (16384<iZ (l.drop (k+1))) from Bool.eq_iff_iff.2 (by rw[decide_eq_true_eq,decide_eq_true_eq];omega)]
     exact this
 have h:=loop l.length 0 (by omega)
 rw[adr] at h
 exact h
theorem Ig : ∀l:List Ins,bF l≤jA→an aeB env 36 [aL l] [] (sI .i64 (bF l)) []:=by
 refine tj fun l IH hb=>aa aI (S4 l) ?_
 have loop : ∀(r k n:Nat),k+r=l.length→n+bF (l.drop k)≤2*jA+(l.drop k).length→bp aeB env (ah aeB env 36 0 [aL l,sI .i64 n,sI .i64 k] [] 0 29) (.ret (sI .i64 (n+bF (l.drop k)-(l.drop k).length:Int)) []):=by
  intro r
  induction r with
  |zero=>
   intro k n hk hn
   refine af aI (Ia l n k 0 0 0 0 0 [] [] [] (fun _=>0)) ?_
   have h2 : ¬((k:Int)<l.length):=by omega
   rw[ae4 (by omega)]
   simp only[bK,dh,Ed,ym,yl,br,aG.ok,bF]
   exact⟨fun h=>absurd (by simpa using h) h2,fun _=>⟨(by trivial),by simp⟩⟩
  |succ r ih=>
   intro k n hk
   have nM:k<l.length:=by omega
   have CT:l[k]? = some l[k]:=df nM
   have hmem:l[k]∈l:=eQ nM
   rw[show l.drop k=l[k]::l.drop (k+1) from aeo nM]
   have hlen:=eu l
   have qC:=eu (l.drop (k+1))
   have GW:jA=1000000000000:=rfl
   generalize l[k]=x at *
   have uq:=IH x hmem
   have Gv:=oU hmem
   obtain⟨op,rs,a,b,nn,tg,ll,le⟩:=x
   simp only[Ins.l,Ins.e,jz,bF,na] at uq Gv ⊢
   intro hn
   obtain⟨c0,c1,c2,c3,c4,c5,c6,c7⟩:=hY CT
   have w1:=fk k (by omega)
   have w2:tp.wrap ((n:Int)+bF ll)=((n+bF ll:Nat):Int):=by rw[aZ (by omega) (by omega)];rfl
   have w3:tp.wrap (((n+bF ll:Nat):Int)+bF le)=((n+bF ll+bF le:Nat):Int):=by rw[aZ (by omega) (by omega)];rfl
   have BS:(k:Int)<(l.length:Int):=by omega
   refine af aI (Ia l n k op rs a b nn tg ll le (jr 0 fun l=>(bF l:Int))) ?_
   simp only[bK,dh,Ed,ym,yl,br,aG.ok,aeL,c6,c7,aX,aq,aK,aj,bE,w1,qd,w2,w3]
   have:=ih (k+1) (n+bF ll+bF le) (by omega) (by omega)
   refine⟨fun _=>⟨uq.1 (by omega),uq.2 (by omega),by simp[BS],(by trivial),?_⟩,fun h=>absurd BS (by simpa using h)⟩
   rw[show((n:Int)+((1+bF ll+bF le+bF (l.drop (k+1)):Nat):Int)-(((l.drop (k+1)).length+1:Nat):Int))=((n+bF ll+bF le:Nat):Int)+bF (l.drop (k+1))-(l.drop (k+1)).length by omega]
   exact this
 have h:=loop l.length 0 l.length (by omega) (by rw[adr];have GW:jA=1000000000000:=rfl;omega)
 rw[adr,show((l.length:Int)+bF l-l.length)=bF l by omega] at h
 exact h
theorem S8 (l:List Ins):dw 2 l=if l=[] then 0 else dw 1 l+1:=by
 split
 · rename_i h;rw[h];rfl
 · rename_i h;exact nr 1 l h
theorem S9 (op rs a b nn:Int) (tg:List Int) (ll le:List Ins):vX 1 (.mk op rs a b nn tg ll le)=1+max (dw 1 ll) (dw 1 le):=by
 simp only[vX,aex,S8]
 have z:dw 1 ([]:List Ins)=0:=rfl
 split<;>split<;>simp_all<;>omega
theorem KF : ∀l:List Ins,bF l≤jA→an aeB env 146 [aL l] [] (sI .i64 (dw 1 l)) []:=by
 refine tj fun l IH hb=>aa aI (S5 l) ?_
 have loop : ∀(r k n:Nat),k+r=l.length→bp aeB env (ah aeB env 146 0 [aL l,sI .i64 n,sI .i64 k] [] 0 28) (.ret (sI .i64 (max n (dw 1 (l.drop k)):Nat)) []):=by
  intro r
  induction r with
  |zero=>
   intro k n hk
   refine af aI (Ib l n k 0 0 0 0 0 [] [] [] (fun _=>0)) ?_
   have h2 : ¬((k:Int)<l.length):=by omega
   rw[ae4 (by omega)]
   simp only[bK,dh,Ed,ym,yl,br,aG.ok,dw,Nat.max_zero]
   exact⟨fun h=>absurd (by simpa using h) h2,fun _=>⟨(by trivial),(by trivial)⟩⟩
  |succ r ih=>
   intro k n hk
   have nM:k<l.length:=by omega
   have CT:l[k]? = some l[k]:=df nM
   have hmem:l[k]∈l:=eQ nM
   rw[show l.drop k=l[k]::l.drop (k+1) from aeo nM]
   have hlen:=eu l
   have GW:jA=1000000000000:=rfl
   generalize l[k]=x at *
   have uq:=IH x hmem
   have Gv:=oU hmem
   obtain⟨op,rs,a,b,nn,tg,ll,le⟩:=x
   simp only[Ins.l,Ins.e,jz] at uq Gv
   have d1:=rV 1 ll
   have d2:=rV 1 le
   obtain⟨c0,c1,c2,c3,c4,c5,c6,c7⟩:=hY CT
   have w1:=fk k (by omega)
   have m1:max (dw 1 ll:Int) (dw 1 le:Int)=((max (dw 1 ll) (dw 1 le):Nat):Int):=by omega
   have w2:tp.wrap (1+((max (dw 1 ll) (dw 1 le):Nat):Int))=((1+max (dw 1 ll) (dw 1 le):Nat):Int):=by rw[aZ (by omega) (by omega)];rfl
   have m2:max (n:Int) ((1+max (dw 1 ll) (dw 1 le):Nat):Int)=((max n (1+max (dw 1 ll) (dw 1 le)):Nat):Int):=by omega
   have BS:(k:Int)<(l.length:Int):=by omega
   refine af aI (Ib l n k op rs a b nn tg ll le (jr 0 fun l=>(dw 1 l:Int))) ?_
   simp only[bK,dh,Ed,ym,yl,br,aG.ok,aeL,c6,c7,aX,aq,aK,aj,bE,w1,qd,cond_false,m1,w2,m2]
   have:=ih (k+1) (max n (1+max (dw 1 ll) (dw 1 le))) (by omega)
   refine⟨fun _=>⟨uq.1 (by omega),uq.2 (by omega),by simp[BS],(by trivial),?_⟩,fun h=>absurd BS (by simpa using h)⟩
   rw[show max n (dw 1 (.mk op rs a b nn tg ll le::l.drop (k+1)))=max (max n (1+max (dw 1 ll) (dw 1 le))) (dw 1 (l.drop (k+1))) by simp only[dw,S9];omega]
   exact this
 have h:=loop l.length 0 0 (by omega)
 rw[adr,Nat.zero_max] at h
 exact h
theorem zD {p:Ins→Bool} (hp : ∀x:Ins,an aeB env 169 [HB x] [] (sB (p x)) []) (l:List Ins) (h:bF l≤jA):an aeB env 124 [aL l] [] (sI .i64 (cT p l)) []:=by
 refine aa aI (S7 l (th p l) (bF l) (dw 1 l) (decide (16384<iZ l))) ⟨N3 hp l h,fun h0=> ?_,fun h0=>⟨Ig l h,fun h1=> ?_,fun h1=>⟨KF l h,fun h2=> ?_,fun h2=>⟨KE l h,fun h3=> ?_,fun h3=> ?_⟩⟩⟩⟩
 · rw[ka] at h0
   rw[cT,if_pos h0];rfl
 all_goals
  rw[afe] at h0
  simp only[decide_eq_true_eq,decide_eq_false_iff_not] at *
  rw[cT,if_neg (by rw[h0];simp)]
 · rw[if_pos (by omega)];rfl
 · rw[if_pos (by omega)];rfl
 · rw[if_pos (by omega)];rfl
 · rw[if_neg (by omega)];rfl
theorem Ta (M:Mo):aE aeB env (aJ aB av [(75,0)] [] []) 1000000 75 ([AV.agg (adP AV.p M.aH)]) ([]) (.fin) =
(.at (ah aeB env 75 0 [.mp 0 0,bP,sI .i64 0] ([.pc M.aH]) 0 45)):=by kernel_rfl
theorem Ee (M:Mo) (n:Nat) (i:Nat) (a:List PV):grow aeB env (aJ aB av [(75,0),(75,2)] [(75,0,1)] [(75,0,2)]) 1000000 true (ah aeB env 75 0 ([AV.mp 0 0,AV.os Option.none 0 0 [],sI tp (↑i:Int)]) ([bf.pc M.aH]) 0 45) (.fin) atEnd =
(.test ((kE i M))
 (.must (bE (↑i:Int) M.aP.length&&true&&true&&(isStr (aA (adw bg M.aP) (aF i*3+0))&&true&&(bE (↑i:Int) M.aP.length&&true&&true&&(isStr (aA (adw bg M.aP) (aF i*3+1))&&true&&true)))&&true)
 (.at (ah aeB env 75 0 [.mp 0 0,.os (some 1) 2 1 [.sc (.string (aY (aA (adw bg M.aP) (aF i*3+0)))),.sc (.string (aY (aA (adw bg M.aP) (aF i*3+1))))],sI .i64 (tp.wrap ((↑i:Int)+1))] ([.pc M.aH,.tok]) 0 45)))
 (.at (ah aeB env 75 2 [.mp 0 0,bP,sI .i64 0] ([.pc M.aH]) 0 45))):=by kernel_rfl
theorem Ef (M:Mo) (n:Nat) (i:Nat) (a:List PV):grow aeB env (aJ aB av [(75,0),(75,2)] [(75,0,1)] [(75,0,2)]) 1000000 true (ah aeB env 75 0 ([AV.mp 0 0,AV.os (Option.some 1) n 1 a,sI tp (↑i:Int)]) ([bf.pc M.aH,bf.tok]) 0 45) (.fin) atEnd =
(.test ((kE i M))
 (.must (bE (↑i:Int) M.aP.length&&true&&true&&(isStr (aA (adw bg M.aP) (aF i*3+0))&&true&&(bE (↑i:Int) M.aP.length&&true&&true&&(isStr (aA (adw bg M.aP) (aF i*3+1))&&true&&(((n+2)*16).ble eY&&(n+2).ble eY&&true&&true))))&&true)
 (.at (ah aeB env 75 0 [.mp 0 0,.os (some 1) (n+2) 1 (a++[.sc (.string (aY (aA (adw bg M.aP) (aF i*3+0)))),.sc (.string (aY (aA (adw bg M.aP) (aF i*3+1))))]),sI .i64 (tp.wrap ((↑i:Int)+1))] ([.pc M.aH,.tok]) 0 45)))
 (.at (ah aeB env 75 2 [.mp 0 0,.os (some 1) n 1 a,sI .i64 0] ([.pc M.aH,.tok]) 0 45))):=by kernel_rfl
theorem Eg (M:Mo) (n:Nat) (i:Nat) (a:List PV):grow aeB env (aJ aB av [(75,2)] [(75,0,3)] [(75,10,4),(75,10,6)]) 1000000 true (ah aeB env 75 2 ([AV.mp 0 0,AV.os Option.none 0 0 [],sI tp (↑i:Int)]) ([bf.pc M.aH]) 0 45) (.fin) atEnd =
(.test ((jL i M))
 (.must ((jj i M))
 (.must ((qi M i))
 (.at (ah aeB env 75 2 [.mp 0 0,.os (some 1) 1 1 [.sc (.string (aY (aA (adw aV M.exs) (aF i*3+0))))],sI .i64 (tp.wrap ((↑i:Int)+1))] ([.pc M.aH,.tok]) 0 45))))
 (.out (.ret (bP) []))):=by kernel_rfl
theorem Eh (M:Mo) (n:Nat) (i:Nat) (a:List PV):grow aeB env (aJ aB av [(75,2)] [(75,0,3)] (fm 75 [(10,4),(10,6),(10,8)])) 1000000 true (ah aeB env 75 2 ([AV.mp 0 0,AV.os (Option.some 1) n 1 a,sI tp (↑i:Int)]) ([bf.pc M.aH,bf.tok]) 0 45) (.fin) atEnd =
(.test ((jL i M))
 (.must ((jj i M))
 (.must ((qi M i))
 (.must (((n+1)*16).ble eY&&(n+1).ble eY&&true)
 (.at (ah aeB env 75 2 [.mp 0 0,.os (some 1) (n+1) 1 (a++[.sc (.string (aY (aA (adw aV M.exs) (aF i*3+0))))]),sI .i64 (tp.wrap ((↑i:Int)+1))] ([.pc M.aH,.tok]) 0 45)))))
 (.out (.ret (.os (some 0) n 1 a) [.tok]))):=by kernel_rfl
theorem Tb (M:Mo) (e:Int):aE aeB env (aJ aB av [(74,0)] [] []) 1000000 74 ([AV.agg (adP AV.p M.aH),sI tp e]) ([]) (.fin) =
(.at (ah aeB env 74 0 [sI .i64 e,.mp 0 0,sI .i64 0] ([.pc M.aH]) 0 70)):=by kernel_rfl
theorem Ei (M:Mo) (e:Int) (i:Nat) (b:Bool):grow aeB env (aJ aB av [(74,0),(74,3)] [(74,0,1),(74,0,2)] [(74,5,3),(74,5,6)]) 1000000 true (ah aeB env 74 0 ([sI tp e,AV.mp 0 0,sI tp (↑i:Int)]) ([bf.pc M.aH]) 0 70) (.fork (.ans 113 (.p (.sc (.bool b))) ([]) .fin) .fin) atEnd =
(.test ((gU i M))
 (.must ((jC i M))
 (.must (aX (aA (adw aM M.fns) (aF i*3+1+1))&&true)
 (.call ⟨113,(D2 M i e),[],.p (.sc (.bool b)),[]⟩
 (.test (b)
 iT
 (.at (ah aeB env 74 0 [sI .i64 e,.mp 0 0,sI .i64 (tp.wrap ((↑i:Int)+1))] ([.pc M.aH]) 0 70))))))
 (.at (ah aeB env 74 3 [sI .i64 e,.mp 0 0,sI .i64 0] ([.pc M.aH]) 0 70))):=by kernel_rfl
theorem Ej (M:Mo) (e:Int) (i:Nat) (b:Bool):grow aeB env (aJ aB av [(74,3),(74,6)] [(74,0,4),(74,0,5)] [(74,10,3),(74,10,5)]) 1000000 true (ah aeB env 74 3 ([sI tp e,AV.mp 0 0,sI tp (↑i:Int)]) ([bf.pc M.aH]) 0 70) (.fork (.ans 113 (.p (.sc (.bool b))) ([]) .fin) .fin) atEnd =
(.test ((kD i M))
 (.must (bE (↑i:Int) M.gls.length&&true&&true)
 (.must ((qh M i))
 (.call ⟨113,(D4 M i e),[],.p (.sc (.bool b)),[]⟩
 (.test (b)
 iT
 (.at (ah aeB env 74 3 [sI .i64 e,.mp 0 0,sI .i64 (tp.wrap ((↑i:Int)+1))] ([.pc M.aH]) 0 70))))))
 (.at (ah aeB env 74 6 [sI .i64 e,.mp 0 0,sI .i64 0] ([.pc M.aH]) 0 70))):=by kernel_rfl
abbrev l7 (x0:Nat) (x1:Mo):Bool:=bE (↑x0:Int) x1.els.length&&true&&true
theorem Ek (M:Mo) (e:Int) (i:Nat) (b:Bool):grow aeB env (aJ aB av [(74,6),(74,9)] [(74,0,7),(74,0,8)] [(74,15,3),(74,15,5)]) 1000000 true (ah aeB env 74 6 ([sI tp e,AV.mp 0 0,sI tp (↑i:Int)]) ([bf.pc M.aH]) 0 70) (.fork (.ans 113 (.p (.sc (.bool b))) ([]) .fin) .fin) atEnd =
(.test ((jh i M))
 (.must ((l7 i M))
 (.must (aX (aA (adw aT M.els) (aF i*2+0))&&true)
 (.call ⟨113,(D6 M i e),[],.p (.sc (.bool b)),[]⟩
 (.test (b)
 iT
 (.at (ah aeB env 74 6 [sI .i64 e,.mp 0 0,sI .i64 (tp.wrap ((↑i:Int)+1))] ([.pc M.aH]) 0 70))))))
 (.at (ah aeB env 74 9 [sI .i64 e,.mp 0 0,sI .i64 0] ([.pc M.aH]) 0 70))):=by kernel_rfl
abbrev oA (x0:Nat) (x1:Mo):Bool:=bE (↑x0:Int) x1.bw.length&&true&&true
theorem Em (M:Mo) (e:Int) (i:Nat) (b:Bool):grow aeB env (aJ aB av [(74,9)] [(74,0,10),(74,0,11)] [(74,20,3),(74,20,5)]) 1000000 true (ah aeB env 74 9 ([sI tp e,AV.mp 0 0,sI tp (↑i:Int)]) ([bf.pc M.aH]) 0 70) (.fork (.ans 113 (.p (.sc (.bool b))) ([]) .fin) .fin) atEnd =
(.test ((ji i M))
 (.must ((oA i M))
 (.must (aX (aA (adw bz M.bw) (aF i*2+0))&&true)
 (.call ⟨113,(D8 M i e),[],.p (.sc (.bool b)),[]⟩
 (.test (b)
 iT
 (.at (ah aeB env 74 9 [sI .i64 e,.mp 0 0,sI .i64 (tp.wrap ((↑i:Int)+1))] ([.pc M.aH]) 0 70))))))
 (.out (.ret (sB false) []))):=by kernel_rfl
theorem Tc (l:List Ins) (e c:Int):aE aeB env (aJ aB av [] [] []) 1000000 113 ([AV.p (pL l),sI tp e]) ([]) (.ans 124 (sI .i64 c) ([]) .fin) =
(.call ⟨124,(jf l),[],sI .i64 c,[]⟩
 (.out (.ret (.p (.sc (.bool (c==e)))) []))):=by kernel_rfl
theorem Td (M:Mo):aE aeB env (aJ aB av [(30,1)] [(30,2,5),(30,0,0)] []) 1000000 30 ([AV.agg (adP AV.p M.aH)]) ([]) (jv 3 9).1 =
(.test (decide ((↑M.cN.length:Int)>1))
 iT
 (.test (decide ((↑M.cL.length:Int)>1))
 iT
 (.at (ah aeB env 30 1 [.mp 0 0,sI .i64 0] ([.pc M.aH]) 0 70)))):=by kernel_rfl
def Xu:oP:=aJ aB av [(30,1)] (fm 30 [(5,6),(0,2),(0,3),(0,6)]) [(30,7,3),(30,7,5)]
def abm (M:Mo) (i:Nat) (b:Bool):Sc:=(.fork (.fork .fin (.fork .fin (.fork .fin (.fork .fin (.fork .fin (.fork .fin (.fork .fin (.fork .fin (.ans 74 (.p (.sc (.bool b))) ([]) .fin))))))))) (.lit (.fork .fin (.fork .fin (.fork .fin (.fork .fin (.fork .fin (.fork .fin (.fork .fin (.ans 74 (.p (.sc (.bool b))) ([]) .fin))))))))))
def qk (M:Mo) (b:Bool):aG:=
 (.test (decide ((↑M.tys.length:Int)>16384)) iT (.test (decide ((↑M.aP.length:Int)>16384)) iT (.test (decide ((↑M.fns.length:Int)>16384)) iT (.test (decide ((↑M.gls.length:Int)>16384)) iT (.test (decide ((↑M.exs.length:Int)>16384)) iT (.test (decide ((↑M.els.length:Int)>16384)) iT (.test (decide ((↑M.bw.length:Int)>16384)) iT (.call ⟨74,[.agg (adP AV.p M.aH),sI .i64 141],[],.p (.sc (.bool b)),[]⟩ (.out (.ret (.p (.sc (.bool b))) []))))))))))
def BY (M:Mo) (i:Nat) (b:Bool):aG:=
 (.test ((jh i M))
 (.test (decide ((↑i:Int)≤16384))
 (.must ((l7 i M))
 (.must (aX (aA (adw aT M.els) (aF i*2+1))&&true)
 (.test (decide ((↑(aq (aA (adw aT M.els) (aF i*2+1))):Int)>16384))
 iT
 (.at (ah aeB env 30 1 [.mp 0 0,sI .i64 (tp.wrap ((↑i:Int)+1))] ([.pc M.aH]) 0 70)))))
 (qk M b))
 (qk M b))
theorem En (M:Mo) (i:Nat) (b:Bool):grow aeB env Xu 1000000 true (ah aeB env 30 1 ([AV.mp 0 0,sI tp (↑i:Int)]) ([bf.pc M.aH]) 0 70) (abm M i b) atEnd=BY M i b:=by kernel_rfl
theorem Te (M:Mo) (n:Nat) (ns:List PV):aE aeB env (aJ aB av [(31,0)] [] []) 1000000 31 ([AV.agg (adP AV.p M.aH)]) ([]) (.ans 75 (.p (.ps n 1 ns)) ([]) .fin) =
(.call ⟨75,(bQ M),[],.p (.ps n 1 ns),[]⟩
 (.at (ah aeB env 31 0 [.mp 0 0,.p (.ps n 1 ns),sI .i64 0] ([.pc M.aH]) 0 47))):=by kernel_rfl
theorem Eo (M:Mo) (n:Nat) (i:Nat) (ns:List PV):grow aeB env (aJ aB av [(31,0),(31,3)] [(31,0,1),(31,0,2)] [(31,6,2),(31,6,3)]) 1000000 true (ah aeB env 31 0 ([AV.mp 0 0,AV.p (PV.ps n 1 ns),sI tp (↑i:Int)]) ([bf.pc M.aH]) 0 47) (.fin) atEnd =
(.test ((bh i n))
 (.must ((bA i n))
 (.must (isStr (aA ns (aF i*1))&&true)
 (.test (decide ((↑(aY (aA ns (aF i*1))).data.toList.length:Int)>1000))
 iT
 (.at (ah aeB env 31 0 [.mp 0 0,.p (.ps n 1 ns),sI .i64 (tp.wrap ((↑i:Int)+1))] ([.pc M.aH]) 0 47)))))
 (.at (ah aeB env 31 3 [.mp 0 0,sI .i64 0,sI .i64 0] ([.pc M.aH]) 0 47))):=by kernel_rfl
theorem Ep (M:Mo) (i:Nat) (sum:Int):grow aeB env (aJ aB av [(31,3)] [(31,0,4),(31,0,5)] (fm 31 [(12,3),(12,5),(14,4),(14,6)])) 1000000 true (ah aeB env 31 3 ([AV.mp 0 0,sI tp sum,sI tp (↑i:Int)]) ([bf.pc M.aH]) 0 47) (.fin) atEnd =
(.test ((ji i M))
 (.must ((oA i M))
 (.must (aX (aA (adw bz M.bw) (aF i*2+1))&&true)
 (.test (decide ((↑(aq (aA (adw bz M.bw) (aF i*2+1))):Int)>tp.wrap (1048576-sum)))
 iT
 (.must ((oA i M))
 (.must (aX (aA (adw bz M.bw) (aF i*2+1))&&true)
 (.at (ah aeB env 31 3 [.mp 0 0,sI .i64 (tp.wrap (sum+(↑(aq (aA (adw bz M.bw) (aF i*2+1))):Int))),sI .i64 (tp.wrap ((↑i:Int)+1))] ([.pc M.aH]) 0 47)))))))
 (.out (.ret (sB false) []))):=by kernel_rfl
theorem Tf (M:Mo):aE aeB env (aJ aB av [(32,0)] [] []) 1000000 32 ([AV.agg (adP AV.p M.aH)]) ([]) (.fin) =
(.at (ah aeB env 32 0 [.mp 0 0,sI .i64 0] ([.pc M.aH]) 0 76)):=by kernel_rfl
theorem Er (M:Mo) (i:Nat) (c:Int):grow aeB env (aJ aB av [(32,0),(32,3)] [(32,0,1),(32,0,2)] [(32,5,3),(32,5,4)]) 1000000 true (ah aeB env 32 0 ([AV.mp 0 0,sI tp (↑i:Int)]) ([bf.pc M.aH]) 0 76) (.fork (.ans 76 (sI .i64 c) ([]) .fin) .fin) atEnd =
(.test (decide ((↑i:Int)<(↑M.tys.length:Int)))
 (.must (bE (↑i:Int) M.tys.length&&true&&true)
 (.must (isInt tp (aA (adw bB M.tys) (aF i*2))&&(isInt tp (aA (adw bB M.tys) (aF i*2+1))&&true)&&true)
 (.call ⟨76,[.agg [sI .i64 (au (aA (adw bB M.tys) (aF i*2))),sI .i64 (au (aA (adw bB M.tys) (aF i*2+1)))]],[],sI .i64 c,[]⟩
 (.test (c != 0)
 (.out (.ret (sB false) []))
 (.at (ah aeB env 32 0 [.mp 0 0,sI .i64 (tp.wrap ((↑i:Int)+1))] ([.pc M.aH]) 0 76))))))
 (.at (ah aeB env 32 3 [.mp 0 0,sI .i64 0] ([.pc M.aH]) 0 76))):=by kernel_rfl
abbrev l8 (x0:Mo) (x1:Nat):Bool:=isInt tp (aA (adw bg x0.aP) (aF x1*3+2))&&true
theorem Es (M:Mo) (i:Nat) (c:Int):grow aeB env (aJ aB av [(32,3),(32,6)] (fm 32 [(0,4),(10,8),(0,5)]) (fm 32 [(10,3),(10,5),(10,11),(10,13)])) 1000000 true (ah aeB env 32 3 ([AV.mp 0 0,sI tp (↑i:Int)]) ([bf.pc M.aH]) 0 76) (jv 4 49).1 atEnd =
(.test ((kE i M))
 (.must (bE (↑i:Int) M.aP.length&&true&&true)
 (.must ((l8 M i))
 (.test (decide (au (aA (adw bg M.aP) (aF i*3+2))<0))
 (.out (.ret (sB false) []))
 (.must (bE (↑i:Int) M.aP.length&&true&&true)
 (.must ((l8 M i))
 (.test (decide (au (aA (adw bg M.aP) (aF i*3+2))>2147483647))
 (.out (.ret (sB false) []))
 (.at (ah aeB env 32 3 [.mp 0 0,sI .i64 (tp.wrap ((↑i:Int)+1))] ([.pc M.aH]) 0 76))))))))
 (.at (ah aeB env 32 6 [.mp 0 0,sI .i64 0] ([.pc M.aH]) 0 76))):=by kernel_rfl
abbrev wA (x0:Mo) (x1:Nat):Bool:=isInt tp (aA (adw aM x0.fns) (aF x1*3))&&(isInt tp (aA (adw aM x0.fns) (aF x1*3+1))&&(aX (aA (adw aM x0.fns) (aF x1*3+1+1))&&true))&&true
theorem Et (M:Mo) (i:Nat) (c:Int):grow aeB env (aJ aB av [(32,6)] (fm 32 [(0,7),(16,4),(16,9),(16,15),(0,8)]) [(32,15,3),(32,15,4)]) 1000000 true (ah aeB env 32 6 ([AV.mp 0 0,sI tp (↑i:Int)]) ([bf.pc M.aH]) 0 76) (jv 6 88422674).1 atEnd =
(.test ((gU i M))
 (.must ((jC i M))
 (.must ((wA M i))
 (.test (decide (au (aA (adw aM M.fns) (aF i*3))<0))
 (.out (.ret (sB false) []))
 (.test (decide (au (aA (adw aM M.fns) (aF i*3))>2147483647))
 (.out (.ret (sB false) []))
 (.test (decide (au (aA (adw aM M.fns) (aF i*3+1))<0))
 (.out (.ret (sB false) []))
 (.test (decide (au (aA (adw aM M.fns) (aF i*3+1))>50000))
 (.out (.ret (sB false) []))
 (.at (ah aeB env 32 6 [.mp 0 0,sI .i64 (tp.wrap ((↑i:Int)+1))] ([.pc M.aH]) 0 76))))))))
 iT):=by kernel_rfl
theorem Tg (M:Mo) (n:Nat) (ns:List PV):aE aeB env (aJ aB av [(33,0)] [] []) 1000000 33 ([AV.agg (adP AV.p M.aH)]) ([]) (.ans 75 (.p (.ps n 1 ns)) ([]) .fin) =
(.call ⟨75,(bQ M),[],.p (.ps n 1 ns),[]⟩
 (.at (ah aeB env 33 0 [.mp 0 0,.p (.ps n 1 ns),sI .i64 0] ([.pc M.aH]) 0 86))):=by kernel_rfl
theorem Eu (M:Mo) (n:Nat) (i:Nat) (ns:List PV) (c:Int):grow aeB env (aJ aB av [(33,0),(33,3)] [(33,0,1),(33,0,2)] [(33,6,2),(33,6,3)]) 1000000 true (ah aeB env 33 0 ([AV.mp 0 0,AV.p (PV.ps n 1 ns),sI tp (↑i:Int)]) ([bf.pc M.aH]) 0 86) (.fork (.ans 77 (sI .i64 c) ([.tok]) .fin) .fin) atEnd =
(.test ((bh i n))
 (.must ((bA i n))
 (.must (isStr (aA ns (aF i*1))&&true)
 (.call ⟨77,[.os (some 0) (aY (aA ns (aF i*1))).data.toList.length 1 (adP jx (aY (aA ns (aF i*1))).data.toList)],[.tok],sI .i64 c,[.tok]⟩
 (.test (decide (c≥0))
 (.out (.ret (sB false) []))
 (.at (ah aeB env 33 0 [.mp 0 0,.p (.ps n 1 ns),sI .i64 (tp.wrap ((↑i:Int)+1))] ([.pc M.aH]) 0 86))))))
 (.at (ah aeB env 33 3 [.mp 0 0,sI .i64 0] ([.pc M.aH]) 0 86))):=by kernel_rfl
theorem Ew (M:Mo) (i:Nat) (c:Int):grow aeB env (aJ aB av [(33,3),(33,6)] [(33,0,4),(33,0,5)] [(33,11,3),(33,11,4)]) 1000000 true (ah aeB env 33 3 ([AV.mp 0 0,sI tp (↑i:Int)]) ([bf.pc M.aH]) 0 86) (.fork (.ans 78 (sI .i64 c) ([]) .fin) .fin) atEnd =
(.test (decide ((↑i:Int)<(↑M.cN.length:Int)))
 (.must (bE (↑i:Int) M.cN.length&&true&&true)
 (.must (isInt acU (aA (adw aS M.cN) (aF i*3))&&(isInt acU (aA (adw aS M.cN) (aF i*3+1))&&(isBool (aA (adw aS M.cN) (aF i*3+1+1))&&true))&&true)
 (.call ⟨78,[.agg [sI .u32 (au (aA (adw aS M.cN) (aF i*3))),sI .u32 (au (aA (adw aS M.cN) (aF i*3+1))),.p (.sc (.bool (aW (aA (adw aS M.cN) (aF i*3+1+1)))))],sI .u32 1048576],[],sI .i64 c,[]⟩
 (.test (c != 0)
 (.out (.ret (sB false) []))
 (.at (ah aeB env 33 3 [.mp 0 0,sI .i64 (tp.wrap ((↑i:Int)+1))] ([.pc M.aH]) 0 86))))))
 (.at (ah aeB env 33 6 [.mp 0 0,sI .i64 0] ([.pc M.aH]) 0 86))):=by kernel_rfl
theorem Ey (M:Mo) (i:Nat) (c:Int):grow aeB env (aJ aB av [(33,6),(33,9)] [(33,0,7),(33,0,8)] [(33,16,3),(33,16,4)]) 1000000 true (ah aeB env 33 6 ([AV.mp 0 0,sI tp (↑i:Int)]) ([bf.pc M.aH]) 0 86) (.fork (.ans 78 (sI .i64 c) ([]) .fin) .fin) atEnd =
(.test (decide ((↑i:Int)<(↑M.cL.length:Int)))
 (.must (bE (↑i:Int) M.cL.length&&true&&true)
 (.must (isInt acU (aA (adw aS M.cL) (aF i*3))&&(isInt acU (aA (adw aS M.cL) (aF i*3+1))&&(isBool (aA (adw aS M.cL) (aF i*3+1+1))&&true))&&true)
 (.call ⟨78,[.agg [sI .u32 (au (aA (adw aS M.cL) (aF i*3))),sI .u32 (au (aA (adw aS M.cL) (aF i*3+1))),.p (.sc (.bool (aW (aA (adw aS M.cL) (aF i*3+1+1)))))],sI .u32 65536],[],sI .i64 c,[]⟩
 (.test (c != 0)
 (.out (.ret (sB false) []))
 (.at (ah aeB env 33 6 [.mp 0 0,sI .i64 (tp.wrap ((↑i:Int)+1))] ([.pc M.aH]) 0 86))))))
 (.at (ah aeB env 33 9 [.mp 0 0,sI .i64 0] ([.pc M.aH]) 0 86))):=by kernel_rfl
abbrev Gc (x0:Mo) (x1:Nat):Bool:=isInt tp (aA (adw aV x0.exs) (aF x1*3+1))&&true
theorem Ez (M:Mo) (i:Nat) (b:Bool):grow aeB env (aJ aB av [(33,9)] (fm 33 [(0,10),(21,8),(0,11),(23,3),(23,8)]) (fm 33 [(21,3),(21,5),(21,11),(21,13)])) 1000000 true (ah aeB env 33 9 ([AV.mp 0 0,sI tp (↑i:Int)]) ([bf.pc M.aH]) 0 86) (.fork (jv 3 9).1 (.fork (.lit (.ans 74 (.p (.sc (.bool b))) ([]) .fin)) (.fork (.ans 74 (.p (.sc (.bool b))) ([]) .fin) .fin))) atEnd =
(.test ((jL i M))
 (.must ((jj i M))
 (.must ((Gc M i))
 (.test (decide (au (aA (adw aV M.exs) (aF i*3+1))<0))
 (.out (.ret (sB false) []))
 (.must ((jj i M))
 (.must ((Gc M i))
 (.test (decide (au (aA (adw aV M.exs) (aF i*3+1))>3))
 (.out (.ret (sB false) []))
 (.at (ah aeB env 33 9 [.mp 0 0,sI .i64 (tp.wrap ((↑i:Int)+1))] ([.pc M.aH]) 0 86))))))))
 (.test (M.st)
 (.call ⟨74,[.agg (adP AV.p M.aH),sI .i64 2],[],.p (.sc (.bool b)),[]⟩
 (.out (.ret (.p (.sc (.bool !b))) [])))
 (.test (M.sn==0)
 (.call ⟨74,[.agg (adP AV.p M.aH),sI .i64 2],[],.p (.sc (.bool b)),[]⟩
 (.out (.ret (.p (.sc (.bool !b))) [])))
 (.out (.ret (sB false) []))))):=by kernel_rfl
theorem Th (p r:Int):aE aeB env (aJ aB av [] (fm 76 [(2,4),(2,9),(2,14),(0,0)]) []) 1000000 76 ([AV.agg [sI tp p,sI tp r]]) ([]) (jv 5 17684534).1 =
(.test (decide (p<0))
 (.out (.ret (sI .i64 2) []))
 (.test (decide (p>255))
 (.out (.ret (sI .i64 2) []))
 (.test (decide (r<0))
 (.out (.ret (sI .i64 2) []))
 (.test (decide (r>1))
 (.out (.ret (sI .i64 2) []))
 (.out (.ret (sI .i64 0) [])))))):=by kernel_rfl
theorem Ti (mn mx:Int) (cap:Bool) (most:Int):aE aeB env (aJ aB av [] (fm 78 [(2,5),(2,8),(2,14),(2,22),(2,26),(0,0)]) []) 1000000 78 ([AV.agg [sI acU mn,sI acU mx,sB cap],sI acU most]) ([]) (jv 7 337664171284).1 =
(.test (decide (mn>most))
 (.out (.ret (sI .i64 2) []))
 (.test (cap)
 (.test (decide (mx<mn))
 (.out (.ret (sI .i64 2) []))
 (.test (decide (mx>most))
 (.out (.ret (sI .i64 2) []))
 (.must (!(!cap))
 (.out (.ret (sI .i64 0) [])))))
 (.must (!cap)
 (.test (mx != 0)
 (.out (.ret (sI .i64 2) []))
 (.out (.ret (sI .i64 0) [])))))):=by kernel_rfl
theorem Tj (M:Mo) (a:Bool) (b:Bool) (c:Bool) (d:Bool):aE aeB env (aJ aB av [] (fm 13 [(0,0),(0,1),(6,4),(0,2)]) []) 1000000 13 ([AV.agg (adP AV.p M.aH)]) ([]) (.ans 30 (.p (.sc (.bool a))) ([]) (.fork .fin (.ans 31 (.p (.sc (.bool b))) ([]) (.fork .fin (.ans 32 (.p (.sc (.bool c))) ([]) (.fork (.lit .fin) (.ans 33 (.p (.sc (.bool d))) ([]) .fin))))))) =
(.call ⟨30,(bQ M),[],.p (.sc (.bool a)),[]⟩
 (.test (a)
 (.out (.ret (sI .i64 141) []))
 (.call ⟨31,(bQ M),[],.p (.sc (.bool b)),[]⟩
 (.test (b)
 (.out (.ret (sI .i64 3) []))
 (.call ⟨32,(bQ M),[],.p (.sc (.bool c)),[]⟩
 (.test (!c)
 (.out (.ret (sI .i64 2) []))
 (.call ⟨33,(bQ M),[],.p (.sc (.bool d)),[]⟩
 (.test (!d)
 (.out (.ret (sI .i64 2) []))
 (.out (.ret (sI .i64 0) [])))))))))):=by kernel_rfl
theorem abn {α:Type} {l:List α} {p:α→Bool} {D:Nat→cw} {oT o:Out} {K:Prop}
  (step : ∀(i:Nat) (x:α),l[i]? = some x→(p x=true→oT=o)→(p x=false→bp aeB env (D (i+1)) o)→bp aeB env (D i) o)
  (fin:K→bp aeB env (D l.length) o) :
  ∀(r i:Nat),i+r=l.length→((l.drop i).any p=true→oT=o)→((l.drop i).any p=false→K)→bp aeB env (D i) o:=by
 intro r
 induction r with
 |zero=>
  intro i hi _ hK
  obtain rfl:i=l.length:=by omega
  rw[aes] at hK
  exact fin (hK rfl)
 |succ r ih=>
  intro i hi hT hK
  have hl:i<l.length:=by omega
  rw[aeo hl,aew] at hT hK
  refine step i l[i] (df hl) (fun q=>hT (by rw[q,ae7])) fun q=>ih (i+1) (by omega) (fun t=>hT (by rw[q,xo,t])) fun t=>hK (by rw[q,xo,t])
theorem kQ {α:Type} {l:List α} {p:α→Bool} {D:Nat→cw} {oT o:Out} {K:Prop}
  (step : ∀(i:Nat) (x:α),l[i]? = some x→(p x=true→oT=o)→(p x=false→bp aeB env (D (i+1)) o)→bp aeB env (D i) o)
  (fin:K→bp aeB env (D l.length) o) (hT:l.any p=true→oT=o) (hK:l.any p=false→K):bp aeB env (D 0) o:=
 abn step fin l.length 0 (by omega) (by rwa [adr]) (by rwa [adr])
theorem ql (l:List Ins) (e:Int) (h:bF l≤100000000000):an aeB env 113 [.p (pL l),sI .i64 e] [] (sB (cT je l==e)) []:=
 aa aI (Tc l e (cT je l)) ⟨zD zy l (Nat.le_trans h (by decide)),rfl⟩
theorem Tk (x:Ty):an aeB env 76 [.agg ((bB x).map .p)] [] (sI .i64 (NW x)) []:=by
 refine aa aI (Th x.p x.r) ?_
 simp only[aG.ok,decide_eq_true_eq,decide_eq_false_iff_not]
 refine⟨fun q=> ?_,fun q=>⟨fun r=> ?_,fun r=>⟨fun s=> ?_,fun s=>⟨fun t=> ?_,fun t=> ?_⟩⟩⟩⟩
 · rw[NW,if_neg (by omega)]
 · rw[NW,if_neg (by omega)]
 · rw[NW,if_neg (by omega)]
 · rw[NW,if_neg (by omega)]
 · rw[NW,if_pos (by omega)]
theorem Ih (x:Li) (most:Int):an aeB env 78 [.agg ((aS x).map .p),sI .u32 most] [] (sI .i64 (W7 most x)) []:=by
 refine aa aI (Ti x.mn x.mx x.cap most) ?_
 obtain⟨mn,mx,cap⟩:=x
 simp only[aG.ok,W7]
 cases cap with
 |true=>
  refine⟨fun q=> ?_,fun q=>⟨fun _=>⟨fun r=> ?_,fun r=>⟨fun t=> ?_,fun t=>⟨rfl,?_⟩⟩⟩,fun r=>(by cases r)⟩⟩<;>simp only[decide_eq_true_eq,decide_eq_false_iff_not] at *
  · rw[if_pos (.inl q)]
  · rw[if_pos (.inr (.inl ⟨trivial,.inl r⟩))]
  · rw[if_pos (.inr (.inl ⟨trivial,.inr t⟩))]
  · rw[if_neg (by simp;omega)]
 |false=>
  refine⟨fun q=> ?_,fun q=>⟨fun r=>(by cases r),fun _=>⟨rfl,fun r=> ?_,fun r=> ?_⟩⟩⟩
  · simp only[decide_eq_true_eq] at q
    rw[if_pos (.inl q)]
  · rw[if_pos (.inr (.inr ⟨rfl,by simpa using r⟩))]
  · simp only[decide_eq_false_iff_not] at q
    have r:mx=0:=by simpa using r
    rw[if_neg (by simp[r];omega)]
def Xv (M:Mo) (e:Int) (i:Nat):cw:=ah aeB env 74 0 [sI .i64 e,.mp 0 0,sI .i64 i] [.pc M.aH] 0 70
def Tl (M:Mo) (e:Int) (i:Nat):cw:=ah aeB env 74 3 [sI .i64 e,.mp 0 0,sI .i64 i] [.pc M.aH] 0 70
def Tm (M:Mo) (e:Int) (i:Nat):cw:=ah aeB env 74 6 [sI .i64 e,.mp 0 0,sI .i64 i] [.pc M.aH] 0 70
def Tn (M:Mo) (e:Int) (i:Nat):cw:=ah aeB env 74 9 [sI .i64 e,.mp 0 0,sI .i64 i] [.pc M.aH] 0 70
def rmC (M:Mo) (i:Nat):cw:=ah aeB env 30 1 [.mp 0 0,sI .i64 i] [.pc M.aH] 0 70
def rlC (M:Mo) (l:List ByteArray) (i:Nat):cw:=ah aeB env 31 0 [.mp 0 0,.p (.ps l.length 1 (l.flatMap eF)),sI .i64 i] [.pc M.aH] 0 47
def rlD (M:Mo) (sum:Int) (i:Nat):cw:=ah aeB env 31 3 [.mp 0 0,sI .i64 sum,sI .i64 i] [.pc M.aH] 0 47
def My (t:Nat) (M:Mo) (i:Nat):cw:=ah aeB env 32 t [.mp 0 0,sI .i64 i] [.pc M.aH] 0 76
def rrC (M:Mo) (l:List ByteArray) (i:Nat):cw:=ah aeB env 33 0 [.mp 0 0,.p (.ps l.length 1 (l.flatMap eF)),sI .i64 i] [.pc M.aH] 0 86
def KG (t:Nat) (M:Mo) (i:Nat):cw:=ah aeB env 33 t [.mp 0 0,sI .i64 i] [.pc M.aH] 0 86
theorem N4 (M:Mo) (hl:M.fns.length≤1000000) (hs : ∀x∈M.fns,bF x.l≤100000000000) (e:Int) (o:Out) (i:Nat) (x:Fu) (hx:M.fns[i]? = some x) (h1:(fun x=>cT je x.l==e) x=true→Out.ret (sB true) []=o) (h2:(fun x=>cT je x.l==e) x=false→bp aeB env (Xv M e (i+1)) o):bp aeB env (Xv M e i) o:=by
 have hi:i<M.fns.length:=(dt.1 hx).1
 have hmem:=mf hx
 have c:=aQ (z:=3) (enc:=aM) (fun _=>rfl) hx
 have kR:(M.fns.flatMap aM).getD (i*3+1+1) .aU=pL x.l:=c 2 (by decide)
 have mJ:(M.fns.flatMap aM).getD (i*3+2) .aU=pL x.l:=c 2 (by decide)
 have w:=fk i (by omega)
 have hd:=kj (i:=i) (n:=M.fns.length) (by omega)
 have hin:=kg (i:=i) (n:=M.fns.length) (by omega)
 refine af aI (Ei M e i (cT je x.l==e)) ?_
 simp only[gU,D2,jC,br,aG.ok,isStr,isInt,aX,isBool,aY,au,aW,aq,aK,aj,aeL,aeN,aeO,kR,mJ,hd,hin,w]
 refine⟨fun _=> ?_,fun q=>by cases q⟩
 exact⟨(by first|rfl|trivial),(by first|rfl|trivial),ql x.l e (hs x hmem),h1,h2⟩
theorem To (M:Mo) (hl:M.fns.length≤1000000) (hs : ∀x∈M.fns,bF x.l≤100000000000) (e:Int) (o:Out) (h:bp aeB env (Tl M e 0) o):bp aeB env (Xv M e M.fns.length) o:=by
 have hd:=lP M.fns.length
 refine af aI (Ei M e M.fns.length true) ?_
 simp only[gU,D2,jC,br,aG.ok,hd]
 refine⟨nofun,fun _=> ?_⟩
 exact h
theorem N5 (M:Mo) (hl:M.gls.length≤1000000) (hs : ∀x∈M.gls,bF x.l≤100000000000) (e:Int) (o:Out) (i:Nat) (x:Gl) (hx:M.gls[i]? = some x) (h1:(fun x=>cT je x.l==e) x=true→Out.ret (sB true) []=o) (h2:(fun x=>cT je x.l==e) x=false→bp aeB env (Tl M e (i+1)) o):bp aeB env (Tl M e i) o:=by
 have hi:i<M.gls.length:=(dt.1 hx).1
 have hmem:=mf hx
 have c:=aQ (z:=2) (enc:=bC) (fun _=>rfl) hx
 have kR:(M.gls.flatMap bC).getD (i*2+1) .aU=pL x.l:=c 1 (by decide)
 have w:=fk i (by omega)
 have hd:=kj (i:=i) (n:=M.gls.length) (by omega)
 have hin:=kg (i:=i) (n:=M.gls.length) (by omega)
 refine af aI (Ej M e i (cT je x.l==e)) ?_
 simp only[kD,D4,qh,br,aG.ok,isStr,isInt,aX,isBool,aY,au,aW,aq,aK,aj,aeL,aeN,aeO,kR,hd,hin,w]
 refine⟨fun _=> ?_,fun q=>by cases q⟩
 exact⟨(by first|rfl|trivial),(by first|rfl|trivial),ql x.l e (hs x hmem),h1,h2⟩
theorem Tp (M:Mo) (hl:M.gls.length≤1000000) (hs : ∀x∈M.gls,bF x.l≤100000000000) (e:Int) (o:Out) (h:bp aeB env (Tm M e 0) o):bp aeB env (Tl M e M.gls.length) o:=by
 have hd:=lP M.gls.length
 refine af aI (Ej M e M.gls.length true) ?_
 simp only[kD,D4,qh,br,aG.ok,hd]
 refine⟨nofun,fun _=> ?_⟩
 exact h
theorem N6 (M:Mo) (hl:M.els.length≤1000000) (hs : ∀x∈M.els,bF x.l≤100000000000) (e:Int) (o:Out) (i:Nat) (x:El) (hx:M.els[i]? = some x) (h1:(fun x=>cT je x.l==e) x=true→Out.ret (sB true) []=o) (h2:(fun x=>cT je x.l==e) x=false→bp aeB env (Tm M e (i+1)) o):bp aeB env (Tm M e i) o:=by
 have hi:i<M.els.length:=(dt.1 hx).1
 have hmem:=mf hx
 have c:=aQ (z:=2) (enc:=aT) (fun _=>rfl) hx
 have kR:(M.els.flatMap aT).getD (i*2) .aU=pL x.l:=c 0 (by decide)
 have mJ:(M.els.flatMap aT).getD (i*2+0) .aU=pL x.l:=c 0 (by decide)
 have w:=fk i (by omega)
 have hd:=kj (i:=i) (n:=M.els.length) (by omega)
 have hin:=kg (i:=i) (n:=M.els.length) (by omega)
 refine af aI (Ek M e i (cT je x.l==e)) ?_
 simp only[jh,D6,l7,br,aG.ok,isStr,isInt,aX,isBool,aY,au,aW,aq,aK,aj,aeL,aeN,aeO,kR,mJ,hd,hin,w]
 refine⟨fun _=> ?_,fun q=>by cases q⟩
 exact⟨(by first|rfl|trivial),(by first|rfl|trivial),ql x.l e (hs x hmem),h1,h2⟩
theorem Tq (M:Mo) (hl:M.els.length≤1000000) (hs : ∀x∈M.els,bF x.l≤100000000000) (e:Int) (o:Out) (h:bp aeB env (Tn M e 0) o):bp aeB env (Tm M e M.els.length) o:=by
 have hd:=lP M.els.length
 refine af aI (Ek M e M.els.length true) ?_
 simp only[jh,D6,l7,br,aG.ok,hd]
 refine⟨nofun,fun _=> ?_⟩
 exact h
theorem N7 (M:Mo) (hl:M.bw.length≤1000000) (hs : ∀x∈M.bw,bF x.l≤100000000000) (e:Int) (o:Out) (i:Nat) (x:Da) (hx:M.bw[i]? = some x) (h1:(fun x=>cT je x.l==e) x=true→Out.ret (sB true) []=o) (h2:(fun x=>cT je x.l==e) x=false→bp aeB env (Tn M e (i+1)) o):bp aeB env (Tn M e i) o:=by
 have hi:i<M.bw.length:=(dt.1 hx).1
 have hmem:=mf hx
 have c:=aQ (z:=2) (enc:=bz) (fun _=>rfl) hx
 have kR:(M.bw.flatMap bz).getD (i*2) .aU=pL x.l:=c 0 (by decide)
 have mJ:(M.bw.flatMap bz).getD (i*2+0) .aU=pL x.l:=c 0 (by decide)
 have w:=fk i (by omega)
 have hd:=kj (i:=i) (n:=M.bw.length) (by omega)
 have hin:=kg (i:=i) (n:=M.bw.length) (by omega)
 refine af aI (Em M e i (cT je x.l==e)) ?_
 simp only[ji,D8,oA,br,aG.ok,isStr,isInt,aX,isBool,aY,au,aW,aq,aK,aj,aeL,aeN,aeO,kR,mJ,hd,hin,w]
 refine⟨fun _=> ?_,nofun⟩
 exact⟨(by first|rfl|trivial),(by first|rfl|trivial),ql x.l e (hs x hmem),h1,h2⟩
theorem Tr (M:Mo) (hl:M.bw.length≤1000000) (hs : ∀x∈M.bw,bF x.l≤100000000000) (e:Int) (o:Out) (h:Out.ret (sB false) []=o):bp aeB env (Tn M e M.bw.length) o:=by
 have hd:=lP M.bw.length
 refine af aI (Em M e M.bw.length true) ?_
 simp only[ji,D8,oA,br,aG.ok,hd]
 refine⟨nofun,fun _=> ?_⟩
 exact h
theorem Ts (M:Mo) (hl:M.els.length≤5000) (o:Out) (i:Nat) (x:El) (hx:M.els[i]? = some x) (h1:DY x=true→Out.ret (sB true) []=o) (h2:DY x=false→bp aeB env (rmC M (i+1)) o):bp aeB env (rmC M i) o:=by
 have hi:i<M.els.length:=(dt.1 hx).1
 have hmem:=mf hx
 have c:=aQ (z:=2) (enc:=aT) (fun _=>rfl) hx
 have kR:(M.els.flatMap aT).getD (i*2+1) .aU=pT .u32 x.fs:=c 1 (by decide)
 have w:=fk i (by omega)
 have hd:=kj (i:=i) (n:=M.els.length) (by omega)
 have hin:=kg (i:=i) (n:=M.els.length) (by omega)
 refine af aI (En M i true) ?_
 simp only[BY,jh,l7,qk,br,aG.ok,isStr,isInt,aX,isBool,aY,au,aW,aq,aK,aj,aeL,aeN,aeO,kR,hd,hin,w]
 refine⟨fun _=> ?_,nofun⟩
 have e1:decide ((i:Int)≤16384)=true:=decide_eq_true (by omega)
 simp only[e1]
 refine⟨fun _=>⟨(by first|rfl|trivial),(by first|rfl|trivial),h1,h2⟩,fun q=>(by cases q)⟩
theorem Xw (M:Mo) (hl:M.els.length≤5000) (o:Out) (h:(∀(q : ¬(max (max (max (max (max (max (M.tys.length:Int) M.aP.length) M.fns.length) M.gls.length) M.exs.length) M.els.length) M.bw.length>16384)),an aeB env 74 [.agg (M.aH.map .p),sI .i64 141] [] (sB (iC M 141)) [])∧((max (max (max (max (max (max (M.tys.length:Int) M.aP.length) M.fns.length) M.gls.length) M.exs.length) M.els.length) M.bw.length>16384)→Out.ret (sB true) []=o)∧(¬(max (max (max (max (max (max (M.tys.length:Int) M.aP.length) M.fns.length) M.gls.length) M.exs.length) M.els.length) M.bw.length>16384)→Out.ret (sB (iC M 141)) []=o)):bp aeB env (rmC M M.els.length) o:=by
 have hd:=lP M.els.length
 refine af aI (En M M.els.length (iC M 141)) ?_
 simp only[BY,jh,l7,qk,br,aG.ok,hd]
 refine⟨nofun,fun _=> ?_⟩
 simp only[decide_eq_true_eq,decide_eq_false_iff_not]
 exact⟨fun q=>h.2.1 (by omega),fun q1=>⟨fun q=>h.2.1 (by omega),fun q2=>⟨fun q=>h.2.1 (by omega),fun q3=>⟨fun q=>h.2.1 (by omega),fun q4=>⟨fun q=>h.2.1 (by omega),fun q5=>⟨fun q=>h.2.1 (by omega),fun q6=>⟨fun q=>h.2.1 (by omega),fun q7=>⟨h.1 (by omega),h.2.2 (by omega)⟩⟩⟩⟩⟩⟩⟩⟩
theorem Tt (M:Mo) (l:List ByteArray) (hl:l.length≤10000000) (o:Out) (i:Nat) (x:ByteArray) (hx:l[i]? = some x) (h1:DZ x=true→Out.ret (sB true) []=o) (h2:DZ x=false→bp aeB env (rlC M l (i+1)) o):bp aeB env (rlC M l i) o:=by
 have hi:i<l.length:=(dt.1 hx).1
 have hmem:=mf hx
 have c:=aQ (z:=1) (enc:=eF) (fun _=>rfl) hx
 have kR:(l.flatMap eF).getD (i*1) .aU = .sc (.string x):=c 0 (by decide)
 have mJ:(l.flatMap eF).getD (i*1+0) .aU = .sc (.string x):=c 0 (by decide)
 have w:=fk i (by omega)
 have hd:=kj (i:=i) (n:=l.length) (by omega)
 have hin:=kg (i:=i) (n:=l.length) (by omega)
 refine af aI (Eo M l.length i (l.flatMap eF)) ?_
 simp only[bh,bA,br,aG.ok,isStr,isInt,aX,isBool,aY,au,aW,aq,aK,aj,aeL,aeN,aeO,kR,mJ,hd,hin,w]
 refine⟨fun _=> ?_,fun q=>by cases q⟩
 exact⟨(by first|rfl|trivial),(by first|rfl|trivial),h1,h2⟩
theorem Xx (M:Mo) (l:List ByteArray) (hl:l.length≤10000000) (o:Out) (h:bp aeB env (ah aeB env 31 3 [.mp 0 0,sI .i64 0,sI .i64 0] [.pc M.aH] 0 47) o):bp aeB env (rlC M l l.length) o:=by
 have hd:=lP l.length
 refine af aI (Eo M l.length l.length (l.flatMap eF)) ?_
 simp only[bh,bA,br,aG.ok,hd]
 refine⟨nofun,fun _=> ?_⟩
 exact h
theorem N8 (M:Mo) (hl:M.tys.length≤1000000) (o:Out) (i:Nat) (x:Ty) (hx:M.tys[i]? = some x) (h1:yf x=true→Out.ret (sB false) []=o) (h2:yf x=false→bp aeB env (My 0 M (i+1)) o):bp aeB env (My 0 M i) o:=by
 have hi:i<M.tys.length:=(dt.1 hx).1
 have hmem:=mf hx
 have c:=aQ (z:=2) (enc:=bB) (fun _=>rfl) hx
 have kR:(M.tys.flatMap bB).getD (i*2) .aU = .sc (.int .i64 x.p):=c 0 (by decide)
 have mJ:(M.tys.flatMap bB).getD (i*2+0) .aU = .sc (.int .i64 x.p):=c 0 (by decide)
 have xu:(M.tys.flatMap bB).getD (i*2+1) .aU = .sc (.int .i64 x.r):=c 1 (by decide)
 have w:=fk i (by omega)
 have hd:=kj (i:=i) (n:=M.tys.length) (by omega)
 have hin:=kg (i:=i) (n:=M.tys.length) (by omega)
 refine af aI (Er M i (NW x)) ?_
 simp only[br,aG.ok,isStr,isInt,aX,isBool,aY,au,aW,aq,aK,aj,aeL,aeN,aeO,kR,mJ,xu,hd,hin,w]
 refine⟨fun _=> ?_,fun q=>by cases q⟩
 exact⟨(by first|rfl|trivial),(by first|rfl|trivial),Tk x,h1,h2⟩
theorem Tu (M:Mo) (hl:M.tys.length≤1000000) (o:Out) (h:bp aeB env (My 3 M 0) o):bp aeB env (My 0 M M.tys.length) o:=by
 have hd:=lP M.tys.length
 refine af aI (Er M M.tys.length 0) ?_
 simp only[br,aG.ok,hd]
 refine⟨nofun,fun _=> ?_⟩
 exact h
theorem N9 (M:Mo) (hl:M.aP.length≤1000000) (o:Out) (i:Nat) (x:Im) (hx:M.aP[i]? = some x) (h1:uQ x=true→Out.ret (sB false) []=o) (h2:uQ x=false→bp aeB env (My 3 M (i+1)) o):bp aeB env (My 3 M i) o:=by
 have hi:i<M.aP.length:=(dt.1 hx).1
 have hmem:=mf hx
 have c:=aQ (z:=3) (enc:=bg) (fun _=>rfl) hx
 have kR:(M.aP.flatMap bg).getD (i*3+1+1) .aU = .sc (.int .i64 x.ty):=c 2 (by decide)
 have mJ:(M.aP.flatMap bg).getD (i*3+2) .aU = .sc (.int .i64 x.ty):=c 2 (by decide)
 have w:=fk i (by omega)
 have hd:=kj (i:=i) (n:=M.aP.length) (by omega)
 have hin:=kg (i:=i) (n:=M.aP.length) (by omega)
 refine af aI (Es M i 0) ?_
 simp only[kE,l8,br,aG.ok,isStr,isInt,aX,isBool,aY,au,aW,aq,aK,aj,aeL,aeN,aeO,kR,mJ,hd,hin,w]
 refine⟨fun _=> ?_,fun q=>by cases q⟩
 refine⟨(by first|rfl|trivial),(by first|rfl|trivial),fun q=>h1 ?_,fun q=>⟨(by first|rfl|trivial),(by first|rfl|trivial),fun r=>h1 ?_,fun r=>h2 ?_⟩⟩<;>simp only[decide_eq_true_eq,decide_eq_false_iff_not] at * <;> simp[uQ]<;>omega
theorem Tv (M:Mo) (hl:M.aP.length≤1000000) (o:Out) (h:bp aeB env (My 6 M 0) o):bp aeB env (My 3 M M.aP.length) o:=by
 have hd:=lP M.aP.length
 refine af aI (Es M M.aP.length 0) ?_
 simp only[kE,l8,br,aG.ok,hd]
 refine⟨nofun,fun _=> ?_⟩
 exact h
theorem Oa (M:Mo) (hl:M.fns.length≤1000000) (o:Out) (i:Nat) (x:Fu) (hx:M.fns[i]? = some x) (h1:tN x=true→Out.ret (sB false) []=o) (h2:tN x=false→bp aeB env (My 6 M (i+1)) o):bp aeB env (My 6 M i) o:=by
 have hi:i<M.fns.length:=(dt.1 hx).1
 have hmem:=mf hx
 have c:=aQ (z:=3) (enc:=aM) (fun _=>rfl) hx
 have kR:(M.fns.flatMap aM).getD (i*3) .aU = .sc (.int .i64 x.ty):=c 0 (by decide)
 have mJ:(M.fns.flatMap aM).getD (i*3+0) .aU = .sc (.int .i64 x.ty):=c 0 (by decide)
 have xu:(M.fns.flatMap aM).getD (i*3+1) .aU = .sc (.int .i64 x.lo):=c 1 (by decide)
 have KH:(M.fns.flatMap aM).getD (i*3+1+1) .aU=pL x.l:=c 2 (by decide)
 have KI:(M.fns.flatMap aM).getD (i*3+2) .aU=pL x.l:=c 2 (by decide)
 have w:=fk i (by omega)
 have hd:=kj (i:=i) (n:=M.fns.length) (by omega)
 have hin:=kg (i:=i) (n:=M.fns.length) (by omega)
 refine af aI (Et M i 0) ?_
 simp only[wA,gU,jC,br,aG.ok,isStr,isInt,aX,isBool,aY,au,aW,aq,aK,aj,aeL,aeN,aeO,kR,mJ,xu,KH,KI,hd,hin,w]
 refine⟨fun _=> ?_,nofun⟩
 refine⟨(by first|rfl|trivial),(by first|rfl|trivial),fun q=>h1 ?_,fun q=>⟨fun r=>h1 ?_,fun r=>⟨fun s=>h1 ?_,fun s=>⟨fun t=>h1 ?_,fun t=>h2 ?_⟩⟩⟩⟩<;>simp only[decide_eq_true_eq,decide_eq_false_iff_not] at * <;> simp[tN]<;>omega
theorem Tw (M:Mo) (hl:M.fns.length≤1000000) (o:Out) (h:Out.ret (sB true) []=o):bp aeB env (My 6 M M.fns.length) o:=by
 have hd:=lP M.fns.length
 refine af aI (Et M M.fns.length 0) ?_
 simp only[wA,gU,jC,br,aG.ok,hd]
 refine⟨nofun,fun _=> ?_⟩
 exact h
theorem Ob (M:Mo) (l:List ByteArray) (hl:l.length≤10000000) (hb : ∀x∈l,an aeB env 77 [.p (.ps x.data.toList.length 1 (x.data.toList.map jx))] [] (sI .i64 (sk x)) []) (o:Out) (i:Nat) (x:ByteArray) (hx:l[i]? = some x) (h1:BT x=true→Out.ret (sB false) []=o) (h2:BT x=false→bp aeB env (rrC M l (i+1)) o):bp aeB env (rrC M l i) o:=by
 have hi:i<l.length:=(dt.1 hx).1
 have hmem:=mf hx
 have c:=aQ (z:=1) (enc:=eF) (fun _=>rfl) hx
 have kR:(l.flatMap eF).getD (i*1) .aU = .sc (.string x):=c 0 (by decide)
 have mJ:(l.flatMap eF).getD (i*1+0) .aU = .sc (.string x):=c 0 (by decide)
 have w:=fk i (by omega)
 have hd:=kj (i:=i) (n:=l.length) (by omega)
 have hin:=kg (i:=i) (n:=l.length) (by omega)
 refine af aI (Eu M l.length i (l.flatMap eF) (sk x)) ?_
 simp only[bh,bA,br,aG.ok,isStr,isInt,aX,isBool,aY,au,aW,aq,aK,aj,aeL,aeN,aeO,kR,mJ,hd,hin,w]
 refine⟨fun _=> ?_,fun q=>by cases q⟩
 exact⟨(by first|rfl|trivial),(by first|rfl|trivial),an.adt (m:=[.tok]) (args:=[.os (some 0) x.data.toList.length 1 (x.data.toList.map jx)]) (hb x hmem) ⟨PB.os (.refl _),trivial⟩,h1,h2⟩
theorem Tx (M:Mo) (l:List ByteArray) (hl:l.length≤10000000) (hb : ∀x∈l,an aeB env 77 [.p (.ps x.data.toList.length 1 (x.data.toList.map jx))] [] (sI .i64 (sk x)) []) (o:Out) (h:bp aeB env (KG 3 M 0) o):bp aeB env (rrC M l l.length) o:=by
 have hd:=lP l.length
 refine af aI (Eu M l.length l.length (l.flatMap eF) 0) ?_
 simp only[bh,bA,br,aG.ok,hd]
 refine⟨nofun,fun _=> ?_⟩
 exact h
theorem Oc (M:Mo) (hl:M.cN.length≤1000000) (o:Out) (i:Nat) (x:Li) (hx:M.cN[i]? = some x) (h1:mI 1048576 x=true→Out.ret (sB false) []=o) (h2:mI 1048576 x=false→bp aeB env (KG 3 M (i+1)) o):bp aeB env (KG 3 M i) o:=by
 have hi:i<M.cN.length:=(dt.1 hx).1
 have hmem:=mf hx
 have c:=aQ (z:=3) (enc:=aS) (fun _=>rfl) hx
 have kR:(M.cN.flatMap aS).getD (i*3) .aU = .sc (.int .u32 x.mn):=c 0 (by decide)
 have mJ:(M.cN.flatMap aS).getD (i*3+0) .aU = .sc (.int .u32 x.mn):=c 0 (by decide)
 have xu:(M.cN.flatMap aS).getD (i*3+1) .aU = .sc (.int .u32 x.mx):=c 1 (by decide)
 have KH:(M.cN.flatMap aS).getD (i*3+1+1) .aU = .sc (.bool x.cap):=c 2 (by decide)
 have KI:(M.cN.flatMap aS).getD (i*3+2) .aU = .sc (.bool x.cap):=c 2 (by decide)
 have w:=fk i (by omega)
 have hd:=kj (i:=i) (n:=M.cN.length) (by omega)
 have hin:=kg (i:=i) (n:=M.cN.length) (by omega)
 refine af aI (Ew M i (W7 1048576 x)) ?_
 simp only[br,aG.ok,isStr,isInt,aX,isBool,aY,au,aW,aq,aK,aj,aeL,aeN,aeO,kR,mJ,xu,KH,KI,hd,hin,w]
 refine⟨fun _=> ?_,fun q=>by cases q⟩
 exact⟨(by first|rfl|trivial),(by first|rfl|trivial),Ih x _,h1,h2⟩
theorem Tz (M:Mo) (hl:M.cN.length≤1000000) (o:Out) (h:bp aeB env (KG 6 M 0) o):bp aeB env (KG 3 M M.cN.length) o:=by
 have hd:=lP M.cN.length
 refine af aI (Ew M M.cN.length 0) ?_
 simp only[br,aG.ok,hd]
 refine⟨nofun,fun _=> ?_⟩
 exact h
theorem Od (M:Mo) (hl:M.cL.length≤1000000) (o:Out) (i:Nat) (x:Li) (hx:M.cL[i]? = some x) (h1:mI 65536 x=true→Out.ret (sB false) []=o) (h2:mI 65536 x=false→bp aeB env (KG 6 M (i+1)) o):bp aeB env (KG 6 M i) o:=by
 have hi:i<M.cL.length:=(dt.1 hx).1
 have hmem:=mf hx
 have c:=aQ (z:=3) (enc:=aS) (fun _=>rfl) hx
 have kR:(M.cL.flatMap aS).getD (i*3) .aU = .sc (.int .u32 x.mn):=c 0 (by decide)
 have mJ:(M.cL.flatMap aS).getD (i*3+0) .aU = .sc (.int .u32 x.mn):=c 0 (by decide)
 have xu:(M.cL.flatMap aS).getD (i*3+1) .aU = .sc (.int .u32 x.mx):=c 1 (by decide)
 have KH:(M.cL.flatMap aS).getD (i*3+1+1) .aU = .sc (.bool x.cap):=c 2 (by decide)
 have KI:(M.cL.flatMap aS).getD (i*3+2) .aU = .sc (.bool x.cap):=c 2 (by decide)
 have w:=fk i (by omega)
 have hd:=kj (i:=i) (n:=M.cL.length) (by omega)
 have hin:=kg (i:=i) (n:=M.cL.length) (by omega)
 refine af aI (Ey M i (W7 65536 x)) ?_
 simp only[br,aG.ok,isStr,isInt,aX,isBool,aY,au,aW,aq,aK,aj,aeL,aeN,aeO,kR,mJ,xu,KH,KI,hd,hin,w]
 refine⟨fun _=> ?_,fun q=>by cases q⟩
 exact⟨(by first|rfl|trivial),(by first|rfl|trivial),Ih x _,h1,h2⟩
theorem TA (M:Mo) (hl:M.cL.length≤1000000) (o:Out) (h:bp aeB env (KG 9 M 0) o):bp aeB env (KG 6 M M.cL.length) o:=by
 have hd:=lP M.cL.length
 refine af aI (Ey M M.cL.length 0) ?_
 simp only[br,aG.ok,hd]
 refine⟨nofun,fun _=> ?_⟩
 exact h
theorem Oe (M:Mo) (hl:M.exs.length≤1000000) (hi:an aeB env 74 [.agg (M.aH.map .p),sI .i64 2] [] (sB (iC M 2)) []) (o:Out) (i:Nat) (x:Ex) (hx:M.exs[i]? = some x) (h1:uR x=true→Out.ret (sB false) []=o) (h2:uR x=false→bp aeB env (KG 9 M (i+1)) o):bp aeB env (KG 9 M i) o:=by
 have hi:i<M.exs.length:=(dt.1 hx).1
 have hmem:=mf hx
 have c:=aQ (z:=3) (enc:=aV) (fun _=>rfl) hx
 have kR:(M.exs.flatMap aV).getD (i*3+1) .aU = .sc (.int .i64 x.kind):=c 1 (by decide)
 have w:=fk i (by omega)
 have hd:=kj (i:=i) (n:=M.exs.length) (by omega)
 have hin:=kg (i:=i) (n:=M.exs.length) (by omega)
 refine af aI (Ez M i true) ?_
 simp only[jj,jL,Gc,br,aG.ok,isStr,isInt,aX,isBool,aY,au,aW,aq,aK,aj,aeL,aeN,aeO,kR,hd,hin,w]
 refine⟨fun _=> ?_,nofun⟩
 refine⟨(by first|rfl|trivial),(by first|rfl|trivial),fun q=>h1 ?_,fun q=>⟨(by first|rfl|trivial),(by first|rfl|trivial),fun r=>h1 ?_,fun r=>h2 ?_⟩⟩<;>simp only[decide_eq_true_eq,decide_eq_false_iff_not] at * <;> simp[uR]<;>omega
theorem TB (M:Mo) (hl:M.exs.length≤1000000) (hi:an aeB env 74 [.agg (M.aH.map .p),sI .i64 2] [] (sB (iC M 2)) []) (o:Out) (h:Out.ret (sB ((M.st||M.sn==0) && !iC M 2)) []=o):bp aeB env (KG 9 M M.exs.length) o:=by
 have hd:=lP M.exs.length
 refine af aI (Ez M M.exs.length (iC M 2)) ?_
 simp only[jj,jL,Gc,br,aG.ok,hd]
 refine⟨nofun,fun _=> ?_⟩
 refine⟨fun q=>⟨hi,?_⟩,fun q=>⟨fun r=>⟨hi,?_⟩,fun r=> ?_⟩⟩
 · rw[q,ae7,aeO] at h;exact h
 · rw[q,r,xo,aeO] at h;exact h
 · rw[q,r,xo,afc] at h;exact h
theorem Xy {α β:Type} (f:α→β) (p:β→Bool) (l:List α):(l.map f).any p=l.any fun x=>p (f x):=by rw[List.any_map];rfl
theorem Xz (M:Mo) (e:Int):iC M e=(M.fns.any (fun x=>cT je x.l==e)||M.gls.any (fun x=>cT je x.l==e)||M.els.any (fun x=>cT je x.l==e)||M.bw.any (fun x=>cT je x.l==e)):=by
 simp only[iC,Aj,List.any_append,Xy]
theorem XA {M:Mo} (hs:M.rY):(∀x∈M.fns,bF x.l≤100000000000)∧(∀x∈M.gls,bF x.l≤100000000000)∧(∀x∈M.els,bF x.l≤100000000000)∧(∀x∈M.bw,bF x.l≤100000000000):=by
 refine⟨fun x hx=>hs _ ?_,fun x hx=>hs _ ?_,fun x hx=>hs _ ?_,fun x hx=>hs _ ?_⟩<;>simp only[Aj,oE,fg]
 · exact .inl (.inl (.inl ⟨x,hx,rfl⟩))
 · exact .inl (.inl (.inr ⟨x,hx,rfl⟩))
 · exact .inl (.inr ⟨x,hx,rfl⟩)
 · exact .inr ⟨x,hx,rfl⟩
theorem wB (M:Mo) (hM:M.fit) (hs:M.rY) (e:Int):an aeB env 74 [.agg (M.aH.map .p),sI .i64 e] [] (sB (iC M e)) []:=by
 obtain⟨s1,s2,s3,s4⟩:=XA hs
 refine aa aI (Tb M e) ?_
 rw[Xz]
 refine kQ (D:=Xv M e) (fun i x=>N4 M hM.fns s1 e _ i x) (To M hM.fns s1 e _) (fun q=>by rw[q];rfl) fun q1=> ?_
 refine kQ (D:=Tl M e) (fun i x=>N5 M hM.gls s2 e _ i x) (Tp M hM.gls s2 e _) (fun q=>by rw[q,ae9];rfl) fun q2=> ?_
 refine kQ (D:=Tm M e) (fun i x=>N6 M hM.els s3 e _ i x) (Tq M hM.els s3 e _) (fun q=>by rw[q,ae9];rfl) fun q3=> ?_
 refine kQ (D:=Tn M e) (fun i x=>N7 M hM.bw s4 e _ i x) (Tr M hM.bw s4 e _) (fun q=>by rw[q,ae9]) fun q4=> ?_
 rw[q1,q2,q3,q4];rfl
def PD (t:Nat) (M:Mo) (a:List PV) (i:Nat):cw:=
 if a=[] then ah aeB env 75 t [.mp 0 0,.os none 0 0 [],sI .i64 i] [.pc M.aH] 0 45
 else ah aeB env 75 t [.mp 0 0,.os (some 1) a.length 1 a,sI .i64 i] [.pc M.aH,.tok] 0 45
theorem Of (M:Mo) (hl:M.aP.length≤1000000) (o:Out) (a:List PV) (i:Nat) (x:Im) (hx:M.aP[i]? = some x) (hB:(a++Nt x).length≤10000000) (h:bp aeB env (PD 0 M (a++Nt x) (i+1)) o):bp aeB env (PD 0 M a i) o:=by
 have hi:i<M.aP.length:=(dt.1 hx).1
 have c:=aQ (z:=3) (enc:=bg) (fun _=>rfl) hx
 have c0:(M.aP.flatMap bg).getD (i*3+0) .aU = .sc (.string x.mo):=c 0 (by decide)
 have c1:(M.aP.flatMap bg).getD (i*3+1) .aU = .sc (.string x.nm):=c 1 (by decide)
 have hL:=F8
 have w:=fk i (by omega)
 have hd:=kj (i:=i) (n:=M.aP.length) (by omega)
 have hin:=kg (i:=i) (n:=M.aP.length) (by omega)
 unfold PD at h ⊢
 by_cases e:a=[]
 · subst e
   rw[if_neg (by simp[Nt]),H0] at h
   rw[if_pos rfl]
   refine af aI (Ee M 0 i []) ?_
   simp only[kE,br,aG.ok,isStr,aY,aeL,c0,c1,hd,hin,w,aeN,aeO]
   exact⟨fun _=>⟨(by first|rfl|trivial),h⟩,fun q=>(by cases q)⟩
 · rw[if_neg (by simp[e])] at h
   rw[if_neg e]
   refine af aI (Ef M a.length i a) ?_
   rw[du] at h hB
   have hB:a.length+2≤10000000:=hB
   simp only[kE,br,aG.ok,isStr,aY,aeL,c0,c1,hd,hin,w,aeN,aeO]
   exact⟨fun _=>⟨(by simp only[jn,aey];omega),h⟩,fun q=>by cases q⟩
theorem TC (M:Mo) (o:Out) (a:List PV) (h:bp aeB env (PD 2 M a 0) o):bp aeB env (PD 0 M a M.aP.length) o:=by
 have hd:=lP M.aP.length
 unfold PD at h ⊢
 by_cases e:a=[]
 · subst e
   rw[if_pos rfl] at h ⊢
   refine af aI (Ee M 0 M.aP.length []) ?_
   simp only[kE,br,aG.ok,hd]
   exact⟨nofun,fun _=>h⟩
 · rw[if_neg e] at h ⊢
   refine af aI (Ef M a.length M.aP.length a) ?_
   simp only[kE,br,aG.ok,hd]
   exact⟨nofun,fun _=>h⟩
theorem Og (M:Mo) (hl:M.exs.length≤1000000) (o:Out) (a:List PV) (i:Nat) (x:Ex) (hx:M.exs[i]? = some x) (hB:(a++V2 x).length≤10000000) (h:bp aeB env (PD 2 M (a++V2 x) (i+1)) o):bp aeB env (PD 2 M a i) o:=by
 have hi:i<M.exs.length:=(dt.1 hx).1
 have c:=aQ (z:=3) (enc:=aV) (fun _=>rfl) hx
 have c0:(M.exs.flatMap aV).getD (i*3+0) .aU = .sc (.string x.nm):=c 0 (by decide)
 have hL:=F8
 have w:=fk i (by omega)
 have hd:=kj (i:=i) (n:=M.exs.length) (by omega)
 have hin:=kg (i:=i) (n:=M.exs.length) (by omega)
 unfold PD at h ⊢
 by_cases e:a=[]
 · subst e
   rw[if_neg (by simp[V2]),H0] at h
   rw[if_pos rfl]
   refine af aI (Eg M 0 i []) ?_
   simp only[jj,jL,qi,br,aG.ok,isStr,aY,aeL,c0,hd,hin,w,aeN,aeO]
   exact⟨fun _=>⟨(by first|rfl|trivial),(by first|rfl|trivial),h⟩,fun q=>(by cases q)⟩
 · rw[if_neg (by simp[e])] at h
   rw[if_neg e]
   refine af aI (Eh M a.length i a) ?_
   rw[du] at h hB
   have hB:a.length+1≤10000000:=hB
   simp only[jj,jL,qi,br,aG.ok,isStr,aY,aeL,c0,hd,hin,w,aeN,aeO]
   exact⟨fun _=>⟨(by first|rfl|trivial),(by first|rfl|trivial),(by simp only[jn,aey];omega),h⟩,fun q=>(by cases q)⟩
theorem TD (M:Mo) (o:Out) (a:List PV) (h:Ko a=o):bp aeB env (PD 2 M a M.exs.length) o:=by
 have hd:=lP M.exs.length
 unfold Ko at h
 unfold PD
 by_cases e:a=[]
 · subst e
   rw[if_pos rfl] at h ⊢
   refine af aI (Eg M 0 M.exs.length []) ?_
   simp only[jj,jL,qi,br,aG.ok,hd]
   exact⟨nofun,fun _=>h⟩
 · rw[if_neg e] at h ⊢
   refine af aI (Eh M a.length M.exs.length a) ?_
   simp only[jj,jL,qi,br,aG.ok,hd]
   exact⟨nofun,fun _=>h⟩
theorem zE (M:Mo) (hM:M.fit):an aeB env 75 [.agg (M.aH.map .p)] [] (.p (.ps (qP M).length 1 ((qP M).flatMap eF))) []:=by
 have h1:=hM.aP
 have h2:=hM.exs
 have l1:=gG (f:=Nt) (n:=2) (fun _=>rfl) M.aP
 have l2:=gG (f:=V2) (n:=1) (fun _=>rfl) M.exs
 rw[←Ga,←F9]
 refine xY fun v m' e=> ?_
 refine aa aI (Ta M) ?_
 have k2:=nY (B:=10000000) (Og M h2 (.ret v m')) (TD M _) M.exs.length 0 (M.aP.flatMap Nt) (by omega) (by simp only[adr,du];omega) e
 have k1:=nY (B:=10000000) (Of M h1 (.ret v m')) (TC M _) M.aP.length 0 [] (by omega) (by simp only[adr,du,List.length_nil];omega) k2
 unfold PD at k1
 rw[if_pos rfl] at k1
 exact k1
theorem KJ (M:Mo) (hM:M.fit) (hs:M.rY) (h5:M.els.length≤5000):an aeB env 30 [.agg (M.aH.map .p)] [] (sB (ia M||iC M 141)) []:=by
 have hi:=wB M hM hs 141
 refine aa aI (Td M) ?_
 simp only[br,aG.ok,decide_eq_true_eq,decide_eq_false_iff_not]
 refine⟨fun q=> ?_,fun q1=>⟨fun q=> ?_,fun q2=> ?_⟩⟩
 · rw[show ia M=true by simp only[ia,j1,decide_eq_true_eq];omega,ae7]
 · rw[show ia M=true by simp only[ia,j1,decide_eq_true_eq];omega,ae7]
 · refine kQ (D:=rmC M) (fun i x=>Ts M h5 _ i x) (Xw M h5 _) (fun q=> ?_) fun q3=>⟨fun _=>hi,fun q=> ?_,fun q=> ?_⟩
   · rw[show ia M=true by simp[ia,q],ae7]
   · rw[show ia M=true by simp only[ia,j1,decide_eq_true_eq];omega,ae7]
   · rw[show ia M=false by simp only[ia,q3,afm,qs,decide_eq_false_iff_not];omega,xo]
def qF:Int→List Da→Bool
 |_,[]=>false
 |s,x::r=>decide ((x.bs.length:Int)>1048576-s)||qF (s+x.bs.length) r
theorem Ii : ∀(l:List Da),oY (-1) l<0
 |[]=>by decide
 |x::r=>by
  have e:(-1:Int)-min (x.bs.length:Int) (-1+1) = -1:=by omega
  simp only[oY,e]
  exact Ii r
theorem EA : ∀(l:List Da) (s:Int),0≤s→s≤1048576→(qF s l=true↔oY (1048576-s) l<0)
 |[],s,h0,h1=>by simp[qF,oY];omega
 |x::r,s,h0,h1=>by
  simp only[qF,oY,j1,decide_eq_true_eq]
  by_cases h:(x.bs.length:Int)>1048576-s
  · have e:(1048576-s)-min (x.bs.length:Int) (1048576-s+1) = -1:=by omega
    rw[e]
    exact⟨fun _=>Ii r,fun _=> .inl h⟩
  · have e:(1048576-s)-min (x.bs.length:Int) (1048576-s+1)=1048576-(s+x.bs.length):=by omega
    rw[e,←EA r (s+x.bs.length) (by omega) (by omega)]
    exact⟨fun q=>q.resolve_left h,.inr⟩
theorem XB (M:Mo) (hl:M.bw.length≤1000000) : ∀(r i:Nat) (s:Int),i+r=M.bw.length→0≤s→s≤1048576→bp aeB env (rlD M s i) (.ret (sB (qF s (M.bw.drop i))) []):=by
 intro r
 induction r with
 |zero=>
  intro i s hi h0 h1
  obtain rfl:i=M.bw.length:=by omega
  have hd:=lP M.bw.length
  refine af aI (Ep M M.bw.length s) ?_
  simp only[ji,oA,br,aG.ok,hd,aes,qF]
  exact⟨nofun,fun _=>trivial⟩
 |succ r ih=>
  intro i s hi h0 h1
  have Cq:i<M.bw.length:=by omega
  have hx:=df Cq
  rw[aeo Cq]
  generalize M.bw[i]=x at *
  have c:=aQ (z:=2) (enc:=bz) (fun _=>rfl) hx
  have c1:(M.bw.flatMap bz).getD (i*2+1) .aU=pT .u8 x.bs:=c 1 (by decide)
  have w:=fk i (by omega)
  have w1:tp.wrap (1048576-s)=1048576-s:=aZ (by omega) (by omega)
  have hd:=kj (i:=i) (n:=M.bw.length) (by omega)
  have hin:=kg (i:=i) (n:=M.bw.length) (by omega)
  refine af aI (Ep M i s) ?_
  simp only[ji,oA,br,aG.ok,aX,aq,aeL,c1,hd,hin,w,w1,aeN,aeO,qF,decide_eq_true_eq,decide_eq_false_iff_not]
  refine⟨fun _=>⟨trivial,trivial,fun q=> ?_,fun q=>⟨trivial,trivial,?_⟩⟩,nofun⟩
  · rw[decide_eq_true q,ae7]
  · rw[decide_eq_false q,xo,aZ (n:=s+(x.bs.length:Int)) (by omega) (by omega)]
    exact ih (i+1) _ (by omega) (by omega) (by omega)
theorem KK (M:Mo) (hM:M.fit):an aeB env 31 [.agg (M.aH.map .p)] [] (sB (gy M||qF 0 M.bw)) []:=by
 refine aa aI (Te M (qP M).length ((qP M).flatMap eF)) ?_
 simp only[bQ,aG.ok]
 refine⟨zE M hM,?_⟩
 refine kQ (l:=qP M) (D:=rlC M (qP M)) (fun i x=>Tt M (qP M) (yg hM) _ i x) (Xx M (qP M) (yg hM) _) (fun q=>by rw[gy,q,ae7]) fun q=> ?_
 rw[gy,q,xo]
 exact XB M hM.bw M.bw.length 0 0 (by omega) (by omega) (by omega)
theorem CY (M:Mo) (hM:M.fit):an aeB env 32 [.agg (M.aH.map .p)] [] (sB (!(M.tys.any yf||M.aP.any uQ||M.fns.any tN))) []:=by
 refine aa aI (Tf M) ?_
 refine kQ (D:=My 0 M) (fun i x=>N8 M hM.tys _ i x) (Tu M hM.tys _) (fun q=>by rw[q];rfl) fun q1=> ?_
 refine kQ (D:=My 3 M) (fun i x=>N9 M hM.aP _ i x) (Tv M hM.aP _) (fun q=>by rw[q,ae9];rfl) fun q2=> ?_
 refine kQ (D:=My 6 M) (fun i x=>Oa M hM.fns _ i x) (Tw M hM.fns _) (fun q=>by rw[q,ae9];rfl) fun q3=> ?_
 rw[q1,q2,q3];rfl
def Gd (M:Mo):Prop:= ∀x∈qP M,an aeB env 77 [.p (.ps x.data.toList.length 1 (x.data.toList.map jx))] [] (sI .i64 (sk x)) []
theorem KL (M:Mo) (hM:M.fit) (hs:M.rY) (ht:Gd M):an aeB env 33 [.agg (M.aH.map .p)] [] (sB (!((qP M).any BT||M.cN.any (mI 1048576)||M.cL.any (mI 65536)||M.exs.any uR)&&((M.st||M.sn==0) && !iC M 2))) []:=by
 have hi:=wB M hM hs 2
 refine aa aI (Tg M (qP M).length ((qP M).flatMap eF)) ?_
 simp only[bQ,aG.ok]
 refine⟨zE M hM,?_⟩
 refine kQ (l:=qP M) (D:=rrC M (qP M)) (fun i x=>Ob M (qP M) (yg hM) ht _ i x) (Tx M (qP M) (yg hM) ht _) (fun q=>by rw[q];rfl) fun q1=> ?_
 refine kQ (D:=KG 3 M) (fun i x=>Oc M hM.cN _ i x) (Tz M hM.cN _) (fun q=>by rw[q,ae9];rfl) fun q2=> ?_
 refine kQ (D:=KG 6 M) (fun i x=>Od M hM.cL _ i x) (TA M hM.cL _) (fun q=>by rw[q,ae9];rfl) fun q3=> ?_
 refine kQ (D:=KG 9 M) (fun i x=>Oe M hM.exs hi _ i x) (TB M hM.exs hi _) (fun q=>by rw[q,ae9];rfl) fun q4=> ?_
 rw[q1,q2,q3,q4];rfl
theorem KM (M:Mo) (hM:M.fit) (hs:M.rY) (h5:M.els.length≤5000) (ht:gy M=false→Gd M):an aeB env 13 [.agg (M.aH.map .p)] [] (sI .i64 (eB M)) []:=by
 have hov:=EA M.bw 0 (by decide) (by decide)
 refine aa aI (Tj M (ia M||iC M 141) (gy M||qF 0 M.bw) (!(M.tys.any yf||M.aP.any uQ||M.fns.any tN)) (!((qP M).any BT||M.cN.any (mI 1048576)||M.cL.any (mI 65536)||M.exs.any uR)&&((M.st||M.sn==0) && !iC M 2))) ?_
 simp only[bQ,aG.ok]
 have hm:eB M=if(ia M||iC M 141)=true then 141 else if(gy M||qF 0 M.bw)=true then 3 else if(nZ M||iC M 2)=true then 2 else 0:=by
  have ho:(oY 1048576 M.bw<0∨gy M=true)↔(gy M||qF 0 M.bw)=true:=by
   rw[j1,hov]
   exact⟨fun h=>h.elim .inr .inl,fun h=>h.elim .inr .inl⟩
  unfold eB BQ D0 Ec
  simp only[ho]
  cases ia M<;>cases iC M 141<;>cases(gy M||qF 0 M.bw)<;>cases nZ M<;>cases iC M 2<;>rfl
 have hr:(nZ M||iC M 2) = !((!(M.tys.any yf||M.aP.any uQ||M.fns.any tN))&&(!((qP M).any BT||M.cN.any (mI 1048576)||M.cL.any (mI 65536)||M.exs.any uR)&&((M.st||M.sn==0) && !iC M 2))):=by
  unfold nZ
  have hz:(M.sn != 0) = !(M.sn==0):=rfl
  rw[hz]
  cases M.tys.any yf<;>cases M.aP.any uQ<;>cases M.fns.any tN<;>cases(qP M).any BT<;>cases M.cN.any (mI 1048576)<;>cases M.cL.any (mI 65536)<;>cases M.exs.any uR<;>cases M.st<;>cases(M.sn==0)<;>cases iC M 2<;>rfl
 rw[hm,hr]
 refine⟨KJ M hM hs h5,fun q=> ?_,fun q1=>⟨KK M hM,fun q=> ?_,fun q2=>⟨CY M hM,fun q=> ?_,fun q3=>⟨KL M hM hs (ht (by rw[qs] at q2;exact q2.1)),fun q=> ?_,fun q4=> ?_⟩⟩⟩⟩
 · rw[if_pos q]
 · rw[if_neg (by rw[q1];decide),if_pos q]
 · rw[if_neg (by rw[q1];decide),if_neg (by rw[q2];decide),if_pos (by rw[ka] at q;rw[q];rfl)]
 · rw[if_neg (by rw[q1];decide),if_neg (by rw[q2];decide),if_pos (by rw[ka] at q;rw[q,afa];rfl)]
 · rw[if_neg (by rw[q1];decide),if_neg (by rw[q2];decide),if_neg (by rw[afe] at q3 q4;rw[q3,q4];decide)]
section
variable (l:List Ins)
end
def toS (M:Mo) (a:Nat) (T P Q:Int):FuncId→Nat→Nat→Option (AV→AV):=cJ [(8,5,5,sI .i64 T),(8,7,5,sI .i64 T),(8,10,4,.agg [sI .i64 P,sI .i64 Q])]
abbrev iP (x0:Mo) (x1:Nat):Bool:=isInt tp (aA (adw aM x0.fns) ((tp.wrap (tp.wrap (↑x1:Int)-(↑x0.aP.length:Int))).toNat*3+0))&&true
def abo (M:Mo) (a:Nat) (T P Q:Int):oP:=fc aB av [] (fm 8 [(0,0),(8,3),(0,2),(0,1)]) (fm 8 [(5,3),(5,5),(10,3),(10,4),(7,3),(7,5)]) (toS M a T P Q)
def adM:Sc:=(jv 5 58746924).1
def iE (M:Mo) (T P Q:Int):aG:=
 (.test (decide (T<0)) (.out (.ret (.aD [.agg [sI .i64 0,sI .i64 0],sB false]) [])) (.test (decide (T≥(↑M.tys.length:Int))) (.out (.ret (.aD [.agg [sI .i64 0,sI .i64 0],sB false]) [])) (.must (bE T M.tys.length&&true&&true) (.must (isInt tp (aA (adw bB M.tys) (T.toNat*2))&&(isInt tp (aA (adw bB M.tys) (T.toNat*2+1))&&true)&&true) (.need (AV.agg [sI .i64 (au (aA (adw bB M.tys) (T.toNat*2))),sI .i64 (au (aA (adw bB M.tys) (T.toNat*2+1)))]=AV.agg [sI tp P,sI tp Q]) (.out (.ret (.aD [.agg [sI .i64 P,sI .i64 Q],sB true]) [])))))))
def oa (M:Mo) (a:Nat) (T P Q:Int):aG:=
 (.test (decide (tp.wrap (tp.wrap (↑a:Int)-(↑M.aP.length:Int))<0))
 (.must (bE (tp.wrap (↑a:Int)) M.aP.length&&true&&true)
 (.must (isInt tp (aA (adw bg M.aP) ((tp.wrap (↑a:Int)).toNat*3+2))&&true)
 (.need (sI .i64 (au (aA (adw bg M.aP) ((tp.wrap (↑a:Int)).toNat*3+2)))=sI tp T)
 (iE M T P Q))))
 (.test (decide (tp.wrap (tp.wrap (↑a:Int)-(↑M.aP.length:Int))<(↑M.fns.length:Int)))
 (.must (bE (tp.wrap (tp.wrap (↑a:Int)-(↑M.aP.length:Int))) M.fns.length&&true&&true)
 (.must ((iP M a))
 (.need (sI .i64 (au (aA (adw aM M.fns) ((tp.wrap (tp.wrap (↑a:Int)-(↑M.aP.length:Int))).toNat*3+0)))=sI tp T)
 (iE M T P Q))))
 (.out (.ret (.aD [.agg [sI .i64 0,sI .i64 0],sB false]) []))))
theorem nv (M:Mo) (a:Nat) (T P Q:Int):aE aeB env (abo M a T P Q) 1000000 8 ([AV.agg (adP AV.p M.aH),sI acU (↑a:Int)]) ([]) adM=oa M a T P Q:=by kernel_rfl
def abp:oP:=aJ aB av [] (fm 9 [(0,0),(7,3),(0,2),(0,1)]) (fm 9 [(4,3),(4,5),(9,3),(9,4),(6,8),(6,10)])
def adN:Sc:=(jv 5 58746924).1
def fo:aG:=
 (.out (.ret (.aD [.agg [sI .i64 0,sI .i64 0],sB false]) []))
def oc (M:Mo) (a:Nat) (T P Q:Int):aG:=
 (.test (decide (tp.wrap (↑a:Int)<(↑M.aP.length:Int)))
 (.must (bE (↑a:Int) M.aP.length&&true&&true)
 (.must ((l8 M a))
 (.test (decide (au (aA (adw bg M.aP) (aF a*3+2))<0))
 (fo)
 (.test (decide (au (aA (adw bg M.aP) (aF a*3+2))≥(↑M.tys.length:Int)))
 (fo)
 (.must (bE (au (aA (adw bg M.aP) (aF a*3+2))) M.tys.length&&true&&true)
 (.must (isInt tp (aA (adw bB M.tys) ((au (aA (adw bg M.aP) (aF a*3+2))).toNat*2))&&(isInt tp (aA (adw bB M.tys) ((au (aA (adw bg M.aP) (aF a*3+2))).toNat*2+1))&&true)&&true)
 (.out (.ret (.aD [.agg [sI .i64 (au (aA (adw bB M.tys) ((au (aA (adw bg M.aP) (aF a*3+2))).toNat*2))),sI .i64 (au (aA (adw bB M.tys) ((au (aA (adw bg M.aP) (aF a*3+2))).toNat*2+1)))],sB true]) []))))))))
 (.test (decide (tp.wrap (↑a:Int)<tp.wrap ((↑M.aP.length:Int)+(↑M.fns.length:Int))))
 (.must (bE (tp.wrap (tp.wrap (↑a:Int)-(↑M.aP.length:Int))) M.fns.length&&true&&true)
 (.must ((iP M a))
 (.test (decide (au (aA (adw aM M.fns) ((tp.wrap (tp.wrap (↑a:Int)-(↑M.aP.length:Int))).toNat*3+0))<0))
 (fo)
 (.test (decide (au (aA (adw aM M.fns) ((tp.wrap (tp.wrap (↑a:Int)-(↑M.aP.length:Int))).toNat*3+0))≥(↑M.tys.length:Int)))
 (fo)
 (.must (bE (au (aA (adw aM M.fns) ((tp.wrap (tp.wrap (↑a:Int)-(↑M.aP.length:Int))).toNat*3+0))) M.tys.length&&true&&true)
 (.must (isInt tp (aA (adw bB M.tys) ((au (aA (adw aM M.fns) ((tp.wrap (tp.wrap (↑a:Int)-(↑M.aP.length:Int))).toNat*3+0))).toNat*2))&&(isInt tp (aA (adw bB M.tys) ((au (aA (adw aM M.fns) ((tp.wrap (tp.wrap (↑a:Int)-(↑M.aP.length:Int))).toNat*3+0))).toNat*2+1))&&true)&&true)
 (.out (.ret (.aD [.agg [sI .i64 (au (aA (adw bB M.tys) ((au (aA (adw aM M.fns) ((tp.wrap (tp.wrap (↑a:Int)-(↑M.aP.length:Int))).toNat*3+0))).toNat*2))),sI .i64 (au (aA (adw bB M.tys) ((au (aA (adw aM M.fns) ((tp.wrap (tp.wrap (↑a:Int)-(↑M.aP.length:Int))).toNat*3+0))).toNat*2+1)))],sB true]) []))))))))
 (fo)))
theorem nw (M:Mo) (a:Nat) (T P Q:Int):aE aeB env abp 1000000 9 ([AV.agg (adP AV.p M.aH),sI acU (↑a:Int)]) ([]) adN=oc M a T P Q:=by kernel_rfl
abbrev EB (x0:Mo) (x1:Nat):List AV:=[.p (.ps (aq (aA (adw aM x0.fns) (aF x1*3+1+1))) (aK (aA (adw aM x0.fns) (aF x1*3+1+1))) (aj (aA (adw aM x0.fns) (aF x1*3+1+1))))]
abbrev wC (x0:Mo) (x1:Nat):List AV:=[.p (.ps (aq (aA (adw aT x0.els) (aF x1*2+0))) (aK (aA (adw aT x0.els) (aF x1*2+0))) (aj (aA (adw aT x0.els) (aF x1*2+0))))]
def XC (M:Mo) (a:Nat):Int:=
 match M.aP[a]? with
 |some x=>x.ty
 |none=>match M.fns[a-M.aP.length]? with
  |some x=>x.ty
  |none=> -1
def xw (M:Mo) (a:Nat):Option Ty:=if 0≤XC M a then M.tys[(XC M a).toNat]? else none
def Jv:Option Ty→AV
 |some y=> .aD [.agg [sI .i64 y.p,sI .i64 y.r],sB true]
 |none=> .aD [.agg [sI .i64 0,sI .i64 0],sB false]
theorem Ij (M:Mo) (a:Nat):(∃x,M.aP[a]? = some x∧a<M.aP.length∧XC M a=x.ty)∨(∃b x,a=M.aP.length+b∧M.fns[b]? = some x∧b<M.fns.length∧XC M a=x.ty)∨(M.aP.length+M.fns.length≤a∧XC M a = -1):=by
 unfold XC
 by_cases h:a<M.aP.length
 · exact .inl ⟨_,df h,h,by rw[df h]⟩
 · have hn:M.aP[a]? = none:=dT (by omega)
   by_cases h2:a-M.aP.length<M.fns.length
   · refine .inr (.inl ⟨a-M.aP.length,_,by omega,df h2,h2,?_⟩)
     rw[hn,df h2]
   · refine .inr (.inr ⟨by omega,?_⟩)
     rw[hn,dT (by omega:M.fns.length≤a-M.aP.length)]
theorem wD (M:Mo) (a:Nat) (T:Int) (hT:XC M a=T):(T<0∧xw M a=none)∨(0≤T∧(M.tys.length:Int)≤T∧xw M a=none)∨(∃y,0≤T∧T<(M.tys.length:Int)∧M.tys[T.toNat]? = some y∧xw M a=some y):=by
 unfold xw
 rw[hT]
 by_cases h:T<0
 · exact .inl ⟨h,if_neg (by omega)⟩
 · by_cases h2:(M.tys.length:Int)≤T
   · exact .inr (.inl ⟨by omega,h2,by rw[if_pos (by omega),dT (by omega)]⟩)
   · have h3:T.toNat<M.tys.length:=by omega
     exact .inr (.inr ⟨_,by omega,by omega,df h3,by rw[if_pos (by omega),df h3]⟩)
theorem BZ (M:Mo) (hM:M.fit) (a:Nat) (ha:a<4294967296):an aeB env 8 [.agg (M.aH.map .p),sI .u32 a] [] (Jv (xw M a)) []:=by
 have h1:=hM.aP
 have h2:=hM.fns
 have h3:=hM.tys
 have w0:tp.wrap (a:Int)=(a:Int):=aZ (by omega) (by omega)
 have w2:tp.wrap ((M.aP.length:Int)+(M.fns.length:Int))=(M.aP.length:Int)+(M.fns.length:Int):=aZ (by omega) (by omega)
 rcases Ij M a with⟨x,hx,hi,hT⟩|⟨b,x,rfl,hx,hi,hT⟩|⟨hge,hT⟩
 · have c:=aQ (z:=3) (enc:=bg) (fun _=>rfl) hx
   have c2:(M.aP.flatMap bg).getD (a*3+2) .aU = .sc (.int .i64 x.ty):=c 2 (by decide)
   have w1:tp.wrap ((a:Int)-M.aP.length)=(a:Int)-M.aP.length:=aZ (by omega) (by omega)
   have d1:decide ((a:Int)-(M.aP.length:Int)<0)=true:=decide_eq_true (by omega)
   have d2:=kj (i:=a) (n:=M.aP.length) (by omega)
   have i1:=kg (i:=a) (n:=M.aP.length) (by omega)
   rcases wD M _ _ hT with⟨q,e⟩|⟨q,q2,e⟩|⟨y,q,q2,hy,e⟩<;>rw[e]
   · have d3:decide (x.ty<0)=true:=decide_eq_true q
     refine aa aI (nv M _ x.ty 0 0) ?_
     simp only[oa,iP,iE,br,aG.ok,isStr,isInt,aX,isBool,aY,au,aW,aq,aK,aj,aeL,aeN,aeO,dO,w0,w1,d1,d2,i1,c2,d3,Jv]
     all_goals first|trivial|rfl|exact⟨rfl,rfl⟩|exact⟨rfl,rfl,rfl⟩
   · have d3:decide (x.ty<0)=false:=decide_eq_false (by omega)
     have d4:decide (x.ty≥(M.tys.length:Int))=true:=decide_eq_true (by omega)
     refine aa aI (nv M _ x.ty 0 0) ?_
     simp only[oa,iP,iE,br,aG.ok,isStr,isInt,aX,isBool,aY,au,aW,aq,aK,aj,aeL,aeN,aeO,dO,w0,w1,d1,d2,i1,c2,d3,d4,Jv]
     all_goals first|trivial|rfl|exact⟨rfl,rfl⟩|exact⟨rfl,rfl,rfl⟩
   · have d3:decide (x.ty<0)=false:=decide_eq_false (by omega)
     have d4:decide (x.ty≥(M.tys.length:Int))=false:=decide_eq_false (by omega)
     have i2:bE x.ty M.tys.length=true:=by simp only[bE,jn,decide_eq_true_eq];omega
     have e':=aQ (z:=2) (enc:=bB) (fun _=>rfl) hy
     have e0:(M.tys.flatMap bB).getD (x.ty.toNat*2) .aU = .sc (.int .i64 y.p):=e' 0 (by decide)
     have e1:(M.tys.flatMap bB).getD (x.ty.toNat*2+1) .aU = .sc (.int .i64 y.r):=e' 1 (by decide)
     refine aa aI (nv M _ x.ty y.p y.r) ?_
     simp only[oa,iP,iE,br,aG.ok,isStr,isInt,aX,isBool,aY,au,aW,aq,aK,aj,aeL,aeN,aeO,dO,w0,w1,d1,d2,i1,c2,d3,d4,i2,e0,e1,Jv]
     all_goals first|trivial|rfl|exact⟨rfl,rfl⟩|exact⟨rfl,rfl,rfl⟩
 · have c:=aQ (z:=3) (enc:=aM) (fun _=>rfl) hx
   have c0:(M.fns.flatMap aM).getD (b*3+0) .aU = .sc (.int .i64 x.ty):=c 0 (by decide)
   have w1:tp.wrap (((M.aP.length+b:Nat):Int)-M.aP.length)=b:=by rw[aZ (by omega) (by omega)];omega
   have d1:decide ((b:Int)<0)=false:=decide_eq_false (by omega)
   have d2:=kj (i:=b) (n:=M.fns.length) (by omega)
   have d5:decide (((M.aP.length+b:Nat):Int)<(M.aP.length:Int))=false:=decide_eq_false (by omega)
   have d6:decide (((M.aP.length+b:Nat):Int)<(M.aP.length:Int)+(M.fns.length:Int))=true:=decide_eq_true (by omega)
   have i1:=kg (i:=b) (n:=M.fns.length) (by omega)
   rcases wD M _ _ hT with⟨q,e⟩|⟨q,q2,e⟩|⟨y,q,q2,hy,e⟩<;>rw[e]
   · have d3:decide (x.ty<0)=true:=decide_eq_true q
     refine aa aI (nv M _ x.ty 0 0) ?_
     simp only[oa,iP,iE,br,aG.ok,isStr,isInt,aX,isBool,aY,au,aW,aq,aK,aj,aeL,aeN,aeO,dO,w0,w1,w2,d1,d2,d5,d6,i1,c0,d3,Jv]
     all_goals first|trivial|rfl|exact⟨rfl,rfl⟩|exact⟨rfl,rfl,rfl⟩
   · have d3:decide (x.ty<0)=false:=decide_eq_false (by omega)
     have d4:decide (x.ty≥(M.tys.length:Int))=true:=decide_eq_true (by omega)
     refine aa aI (nv M _ x.ty 0 0) ?_
     simp only[oa,iP,iE,br,aG.ok,isStr,isInt,aX,isBool,aY,au,aW,aq,aK,aj,aeL,aeN,aeO,dO,w0,w1,w2,d1,d2,d5,d6,i1,c0,d3,d4,Jv]
     all_goals first|trivial|rfl|exact⟨rfl,rfl⟩|exact⟨rfl,rfl,rfl⟩
   · have d3:decide (x.ty<0)=false:=decide_eq_false (by omega)
     have d4:decide (x.ty≥(M.tys.length:Int))=false:=decide_eq_false (by omega)
     have i2:bE x.ty M.tys.length=true:=by simp only[bE,jn,decide_eq_true_eq];omega
     have e':=aQ (z:=2) (enc:=bB) (fun _=>rfl) hy
     have e0:(M.tys.flatMap bB).getD (x.ty.toNat*2) .aU = .sc (.int .i64 y.p):=e' 0 (by decide)
     have e1:(M.tys.flatMap bB).getD (x.ty.toNat*2+1) .aU = .sc (.int .i64 y.r):=e' 1 (by decide)
     refine aa aI (nv M _ x.ty y.p y.r) ?_
     simp only[oa,iP,iE,br,aG.ok,isStr,isInt,aX,isBool,aY,au,aW,aq,aK,aj,aeL,aeN,aeO,dO,w0,w1,w2,d1,d2,d5,d6,i1,c0,d3,d4,i2,e0,e1,Jv]
     all_goals first|trivial|rfl|exact⟨rfl,rfl⟩|exact⟨rfl,rfl,rfl⟩
 · have e:xw M a=none:=by unfold xw;rw[hT];exact if_neg (by decide)
   have w1:tp.wrap ((a:Int)-M.aP.length)=(a:Int)-M.aP.length:=aZ (by omega) (by omega)
   have d1:decide ((a:Int)-(M.aP.length:Int)<0)=false:=decide_eq_false (by omega)
   have d2:decide ((a:Int)-(M.aP.length:Int)<(M.fns.length:Int))=false:=decide_eq_false (by omega)
   have d5:decide ((a:Int)<(M.aP.length:Int))=false:=decide_eq_false (by omega)
   have d6:decide ((a:Int)<(M.aP.length:Int)+(M.fns.length:Int))=false:=decide_eq_false (by omega)
   rw[e]
   refine aa aI (nv M a 0 0 0) ?_
   simp only[oa,iP,iE,br,aG.ok,isStr,isInt,aX,isBool,aY,au,aW,aq,aK,aj,aeL,aeN,aeO,dO,w0,w1,w2,d1,d2,d5,d6,Jv]
   all_goals first|trivial|rfl|exact⟨rfl,rfl⟩|exact⟨rfl,rfl,rfl⟩
theorem Ik (M:Mo) (hM:M.fit) (a:Nat) (ha:a<4294967296):an aeB env 9 [.agg (M.aH.map .p),sI .u32 a] [] (Jv (xw M a)) []:=by
 have h1:=hM.aP
 have h2:=hM.fns
 have h3:=hM.tys
 have w0:tp.wrap (a:Int)=(a:Int):=aZ (by omega) (by omega)
 have w2:tp.wrap ((M.aP.length:Int)+(M.fns.length:Int))=(M.aP.length:Int)+(M.fns.length:Int):=aZ (by omega) (by omega)
 rcases Ij M a with⟨x,hx,hi,hT⟩|⟨b,x,rfl,hx,hi,hT⟩|⟨hge,hT⟩
 · have c:=aQ (z:=3) (enc:=bg) (fun _=>rfl) hx
   have c2:(M.aP.flatMap bg).getD (a*3+2) .aU = .sc (.int .i64 x.ty):=c 2 (by decide)
   have w1:tp.wrap ((a:Int)-M.aP.length)=(a:Int)-M.aP.length:=aZ (by omega) (by omega)
   have d1:decide ((a:Int)-(M.aP.length:Int)<0)=true:=decide_eq_true (by omega)
   have d2:=kj (i:=a) (n:=M.aP.length) (by omega)
   have i1:=kg (i:=a) (n:=M.aP.length) (by omega)
   rcases wD M _ _ hT with⟨q,e⟩|⟨q,q2,e⟩|⟨y,q,q2,hy,e⟩<;>rw[e]
   · have d3:decide (x.ty<0)=true:=decide_eq_true q
     refine aa aI (nw M _ 0 0 0) ?_
     simp only[oc,iP,l8,fo,br,aG.ok,isStr,isInt,aX,isBool,aY,au,aW,aq,aK,aj,aeL,aeN,aeO,dO,w0,w1,d1,d2,i1,c2,d3,Jv]
     all_goals first|trivial|rfl|exact⟨rfl,rfl⟩|exact⟨rfl,rfl,rfl⟩
   · have d3:decide (x.ty<0)=false:=decide_eq_false (by omega)
     have d4:decide (x.ty≥(M.tys.length:Int))=true:=decide_eq_true (by omega)
     refine aa aI (nw M _ 0 0 0) ?_
     simp only[oc,iP,l8,fo,br,aG.ok,isStr,isInt,aX,isBool,aY,au,aW,aq,aK,aj,aeL,aeN,aeO,dO,w0,w1,d1,d2,i1,c2,d3,d4,Jv]
     all_goals first|trivial|rfl|exact⟨rfl,rfl⟩|exact⟨rfl,rfl,rfl⟩
   · have d3:decide (x.ty<0)=false:=decide_eq_false (by omega)
     have d4:decide (x.ty≥(M.tys.length:Int))=false:=decide_eq_false (by omega)
     have i2:bE x.ty M.tys.length=true:=by simp only[bE,jn,decide_eq_true_eq];omega
     have e':=aQ (z:=2) (enc:=bB) (fun _=>rfl) hy
     have e0:(M.tys.flatMap bB).getD (x.ty.toNat*2) .aU = .sc (.int .i64 y.p):=e' 0 (by decide)
     have e1:(M.tys.flatMap bB).getD (x.ty.toNat*2+1) .aU = .sc (.int .i64 y.r):=e' 1 (by decide)
     refine aa aI (nw M _ 0 0 0) ?_
     simp only[oc,iP,l8,fo,br,aG.ok,isStr,isInt,aX,isBool,aY,au,aW,aq,aK,aj,aeL,aeN,aeO,dO,w0,w1,d1,d2,i1,c2,d3,d4,i2,e0,e1,Jv]
     all_goals first|trivial|rfl|exact⟨rfl,rfl⟩|exact⟨rfl,rfl,rfl⟩
 · have c:=aQ (z:=3) (enc:=aM) (fun _=>rfl) hx
   have c0:(M.fns.flatMap aM).getD (b*3+0) .aU = .sc (.int .i64 x.ty):=c 0 (by decide)
   have w1:tp.wrap (((M.aP.length+b:Nat):Int)-M.aP.length)=b:=by rw[aZ (by omega) (by omega)];omega
   have d1:decide ((b:Int)<0)=false:=decide_eq_false (by omega)
   have d2:=kj (i:=b) (n:=M.fns.length) (by omega)
   have d5:decide (((M.aP.length+b:Nat):Int)<(M.aP.length:Int))=false:=decide_eq_false (by omega)
   have d6:decide (((M.aP.length+b:Nat):Int)<(M.aP.length:Int)+(M.fns.length:Int))=true:=decide_eq_true (by omega)
   have i1:=kg (i:=b) (n:=M.fns.length) (by omega)
   rcases wD M _ _ hT with⟨q,e⟩|⟨q,q2,e⟩|⟨y,q,q2,hy,e⟩<;>rw[e]
   · have d3:decide (x.ty<0)=true:=decide_eq_true q
     refine aa aI (nw M _ 0 0 0) ?_
     simp only[oc,iP,l8,fo,br,aG.ok,isStr,isInt,aX,isBool,aY,au,aW,aq,aK,aj,aeL,aeN,aeO,dO,w0,w1,w2,d1,d2,d5,d6,i1,c0,d3,Jv]
     all_goals first|trivial|rfl|exact⟨rfl,rfl⟩|exact⟨rfl,rfl,rfl⟩
   · have d3:decide (x.ty<0)=false:=decide_eq_false (by omega)
     have d4:decide (x.ty≥(M.tys.length:Int))=true:=decide_eq_true (by omega)
     refine aa aI (nw M _ 0 0 0) ?_
     simp only[oc,iP,l8,fo,br,aG.ok,isStr,isInt,aX,isBool,aY,au,aW,aq,aK,aj,aeL,aeN,aeO,dO,w0,w1,w2,d1,d2,d5,d6,i1,c0,d3,d4,Jv]
     all_goals first|trivial|rfl|exact⟨rfl,rfl⟩|exact⟨rfl,rfl,rfl⟩
   · have d3:decide (x.ty<0)=false:=decide_eq_false (by omega)
     have d4:decide (x.ty≥(M.tys.length:Int))=false:=decide_eq_false (by omega)
     have i2:bE x.ty M.tys.length=true:=by simp only[bE,jn,decide_eq_true_eq];omega
     have e':=aQ (z:=2) (enc:=bB) (fun _=>rfl) hy
     have e0:(M.tys.flatMap bB).getD (x.ty.toNat*2) .aU = .sc (.int .i64 y.p):=e' 0 (by decide)
     have e1:(M.tys.flatMap bB).getD (x.ty.toNat*2+1) .aU = .sc (.int .i64 y.r):=e' 1 (by decide)
     refine aa aI (nw M _ 0 0 0) ?_
     simp only[oc,iP,l8,fo,br,aG.ok,isStr,isInt,aX,isBool,aY,au,aW,aq,aK,aj,aeL,aeN,aeO,dO,w0,w1,w2,d1,d2,d5,d6,i1,c0,d3,d4,i2,e0,e1,Jv]
     all_goals first|trivial|rfl|exact⟨rfl,rfl⟩|exact⟨rfl,rfl,rfl⟩
 · have e:xw M a=none:=by unfold xw;rw[hT];exact if_neg (by decide)
   have w1:tp.wrap ((a:Int)-M.aP.length)=(a:Int)-M.aP.length:=aZ (by omega) (by omega)
   have d1:decide ((a:Int)-(M.aP.length:Int)<0)=false:=decide_eq_false (by omega)
   have d2:decide ((a:Int)-(M.aP.length:Int)<(M.fns.length:Int))=false:=decide_eq_false (by omega)
   have d5:decide ((a:Int)<(M.aP.length:Int))=false:=decide_eq_false (by omega)
   have d6:decide ((a:Int)<(M.aP.length:Int)+(M.fns.length:Int))=false:=decide_eq_false (by omega)
   rw[e]
   refine aa aI (nw M a 0 0 0) ?_
   simp only[oc,iP,l8,fo,br,aG.ok,isStr,isInt,aX,isBool,aY,au,aW,aq,aK,aj,aeL,aeN,aeO,dO,w0,w1,w2,d1,d2,d5,d6,Jv]
   all_goals first|trivial|rfl|exact⟨rfl,rfl⟩|exact⟨rfl,rfl,rfl⟩
abbrev gA (x0:Nat) (x1:List Int):Bool:=bE (↑x0:Int) x1.length&&true&&true
abbrev gB (x0:Nat) (x1:List Int):Bool:=decide ((↑x0:Int)<(↑x1.length:Int))
abbrev j5 (x0:List Int) (x1:Nat):Bool:=isInt acU (aA (dg acU x0) (aF x1*1))&&true
theorem Mz (M:Mo) (fs:List Int) (i:Nat):grow aeB env (aJ aB av [(98,2)] [(98,0,3),(98,0,4)] [(98,8,0),(98,8,1)]) 1000000 true (ah aeB env 98 2 ([AV.mp 0 0,AV.p (PV.ps fs.length 1 (dg acU fs)),sI tp (↑fs.length:Int),sI tp (↑i:Int)]) ([bf.pc M.aH]) 0 40) (.fin) atEnd =
(.test ((gB i fs))
 (.must ((gA i fs))
 (.must ((j5 fs i))
 (.test (decide (ae1.wrap (au (aA (dg acU fs) (aF i*1)))≥ae1.wrap (tp.wrap ((↑M.aP.length:Int)+(↑M.fns.length:Int)))))
 (.out (.ret (.aD [sI .i64 6,sI .i64 0]) []))
 (.at (ah aeB env 98 2 [.mp 0 0,.p (.ps fs.length 1 (dg acU fs)),sI .i64 (↑fs.length:Int),sI .i64 (tp.wrap ((↑i:Int)+1))] ([.pc M.aH]) 0 40)))))
 (.out (.ret (.aD [sI .i64 0,sI .i64 0]) []))):=by kernel_rfl
def KN (c t:Int):Bool:=decide (ae1.wrap t≥ae1.wrap c)
def oZ (M:Mo):Int:=tp.wrap ((M.aP.length:Int)+(M.fns.length:Int))
def Oh (M:Mo) (x:El):Int:=if M.cN.length=0 then 6 else if(iD x.l==0)=true then(if x.fs.any (KN (oZ M))=true then 6 else 0) else 210
theorem abq (M:Mo) (fs:List Int) (hl:fs.length≤1000000000) : ∀r i:Nat,i+r=fs.length→bp aeB env (ah aeB env 98 2 [.mp 0 0,.p (.ps fs.length 1 (dg .u32 fs)),sI .i64 fs.length,sI .i64 i] [.pc M.aH] 0 40) (.ret (.aD [sI .i64 (if(fs.drop i).any (KN (oZ M))=true then 6 else 0),sI .i64 0]) []):=by
 intro r
 induction r with
 |zero=>
  intro i hi
  obtain rfl:i=fs.length:=by omega
  have hd:=lP fs.length
  refine af aI (Mz M fs fs.length) ?_
  simp only[j5,gB,gA,br,aG.ok,hd,aes,List.any_nil]
  exact⟨fun q=>(by cases q),fun _=>(by first|exact aeQ|rfl)⟩
 |succ r ih=>
  intro i hi
  have Cq:i<fs.length:=by omega
  have hd:=kj (i:=i) (n:=fs.length) (by omega)
  have hin:=kg (i:=i) (n:=fs.length) (by omega)
  have w:=fk i (by omega)
  have c0:(dg .u32 fs).getD (i*1) .aU = .sc (.int .u32 fs[i]):=by rw[aez,kN .u32 fs i Cq,de,df Cq];rfl
  have k:=ih (i+1) (by omega)
  rw[aeo Cq,aew]
  refine af aI (Mz M fs i) ?_
  simp only[j5,gB,gA,br,aG.ok,isInt,au,aeL,c0,hd,hin,w,aeN]
  refine⟨fun _=>⟨(by first|rfl|trivial),(by first|rfl|trivial),fun q=> ?_,fun q=> ?_⟩,fun q=>(by cases q)⟩
  · have e:KN (oZ M) fs[i]=true:=q
    rw[e];rfl
  · have e:KN (oZ M) fs[i]=false:=q
    rw[e,xo];exact k
theorem Oi (M:Mo) (x:El) (hl:x.fs.length≤1000000000) (h:bF x.l≤100000000000):an aeB env 98 [.agg (M.aH.map .p),.agg [aL x.l,.p (.ps x.fs.length 1 (dg .u32 x.fs))],.fn (.func 88) [] []] [] (.aD [sI .i64 (Oh M x),sI .i64 0]) []:=by
 refine aa aI (Xg M x.l x.fs (iD x.l==0)) ?_
 simp only[jf,aG.ok]
 unfold Oh
 by_cases z:M.cN.length=0
 · rw[if_pos z]
   exact⟨fun _=>(by first|exact aeQ|rfl),fun q=>absurd z (by intro e;simp[e] at q)⟩
 · rw[if_neg z]
   refine⟨fun q=>absurd (by simpa using q) z,fun _=>⟨qe _ h,fun q=> ?_,fun q=> ?_⟩⟩
   · rw[if_neg (by simpa using q)]
   · rw[if_pos (by simpa using q)]
     exact abq M x.fs hl x.fs.length 0 (by omega)
theorem XD (M:Mo) {i:Nat} (hi:i<M.els.length) (hl:M.els[i].fs.length≤1000000000) (h:bF M.els[i].l≤100000000000):an aeB env 97 [sI .i64 i,.mp 0 0,.mp 1 0] (CX M) (.aD [sI .i64 (Oh M M.els[i]),sI .i64 0]) (CX M):=by
 have hx:M.els[i]? = some M.els[i]:=df hi
 have c:=aQ (z:=2) (enc:=aT) (fun _=>rfl) hx
 have c0:(M.els.flatMap aT).getD (i*2) .aU = .ps M.els[i].l.length 8 (ak M.els[i].l):=c 0 (by decide)
 have c1:(M.els.flatMap aT).getD (i*2+1) .aU = .ps M.els[i].fs.length 1 (dg .u32 M.els[i].fs):=c 1 (by decide)
 have hin:=kg (i:=i) (n:=M.els.length) (by omega)
 refine aa aI (Xe M i false (Oh M M.els[i])) ?_
 simp only[gm,fO,br,aG.ok,aX,aq,aK,aj,aeL,c0,c1,hin,aeN,aeO]
 exact⟨Oi M _ hl h,(by first|rfl|trivial),(by first|rfl|trivial),(by first|rfl|trivial)⟩
def Oj (M:Mo):Int:=match xw M M.sn.toNat with
 |none=>6
 |some y=>if(y.p==0&&(y.r==0&&true))=true then 0 else 213
theorem XE (M:Mo) (hM:M.fit) (hs:0≤M.sn∧M.sn<4294967296) (i:Nat):an aeB env 96 [sI .i64 i,.mp 0 0] (HH M) (.aD [sI .i64 (Oj M),sI .i64 0]) (HH M):=by
 have t:=BZ M hM M.sn.toNat (by omega)
 rw[Int.toNat_of_nonneg hs.1] at t
 unfold Oj
 cases e:xw M M.sn.toNat with
 |none=>
  rw[e] at t
  refine aa aI (Mu M i 0 0 0 0 false) ?_
  simp only[gp,eg,aG.ok]
  exact⟨t,fun _=>(by first|exact aeQ|rfl),fun q=>(by cases q)⟩
 |some y=>
  rw[e] at t
  refine aa aI (Mu M i y.p y.r (if(y.p==0&&(y.r==0&&true))=true then 0 else 213) 0 true) ?_
  simp only[gp,eg,aG.ok]
  exact⟨t,fun q=>(by cases q),fun _=>⟨fI _ 213,(by first|exact aeQ|rfl)⟩⟩
theorem XF (M:Mo) (c:Int):aE aeB env (aJ (fun f _ m=>cond (ai f 12) (some (sI .i64 c,m)) none) av [(20,1)] [(20,0,0)] []) 1000000 20 ([AV.agg (adP AV.p M.aH)]) ([]) (.fin) =
(.call ⟨12,(bQ M),[],sI .i64 c,[]⟩
 (.test (c != 0)
 (.out (.ret (.agg [sI .i64 c,sI .i64 0,sI .i64 0,sI .i64 0]) []))
 (.at (ah aeB env 20 1 [.mp 0 0,.mp 1 0,sI .i64 2] ((cU M)) 0 24)))):=by kernel_rfl
abbrev dV (x0:Int) (x1:Int) (x2:Int) (x3:Int):AV:= .agg [sI .i64 x0,sI .i64 x1,sI .i64 x2,sI .i64 x3]
theorem MA (M:Mo) (d:Nat) (e n i a:Int):grow aeB env (aJ (fun f _ m=>cond (ai f 43) (some (.agg [sI .i64 e,sI .i64 n,sI .i64 i,sI .i64 a],m)) none) av [(20,1)] [(20,0,2),(20,0,3)] []) 1000000 true (ah aeB env 20 1 ([AV.mp 0 0,AV.mp 1 0,sI tp (↑d:Int)]) ([bf.pc M.aH,bf.pc [sP 0,sP 0,sP 0,sP 0]]) 0 24) (.fin) atEnd =
(.test (decide ((↑d:Int)≤11))
 (.call ⟨43,(oy M d),[],(dV e n i a),[]⟩
 (.test (e != 0)
 (.out (.ret (.agg [sI .i64 e,sI .i64 n,sI .i64 i,sI .i64 a]) []))
 (.at (ah aeB env 20 1 [.mp 0 0,.mp 1 0,sI .i64 (tp.wrap ((↑d:Int)+1))] ((cU M)) 0 24))))
 (.out (.ret (.agg [sI .i64 0,sI .i64 0,sI .i64 0,sI .i64 0]) []))):=by kernel_rfl
abbrev Wr:=Int×Int×Int×Int
def wV (w:Wr):AV:= .agg [sI .i64 w.1,sI .i64 w.2.1,sI .i64 w.2.2.1,sI .i64 w.2.2.2]
def TE (F:Nat→Wr):Nat→Nat→Wr
 |0,_=>(0,0,0,0)
 |r+1,d=>if(F d).1≠0 then F d else TE F r (d+1)
def qG (M:Mo) (F:Nat→Wr):Wr:=if eB M≠0 then(eB M,0,0,0) else TE F 10 2
theorem Ol (M:Mo) (hc:an aeB env 12 [.agg (M.aH.map .p)] [] (sI .i64 (eB M)) []) (F:Nat→Wr) (h:eB M=0 → ∀d:Nat,2≤d→d≤11→an aeB env 43 [.agg (M.aH.map .p),sI .i64 d] [] (wV (F d)) []) :
  an aeB env 20 [.agg (M.aH.map .p)] [] (wV (qG M F)) []:=by
 have loop:eB M=0 → ∀r d:Nat,d+r=12→2≤d→bp aeB env (ah aeB env 20 1 [.mp 0 0,.mp 1 0,sI .i64 d] [.pc M.aH,.pc [sP 0,sP 0,sP 0,sP 0]] 0 24) (.ret (wV (TE F r d)) []):=by
  intro z0 r
  induction r with
  |zero=>
   intro d hd h2
   have e:decide ((d:Int)≤11)=false:=decide_eq_false (by omega)
   refine af aI (MA M d 0 0 0 0) ?_
   simp only[cU,dV,oy,aG.ok,e]
   exact⟨fun q=>(by cases q),fun _=>(by first|exact aeQ|rfl)⟩
  |succ r ih=>
   intro d hd h2
   have e:decide ((d:Int)≤11)=true:=decide_eq_true (by omega)
   have w:=fk d (by omega)
   have k:=ih (d+1) (by omega) (by omega)
   refine af aI (MA M d (F d).1 (F d).2.1 (F d).2.2.1 (F d).2.2.2) ?_
   simp only[cU,dV,oy,aG.ok,e,w]
   refine⟨fun _=>⟨h z0 d h2 (by omega),fun q=> ?_,fun q=> ?_⟩,nofun⟩
   · rw[TE,if_pos (by simpa using q)];rfl
   · rw[TE,if_neg (by simpa using q)];exact k
 refine aa aI (XF M (eB M)) ?_
 simp only[cU,bQ,aG.ok]
 refine⟨hc,fun q=> ?_,fun q=> ?_⟩
 · rw[qG,if_pos (by simpa using q)];rfl
 · rw[qG,if_neg (by simpa using q)]
   exact loop (by simpa using q) 10 2 (by decide) (by decide)
structure _root_.Go.Am.Mo.le (A M:Mo):Prop where
 tys:A.tys.Sublist M.tys
 aP:A.aP.Sublist M.aP
 fns:A.fns.Sublist M.fns
 cN:A.cN.Sublist M.cN
 cL:A.cL.Sublist M.cL
 gls:A.gls.Sublist M.gls
 exs:A.exs.Sublist M.exs
 els:A.els.Sublist M.els
 bw:A.bw.Sublist M.bw
 st:(A.st=M.st∧A.sn=M.sn)∨A.sn=0
structure _root_.Go.Am.Mo.Il (M:Mo):Prop where
 many:ia M=false
 abr:iC M 141=false
 left : ¬oY 1048576 M.bw<0
 long:gy M=false
 rest:nZ M=false
 adO:iC M 2=false
theorem Ak (M:Mo):eB M=0↔M.Il:=by
 unfold eB BQ D0 Ec
 constructor
 · intro h
   cases h1:ia M with
   |true=>simp[h1] at h
   |false=>
    cases h2:iC M 141 with
    |true=>simp[h1,h2] at h
    |false=>
     by_cases h3:oY 1048576 M.bw<0
     · simp[h1,h2,h3] at h
     · cases h4:gy M with
       |true=>simp[h1,h2,h3,h4] at h
       |false=>
        cases h5:nZ M with
        |true=>simp[h1,h2,h3,h4,h5] at h
        |false=>
         cases h6:iC M 2 with
         |true=>simp[h1,h2,h3,h4,h5,h6] at h
         |false=>exact⟨h1,h2,h3,h4,h5,h6⟩
 · intro⟨h1,h2,h3,h4,h5,h6⟩
   simp[h1,h2,h3,h4,h5,h6]
theorem le_refl (M:Mo):M.le M:=⟨.refl _,.refl _,.refl _,.refl _,.refl _,.refl _,.refl _,.refl _,.refl _,.inl ⟨rfl,rfl⟩⟩
end Go.Proofs.YtdmmllcjgjmbbaaGreatDoor.N
end
section
namespace Go.Am
def gC (op:Int):Nat:=
 if op=69∨op=103∨op=104∨op=105∨op=26∨op=33∨op=36∨op=34∨op=40∨op=44∨op=45∨op=46∨op=47∨op=64 then 1
 else if(70≤op∧op≤79)∨(106≤op∧op≤120)∨op=54∨op=58∨op=59 then 2 else if op=27 then 3 else 0
def iw (op:Int):Nat:=
 if op=69∨op=103∨op=104∨op=105∨(70≤op∧op≤79)∨(106≤op∧op≤120)∨op=27∨op=32∨op=35∨op=63∨op=65∨op=34∨op=40∨op=44∨op=45∨op=46∨op=47∨op=64 then 1 else 0
def wE (op:Int):Bool:=decide (gC op≠0∨iw op≠0∨op=1)
theorem Om (op:Int):gC op≤3:=by
 unfold gC
 split
 · omega
 split
 · omega
 split<;>omega
theorem yu (op:Int):iw op≤1:=by unfold iw;split<;>omega
def gI (op:Int):Bool:=decide (op=40∨op=44∨op=45∨op=46∨op=47∨op=54∨op=58∨op=59)
def dr (op:Int):Int:=if op=40∨op=54 then 2 else if op=46∨op=47∨op=59 then 1 else 0
structure fS where
 ty:Int→Option (Nat×Nat)
 ind:Int→Option (Nat×Nat)
 cX:List Bool
 mem:Bool
 own:Nat
 ret:Nat
inductive VR where
 |aU (e:Int) (at':Nat)
 |ok (n:Nat) (dead:Bool) (c:Nat)
def bU (at' k n:Nat) (d:Bool) (f:Nat→VR):VR:=if n<k∧d=false then .aU 200 at' else f (n-k)
def dx (r n:Nat) (d:Bool) (at':Nat) (f:VR):VR:=bU at' r n d fun m=>if 0<m then .aU 201 at' else f
def bJ (V:fS) (op a:Int):Int:=
 if op=32∨op=33∨op=34 then(if a<V.own then 0 else 6)
 else if op=36 then(match V.cX[a.toNat]? with
  |some true=>0
  |some false=>212
  |none=>6)
 else if op=35 then(if a<V.cX.length then 0 else 6)
 else if op=63∨op=64 then(if V.mem=true then 0 else 6)
 else if gI op=true then(if V.mem=true then(if dr op<a then 211 else 0) else 6)
 else 0
def zT (ls:List Nat) (tags:List Int) (a:Int):Int ⊕ Nat:=
 if tags.all (fun t=>decide (t<ls.length))=false then .inl 6
 else match ls[a.toNat]? with
  |none=> .inl 6
  |some k=>if tags.all (fun t=>ls.getD t.toNat 0==k)=true then .inr k else .inl 214
def dW (V:fS) (ls:List Nat) (op a:Int) (tags:List Int) (n:Nat) (d:Bool) (c:Nat):VR:=
 if op=12 then(match ls[a.toNat]? with
  |none=> .aU 6 c
  |some k=>bU c k n d fun _=> .ok 0 true c)
 else if op=13 then(match ls[a.toNat]? with
  |none=> .aU 6 c
  |some k=>bU c 1 n d fun n1=>bU c k n1 d fun n2=> .ok (n2+k) d c)
 else if op=14 then(match zT ls tags a with
  |.inl e=> .aU e c
  |.inr k=>bU c 1 n d fun n1=>bU c k n1 d fun _=> .ok 0 true c)
 else if op=15 then bU c V.ret n d fun _=> .ok 0 true c
 else if op=16 then(match V.ty a with
  |none=> .aU 6 c
  |some (p,r)=>bU c p n d fun n1=> .ok (n1+r) d c)
 else if op=17 then(match V.ind a with
  |none=> .aU 6 c
  |some (p,r)=>bU c 1 n d fun n1=>bU c p n1 d fun n2=> .ok (n2+r) d c)
 else if bJ V op a≠0 then .aU (bJ V op a) c
 else bU c (gC op) n d fun n1=> .ok (n1+iw op) d c
mutual
def gQ (V:fS) (ls:List Nat):Ins→Nat→Bool→Nat→VR
 |.mk op r a _ _ tags l e,n,d,c=>
  if op=0 then .ok 0 true c
  else if op=2∨op=3 then
   (match cM V ((if op=3 then 0 else r.toNat)::ls) l 0 false c with
     |.aU e p=> .aU e p
     |.ok n1 d1 c1=>dx r.toNat n1 d1 c (.ok (n+r.toNat) d c1))
  else if op=4 then
   bU c 1 n d fun n0=>(match cM V (r.toNat::ls) l 0 false c with
    |.aU e p=> .aU e p
    |.ok n1 d1 c1=>dx r.toNat n1 d1 c (match cM V (r.toNat::ls) e 0 false c1 with
     |.aU e p=> .aU e p
     |.ok n2 d2 c2=>dx r.toNat n2 d2 c (.ok (n0+r.toNat) d c2)))
  else dW V ls op a tags n d c
def cM (V:fS) (ls:List Nat):List Ins→Nat→Bool→Nat→VR
 |[],n,d,c=> .ok n d c
 |x::r,n,d,c=>match gQ V ls x n d (c+1) with
  |.aU e p=> .aU e p
  |.ok n1 d1 c1=>cM V ls r n1 d1 c1
end
def wF (V:fS) (l:List Ins):Int×Nat:=
 match cM V [V.ret] l 0 false 0 with
 |.aU e p=>(e,p)
 |.ok n d _=>match dx V.ret n d 0 (.ok 0 false 0) with
  |.aU e p=>(e,p)
  |.ok .. =>(0,0)
end Go.Am
end
section
set_option linter.unusedSimpArgs false
set_option linter.unusedVariables false
namespace Go.Proofs.YtdmmllcjgjmbbaaGreatDoor.N
open Go Go.Am
def abt:Env:={env with wr:=fun f d=>ai f 95&&ai d 23}
def vxC (M:Mo) (i:Nat) (L:List ByteArray) (c0 c1 c2 c3:Int) (e:Int) (f:FuncId) (args:List AV) (m:Mem):Option (AV×Mem):=cond (ai f 92) (some (.aD [sI .i64 e,sI .i64 0],m)) none
def af1 (M:Mo) (i:Nat) (L:List ByteArray) (c0 c1 c2 c3:Int) (e:Int):FuncId→Nat→Nat→Option (AV→AV):=cJ [(123,3,5,sI .i64 0)]
def af2 (M:Mo) (i:Nat) (L:List ByteArray) (c0 c1 c2 c3:Int) (e:Int):FuncId→Nat→Nat→Option (AV→AV):=cJ [(123,3,5,sI .i64 1)]
def af3 (M:Mo) (i:Nat) (L:List ByteArray) (c0 c1 c2 c3:Int) (e:Int):FuncId→Nat→Nat→Option (AV→AV):=cJ [(123,3,5,sI .i64 2)]
def af4 (M:Mo) (i:Nat) (L:List ByteArray) (c0 c1 c2 c3:Int) (e:Int):FuncId→Nat→Nat→Option (AV→AV):=cJ [(123,3,5,sI .i64 3)]
abbrev zF (x0:List ByteArray) (x1:Mo) (x2:Nat):List AV:=[.p (.sc (.bool !fy x0 (aY (aA (adw aV x1.exs) (aF x2*3))))),sI .i64 7]
abbrev zG (x0:Mo) (x1:Nat) (x2:Int):Bool:=decide (ae1.wrap (au (aA (adw aV x0.exs) (aF x1*3+1+1)))≥ae1.wrap x2)
abbrev zH (x0:Mo) (x1:Nat):Bool:=isStr (aA (adw aV x0.exs) (aF x1*3))&&(isInt tp (aA (adw aV x0.exs) (aF x1*3+1))&&(isInt acU (aA (adw aV x0.exs) (aF x1*3+1+1))&&true))&&true
abbrev zI (x0:Mo) (x1:Int) (x2:Int) (x3:Int) (x4:Int) (x5:List ByteArray) (x6:Nat):Mem:=[.pc x0.aH,.ac [.vm 3],.ac [.vm 4],.ob (eG.map [vd tp 0,vd tp 1,vd tp 2,vd tp 3] [0,1,2,3] 4) [sI .i64 x1,sI .i64 x2,sI .i64 x3,sI .i64 x4],.ob (eG.smap (xz x5 (aY (aA (adw aV x0.exs) (aF x6*3))))) []]
theorem TF (M:Mo) (i:Nat) (L:List ByteArray) (c0 c1 c2 c3 e:Int):aE aeB env (fc (vxC M i L c0 c1 c2 c3 e) av [] [(123,0,0)] [(123,2,3),(123,2,4)] (af1 M i L c0 c1 c2 c3 e)) 1000000 123 ([sI tp (↑i:Int),AV.mp 0 0,AV.mp 1 0,AV.mp 2 0]) ([bf.pc M.aH,bf.ac [AV.vm 3],bf.ac [AV.vm 4],bf.ob (eG.map [vd tp 0,vd tp 1,vd tp 2,vd tp 3] [0,1,2,3] 4) [sI tp c0,sI tp c1,sI tp c2,sI tp c3],bf.ob (eG.smap L) []]) (.fin) =
(.must ((jj i M))
 (.must ((zH M i))
 (.need (sI .i64 (au (aA (adw aV M.exs) (aF i*3+1)))=sI tp 0)
 (.test ((zG M i c0))
 (.out (.ret (.aD [sI .i64 6,sI .i64 0]) (nu M c0 c1 c2 c3 L)))
 (.call ⟨92,(zF L M i),[],(fO e),[]⟩
 (.out (.ret (.aD [sI .i64 e,sI .i64 0]) (zI M c0 c1 c2 c3 L i)))))))):=by kernel_rfl
theorem TG (M:Mo) (i:Nat) (L:List ByteArray) (c0 c1 c2 c3 e:Int):aE aeB env (fc (vxC M i L c0 c1 c2 c3 e) av [] [(123,0,0)] [(123,2,3),(123,2,4)] (af2 M i L c0 c1 c2 c3 e)) 1000000 123 ([sI tp (↑i:Int),AV.mp 0 0,AV.mp 1 0,AV.mp 2 0]) ([bf.pc M.aH,bf.ac [AV.vm 3],bf.ac [AV.vm 4],bf.ob (eG.map [vd tp 0,vd tp 1,vd tp 2,vd tp 3] [0,1,2,3] 4) [sI tp c0,sI tp c1,sI tp c2,sI tp c3],bf.ob (eG.smap L) []]) (.fin) =
(.must ((jj i M))
 (.must ((zH M i))
 (.need (sI .i64 (au (aA (adw aV M.exs) (aF i*3+1)))=sI tp 1)
 (.test ((zG M i c1))
 (.out (.ret (.aD [sI .i64 6,sI .i64 0]) (nu M c0 c1 c2 c3 L)))
 (.call ⟨92,(zF L M i),[],(fO e),[]⟩
 (.out (.ret (.aD [sI .i64 e,sI .i64 0]) (zI M c0 c1 c2 c3 L i)))))))):=by kernel_rfl
theorem TH (M:Mo) (i:Nat) (L:List ByteArray) (c0 c1 c2 c3 e:Int):aE aeB env (fc (vxC M i L c0 c1 c2 c3 e) av [] [(123,0,0)] [(123,2,3),(123,2,4)] (af3 M i L c0 c1 c2 c3 e)) 1000000 123 ([sI tp (↑i:Int),AV.mp 0 0,AV.mp 1 0,AV.mp 2 0]) ([bf.pc M.aH,bf.ac [AV.vm 3],bf.ac [AV.vm 4],bf.ob (eG.map [vd tp 0,vd tp 1,vd tp 2,vd tp 3] [0,1,2,3] 4) [sI tp c0,sI tp c1,sI tp c2,sI tp c3],bf.ob (eG.smap L) []]) (.fin) =
(.must ((jj i M))
 (.must ((zH M i))
 (.need (sI .i64 (au (aA (adw aV M.exs) (aF i*3+1)))=sI tp 2)
 (.test ((zG M i c2))
 (.out (.ret (.aD [sI .i64 6,sI .i64 0]) (nu M c0 c1 c2 c3 L)))
 (.call ⟨92,(zF L M i),[],(fO e),[]⟩
 (.out (.ret (.aD [sI .i64 e,sI .i64 0]) (zI M c0 c1 c2 c3 L i)))))))):=by kernel_rfl
theorem TI (M:Mo) (i:Nat) (L:List ByteArray) (c0 c1 c2 c3 e:Int):aE aeB env (fc (vxC M i L c0 c1 c2 c3 e) av [] [(123,0,0)] [(123,2,3),(123,2,4)] (af4 M i L c0 c1 c2 c3 e)) 1000000 123 ([sI tp (↑i:Int),AV.mp 0 0,AV.mp 1 0,AV.mp 2 0]) ([bf.pc M.aH,bf.ac [AV.vm 3],bf.ac [AV.vm 4],bf.ob (eG.map [vd tp 0,vd tp 1,vd tp 2,vd tp 3] [0,1,2,3] 4) [sI tp c0,sI tp c1,sI tp c2,sI tp c3],bf.ob (eG.smap L) []]) (.fin) =
(.must ((jj i M))
 (.must ((zH M i))
 (.need (sI .i64 (au (aA (adw aV M.exs) (aF i*3+1)))=sI tp 3)
 (.test ((zG M i c3))
 (.out (.ret (.aD [sI .i64 6,sI .i64 0]) (nu M c0 c1 c2 c3 L)))
 (.call ⟨92,(zF L M i),[],(fO e),[]⟩
 (.out (.ret (.aD [sI .i64 e,sI .i64 0]) (zI M c0 c1 c2 c3 L i)))))))):=by kernel_rfl
theorem XG (M:Mo) (LL:List ByteArray) (e s i a:Int):aE aeB abt (aJ (fun f _ m=>cond (ai f 90) (some (.agg [sI .i64 e,sI .i64 s,sI .i64 i,sI .i64 a],[.pc M.aH,.ac [.vm 3],.ac [.vm 4],.ob (.map [.int .i64 0,.int .i64 1,.int .i64 2,.int .i64 3] [0,1,2,3] 4) [sI .i64 (tp.wrap ((↑M.aP.length:Int)+(↑M.fns.length:Int))),sI .i64 (↑M.cN.length:Int),sI .i64 (↑M.cL.length:Int),sI .i64 (↑M.gls.length:Int)],.ob (.smap LL) []])) none) av [] [] []) 1000000 95 ([AV.agg (adP AV.p M.aH)]) ([]) (.fin) =
(.call ⟨90,[sI .i64 7,sI .i64 (↑M.exs.length:Int),.fn (Fn.func 123) [] [.mp 0 0,.mp 1 0,.mp 2 0]],[.pc M.aH,.ac [.vm 3],.ac [.vm 4],.ob (eG.map [vd tp 0,vd tp 1,vd tp 2,vd tp 3] [0,1,2,3] 4) [sI .i64 (tp.wrap ((↑M.aP.length:Int)+(↑M.fns.length:Int))),sI .i64 (↑M.cN.length:Int),sI .i64 (↑M.cL.length:Int),sI .i64 (↑M.gls.length:Int)],.ob (eG.smap []) []],(dV e s i a),[.pc M.aH,.ac [.vm 3],.ac [.vm 4],.ob (eG.map [vd tp 0,vd tp 1,vd tp 2,vd tp 3] [0,1,2,3] 4) [sI .i64 (tp.wrap ((↑M.aP.length:Int)+(↑M.fns.length:Int))),sI .i64 (↑M.cN.length:Int),sI .i64 (↑M.cL.length:Int),sI .i64 (↑M.gls.length:Int)],.ob (eG.smap LL) []]⟩
 (.out (.ret (.agg [sI .i64 e,sI .i64 s,sI .i64 i,sI .i64 a]) []))):=by kernel_rfl
def j6 (L:List ByteArray) (c:Int) (x:Ex):Int:=if ae1.wrap x.ix≥ae1.wrap c then 6 else if fy L x.nm=true then 7 else 0
def tO (L:List ByteArray) (c:Int) (x:Ex):List ByteArray:=if ae1.wrap x.ix≥ae1.wrap c then L else xz L x.nm
theorem TJ (M:Mo) (L:List ByteArray) (c0 c1 c2 c3:Int) {i:Nat} {x:Ex} (hx:M.exs[i]? = some x) (hk:x.kind=0) :
  an aeB env 123 [sI .i64 i,.mp 0 0,.mp 1 0,.mp 2 0] (wm M L [] c0 c1 c2 c3) (.aD [sI .i64 (j6 L c0 x),sI .i64 0]) (wm M (tO L c0 x) [] c0 c1 c2 c3):=by
 have hi:i<M.exs.length:=(dt.1 hx).1
 have c:=aQ (z:=3) (enc:=aV) (fun _=>rfl) hx
 have d0:(M.exs.flatMap aV).getD (i*3) .aU = .sc (.string x.nm):=c 0 (by decide)
 have d1:(M.exs.flatMap aV).getD (i*3+1) .aU = .sc (.int .i64 x.kind):=c 1 (by decide)
 have d2:(M.exs.flatMap aV).getD (i*3+1+1) .aU = .sc (.int .u32 x.ix):=c 2 (by decide)
 have hin:=kg (i:=i) (n:=M.exs.length) (by omega)
 refine aa aI (TF M i L c0 c1 c2 c3 (if(!fy L x.nm)=true then 0 else 7)) ?_
 simp only[nu,zI,zH,jj,zG,zF,fO,br,aG.ok,isStr,isInt,aY,au,aeL,d0,d1,d2,hin,hk,aeN,aeO]
 have hu:=fI (!fy L x.nm) 7
 by_cases q:ae1.wrap x.ix≥ae1.wrap c0
 · have e1:j6 L c0 x=6:=if_pos q
   have e2:tO L c0 x=L:=if_pos q
   rw[e1,e2]
   exact⟨(by first|rfl|trivial),(by first|rfl|trivial),(by first|rfl|trivial),fun _=>rfl,fun z=>absurd q (by simpa using z)⟩
 · have e1:j6 L c0 x=if(!fy L x.nm)=true then 0 else 7:=by
    rw[j6,if_neg q]
    cases fy L x.nm<;>rfl
   have e2:tO L c0 x=xz L x.nm:=if_neg q
   rw[e1,e2]
   exact⟨(by first|rfl|trivial),(by first|rfl|trivial),(by first|rfl|trivial),fun z=>absurd (by simpa using z) q,fun _=>⟨hu,rfl⟩⟩
theorem TK (M:Mo) (L:List ByteArray) (c0 c1 c2 c3:Int) {i:Nat} {x:Ex} (hx:M.exs[i]? = some x) (hk:x.kind=1) :
  an aeB env 123 [sI .i64 i,.mp 0 0,.mp 1 0,.mp 2 0] (wm M L [] c0 c1 c2 c3) (.aD [sI .i64 (j6 L c1 x),sI .i64 0]) (wm M (tO L c1 x) [] c0 c1 c2 c3):=by
 have hi:i<M.exs.length:=(dt.1 hx).1
 have c:=aQ (z:=3) (enc:=aV) (fun _=>rfl) hx
 have d0:(M.exs.flatMap aV).getD (i*3) .aU = .sc (.string x.nm):=c 0 (by decide)
 have d1:(M.exs.flatMap aV).getD (i*3+1) .aU = .sc (.int .i64 x.kind):=c 1 (by decide)
 have d2:(M.exs.flatMap aV).getD (i*3+1+1) .aU = .sc (.int .u32 x.ix):=c 2 (by decide)
 have hin:=kg (i:=i) (n:=M.exs.length) (by omega)
 refine aa aI (TG M i L c0 c1 c2 c3 (if(!fy L x.nm)=true then 0 else 7)) ?_
 simp only[nu,zI,zH,jj,zG,zF,fO,br,aG.ok,isStr,isInt,aY,au,aeL,d0,d1,d2,hin,hk,aeN,aeO]
 have hu:=fI (!fy L x.nm) 7
 by_cases q:ae1.wrap x.ix≥ae1.wrap c1
 · have e1:j6 L c1 x=6:=if_pos q
   have e2:tO L c1 x=L:=if_pos q
   rw[e1,e2]
   exact⟨(by first|rfl|trivial),(by first|rfl|trivial),(by first|rfl|trivial),fun _=>rfl,fun z=>absurd q (by simpa using z)⟩
 · have e1:j6 L c1 x=if(!fy L x.nm)=true then 0 else 7:=by
    rw[j6,if_neg q]
    cases fy L x.nm<;>rfl
   have e2:tO L c1 x=xz L x.nm:=if_neg q
   rw[e1,e2]
   exact⟨(by first|rfl|trivial),(by first|rfl|trivial),(by first|rfl|trivial),fun z=>absurd (by simpa using z) q,fun _=>⟨hu,rfl⟩⟩
theorem TL (M:Mo) (L:List ByteArray) (c0 c1 c2 c3:Int) {i:Nat} {x:Ex} (hx:M.exs[i]? = some x) (hk:x.kind=2) :
  an aeB env 123 [sI .i64 i,.mp 0 0,.mp 1 0,.mp 2 0] (wm M L [] c0 c1 c2 c3) (.aD [sI .i64 (j6 L c2 x),sI .i64 0]) (wm M (tO L c2 x) [] c0 c1 c2 c3):=by
 have hi:i<M.exs.length:=(dt.1 hx).1
 have c:=aQ (z:=3) (enc:=aV) (fun _=>rfl) hx
 have d0:(M.exs.flatMap aV).getD (i*3) .aU = .sc (.string x.nm):=c 0 (by decide)
 have d1:(M.exs.flatMap aV).getD (i*3+1) .aU = .sc (.int .i64 x.kind):=c 1 (by decide)
 have d2:(M.exs.flatMap aV).getD (i*3+1+1) .aU = .sc (.int .u32 x.ix):=c 2 (by decide)
 have hin:=kg (i:=i) (n:=M.exs.length) (by omega)
 refine aa aI (TH M i L c0 c1 c2 c3 (if(!fy L x.nm)=true then 0 else 7)) ?_
 simp only[nu,zI,zH,jj,zG,zF,fO,br,aG.ok,isStr,isInt,aY,au,aeL,d0,d1,d2,hin,hk,aeN,aeO]
 have hu:=fI (!fy L x.nm) 7
 by_cases q:ae1.wrap x.ix≥ae1.wrap c2
 · have e1:j6 L c2 x=6:=if_pos q
   have e2:tO L c2 x=L:=if_pos q
   rw[e1,e2]
   exact⟨(by first|rfl|trivial),(by first|rfl|trivial),(by first|rfl|trivial),fun _=>rfl,fun z=>absurd q (by simpa using z)⟩
 · have e1:j6 L c2 x=if(!fy L x.nm)=true then 0 else 7:=by
    rw[j6,if_neg q]
    cases fy L x.nm<;>rfl
   have e2:tO L c2 x=xz L x.nm:=if_neg q
   rw[e1,e2]
   exact⟨(by first|rfl|trivial),(by first|rfl|trivial),(by first|rfl|trivial),fun z=>absurd (by simpa using z) q,fun _=>⟨hu,rfl⟩⟩
theorem TM (M:Mo) (L:List ByteArray) (c0 c1 c2 c3:Int) {i:Nat} {x:Ex} (hx:M.exs[i]? = some x) (hk:x.kind=3) :
  an aeB env 123 [sI .i64 i,.mp 0 0,.mp 1 0,.mp 2 0] (wm M L [] c0 c1 c2 c3) (.aD [sI .i64 (j6 L c3 x),sI .i64 0]) (wm M (tO L c3 x) [] c0 c1 c2 c3):=by
 have hi:i<M.exs.length:=(dt.1 hx).1
 have c:=aQ (z:=3) (enc:=aV) (fun _=>rfl) hx
 have d0:(M.exs.flatMap aV).getD (i*3) .aU = .sc (.string x.nm):=c 0 (by decide)
 have d1:(M.exs.flatMap aV).getD (i*3+1) .aU = .sc (.int .i64 x.kind):=c 1 (by decide)
 have d2:(M.exs.flatMap aV).getD (i*3+1+1) .aU = .sc (.int .u32 x.ix):=c 2 (by decide)
 have hin:=kg (i:=i) (n:=M.exs.length) (by omega)
 refine aa aI (TI M i L c0 c1 c2 c3 (if(!fy L x.nm)=true then 0 else 7)) ?_
 simp only[nu,zI,zH,jj,zG,zF,fO,br,aG.ok,isStr,isInt,aY,au,aeL,d0,d1,d2,hin,hk,aeN,aeO]
 have hu:=fI (!fy L x.nm) 7
 by_cases q:ae1.wrap x.ix≥ae1.wrap c3
 · have e1:j6 L c3 x=6:=if_pos q
   have e2:tO L c3 x=L:=if_pos q
   rw[e1,e2]
   exact⟨(by first|rfl|trivial),(by first|rfl|trivial),(by first|rfl|trivial),fun _=>rfl,fun z=>absurd q (by simpa using z)⟩
 · have e1:j6 L c3 x=if(!fy L x.nm)=true then 0 else 7:=by
    rw[j6,if_neg q]
    cases fy L x.nm<;>rfl
   have e2:tO L c3 x=xz L x.nm:=if_neg q
   rw[e1,e2]
   exact⟨(by first|rfl|trivial),(by first|rfl|trivial),(by first|rfl|trivial),fun z=>absurd (by simpa using z) q,fun _=>⟨hu,rfl⟩⟩
end Go.Proofs.YtdmmllcjgjmbbaaGreatDoor.N
end
