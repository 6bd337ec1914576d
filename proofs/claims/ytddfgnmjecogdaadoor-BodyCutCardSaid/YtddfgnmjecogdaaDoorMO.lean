import Derived.Test.YtddfgnmjecogdaaDoorMN
open Go.Proofs.Tryd renaming prog→ae
open List renaming getD_eq_getElem?_getD→dd,getElem?_eq_getElem→da,getElem_mem→fg,length_map→oR,length_cons→od,length_append→dC,take_of_length_le→ed,map_append→px,length_nil→Tr,map→Tt
open Go.IntKind renaming i64→tl
open Bool renaming false_eq_true→pC,true_eq_false→TJ,not_false→qf,not_true→Pl,and_true→TR,and_eq_true→di
open Int renaming toNat_natCast→TE
open Nat renaming zero_add→rh,ble_eq→TF,le_refl→ch,le_succ_of_le→T1,add_zero→rf,zero_le→S3,sub_self→S0,sub_zero→Te
open Decidable renaming not_not→T2
noncomputable section
section
set_option linter.unusedSimpArgs false
set_option linter.unusedVariables false
namespace Go.Proofs.YtddfgnmjecogdaaDoor.N
open Go Go.Am
def Fr.p1 (f:Fr):List PV:=[.sc (.int .i64 f.op),.sc (.int .i64 f.r),.sc (.int .u32 0),.sc (.int .u32 0),.sc (.int .i32 0),.ps 0 1 [],.ps f.il.length 8 (aa f.il),.ps 0 8 []]
def Fr.h (f:Fr):kO:=⟨f.p1,62,8,f.l.length,match f.l with | []=>none | x::r=>some (aa (x::r)),[.sc (.bool f.aA)]⟩
def hC (b:List Nat) (p many u:Nat) (pre:List Value) (t:Fr):bA:=match t.l with
 |[]=>aj ae (bz []) 27 0 [.mp 0 0,.ms 1 0 (u+1) 10 none,sI .i64 many] [RS.aN b ⟨p,0,0⟩,.ob (.stk 74 pre) (gq t.op t.r t.il (.os none 0 0 []) t.aA)] 1 202
 |x::r=>aj ae (bz []) 27 0 [.mp 0 0,.ms 1 0 (u+1) 10 none,sI .i64 many] [RS.aN b ⟨p,0,0⟩,.ob (.stk 74 pre) (gq t.op t.r t.il (.ms 2 0 (x::r).length 8 none) t.aA),.ob (.gr 62 true) ((aa (x::r)).map .p)] 1 202
def hP (b:List Nat) (p many u:Nat) (pre:List Value) (t:Fr):bA:=aj ae (bz []) 27 0 [.mp 0 0,.ms 1 0 (u+1) 10 none,sI .i64 many] [RS.aN b ⟨p,0,0⟩,.ob (.stk 74 pre) (gq t.op t.r t.il (.p (.ps t.l.length 8 (aa t.l))) t.aA)] 1 202
def hT:Hid:=fun _ _ _=>True
def Nz (b:List Nat) (r:Option (List Ins)×RS):Out:=match r with
 |(some l,s)=> .ret (.p (.ps l.length 8 (aa l))) [s.aN b]
 |(none,s)=> .ret (.os none 0 0 []) [s.aN b]
theorem hU {rows:List (Nat×Nat×AV)} {f:FuncId} {args:List AV} {m:Mem} {v:AV} {m':Mem} (h:aO ae env f args m v m'):aO ae (bz rows) f args m v m':=h
theorem vW (b:List Nat) (op:Int) (p:Nat) : ∃xr xa xb xn tg,(ah b op p).1 = .mk op xr xa xb xn tg [] []:=by
 unfold ah
 repeat' split
 all_goals exact⟨_,_,_,_,_,rfl⟩
theorem IG (b:List Nat) (op:Int) (p:Nat) (h:dW op=true):(ah b op p).1 = .mk op (ah b op p).1.results 0 0 0 [] [] []:=by
 unfold ah
 rw[if_pos h]
 rfl
theorem Bj {s:ByteArray} (h:s≠⟨#[]⟩):(s.data.toList==(ByteArray.mk #[]).data.toList)=false:=by
 rw[beq_eq_false_iff_ne]
 intro e
 apply h
 obtain⟨d⟩:=s
 congr 1
 exact Array.toList_inj.1 e
theorem Jz {s:ByteArray} (h:s=⟨#[]⟩):(s.data.toList==(ByteArray.mk #[]).data.toList)=true:=by rw[h];rfl
theorem iF : ∀{l l':List AV} {g:Gh} {w:World} {vs:List Value},aV (fun a b=> ∀(g:Gh) (w:World) (v:Value),VA g w a v→VA g w b v) l l'→bO g w l vs→bO g w l' vs
 |[],[],_,_,[],_,_=>trivial
 |a::l,b::l',g,w,x::vs,h,hv=>⟨h.1 g w x hv.1,iF h.2 hv.2⟩
 |[],_::_,_,_,_,h,_=>h.elim
 |_::_,[],_,_,_,h,_=>h.elim
 |[],[],_,_,_::_,_,h=>h.elim
 |_::_,_::_,_,_,[],_,h=>h.elim
abbrev rA (a b:AV):Prop:= ∀(g:Gh) (w:World) (v:Value),VA g w a v→VA g w b v
theorem tR : ∀l:List AV,aV rA l l
 |[]=>trivial
 |_::l=>⟨fun _ _ _ h=>h,tR l⟩
theorem qj : ∀{a b c d:List AV},aV rA a b→aV rA c d→aV rA (a++c) (b++d)
 |[],[],_,_,_,h=>h
 |_::_,_::_,_,_,h,k=>⟨h.1,qj h.2 k⟩
 |[],_::_,_,_,h,_=>h.elim
 |_::_,[],_,_,h,_=>h.elim
theorem bu (a:AV):rA a a:=fun _ _ _ h=>h
theorem jA (k:Nat):rA (.p (.ps 0 0 [])) (.p (.ps 0 k [])):=fun g w v h=>VA.pv.2 (Hi.nil g w v (VA.pv.1 h))
theorem x8:rA (.p (.ps 0 0 [])) (.os none 0 0 []):=fun g w v h=>by
 have h:=VA.pv.1 h
 cases h with
 |lU _ a cap hz=>
  rcases hz with hz | ⟨rfl,rfl⟩
  · exact absurd hz (by decide)
  · exact .os _ _ _ _ _ _ (.lU _ _ _ (.inr ⟨rfl,rfl⟩)) (.inl rfl)
 |ps _ _ _ _ _ _ _ _ _ hz=>exact absurd hz (by decide)
theorem x9:rA (.os none 0 0 []) (.p (.ps 0 8 [])):=fun g w v h=>by
 cases h with
 |os _ _ _ _ a cap h' hr'=>exact .p _ _ (.lU _ _ _ (.inl (by decide)))
theorem qk (l:List PV):Tt dZ (Tt AV.p l)=Tt AV.p l:=by rw[List.map_map];rfl
def NF (c xr:Int):List AV:=[sI .i64 c,sI .i64 xr,sI .u32 0,sI .u32 0,sI .i32 0,.p (.ps 0 1 []),.p (.ps 0 0 []),.p (.ps 0 0 []),.p (.ps 0 0 []),sB false]
theorem Dp (c xr:Int):aV rA (NF c xr) (gq c xr [] (.os none 0 0 []) false):=
 ⟨bu _,bu _,bu _,bu _,bu _,bu _,jA 8,jA 8,x8,bu _,trivial⟩
theorem K5 {b:List Nat} {p many u:Nat} {pre:List Value} {op r:Int} {il:List Ins} {aA:Bool} {c xr:Int} {fs:List kO} {o:Out}
  (H : ∀vs:List Value,vs.length=10→ak ae (bz []) (hC b p many (u+1) (pre++vs) ⟨c,xr,[],[],false⟩) (dY ((⟨op,r,il,[],aA⟩:Fr).h::fs) (pre++vs)) hT o) :
  ak ae (bz []) (aj ae (bz []) 27 0 [.mp 0 0,.ms 1 0 (u+1+1) 10 none,sI .i64 many] [RS.aN b ⟨p,0,0⟩,.ob (.stk 74 pre) (gq op r il (.os none 0 0 []) aA++NF c xr)] 1 202) (dY fs pre) hT o:=by
 refine ak.aq (aC _ _) (ep (i:=1) (k:= .stk 74 pre) (l:=gq op r il (.os none 0 0 []) aA++NF c xr) (l':=gq op r il (.os none 0 0 []) aA++gq c xr [] (.os none 0 0 []) false) (by kernel_rfl) (by kernel_rfl) fun g w vs h=>iF (qj (tR _) (Dp c xr)) h) ?_
 exact ak.push (i:=1) (tk:=2) (t:=74) (f:=(⟨op,r,il,[],aA⟩:Fr).h) (lN:=gq c xr [] (.os none 0 0 []) false) (by kernel_rfl) (by kernel_rfl) (by decide) trivial fun vs hv=>ak.same (by kernel_rfl) (H vs hv)
theorem K6 {b:List Nat} {p many u:Nat} {pre:List Value} {op r:Int} {il:List Ins} {aA:Bool} {c xr:Int} {x:Ins} {l:List Ins} {fs:List kO} {o:Out}
  (H : ∀vs:List Value,vs.length=10→ak ae (bz []) (hC b p many (u+1) (pre++vs) ⟨c,xr,[],[],false⟩) (dY ((⟨op,r,il,x::l,aA⟩:Fr).h::fs) (pre++vs)) hT o) :
  ak ae (bz []) (aj ae (bz []) 27 0 [.mp 0 0,.ms 1 0 (u+1+1) 10 none,sI .i64 many] [RS.aN b ⟨p,0,0⟩,.ob (.stk 74 pre) (gq op r il (.ms 2 0 (x::l).length 8 none) aA++NF c xr),.ob (.gr 62 true) ((aa (x::l)).map .p)] 1 202) (dY fs pre) hT o:=by
 refine ak.aq (aC _ _) (ep (i:=1) (k:= .stk 74 pre) (l:=gq op r il (.ms 2 0 (x::l).length 8 none) aA++NF c xr) (l':=gq op r il (.ms 2 0 (x::l).length 8 none) aA++gq c xr [] (.os none 0 0 []) false) (by kernel_rfl) (by kernel_rfl) fun g w vs h=>iF (qj (tR _) (Dp c xr)) h) ?_
 refine ak.push (i:=1) (tk:=2) (t:=74) (f:=(⟨op,r,il,x::l,aA⟩:Fr).h) (lN:=gq c xr [] (.os none 0 0 []) false) (by kernel_rfl) (by kernel_rfl) (by decide) (by show _=some (aF.ob (.gr 62 true) ((aa (x::l)).map .p));kernel_rfl) fun vs hv=> ?_
 exact ak.aq (aC _ _) (n8 [0,3,4] (by kernel_rfl)) (ak.same (by kernel_rfl) (H vs hv))
def AF (c xr xa xb xn:Int) (tg:List Int):List AV:=[sI .i64 c,sI .i64 xr,sI .u32 xa,sI .u32 xb,sI .i32 xn,.p (.ps tg.length 1 (cD .u32 tg)),.p (.ps 0 0 []),.p (.ps 0 0 [])]
theorem Dq (c xr xa xb xn:Int) (tg:List Int):aV rA (AF c xr xa xb xn tg) ((aa [.mk c xr xa xb xn tg [] []]).map .p):=
 ⟨bu _,bu _,bu _,bu _,bu _,bu _,jA 8,jA 8,trivial⟩
def fM (b:List Nat) (p many u:Nat) (pre:List Value) (op r:Int) (il:List Ins) (aA:Bool) (n:Nat) (X:List AV):bA:=aj ae (bz []) 27 0 [.mp 0 0,.ms 1 0 (u+1) 10 none,sI .i64 many] [RS.aN b ⟨p,0,0⟩,.ob (.stk 74 pre) (gq op r il (.ms 2 0 n 8 none) aA),.ob (.gr 62 true) X] 1 202
theorem NA {b:List Nat} {p many u:Nat} {pre:List Value} {op r:Int} {il:List Ins} {aA:Bool} {c xr xa xb xn:Int} {tg:List Int} {R:Hid} (hs:R.fj) {o:Out}
  (H:ak ae (bz []) (hC b p many u pre ⟨op,r,il,[.mk c xr xa xb xn tg [] []],aA⟩) R hT o):ak ae (bz []) (fM b p many u pre op r il aA 1 (AF c xr xa xb xn tg)) R hT o:=
 ak.aq hs (ep (i:=2) (k:= .gr 62 true) (l:=AF c xr xa xb xn tg) (l':=(aa [.mk c xr xa xb xn tg [] []]).map .p) (by kernel_rfl) (by kernel_rfl) fun g w vs h=>iF (Dq c xr xa xb xn tg) h) (ak.same (by kernel_rfl) H)
theorem JA {b:List Nat} {p many u:Nat} {pre:List Value} {op r:Int} {il:List Ins} {aA:Bool} {i:Ins} {x:Ins} {l:List Ins} {Y:List AV} (hY:aV rA Y ((aa [i]).map .p)) {R:Hid} (hs:R.fj) {o:Out}
  (H:ak ae (bz []) (hC b p many u pre ⟨op,r,il,x::l++[i],aA⟩) R hT o):ak ae (bz []) (fM b p many u pre op r il aA ((x::l).length+1) ((aa (x::l)).map .p++Y)) R hT o:=by
 have e1:(x::(l++[i])).length=(x::l).length+1:=by simp
 have e2:(aa (x::(l++[i]))).map AV.p=(aa (x::l)).map .p++(aa [i]).map .p:=by rw[←px,←sr];rfl
 have H1:ak ae (bz []) (fM b p many u pre op r il aA (x::(l++[i])).length ((aa (x::(l++[i]))).map .p)) R hT o:=ak.same (by kernel_rfl) H
 rw[e1,e2] at H1
 exact ak.aq hs (ep (i:=2) (k:= .gr 62 true) (l:=(aa (x::l)).map .p++Y) (l':=(aa (x::l)).map .p++(aa [i]).map .p) (by kernel_rfl) (by kernel_rfl) fun g w vs h=>iF (qj (tR _) hY) h) (ak.same (by kernel_rfl) H1)
theorem bM (n:Nat):(fG (n:Int) (n+1)&&true&&true)=true:=by simp[fG];omega
section
variable {b:List Nat} {p many:Nat} {pre:List Value} {t:Fr} {fs:List Fr} {o:Out}
theorem II (hb:dX b ⟨p,0,0⟩) (hp:b.length≤p) (hu:pre.length=fs.length*10) (h9:fs.length≤900) :
  ak ae (bz []) (hC b p many fs.length pre t) (dY (fs.map Fr.h) pre) hT (.ret (.os none 0 0 []) [RS.aN b ⟨p,4,b.length⟩]):=by
 have iZ:=cB hb
 have hr:bk b ⟨p,0,0⟩=(0,⟨p,4,b.length⟩):=by
  unfold bk
  rw[if_neg (by simp),if_pos hp]
 rw[hr] at iZ
 have hw:tl.wrap (((fs.length+1:Nat):Int)-1)=(fs.length:Int):=by rw[aY (by omega) (by omega)];omega
 obtain⟨op,r,il,l,aA⟩:=t
 match l with
 |[]=>
  refine ak.env (E:=Cq b.length (bt b) p fs.length pre many op r il aA 0 [] [] 0 0 [] false 0 p 4 b.length ⟨#[]⟩ 0 0 0 0 [] 0 0 0) (E':=bz []) rfl ?_
  refine aW dy (aC _ _) (fun _ _ _ _=>trivial) (lM b.length (bt b) p fs.length pre many op r il aA 0 [] [] 0 0 [] false 0 p 4 b.length ⟨#[]⟩ 0 0 0 0 [] 0 0 0) ?_
  simp only[kg,eC,fk,cJ,aP.jE,hw]
  exact⟨trivial,bM _,by simp,hU iZ,rfl,fun _=>rfl,fun q=>absurd q (by decide)⟩
 |x::l=>
  refine ak.env (E:=Bz b.length (bt b) p fs.length pre many op r il aA (x::l).length ((aa (x::l)).map .p) [] 0 0 [] false 0 p 4 b.length ⟨#[]⟩ 0 0 0 0 [] 0 0 0) (E':=bz []) rfl ?_
  refine aW dy (aC _ _) (fun _ _ _ _=>trivial) (lO b.length (bt b) p fs.length pre many op r il aA (x::l).length ((aa (x::l)).map .p) [] 0 0 [] false 0 p 4 b.length ⟨#[]⟩ 0 0 0 0 [] 0 0 0) ?_
  simp only[kj,eD,cJ,aP.jE,hw]
  exact⟨trivial,bM _,by simp,hU iZ,rfl,fun _=>rfl,fun q=>absurd q (by decide)⟩
theorem IJ (hb:dX b ⟨p,0,0⟩) (hp:p<b.length) (hu:pre.length=fs.length*10) (h9:fs.length≤900) (h11:b.getD p 0≠11) (h5:b.getD p 0≠5) (hn:nm (b.getD p 0:Nat)=⟨#[]⟩) :
  ak ae (bz []) (hC b p many fs.length pre t) (dY (fs.map Fr.h) pre) hT (.ret (.os none 0 0 []) [RS.aN b ⟨p+1,160,p⟩]):=by
 have hc:b.getD p 0<256:=by
  rw[dd,da hp]
  exact hb.iV _ (fg hp)
 have iZ:=cB hb
 have hr:bk b ⟨p,0,0⟩=(b.getD p 0,⟨p+1,0,0⟩):=by
  unfold bk
  rw[if_neg (by simp),if_neg (by dsimp only;omega)]
 rw[hr] at iZ
 have rB:=eG ((b.getD p 0:Nat):Int)
 have hw:tl.wrap (((fs.length+1:Nat):Int)-1)=(fs.length:Int):=by rw[aY (by omega) (by omega)];omega
 have nG:tl.wrap ((b.getD p 0:Nat):Int)=((b.getD p 0:Nat):Int):=aY (by omega) (by omega)
 have hq:tl.wrap (((p+1:Nat):Int)-1)=(p:Int):=by have:=hb.len;rw[aY (by omega) (by omega)];omega
 have g11:(((b.getD p 0:Nat):Int)==11)=false:=by rw[beq_eq_false_iff_ne];omega
 have g5:(((b.getD p 0:Nat):Int)==5)=false:=by rw[beq_eq_false_iff_ne];omega
 have gn:=Jz hn
 obtain⟨op,r,il,l,aA⟩:=t
 match l with
 |[]=>
  refine ak.env (E:=Cq b.length (bt b) p fs.length pre many op r il aA 0 [] [] 0 0 [] false (b.getD p 0:Nat) (p+1:Nat) 0 0 (nm (b.getD p 0:Nat)) 0 0 0 0 [] 0 0 0) (E':=bz []) rfl ?_
  refine aW dy (aC _ _) (fun _ _ _ _=>trivial) (lM b.length (bt b) p fs.length pre many op r il aA 0 [] [] 0 0 [] false (b.getD p 0:Nat) (p+1:Nat) 0 0 (nm (b.getD p 0:Nat)) 0 0 0 0 [] 0 0 0) ?_
  simp only[kg,eC,fk,cJ,aP.jE,hw,nG,hq,g11,g5,gn,bne_self_eq_false,qf,Pl,pC,TJ,false_implies,true_implies,true_and,and_true,TE,rh]
  exact⟨bM _,hU iZ,hU rB,rfl⟩
 |x::l=>
  refine ak.env (E:=Bz b.length (bt b) p fs.length pre many op r il aA (x::l).length ((aa (x::l)).map .p) [] 0 0 [] false (b.getD p 0:Nat) (p+1:Nat) 0 0 (nm (b.getD p 0:Nat)) 0 0 0 0 [] 0 0 0) (E':=bz []) rfl ?_
  refine aW dy (aC _ _) (fun _ _ _ _=>trivial) (lO b.length (bt b) p fs.length pre many op r il aA (x::l).length ((aa (x::l)).map .p) [] 0 0 [] false (b.getD p 0:Nat) (p+1:Nat) 0 0 (nm (b.getD p 0:Nat)) 0 0 0 0 [] 0 0 0) ?_
  simp only[kj,eD,cJ,aP.jE,hw,nG,hq,g11,g5,gn,bne_self_eq_false,qf,Pl,pC,TJ,false_implies,true_implies,true_and,and_true,TE,rh]
  exact⟨bM _,hU iZ,hU rB,rfl⟩
theorem IK (hb:dX b ⟨p,0,0⟩) (hp:p<b.length) (hu:pre.length=fs.length*10) (h9:fs.length≤900) (h11:b.getD p 0≠11) (h5:b.getD p 0≠5) (hn:nm (b.getD p 0:Nat)≠⟨#[]⟩) (hd:900<fs.length+1) :
  ak ae (bz []) (hC b p many fs.length pre t) (dY (fs.map Fr.h) pre) hT (.ret (.os none 0 0 []) [RS.aN b ⟨p+1,141,p⟩]):=by
 have hc:b.getD p 0<256:=by
  rw[dd,da hp]
  exact hb.iV _ (fg hp)
 have iZ:=cB hb
 have hr:bk b ⟨p,0,0⟩=(b.getD p 0,⟨p+1,0,0⟩):=by
  unfold bk
  rw[if_neg (by simp),if_neg (by dsimp only;omega)]
 rw[hr] at iZ
 have rB:=eG ((b.getD p 0:Nat):Int)
 have hw:tl.wrap (((fs.length+1:Nat):Int)-1)=(fs.length:Int):=by rw[aY (by omega) (by omega)];omega
 have nG:tl.wrap ((b.getD p 0:Nat):Int)=((b.getD p 0:Nat):Int):=aY (by omega) (by omega)
 have hq:tl.wrap (((p+1:Nat):Int)-1)=(p:Int):=by have:=hb.len;rw[aY (by omega) (by omega)];omega
 have g11:(((b.getD p 0:Nat):Int)==11)=false:=by rw[beq_eq_false_iff_ne];omega
 have g5:(((b.getD p 0:Nat):Int)==5)=false:=by rw[beq_eq_false_iff_ne];omega
 have gn:=Bj hn
 have gd:decide (((fs.length+1:Nat):Int)>900)=true:=decide_eq_true (by omega)
 obtain⟨op,r,il,l,aA⟩:=t
 match l with
 |[]=>
  refine ak.env (E:=Cq b.length (bt b) p fs.length pre many op r il aA 0 [] [] 0 0 [] false (b.getD p 0:Nat) (p+1:Nat) 0 0 (nm (b.getD p 0:Nat)) 0 0 0 0 [] 0 0 0) (E':=bz []) rfl ?_
  refine aW dy (aC _ _) (fun _ _ _ _=>trivial) (lM b.length (bt b) p fs.length pre many op r il aA 0 [] [] 0 0 [] false (b.getD p 0:Nat) (p+1:Nat) 0 0 (nm (b.getD p 0:Nat)) 0 0 0 0 [] 0 0 0) ?_
  simp only[kg,eC,fk,cJ,aP.jE,hw,nG,hq,g11,g5,gn,gd,bne_self_eq_false,qf,Pl,pC,TJ,false_implies,true_implies,true_and,and_true,TE,rh]
  exact⟨bM _,hU iZ,hU rB,rfl⟩
 |x::l=>
  refine ak.env (E:=Bz b.length (bt b) p fs.length pre many op r il aA (x::l).length ((aa (x::l)).map .p) [] 0 0 [] false (b.getD p 0:Nat) (p+1:Nat) 0 0 (nm (b.getD p 0:Nat)) 0 0 0 0 [] 0 0 0) (E':=bz []) rfl ?_
  refine aW dy (aC _ _) (fun _ _ _ _=>trivial) (lO b.length (bt b) p fs.length pre many op r il aA (x::l).length ((aa (x::l)).map .p) [] 0 0 [] false (b.getD p 0:Nat) (p+1:Nat) 0 0 (nm (b.getD p 0:Nat)) 0 0 0 0 [] 0 0 0) ?_
  simp only[kj,eD,cJ,aP.jE,hw,nG,hq,g11,g5,gn,gd,bne_self_eq_false,qf,Pl,pC,TJ,false_implies,true_implies,true_and,and_true,TE,rh]
  exact⟨bM _,hU iZ,hU rB,rfl⟩
theorem IL (hb:dX b ⟨p,0,0⟩) (hp:p<b.length) (hu:pre.length=fs.length*10) (h9:fs.length≤900) (h11:b.getD p 0≠11) (h5:b.getD p 0≠5) (hn:nm (b.getD p 0:Nat)≠⟨#[]⟩) (hd : ¬900<fs.length+1) (hm:262144≤many) :
  ak ae (bz []) (hC b p many fs.length pre t) (dY (fs.map Fr.h) pre) hT (.ret (.os none 0 0 []) [RS.aN b ⟨p+1,141,p⟩]):=by
 have hc:b.getD p 0<256:=by
  rw[dd,da hp]
  exact hb.iV _ (fg hp)
 have iZ:=cB hb
 have hr:bk b ⟨p,0,0⟩=(b.getD p 0,⟨p+1,0,0⟩):=by
  unfold bk
  rw[if_neg (by simp),if_neg (by dsimp only;omega)]
 rw[hr] at iZ
 have rB:=eG ((b.getD p 0:Nat):Int)
 have hw:tl.wrap (((fs.length+1:Nat):Int)-1)=(fs.length:Int):=by rw[aY (by omega) (by omega)];omega
 have nG:tl.wrap ((b.getD p 0:Nat):Int)=((b.getD p 0:Nat):Int):=aY (by omega) (by omega)
 have hq:tl.wrap (((p+1:Nat):Int)-1)=(p:Int):=by have:=hb.len;rw[aY (by omega) (by omega)];omega
 have g11:(((b.getD p 0:Nat):Int)==11)=false:=by rw[beq_eq_false_iff_ne];omega
 have g5:(((b.getD p 0:Nat):Int)==5)=false:=by rw[beq_eq_false_iff_ne];omega
 have gn:=Bj hn
 have gd:decide (((fs.length+1:Nat):Int)>900)=false:=decide_eq_false (by omega)
 have gm:decide ((many:Int)≥262144)=true:=decide_eq_true (by omega)
 obtain⟨op,r,il,l,aA⟩:=t
 match l with
 |[]=>
  refine ak.env (E:=Cq b.length (bt b) p fs.length pre many op r il aA 0 [] [] 0 0 [] false (b.getD p 0:Nat) (p+1:Nat) 0 0 (nm (b.getD p 0:Nat)) 0 0 0 0 [] 0 0 0) (E':=bz []) rfl ?_
  refine aW dy (aC _ _) (fun _ _ _ _=>trivial) (lM b.length (bt b) p fs.length pre many op r il aA 0 [] [] 0 0 [] false (b.getD p 0:Nat) (p+1:Nat) 0 0 (nm (b.getD p 0:Nat)) 0 0 0 0 [] 0 0 0) ?_
  simp only[kg,eC,fk,cJ,aP.jE,hw,nG,hq,g11,g5,gn,gd,gm,bne_self_eq_false,qf,Pl,pC,TJ,false_implies,true_implies,true_and,and_true,TE,rh]
  exact⟨bM _,hU iZ,hU rB,rfl⟩
 |x::l=>
  refine ak.env (E:=Bz b.length (bt b) p fs.length pre many op r il aA (x::l).length ((aa (x::l)).map .p) [] 0 0 [] false (b.getD p 0:Nat) (p+1:Nat) 0 0 (nm (b.getD p 0:Nat)) 0 0 0 0 [] 0 0 0) (E':=bz []) rfl ?_
  refine aW dy (aC _ _) (fun _ _ _ _=>trivial) (lO b.length (bt b) p fs.length pre many op r il aA (x::l).length ((aa (x::l)).map .p) [] 0 0 [] false (b.getD p 0:Nat) (p+1:Nat) 0 0 (nm (b.getD p 0:Nat)) 0 0 0 0 [] 0 0 0) ?_
  simp only[kj,eD,cJ,aP.jE,hw,nG,hq,g11,g5,gn,gd,gm,bne_self_eq_false,qf,Pl,pC,TJ,false_implies,true_implies,true_and,and_true,TE,rh]
  exact⟨bM _,hU iZ,hU rB,rfl⟩
theorem IM (hb:dX b ⟨p,0,0⟩) (hp:p<b.length) (hu:pre.length=fs.length*10) (h9:fs.length≤900) (h11:b.getD p 0≠11) (h5:b.getD p 0≠5) (hn:nm (b.getD p 0:Nat)≠⟨#[]⟩) (hd : ¬900<fs.length+1) (hm : ¬262144≤many) (he:(ah b (b.getD p 0:Nat) (p+1)).2.e≠0) :
  ak ae (bz []) (hC b p many fs.length pre t) (dY (fs.map Fr.h) pre) hT (.ret (.os none 0 0 []) [RS.aN b (ah b (b.getD p 0:Nat) (p+1)).2]):=by
 have hc:b.getD p 0<256:=by
  rw[dd,da hp]
  exact hb.iV _ (fg hp)
 have iZ:=cB hb
 have hr:bk b ⟨p,0,0⟩=(b.getD p 0,⟨p+1,0,0⟩):=by
  unfold bk
  rw[if_neg (by simp),if_neg (by dsimp only;omega)]
 rw[hr] at iZ
 have rB:=eG ((b.getD p 0:Nat):Int)
 have hw:tl.wrap (((fs.length+1:Nat):Int)-1)=(fs.length:Int):=by rw[aY (by omega) (by omega)];omega
 have nG:tl.wrap ((b.getD p 0:Nat):Int)=((b.getD p 0:Nat):Int):=aY (by omega) (by omega)
 have hq:tl.wrap (((p+1:Nat):Int)-1)=(p:Int):=by have:=hb.len;rw[aY (by omega) (by omega)];omega
 have g11:(((b.getD p 0:Nat):Int)==11)=false:=by rw[beq_eq_false_iff_ne];omega
 have g5:(((b.getD p 0:Nat):Int)==5)=false:=by rw[beq_eq_false_iff_ne];omega
 have gn:=Bj hn
 have gd:decide (((fs.length+1:Nat):Int)>900)=false:=decide_eq_false (by omega)
 have gm:decide ((many:Int)≥262144)=false:=decide_eq_false (by omega)
 have Ey:tl.wrap ((many:Int)+1)=((many+1:Nat):Int):=by rw[aY (by omega) (by omega)];omega
 have Az:dX b ⟨p+1,0,0⟩:=⟨hb.iV,hb.len,hp⟩
 have Ct:=rq (op:=((b.getD p 0:Nat):Int)) Az
 obtain⟨xr,xa,xb,xn,tg,hI⟩:=vW b (b.getD p 0:Nat) (p+1)
 rw[hI] at Ct
 have ge:(((ah b (b.getD p 0:Nat) (p+1)).2.e:Int) != 0)=true:=by rw[wU];exact decide_eq_true he
 obtain⟨op,r,il,l,aA⟩:=t
 match l with
 |[]=>
  refine ak.env (E:=Cq b.length (bt b) p fs.length pre many op r il aA 0 [] [] 0 0 [] false (b.getD p 0:Nat) (p+1:Nat) 0 0 (nm (b.getD p 0:Nat)) xr xa xb xn tg (ah b (b.getD p 0:Nat) (p+1)).2.p (ah b (b.getD p 0:Nat) (p+1)).2.e (ah b (b.getD p 0:Nat) (p+1)).2.fa) (E':=bz []) rfl ?_
  refine aW dy (aC _ _) (fun _ _ _ _=>trivial) (lM b.length (bt b) p fs.length pre many op r il aA 0 [] [] 0 0 [] false (b.getD p 0:Nat) (p+1:Nat) 0 0 (nm (b.getD p 0:Nat)) xr xa xb xn tg (ah b (b.getD p 0:Nat) (p+1)).2.p (ah b (b.getD p 0:Nat) (p+1)).2.e (ah b (b.getD p 0:Nat) (p+1)).2.fa) ?_
  simp only[kg,eC,fk,cJ,aP.jE,hw,nG,hq,g11,g5,gn,gd,gm,Ey,ge,bne_self_eq_false,qf,Pl,pC,TJ,false_implies,true_implies,true_and,and_true,TE,rh]
  exact⟨bM _,hU iZ,hU rB,hU Ct,rfl⟩
 |x::l=>
  refine ak.env (E:=Bz b.length (bt b) p fs.length pre many op r il aA (x::l).length ((aa (x::l)).map .p) [] 0 0 [] false (b.getD p 0:Nat) (p+1:Nat) 0 0 (nm (b.getD p 0:Nat)) xr xa xb xn tg (ah b (b.getD p 0:Nat) (p+1)).2.p (ah b (b.getD p 0:Nat) (p+1)).2.e (ah b (b.getD p 0:Nat) (p+1)).2.fa) (E':=bz []) rfl ?_
  refine aW dy (aC _ _) (fun _ _ _ _=>trivial) (lO b.length (bt b) p fs.length pre many op r il aA (x::l).length ((aa (x::l)).map .p) [] 0 0 [] false (b.getD p 0:Nat) (p+1:Nat) 0 0 (nm (b.getD p 0:Nat)) xr xa xb xn tg (ah b (b.getD p 0:Nat) (p+1)).2.p (ah b (b.getD p 0:Nat) (p+1)).2.e (ah b (b.getD p 0:Nat) (p+1)).2.fa) ?_
  simp only[kj,eD,cJ,aP.jE,hw,nG,hq,g11,g5,gn,gd,gm,Ey,ge,bne_self_eq_false,qf,Pl,pC,TJ,false_implies,true_implies,true_and,and_true,TE,rh]
  exact⟨bM _,hU iZ,hU rB,hU Ct,rfl⟩
theorem IN (hb:dX b ⟨p,0,0⟩) (hp:p<b.length) (hu:pre.length=fs.length*10) (h9:fs.length≤900) (h11:b.getD p 0≠11) (h5:b.getD p 0≠5) (hn:nm (b.getD p 0:Nat)≠⟨#[]⟩) (hd : ¬900<fs.length+1) (hm : ¬262144≤many) (he:(ah b (b.getD p 0:Nat) (p+1)).2.e=0) (zI:(ah b (b.getD p 0:Nat) (p+1)).2.fa=0) (dj:dW (b.getD p 0:Nat)=true) (H : ∀vs:List Value,vs.length=10→ak ae (bz []) (hC b (ah b (b.getD p 0:Nat) (p+1)).2.p (many+1) (fs.length+1) (pre++vs) ⟨(b.getD p 0:Nat),(ah b (b.getD p 0:Nat) (p+1)).1.results,[],[],false⟩) (dY (t.h::fs.map Fr.h) (pre++vs)) hT o) :
  ak ae (bz []) (hC b p many fs.length pre t) (dY (fs.map Fr.h) pre) hT o:=by
 have hc:b.getD p 0<256:=by
  rw[dd,da hp]
  exact hb.iV _ (fg hp)
 have iZ:=cB hb
 have hr:bk b ⟨p,0,0⟩=(b.getD p 0,⟨p+1,0,0⟩):=by
  unfold bk
  rw[if_neg (by simp),if_neg (by dsimp only;omega)]
 rw[hr] at iZ
 have rB:=eG ((b.getD p 0:Nat):Int)
 have hw:tl.wrap (((fs.length+1:Nat):Int)-1)=(fs.length:Int):=by rw[aY (by omega) (by omega)];omega
 have nG:tl.wrap ((b.getD p 0:Nat):Int)=((b.getD p 0:Nat):Int):=aY (by omega) (by omega)
 have hq:tl.wrap (((p+1:Nat):Int)-1)=(p:Int):=by have:=hb.len;rw[aY (by omega) (by omega)];omega
 have g11:(((b.getD p 0:Nat):Int)==11)=false:=by rw[beq_eq_false_iff_ne];omega
 have g5:(((b.getD p 0:Nat):Int)==5)=false:=by rw[beq_eq_false_iff_ne];omega
 have gn:=Bj hn
 have gd:decide (((fs.length+1:Nat):Int)>900)=false:=decide_eq_false (by omega)
 have gm:decide ((many:Int)≥262144)=false:=decide_eq_false (by omega)
 have Ey:tl.wrap ((many:Int)+1)=((many+1:Nat):Int):=by rw[aY (by omega) (by omega)];omega
 have Az:dX b ⟨p+1,0,0⟩:=⟨hb.iV,hb.len,hp⟩
 have Ct:=rq (op:=((b.getD p 0:Nat):Int)) Az
 have hL:cE=70368744177664:=rfl
 have LJ:(fs.length+1)*10-pre.length=10:=by omega
 have mu:(((fs.length+1+1)*136).ble cE&&(fs.length+1+1).ble cE&&(((fs.length+1)*10).ble (pre.length+10)&&pre.length.ble ((fs.length+1)*10))&&true)=true:=by
  simp only[TR,di,TF];omega
 have hI:=IG b (b.getD p 0:Nat) (p+1) dj
 rw[hI] at Ct
 have ge:(((ah b (b.getD p 0:Nat) (p+1)).2.e:Int) != 0)=false:=by rw[wU,he];rfl
 have hx:(b.getD p 0:Nat)=2∨(b.getD p 0:Nat)=3∨(b.getD p 0:Nat)=4:=by
  simp only[dW,decide_eq_true_eq] at dj;omega
 obtain⟨op,r,il,l,aA⟩:=t
 match l with
 |[]=>
  refine ak.env (E:=Cq b.length (bt b) p fs.length pre many op r il aA 0 [] [] 0 0 [] false (b.getD p 0:Nat) (p+1:Nat) 0 0 (nm (b.getD p 0:Nat)) (ah b (b.getD p 0:Nat) (p+1)).1.results 0 0 0 [] (ah b (b.getD p 0:Nat) (p+1)).2.p (ah b (b.getD p 0:Nat) (p+1)).2.e (ah b (b.getD p 0:Nat) (p+1)).2.fa) (E':=bz []) rfl ?_
  have lf : ∀C:bA,C=aj ae (bz []) 27 0 [.mp 0 0,.ms 1 0 (fs.length+1+1) 10 none,sI .i64 (many+1:Nat)] [RS.aN b ⟨(ah b (b.getD p 0:Nat) (p+1)).2.p,0,0⟩,.ob (.stk 74 pre) (gq op r il (.os none 0 0 []) aA++NF (b.getD p 0:Nat) (ah b (b.getD p 0:Nat) (p+1)).1.results)] 1 202→ak ae (Cq b.length (bt b) p fs.length pre many op r il aA 0 [] [] 0 0 [] false (b.getD p 0:Nat) (p+1:Nat) 0 0 (nm (b.getD p 0:Nat)) (ah b (b.getD p 0:Nat) (p+1)).1.results 0 0 0 [] (ah b (b.getD p 0:Nat) (p+1)).2.p (ah b (b.getD p 0:Nat) (p+1)).2.e (ah b (b.getD p 0:Nat) (p+1)).2.fa) C (dY (fs.map Fr.h) pre) hT o:=fun C hC=>by
   refine ak.env (E:=bz []) (E':=Cq b.length (bt b) p fs.length pre many op r il aA 0 [] [] 0 0 [] false (b.getD p 0:Nat) (p+1:Nat) 0 0 (nm (b.getD p 0:Nat)) (ah b (b.getD p 0:Nat) (p+1)).1.results 0 0 0 [] (ah b (b.getD p 0:Nat) (p+1)).2.p (ah b (b.getD p 0:Nat) (p+1)).2.e (ah b (b.getD p 0:Nat) (p+1)).2.fa) rfl ?_
   rw[hC]
   exact K5 H
  refine aW dy (aC _ _) (fun _ _ _ _=>trivial) (lM b.length (bt b) p fs.length pre many op r il aA 0 [] [] 0 0 [] false (b.getD p 0:Nat) (p+1:Nat) 0 0 (nm (b.getD p 0:Nat)) (ah b (b.getD p 0:Nat) (p+1)).1.results 0 0 0 [] (ah b (b.getD p 0:Nat) (p+1)).2.p (ah b (b.getD p 0:Nat) (p+1)).2.e (ah b (b.getD p 0:Nat) (p+1)).2.fa) ?_
  rcases hx with hx | hx | hx
  · have g2:(((b.getD p 0:Nat):Int)==2)=true:=by rw[hx];rfl
    simp only[kg,eC,fk,cJ,aP.jE,hw,nG,hq,g11,g5,gn,gd,gm,Ey,ge,g2,mu,LJ,qk,bne_self_eq_false,qf,Pl,pC,TJ,false_implies,true_implies,true_and,and_true,TE,rh]
    refine⟨bM _,hU iZ,hU rB,hU Ct,by first | rfl | trivial,lf _ ?_⟩
    rw[he,zI]
    kernel_rfl
  · have g2:(((b.getD p 0:Nat):Int)==2)=false:=by rw[hx];rfl
    have g3:(((b.getD p 0:Nat):Int)==3)=true:=by rw[hx];rfl
    simp only[kg,eC,fk,cJ,aP.jE,hw,nG,hq,g11,g5,gn,gd,gm,Ey,ge,g2,g3,mu,LJ,qk,bne_self_eq_false,qf,Pl,pC,TJ,false_implies,true_implies,true_and,and_true,TE,rh]
    refine⟨bM _,hU iZ,hU rB,hU Ct,by first | rfl | trivial,lf _ ?_⟩
    rw[he,zI]
    kernel_rfl
  · have g2:(((b.getD p 0:Nat):Int)==2)=false:=by rw[hx];rfl
    have g3:(((b.getD p 0:Nat):Int)==3)=false:=by rw[hx];rfl
    have g4:(((b.getD p 0:Nat):Int)==4)=true:=by rw[hx];rfl
    simp only[kg,eC,fk,cJ,aP.jE,hw,nG,hq,g11,g5,gn,gd,gm,Ey,ge,g2,g3,g4,mu,LJ,qk,bne_self_eq_false,qf,Pl,pC,TJ,false_implies,true_implies,true_and,and_true,TE,rh]
    refine⟨bM _,hU iZ,hU rB,hU Ct,by first | rfl | trivial,lf _ ?_⟩
    rw[he,zI]
    kernel_rfl
 |x::l=>
  refine ak.env (E:=Bz b.length (bt b) p fs.length pre many op r il aA (x::l).length ((aa (x::l)).map .p) [] 0 0 [] false (b.getD p 0:Nat) (p+1:Nat) 0 0 (nm (b.getD p 0:Nat)) (ah b (b.getD p 0:Nat) (p+1)).1.results 0 0 0 [] (ah b (b.getD p 0:Nat) (p+1)).2.p (ah b (b.getD p 0:Nat) (p+1)).2.e (ah b (b.getD p 0:Nat) (p+1)).2.fa) (E':=bz []) rfl ?_
  have lf : ∀C:bA,C=aj ae (bz []) 27 0 [.mp 0 0,.ms 1 0 (fs.length+1+1) 10 none,sI .i64 (many+1:Nat)] [RS.aN b ⟨(ah b (b.getD p 0:Nat) (p+1)).2.p,0,0⟩,.ob (.stk 74 pre) (gq op r il (.ms 2 0 (x::l).length 8 none) aA++NF (b.getD p 0:Nat) (ah b (b.getD p 0:Nat) (p+1)).1.results),.ob (.gr 62 true) ((aa (x::l)).map .p)] 1 202→ak ae (Bz b.length (bt b) p fs.length pre many op r il aA (x::l).length ((aa (x::l)).map .p) [] 0 0 [] false (b.getD p 0:Nat) (p+1:Nat) 0 0 (nm (b.getD p 0:Nat)) (ah b (b.getD p 0:Nat) (p+1)).1.results 0 0 0 [] (ah b (b.getD p 0:Nat) (p+1)).2.p (ah b (b.getD p 0:Nat) (p+1)).2.e (ah b (b.getD p 0:Nat) (p+1)).2.fa) C (dY (fs.map Fr.h) pre) hT o:=fun C hC=>by
   refine ak.env (E:=bz []) (E':=Bz b.length (bt b) p fs.length pre many op r il aA (x::l).length ((aa (x::l)).map .p) [] 0 0 [] false (b.getD p 0:Nat) (p+1:Nat) 0 0 (nm (b.getD p 0:Nat)) (ah b (b.getD p 0:Nat) (p+1)).1.results 0 0 0 [] (ah b (b.getD p 0:Nat) (p+1)).2.p (ah b (b.getD p 0:Nat) (p+1)).2.e (ah b (b.getD p 0:Nat) (p+1)).2.fa) rfl ?_
   rw[hC]
   exact K6 H
  refine aW dy (aC _ _) (fun _ _ _ _=>trivial) (lO b.length (bt b) p fs.length pre many op r il aA (x::l).length ((aa (x::l)).map .p) [] 0 0 [] false (b.getD p 0:Nat) (p+1:Nat) 0 0 (nm (b.getD p 0:Nat)) (ah b (b.getD p 0:Nat) (p+1)).1.results 0 0 0 [] (ah b (b.getD p 0:Nat) (p+1)).2.p (ah b (b.getD p 0:Nat) (p+1)).2.e (ah b (b.getD p 0:Nat) (p+1)).2.fa) ?_
  rcases hx with hx | hx | hx
  · have g2:(((b.getD p 0:Nat):Int)==2)=true:=by rw[hx];rfl
    simp only[kj,eD,cJ,aP.jE,hw,nG,hq,g11,g5,gn,gd,gm,Ey,ge,g2,mu,LJ,qk,bne_self_eq_false,qf,Pl,pC,TJ,false_implies,true_implies,true_and,and_true,TE,rh]
    refine⟨bM _,hU iZ,hU rB,hU Ct,by first | rfl | trivial,lf _ ?_⟩
    rw[he,zI]
    kernel_rfl
  · have g2:(((b.getD p 0:Nat):Int)==2)=false:=by rw[hx];rfl
    have g3:(((b.getD p 0:Nat):Int)==3)=true:=by rw[hx];rfl
    simp only[kj,eD,cJ,aP.jE,hw,nG,hq,g11,g5,gn,gd,gm,Ey,ge,g2,g3,mu,LJ,qk,bne_self_eq_false,qf,Pl,pC,TJ,false_implies,true_implies,true_and,and_true,TE,rh]
    refine⟨bM _,hU iZ,hU rB,hU Ct,by first | rfl | trivial,lf _ ?_⟩
    rw[he,zI]
    kernel_rfl
  · have g2:(((b.getD p 0:Nat):Int)==2)=false:=by rw[hx];rfl
    have g3:(((b.getD p 0:Nat):Int)==3)=false:=by rw[hx];rfl
    have g4:(((b.getD p 0:Nat):Int)==4)=true:=by rw[hx];rfl
    simp only[kj,eD,cJ,aP.jE,hw,nG,hq,g11,g5,gn,gd,gm,Ey,ge,g2,g3,g4,mu,LJ,qk,bne_self_eq_false,qf,Pl,pC,TJ,false_implies,true_implies,true_and,and_true,TE,rh]
    refine⟨bM _,hU iZ,hU rB,hU Ct,by first | rfl | trivial,lf _ ?_⟩
    rw[he,zI]
    kernel_rfl
theorem K7 (hb:dX b ⟨p,0,0⟩) (hp:p<b.length) (hu:pre.length=fs.length*10) (h9:fs.length≤900) (h11:b.getD p 0≠11) (h5:b.getD p 0≠5) (hn:nm (b.getD p 0:Nat)≠⟨#[]⟩) (hd : ¬900<fs.length+1) (hm : ¬262144≤many) (he:(ah b (b.getD p 0:Nat) (p+1)).2.e=0) (zI:(ah b (b.getD p 0:Nat) (p+1)).2.fa=0) (dj:dW (b.getD p 0:Nat)=false) (Qy:t.l.length≤1000000000) (H:ak ae (bz []) (hC b (ah b (b.getD p 0:Nat) (p+1)).2.p (many+1) fs.length pre {t with l:=t.l++[(ah b (b.getD p 0:Nat) (p+1)).1]}) (dY (fs.map Fr.h) pre) hT o) :
  ak ae (bz []) (hC b p many fs.length pre t) (dY (fs.map Fr.h) pre) hT o:=by
 have hc:b.getD p 0<256:=by
  rw[dd,da hp]
  exact hb.iV _ (fg hp)
 have iZ:=cB hb
 have hr:bk b ⟨p,0,0⟩=(b.getD p 0,⟨p+1,0,0⟩):=by
  unfold bk
  rw[if_neg (by simp),if_neg (by dsimp only;omega)]
 rw[hr] at iZ
 have rB:=eG ((b.getD p 0:Nat):Int)
 have hw:tl.wrap (((fs.length+1:Nat):Int)-1)=(fs.length:Int):=by rw[aY (by omega) (by omega)];omega
 have nG:tl.wrap ((b.getD p 0:Nat):Int)=((b.getD p 0:Nat):Int):=aY (by omega) (by omega)
 have hq:tl.wrap (((p+1:Nat):Int)-1)=(p:Int):=by have:=hb.len;rw[aY (by omega) (by omega)];omega
 have g11:(((b.getD p 0:Nat):Int)==11)=false:=by rw[beq_eq_false_iff_ne];omega
 have g5:(((b.getD p 0:Nat):Int)==5)=false:=by rw[beq_eq_false_iff_ne];omega
 have gn:=Bj hn
 have gd:decide (((fs.length+1:Nat):Int)>900)=false:=decide_eq_false (by omega)
 have gm:decide ((many:Int)≥262144)=false:=decide_eq_false (by omega)
 have Ey:tl.wrap ((many:Int)+1)=((many+1:Nat):Int):=by rw[aY (by omega) (by omega)];omega
 have Az:dX b ⟨p+1,0,0⟩:=⟨hb.iV,hb.len,hp⟩
 have Ct:=rq (op:=((b.getD p 0:Nat):Int)) Az
 have hL:cE=70368744177664:=rfl
 have e8:fs.length*10+8-pre.length=8:=by omega
 have b8:pre.length.ble (fs.length*10+8)=true:=by rw[TF];omega
 have g2:(((b.getD p 0:Nat):Int)==2)=false:=by simp only[dW,decide_eq_false_iff_not] at dj;rw[beq_eq_false_iff_ne];omega
 have g3:(((b.getD p 0:Nat):Int)==3)=false:=by simp only[dW,decide_eq_false_iff_not] at dj;rw[beq_eq_false_iff_ne];omega
 have g4:(((b.getD p 0:Nat):Int)==4)=false:=by simp only[dW,decide_eq_false_iff_not] at dj;rw[beq_eq_false_iff_ne];omega
 have ge:(((ah b (b.getD p 0:Nat) (p+1)).2.e:Int) != 0)=false:=by rw[wU,he];rfl
 obtain⟨xr,xa,xb,xn,tg,hI⟩:=vW b (b.getD p 0:Nat) (p+1)
 rw[hI] at Ct
 rw[hI] at H
 obtain⟨op,r,il,l,aA⟩:=t
 match l with
 |[]=>
  refine ak.env (E:=Cq b.length (bt b) p fs.length pre many op r il aA 0 [] [] 0 0 [] false (b.getD p 0:Nat) (p+1:Nat) 0 0 (nm (b.getD p 0:Nat)) xr xa xb xn tg (ah b (b.getD p 0:Nat) (p+1)).2.p (ah b (b.getD p 0:Nat) (p+1)).2.e (ah b (b.getD p 0:Nat) (p+1)).2.fa) (E':=bz []) rfl ?_
  have lf : ∀C:bA,C=fM b (ah b (b.getD p 0:Nat) (p+1)).2.p (many+1) fs.length pre op r il aA 1 (AF (b.getD p 0:Nat) xr xa xb xn tg)→ak ae (Cq b.length (bt b) p fs.length pre many op r il aA 0 [] [] 0 0 [] false (b.getD p 0:Nat) (p+1:Nat) 0 0 (nm (b.getD p 0:Nat)) xr xa xb xn tg (ah b (b.getD p 0:Nat) (p+1)).2.p (ah b (b.getD p 0:Nat) (p+1)).2.e (ah b (b.getD p 0:Nat) (p+1)).2.fa) C (dY (fs.map Fr.h) pre) hT o:=fun C hC=>by
   refine ak.env (E:=bz []) (E':=Cq b.length (bt b) p fs.length pre many op r il aA 0 [] [] 0 0 [] false (b.getD p 0:Nat) (p+1:Nat) 0 0 (nm (b.getD p 0:Nat)) xr xa xb xn tg (ah b (b.getD p 0:Nat) (p+1)).2.p (ah b (b.getD p 0:Nat) (p+1)).2.e (ah b (b.getD p 0:Nat) (p+1)).2.fa) rfl ?_
   rw[hC]
   exact NA (aC _ _) H
  refine aW dy (aC _ _) (fun _ _ _ _=>trivial) (lM b.length (bt b) p fs.length pre many op r il aA 0 [] [] 0 0 [] false (b.getD p 0:Nat) (p+1:Nat) 0 0 (nm (b.getD p 0:Nat)) xr xa xb xn tg (ah b (b.getD p 0:Nat) (p+1)).2.p (ah b (b.getD p 0:Nat) (p+1)).2.e (ah b (b.getD p 0:Nat) (p+1)).2.fa) ?_
  simp only[kg,eC,fk,cJ,aP.jE,hw,nG,hq,g11,g5,gn,gd,gm,Ey,ge,g2,g3,g4,e8,b8,qk,bne_self_eq_false,qf,Pl,pC,TJ,false_implies,true_implies,true_and,and_true,TE,rh]
  refine⟨bM _,hU iZ,hU rB,hU Ct,⟨by kernel_rfl,by kernel_rfl,by kernel_rfl,by kernel_rfl,lf _ ?_⟩,by kernel_rfl,by kernel_rfl,lf _ ?_⟩
  all_goals (rw[he,zI];kernel_rfl)
 |x::l=>
  dsimp only at Qy
  have ht:((aa (x::l)).map AV.p).take ((x::l).length*8)=(aa (x::l)).map AV.p:=ed (by rw[oR,cG];exact ch _)
  have hst : ∀Z Y:List AV,Z.length=8→Y.length=8→bK ((aa (x::l)).map AV.p++Z) ((x::l).length*8) Y=(aa (x::l)).map AV.p++bK Z 0 Y:=fun Z Y _ _=>by
   rw[jP _ _ _ _ (by rw[oR,cG];exact ch _),oR,cG,S0]
  have hkk:((((x::l).length+1)*104).ble cE&&((x::l).length+1).ble cE&&(((x::l).length*8).ble ((aa (x::l)).map AV.p).length&&true)&&true)=true:=by
   rw[oR,cG]
   simp only[TR,di,TF];omega
  have hle : ∀Z:List AV,Z.length=8→(((x::l).length*8+8).ble ((aa (x::l)).map AV.p++Z).length&&true&&true&&true)=true:=fun Z hZ=>by
   rw[dC,oR,cG,hZ];simp
  refine ak.env (E:=Bz b.length (bt b) p fs.length pre many op r il aA (x::l).length ((aa (x::l)).map .p) [] 0 0 [] false (b.getD p 0:Nat) (p+1:Nat) 0 0 (nm (b.getD p 0:Nat)) xr xa xb xn tg (ah b (b.getD p 0:Nat) (p+1)).2.p (ah b (b.getD p 0:Nat) (p+1)).2.e (ah b (b.getD p 0:Nat) (p+1)).2.fa) (E':=bz []) rfl ?_
  have lf : ∀C:bA,C=fM b (ah b (b.getD p 0:Nat) (p+1)).2.p (many+1) fs.length pre op r il aA ((x::l).length+1) ((aa (x::l)).map .p++AF (b.getD p 0:Nat) xr xa xb xn tg)→ak ae (Bz b.length (bt b) p fs.length pre many op r il aA (x::l).length ((aa (x::l)).map .p) [] 0 0 [] false (b.getD p 0:Nat) (p+1:Nat) 0 0 (nm (b.getD p 0:Nat)) xr xa xb xn tg (ah b (b.getD p 0:Nat) (p+1)).2.p (ah b (b.getD p 0:Nat) (p+1)).2.e (ah b (b.getD p 0:Nat) (p+1)).2.fa) C (dY (fs.map Fr.h) pre) hT o:=fun C hC=>by
   refine ak.env (E:=bz []) (E':=Bz b.length (bt b) p fs.length pre many op r il aA (x::l).length ((aa (x::l)).map .p) [] 0 0 [] false (b.getD p 0:Nat) (p+1:Nat) 0 0 (nm (b.getD p 0:Nat)) xr xa xb xn tg (ah b (b.getD p 0:Nat) (p+1)).2.p (ah b (b.getD p 0:Nat) (p+1)).2.e (ah b (b.getD p 0:Nat) (p+1)).2.fa) rfl ?_
   rw[hC]
   exact JA (Dq _ _ _ _ _ _) (aC _ _) H
  refine aW dy (aC _ _) (fun _ _ _ _=>trivial) (lO b.length (bt b) p fs.length pre many op r il aA (x::l).length ((aa (x::l)).map .p) [] 0 0 [] false (b.getD p 0:Nat) (p+1:Nat) 0 0 (nm (b.getD p 0:Nat)) xr xa xb xn tg (ah b (b.getD p 0:Nat) (p+1)).2.p (ah b (b.getD p 0:Nat) (p+1)).2.e (ah b (b.getD p 0:Nat) (p+1)).2.fa) ?_
  simp only[kj,eD,cJ,aP.jE,hw,nG,hq,g11,g5,gn,gd,gm,Ey,ge,g2,g3,g4,e8,b8,ht,hkk,bne_self_eq_false,qf,Pl,pC,TJ,false_implies,true_implies,true_and,and_true,TE,rh]
  rw[hst _ _ rfl rfl]
  simp only[px,qk]
  refine⟨bM _,hU iZ,hU rB,hU Ct,⟨by kernel_rfl,by kernel_rfl,by kernel_rfl,by kernel_rfl,bM _,hle _ rfl,lf _ ?_⟩,?_,by kernel_rfl,lf _ ?_⟩
  · rw[he,zI];kernel_rfl
  · have hna : ∀n:Nat,aE (some (TypeDesc.slice 62)) (AV.ms 2 0 n 8 none)=(AV.ms 2 0 n 8 none,true):=fun n=>by kernel_rfl
    simp[hna,cR,LU]
  · rw[he,zI];kernel_rfl
theorem Dr {u:Nat} {R:Hid} (hs:R.fj) (H:ak ae (bz []) (hP b p many u pre t) R hT o):ak ae (bz []) (hC b p many u pre t) R hT o:=by
 obtain⟨op,r,il,l,aA⟩:=t
 match l,H with
 |[],H=>
  exact ak.aq hs (ep (i:=1) (k:= .stk 74 pre) (l:=gq op r il (.os none 0 0 []) aA) (l':=gq op r il (.p (.ps 0 8 [])) aA) (by kernel_rfl) (by kernel_rfl) fun g w vs h=>iF (l:=gq op r il (.os none 0 0 []) aA) (l':=gq op r il (.p (.ps 0 8 [])) aA) ⟨bu _,bu _,bu _,bu _,bu _,bu _,bu _,bu _,x9,bu _,trivial⟩ h) (ak.same (by kernel_rfl) H)
 |x::l,H=>
  refine ak.aq hs (vV (i:=1) (tk:=2) (k:= .stk 74 pre) (te:=62) (q:=true) (l1:=[sI .i64 op,sI .i64 r,sI .u32 0,sI .u32 0,sI .i32 0,.p (.ps 0 1 []),.p (.ps il.length 8 (aa il)),.p (.ps 0 8 [])]) (l2:=[sB aA]) (len:=(x::l).length) (sz:=8) (X:=aa (x::l)) (by kernel_rfl) (by kernel_rfl) (by kernel_rfl) (by decide) (cG _) (by decide)) ?_
  exact ak.aq hs (n8 [0,3,4] (by kernel_rfl)) (ak.same (by kernel_rfl) H)
theorem K8 (hb:dX b ⟨p,0,0⟩) (hp:p<b.length) (hu:pre.length=0) (h11:b.getD p 0=11) {R:Hid} (hs:R.fj):ak ae (bz []) (hC b p many 0 pre t) R hT (.ret (.p (.ps t.l.length 8 (aa t.l))) [RS.aN b ⟨p+1,0,0⟩]):=by
 obtain rfl:pre=[]:=List.length_eq_zero_iff.1 hu
 have h9:([]:List Fr).length≤900:=S3 _
 refine Dr hs ?_
 have hc:b.getD p 0<256:=by
  rw[dd,da hp]
  exact hb.iV _ (fg hp)
 have iZ:=cB hb
 have hr:bk b ⟨p,0,0⟩=(b.getD p 0,⟨p+1,0,0⟩):=by
  unfold bk
  rw[if_neg (by simp),if_neg (by dsimp only;omega)]
 rw[hr] at iZ
 have rB:=eG ((b.getD p 0:Nat):Int)
 have hw:tl.wrap (((([]:List Fr).length+1:Nat):Int)-1)=(([]:List Fr).length:Int):=by rw[aY (by omega) (by omega)];omega
 have nG:tl.wrap ((b.getD p 0:Nat):Int)=((b.getD p 0:Nat):Int):=aY (by omega) (by omega)
 have hq:tl.wrap (((p+1:Nat):Int)-1)=(p:Int):=by have:=hb.len;rw[aY (by omega) (by omega)];omega
 have g11:(((b.getD p 0:Nat):Int)==11)=true:=by rw[h11];rfl
 obtain⟨op,r,il,l,aA⟩:=t
 refine ak.env (E:=PE b.length (bt b) p 0 [] many op r il aA 0 [] l 0 0 [] false (b.getD p 0:Nat) (p+1:Nat) 0 0 ⟨#[]⟩ 0 0 0 0 [] 0 0 0) (E':=bz []) rfl ?_
 refine aW dy hs (fun _ _ _ _=>trivial) (IF b.length (bt b) p 0 [] many op r il aA 0 [] l 0 0 [] false (b.getD p 0:Nat) (p+1:Nat) 0 0 ⟨#[]⟩ 0 0 0 0 [] 0 0 0) ?_
 simp only[GF,cJ,aP.jE,nG,g11,bne_self_eq_false,qf,Pl,pC,TJ,false_implies,true_implies,true_and,and_true,TE,rh]
 exact⟨hU iZ,rfl⟩
theorem IP (hb:dX b ⟨p,0,0⟩) (hp:p<b.length) (hu:pre.length=fs.length*10) (h9:fs.length≤900) (h5:b.getD p 0=5) (hf:fs≠[]) (h4:t.op=4) (ho:t.aA=false) (H:ak ae (bz []) (hC b (p+1) many fs.length pre {t with il:=t.l,l:=[],aA:=true}) (dY (fs.map Fr.h) pre) hT o) :
  ak ae (bz []) (hC b p many fs.length pre t) (dY (fs.map Fr.h) pre) hT o:=by
 refine Dr (aC _ _) ?_
 have hc:b.getD p 0<256:=by
  rw[dd,da hp]
  exact hb.iV _ (fg hp)
 have iZ:=cB hb
 have hr:bk b ⟨p,0,0⟩=(b.getD p 0,⟨p+1,0,0⟩):=by
  unfold bk
  rw[if_neg (by simp),if_neg (by dsimp only;omega)]
 rw[hr] at iZ
 have rB:=eG ((b.getD p 0:Nat):Int)
 have hw:tl.wrap (((fs.length+1:Nat):Int)-1)=(fs.length:Int):=by rw[aY (by omega) (by omega)];omega
 have nG:tl.wrap ((b.getD p 0:Nat):Int)=((b.getD p 0:Nat):Int):=aY (by omega) (by omega)
 have hq:tl.wrap (((p+1:Nat):Int)-1)=(p:Int):=by have:=hb.len;rw[aY (by omega) (by omega)];omega
 have f0:fs.length*10-pre.length=0:=by omega
 have f6:fs.length*10+6-pre.length=6:=by omega
 have f8:fs.length*10+8-pre.length=8:=by omega
 have f9:fs.length*10+9-pre.length=9:=by omega
 have b0:pre.length.ble (fs.length*10)=true:=by rw[TF];omega
 have b6:pre.length.ble (fs.length*10+6)=true:=by rw[TF];omega
 have b8:pre.length.ble (fs.length*10+8)=true:=by rw[TF];omega
 have b9:pre.length.ble (fs.length*10+9)=true:=by rw[TF];omega
 have g11:(((b.getD p 0:Nat):Int)==11)=false:=by rw[h5];rfl
 have g5:(((b.getD p 0:Nat):Int)==5)=true:=by rw[h5];rfl
 have hfl:0<fs.length:=List.length_pos_iff.2 hf
 obtain⟨op,r,il,l,aA⟩:=t
 dsimp only at h4 ho
 subst h4 ho
 have gu:decide (((fs.length+1:Nat):Int)>1)=true:=decide_eq_true (by omega)
 refine ak.env (E:=LI b.length (bt b) p fs.length pre many 4 r il false 0 [] l 0 0 [] false (b.getD p 0:Nat) (p+1:Nat) 0 0 (nm (b.getD p 0:Nat)) 0 0 0 0 [] 0 0 0) (E':=bz []) rfl ?_
 refine aW dy (aC _ _) (fun _ _ _ _=>trivial) (Dl b.length (bt b) p fs.length pre many 4 r il false 0 [] l 0 0 [] false (b.getD p 0:Nat) (p+1:Nat) 0 0 (nm (b.getD p 0:Nat)) 0 0 0 0 [] 0 0 0) ?_
 simp only[Cr,m6,cJ,aP.jE,hw,nG,hq,g11,g5,gu,rf,f0,f6,f8,f9,b0,b6,b8,b9,beq_self_eq_true,bne_self_eq_false,qf,Pl,pC,TJ,false_implies,true_implies,true_and,and_true,TE,rh]
 refine⟨bM _,hU iZ,by kernel_rfl,by kernel_rfl,by kernel_rfl,by kernel_rfl,by kernel_rfl,by kernel_rfl,by kernel_rfl,by kernel_rfl,by kernel_rfl,by kernel_rfl,by kernel_rfl,by kernel_rfl,?_⟩
 refine ak.env (E:=bz []) (E':=LI b.length (bt b) p fs.length pre many 4 r il false 0 [] l 0 0 [] false (b.getD p 0:Nat) (p+1:Nat) 0 0 (nm (b.getD p 0:Nat)) 0 0 0 0 [] 0 0 0) rfl ?_
 exact ak.same (by kernel_rfl) H
theorem Qz:nm 5=⟨#[]⟩:=by kernel_rfl
theorem Bk (hb:dX b ⟨p,0,0⟩) (hp:p<b.length) (hu:pre.length=fs.length*10) (h9:fs.length≤900) (h5:b.getD p 0=5) (hx : ¬(fs≠[]∧t.op=4∧t.aA=false)) :
  ak ae (bz []) (hC b p many fs.length pre t) (dY (fs.map Fr.h) pre) hT (.ret (.os none 0 0 []) [RS.aN b ⟨p+1,160,p⟩]):=by
 refine Dr (aC _ _) ?_
 have hc:b.getD p 0<256:=by
  rw[dd,da hp]
  exact hb.iV _ (fg hp)
 have iZ:=cB hb
 have hr:bk b ⟨p,0,0⟩=(b.getD p 0,⟨p+1,0,0⟩):=by
  unfold bk
  rw[if_neg (by simp),if_neg (by dsimp only;omega)]
 rw[hr] at iZ
 have rB:=eG ((b.getD p 0:Nat):Int)
 have hw:tl.wrap (((fs.length+1:Nat):Int)-1)=(fs.length:Int):=by rw[aY (by omega) (by omega)];omega
 have nG:tl.wrap ((b.getD p 0:Nat):Int)=((b.getD p 0:Nat):Int):=aY (by omega) (by omega)
 have hq:tl.wrap (((p+1:Nat):Int)-1)=(p:Int):=by have:=hb.len;rw[aY (by omega) (by omega)];omega
 have f0:fs.length*10-pre.length=0:=by omega
 have f6:fs.length*10+6-pre.length=6:=by omega
 have f8:fs.length*10+8-pre.length=8:=by omega
 have f9:fs.length*10+9-pre.length=9:=by omega
 have b0:pre.length.ble (fs.length*10)=true:=by rw[TF];omega
 have b6:pre.length.ble (fs.length*10+6)=true:=by rw[TF];omega
 have b8:pre.length.ble (fs.length*10+8)=true:=by rw[TF];omega
 have b9:pre.length.ble (fs.length*10+9)=true:=by rw[TF];omega
 have g11:(((b.getD p 0:Nat):Int)==11)=false:=by rw[h5];rfl
 have g5:(((b.getD p 0:Nat):Int)==5)=true:=by rw[h5];rfl
 have gn:((nm ((b.getD p 0:Nat):Int)).data.toList==(ByteArray.mk #[]).data.toList)=true:=Jz (by rw[h5];exact Qz)
 obtain⟨op,r,il,l,aA⟩:=t
 dsimp only at hx
 refine ak.env (E:=LI b.length (bt b) p fs.length pre many op r il aA 0 [] l 0 0 [] false (b.getD p 0:Nat) (p+1:Nat) 0 0 (nm (b.getD p 0:Nat)) 0 0 0 0 [] 0 0 0) (E':=bz []) rfl ?_
 refine aW dy (aC _ _) (fun _ _ _ _=>trivial) (Dl b.length (bt b) p fs.length pre many op r il aA 0 [] l 0 0 [] false (b.getD p 0:Nat) (p+1:Nat) 0 0 (nm (b.getD p 0:Nat)) 0 0 0 0 [] 0 0 0) ?_
 simp only[Cr,m6,cJ,aP.jE,hw,nG,hq,g11,g5,gn,rf,f0,f6,f8,f9,b0,b6,b8,b9,bne_self_eq_false,qf,Pl,pC,TJ,false_implies,true_implies,true_and,and_true,TE,rh]
 refine⟨bM _,hU iZ,fun q1=>⟨by kernel_rfl,by kernel_rfl,fun q2=>⟨by kernel_rfl,by kernel_rfl,fun q3=>absurd ?_ hx,fun _=>⟨hU rB,rfl⟩⟩,fun _=>⟨hU rB,rfl⟩⟩,fun _=>⟨hU rB,rfl⟩⟩
 have q1:=of_decide_eq_true q1
 exact⟨fun e=>by subst e;exact absurd q1 (by decide),by simpa using q2,by simpa using q3⟩
theorem K9 {u:Nat} {op r:Int} {il:List Ins} {aA:Bool} {i:Ins} {Y:List AV} (hY:aV rA Y ((aa [i]).map .p)) {R:Hid} (hs:R.fj)
  (H:ak ae (bz []) (hC b p many u pre ⟨op,r,il,[i],aA⟩) R hT o):ak ae (bz []) (fM b p many u pre op r il aA 1 Y) R hT o:=
 ak.aq hs (ep (i:=2) (k:= .gr 62 true) (l:=Y) (l':=(aa [i]).map .p) (by kernel_rfl) (by kernel_rfl) fun g w vs h=>iF hY h) (ak.same (by kernel_rfl) H)
theorem GI {u:Nat} {op r bg r2:Int} {il aG:List Ins} {aA au:Bool} {lc:AV} {n:Nat} {X:List AV} {R:Hid} (hs:R.fj) (H:ak ae (bz []) (fM b p many u pre bg r2 aG au n X) R hT o) :
  ak ae (bz []) (aj ae (bz []) 27 0 [.mp 0 0,.ms 1 0 (u+1) 10 none,sI .i64 many] [RS.aN b ⟨p,0,0⟩,.ob (.stk 74 pre) (gq bg r2 aG (.ms 2 0 n 8 none) au++gq op r il lc aA),.ob (.gr 62 true) X] 1 202) R hT o:=
 ak.aq hs (Bi (i:=1) (t:=74) (pre:=pre) (l:=gq bg r2 aG (.ms 2 0 n 8 none) au) (x:=gq op r il lc aA) (by kernel_rfl) (by kernel_rfl)) (ak.same (by kernel_rfl) H)
def GJ (op r:Int) (l e:List Ins):List AV:=[sI .i64 op,sI .i64 r,sI .u32 0,sI .u32 0,sI .i32 0,.p (.ps 0 1 []),.p (.ps l.length 8 (aa l)),.p (.ps e.length 8 (aa e))]
theorem vX (op r:Int) (l e:List Ins):aV rA (GJ op r l e) ((aa [.mk op r 0 0 0 [] l e]).map .p):=
 ⟨bu _,bu _,bu _,bu _,bu _,bu _,bu _,bu _,trivial⟩
theorem Bl (n:Nat):fG (n:Int) (n+1)=true:=by simp[fG];omega
theorem ya (n:Nat):(fG ((n+1:Nat):Int) (n+2)&&true&&true)=true:=bM (n+1)
theorem Bm (n:Nat):((n+1).ble (n+2)&&true&&true&&true)=true:=by
 simp only[TR,TF];omega
theorem GK (n:Int):cR (sI .i64 n) (sI .i64 n)=true:=by
 simp[sI,cR,zS,LS]
 rfl
theorem eq_mp (b n:Nat):cR (.mp b n) (.mp b n)=true:=by simp[cR]
theorem NB (n:Nat):cR (.ms 2 0 n 8 none) (.ms 2 0 n 8 none)=true:=by simp[cR,LU]
theorem IQ (n:Nat):aE (ae.underlying 24) (.ms 2 0 n 8 none)=(.ms 2 0 n 8 none,true):=by kernel_rfl
theorem NC {op r bg r2:Int} {il l aG:List Ins} {aA au:Bool} (hb:dX b ⟨p,0,0⟩) (hp:p<b.length) (hu:pre.length=fs.length*10) (h9:fs.length≤900) (h11:b.getD p 0=11)
  (H:ak ae (bz []) (hC b (p+1) many fs.length pre ⟨bg,r2,aG,[(⟨op,r,il,l,aA⟩:Fr).done],au⟩) (dY (fs.map Fr.h) pre) hT o) :
  ak ae (bz []) (aj ae (bz []) 27 0 [.mp 0 0,.ms 1 0 (fs.length+2) 10 none,sI .i64 many] [RS.aN b ⟨p,0,0⟩,.ob (.stk 74 pre) (gq bg r2 aG (.os none 0 0 []) au++gq op r il (.p (.ps l.length 8 (aa l))) aA)] 1 202) (dY (fs.map Fr.h) pre) hT o:=by
 have iZ:=cB hb
 have hc:b.getD p 0<256:=by
  rw[dd,da hp]
  exact hb.iV _ (fg hp)
 have hr:bk b ⟨p,0,0⟩=(b.getD p 0,⟨p+1,0,0⟩):=by
  unfold bk
  rw[if_neg (by simp),if_neg (by dsimp only;omega)]
 rw[hr] at iZ
 have hL:cE=70368744177664:=rfl
 have hw:tl.wrap (((fs.length+1:Nat):Int)-1)=(fs.length:Int):=by rw[aY (by omega) (by omega)];omega
 have Ew:tl.wrap (((fs.length+2:Nat):Int)-1)=((fs.length+1:Nat):Int):=by rw[aY (by omega) (by omega)];omega
 have nG:tl.wrap ((b.getD p 0:Nat):Int)=((b.getD p 0:Nat):Int):=aY (by omega) (by omega)
 have f8:fs.length*10+8-pre.length=8:=by omega
 have b8:pre.length.ble (fs.length*10+8)=true:=by rw[TF];omega
 have t0:(fs.length+1)*10-pre.length=10:=by omega
 have t8:(fs.length+1)*10+8-pre.length=18:=by omega
 have t9:(fs.length+1)*10+9-pre.length=19:=by omega
 have c0:pre.length.ble ((fs.length+1)*10)=true:=by rw[TF];omega
 have c8:pre.length.ble ((fs.length+1)*10+8)=true:=by rw[TF];omega
 have c9:pre.length.ble ((fs.length+1)*10+9)=true:=by rw[TF];omega
 have g11:(((b.getD p 0:Nat):Int)==11)=true:=by rw[h11];rfl
 have hin:fG (fs.length:Int) (fs.length+1)=true:=Bl _
 have La:fG ((fs.length+1:Nat):Int) (fs.length+2)=true:=Bl (fs.length+1)
 refine ak.env (E:=Cs b.length (bt b) p fs.length pre many op r il aA 0 [] l bg r2 aG au (b.getD p 0:Nat) (p+1:Nat) 0 0 ⟨#[]⟩ 0 0 0 0 [] 0 0 0) (E':=bz []) rfl ?_
 have lf : ∀(C:bA) (le ll:List Ins),(⟨op,r,il,l,aA⟩:Fr).done = .mk op r 0 0 0 [] ll le→C=aj ae (bz []) 27 0 [.mp 0 0,.ms 1 0 (fs.length+1) 10 none,sI .i64 many] [RS.aN b ⟨p+1,0,0⟩,.ob (.stk 74 pre) (gq bg r2 aG (.ms 2 0 1 8 none) au++gq op r il (.p (.ps l.length 8 (aa l))) aA),.ob (.gr 62 true) (GJ op r ll le)] 1 202→ak ae (Cs b.length (bt b) p fs.length pre many op r il aA 0 [] l bg r2 aG au (b.getD p 0:Nat) (p+1:Nat) 0 0 ⟨#[]⟩ 0 0 0 0 [] 0 0 0) C (dY (fs.map Fr.h) pre) hT o:=fun C le ll hd hC=>by
  refine ak.env (E:=bz []) (E':=Cs b.length (bt b) p fs.length pre many op r il aA 0 [] l bg r2 aG au (b.getD p 0:Nat) (p+1:Nat) 0 0 ⟨#[]⟩ 0 0 0 0 [] 0 0 0) rfl ?_
  rw[hC]
  rw[hd] at H
  exact GI (aC _ _) (K9 (vX op r ll le) (aC _ _) H)
 refine aW dy (aC _ _) (fun _ _ _ _=>trivial) (GG b.length (bt b) p fs.length pre many op r il aA 0 [] l bg r2 aG au (b.getD p 0:Nat) (p+1:Nat) 0 0 ⟨#[]⟩ 0 0 0 0 [] 0 0 0) ?_
 cases aA
 all_goals simp only[Dm,ru,rz,cJ,aP.jE,hw,Ew,nG,g11,rf,Te,f8,b8,t0,t8,t9,c0,c8,c9,hin,La,GK,eq_mp,bne_self_eq_false,qf,Pl,pC,TJ,false_implies,true_implies,true_and,and_true,TE,rh]
 all_goals (repeat' (with_reducible refine And.intro ?_ ?_))
 all_goals try (with_reducible exact bM _)
 all_goals try (with_reducible exact ya _)
 all_goals try (with_reducible exact Bm _)
 all_goals try kernel_rfl
 · exact hU iZ
 · exact lf _ _ _ rfl (by kernel_rfl)
 · exact lf _ _ _ rfl (by kernel_rfl)
 · exact hU iZ
 · exact lf _ _ _ rfl (by kernel_rfl)
 · exact lf _ _ _ rfl (by kernel_rfl)
theorem ND {op r bg r2:Int} {il l aG:List Ins} {aA au:Bool} {x:Ins} {l2:List Ins} (Qy:(x::l2).length≤1000000000) (hb:dX b ⟨p,0,0⟩) (hp:p<b.length) (hu:pre.length=fs.length*10) (h9:fs.length≤900) (h11:b.getD p 0=11)
  (H:ak ae (bz []) (hC b (p+1) many fs.length pre ⟨bg,r2,aG,x::l2++[(⟨op,r,il,l,aA⟩:Fr).done],au⟩) (dY (fs.map Fr.h) pre) hT o) :
  ak ae (bz []) (aj ae (bz []) 27 0 [.mp 0 0,.ms 1 0 (fs.length+2) 10 none,sI .i64 many] [RS.aN b ⟨p,0,0⟩,.ob (.stk 74 pre) (gq bg r2 aG (.ms 2 0 (x::l2).length 8 none) au++gq op r il (.p (.ps l.length 8 (aa l))) aA),.ob (.gr 62 true) ((aa (x::l2)).map .p)] 1 202) (dY (fs.map Fr.h) pre) hT o:=by
 have iZ:=cB hb
 have hc:b.getD p 0<256:=by
  rw[dd,da hp]
  exact hb.iV _ (fg hp)
 have hr:bk b ⟨p,0,0⟩=(b.getD p 0,⟨p+1,0,0⟩):=by
  unfold bk
  rw[if_neg (by simp),if_neg (by dsimp only;omega)]
 rw[hr] at iZ
 have hL:cE=70368744177664:=rfl
 have hw:tl.wrap (((fs.length+1:Nat):Int)-1)=(fs.length:Int):=by rw[aY (by omega) (by omega)];omega
 have Ew:tl.wrap (((fs.length+2:Nat):Int)-1)=((fs.length+1:Nat):Int):=by rw[aY (by omega) (by omega)];omega
 have nG:tl.wrap ((b.getD p 0:Nat):Int)=((b.getD p 0:Nat):Int):=aY (by omega) (by omega)
 have f8:fs.length*10+8-pre.length=8:=by omega
 have b8:pre.length.ble (fs.length*10+8)=true:=by rw[TF];omega
 have t0:(fs.length+1)*10-pre.length=10:=by omega
 have t8:(fs.length+1)*10+8-pre.length=18:=by omega
 have t9:(fs.length+1)*10+9-pre.length=19:=by omega
 have c0:pre.length.ble ((fs.length+1)*10)=true:=by rw[TF];omega
 have c8:pre.length.ble ((fs.length+1)*10+8)=true:=by rw[TF];omega
 have c9:pre.length.ble ((fs.length+1)*10+9)=true:=by rw[TF];omega
 have g11:(((b.getD p 0:Nat):Int)==11)=true:=by rw[h11];rfl
 have hin:fG (fs.length:Int) (fs.length+1)=true:=Bl _
 have La:fG ((fs.length+1:Nat):Int) (fs.length+2)=true:=Bl (fs.length+1)
 have ht:((aa (x::l2)).map AV.p).take ((x::l2).length*8)=(aa (x::l2)).map AV.p:=ed (by rw[oR,cG];exact ch _)
 have hst : ∀Z Y:List AV,bK ((aa (x::l2)).map AV.p++Z) ((x::l2).length*8) Y=(aa (x::l2)).map AV.p++bK Z 0 Y:=fun Z Y=>by
  rw[jP _ _ _ _ (by rw[oR,cG];exact ch _),oR,cG,S0]
 have hle : ∀Z:List AV,Z.length=8→(((x::l2).length*8+8).ble ((aa (x::l2)).map AV.p++Z).length&&true&&true&&true)=true:=fun Z hZ=>by
  rw[dC,oR,cG,hZ];simp
 have hk1:(((x::l2).length+1)*104).ble cE=true:=by rw[TF];omega
 have hk2:((x::l2).length+1).ble cE=true:=by rw[TF];omega
 have RX:((x::l2).length*8).ble ((aa (x::l2)).map AV.p).length=true:=by rw[oR,cG,TF];exact ch _
 refine ak.env (E:=zA b.length (bt b) p fs.length pre many op r il aA (x::l2).length ((aa (x::l2)).map .p) l bg r2 aG au (b.getD p 0:Nat) (p+1:Nat) 0 0 ⟨#[]⟩ 0 0 0 0 [] 0 0 0) (E':=bz []) rfl ?_
 have lf : ∀(C:bA) (le ll:List Ins),(⟨op,r,il,l,aA⟩:Fr).done = .mk op r 0 0 0 [] ll le→C=aj ae (bz []) 27 0 [.mp 0 0,.ms 1 0 (fs.length+1) 10 none,sI .i64 many] [RS.aN b ⟨p+1,0,0⟩,.ob (.stk 74 pre) (gq bg r2 aG (.ms 2 0 ((x::l2).length+1) 8 none) au++gq op r il (.p (.ps l.length 8 (aa l))) aA),.ob (.gr 62 true) ((aa (x::l2)).map .p++GJ op r ll le)] 1 202→ak ae (zA b.length (bt b) p fs.length pre many op r il aA (x::l2).length ((aa (x::l2)).map .p) l bg r2 aG au (b.getD p 0:Nat) (p+1:Nat) 0 0 ⟨#[]⟩ 0 0 0 0 [] 0 0 0) C (dY (fs.map Fr.h) pre) hT o:=fun C le ll hd hC=>by
  refine ak.env (E:=bz []) (E':=zA b.length (bt b) p fs.length pre many op r il aA (x::l2).length ((aa (x::l2)).map .p) l bg r2 aG au (b.getD p 0:Nat) (p+1:Nat) 0 0 ⟨#[]⟩ 0 0 0 0 [] 0 0 0) rfl ?_
  rw[hC]
  rw[hd] at H
  exact GI (aC _ _) (JA (vX op r ll le) (aC _ _) H)
 refine aW dy (aC _ _) (fun _ _ _ _=>trivial) (GH b.length (bt b) p fs.length pre many op r il aA (x::l2).length ((aa (x::l2)).map .p) l bg r2 aG au (b.getD p 0:Nat) (p+1:Nat) 0 0 ⟨#[]⟩ 0 0 0 0 [] 0 0 0) ?_
 cases aA
 all_goals simp only[Dn,cJ,aP.jE,hw,Ew,nG,g11,rf,Te,f8,b8,t0,t8,t9,c0,c8,c9,ht,hk1,hk2,RX,Bl,IQ,NB,List.getD_cons_succ,List.getD_cons_zero,hin,La,GK,eq_mp,bne_self_eq_false,qf,Pl,pC,TJ,false_implies,true_implies,true_and,and_true,TE,rh]
 rw[hst]
 any_goals rw[hst]
 all_goals simp only[px,qk]
 all_goals (repeat' (with_reducible refine And.intro ?_ ?_))
 all_goals try (with_reducible exact bM _)
 all_goals try (with_reducible exact ya _)
 all_goals try (with_reducible exact Bm _)
 all_goals try (with_reducible refine hle _ ?_)
 all_goals try kernel_rfl
 · exact hU iZ
 · exact lf _ _ _ rfl (by kernel_rfl)
 · exact lf _ _ _ rfl (by kernel_rfl)
 · exact hU iZ
 · exact lf _ _ _ rfl (by kernel_rfl)
 · exact lf _ _ _ rfl (by kernel_rfl)
theorem Lb {f:Fr} (hb:dX b ⟨p,0,0⟩) (hp:p<b.length) (hu:pre.length=(f::fs).length*10) (h9:(f::fs).length≤900) (h11:b.getD p 0=11) (hfl:f.l.length≤1000000000)
  (H : ∀pre':List Value,pre'.length=fs.length*10→ak ae (bz []) (hC b (p+1) many fs.length pre' {f with l:=f.l++[t.done]}) (dY (fs.map Fr.h) pre') hT o) :
  ak ae (bz []) (hC b p many (f::fs).length pre t) (dY ((f::fs).map Fr.h) pre) hT o:=by
 refine Dr (aC _ _) ?_
 refine ak.pop (i:=1) (t:=74) (pre:=pre) (f:=f.h) (fs:=fs.map Fr.h) (lN:=gq t.op t.r t.il (.p (.ps t.l.length 8 (aa t.l))) t.aA) (by kernel_rfl) (by kernel_rfl) fun pre' hp'=> ?_
 have h10:f.h.p1.length+1+f.h.p2.length=10:=rfl
 have Bx:pre'.length=fs.length*10:=by simp only[od] at hu;omega
 have NY:fs.length≤900:=by simp only[od] at h9;omega
 have H:=H pre' Bx
 obtain⟨bg,r2,aG,l2,au⟩:=f
 match l2,hfl,H with
 |[],_,H=>exact ak.same (by kernel_rfl) (NC (op:=t.op) (r:=t.r) (il:=t.il) (l:=t.l) (aA:=t.aA) hb hp Bx NY h11 H)
 |x::l2,hfl,H=>exact ak.same (by kernel_rfl) (ND (op:=t.op) (r:=t.r) (il:=t.il) (l:=t.l) (aA:=t.aA) hfl hb hp Bx NY h11 H)
end
def Inv (p0:Nat) (s:RS):Prop:=p0≤s.p∧(s.e=0→s.fa=0)
theorem GL {b:List Nat} {p0:Nat} {s:RS} (h:Inv p0 s):Inv p0 (bk b s).2:=by
 unfold bk
 split
 · exact h
 · split
   · exact⟨h.1,fun q=>by simp at q⟩
   · exact⟨T1 h.1,h.2⟩
theorem jX {b:List Nat} {p0:Nat} {s:RS} (h:Inv p0 s):Inv p0 (aQ b s).2:=by
 unfold aQ
 split
 · exact h
 · split
   · rename_i h1 h2
     exact⟨h.1,fun q=>absurd q h2⟩
   · rename_i h1 h2
     have:=(jW (b:=b) 5 0 0 (T2.1 h2)).2
     exact⟨by have:=h.1;show p0≤(gU b s.p).next;unfold gU;omega,h.2⟩
theorem zB {b:List Nat} {ok:Nat→Bool} {p0:Nat} {s:RS} (h:Inv p0 s):Inv p0 (eU ok b s).2:=by
 have hb:=GL (b:=b) h
 unfold eU
 split
 · exact hb
 · dsimp only
   split
   · exact⟨hb.1,fun q=>by simp at q⟩
   · exact hb
theorem Bn {b:List Nat} {p0:Nat} : ∀(f:Nat) {s:RS},Inv p0 s→Inv p0 (br b f s).2
 |0,_,h=>h
 |f+1,s,h=>by
  unfold br
  split
  · exact h
  · exact Bn f (jX h)
theorem GM (b:List Nat) (op:Int) (p:Nat):Inv p (ah b op p).2:=by
 have h0:Inv p ⟨p,0,0⟩:=⟨ch _,fun _=>rfl⟩
 unfold ah
 split
 · exact zB h0
 · split
   · exact zB (jX h0)
   · split
     · exact jX h0
     · split
       · refine jX (Bn _ ?_)
         split
         · exact⟨(jX h0).1,fun q=>by simp at q⟩
         · exact jX h0
       · split
         · exact zB h0
         · split
           · split
             · rename_i h1
               exact⟨ch _,fun q=>absurd q h1⟩
             · rename_i h1
               refine⟨?_,fun _=>rfl⟩
               have:=(jW (b:=b) (last:=iQ) (p:=p) 5 0 0 (T2.1 h1)).2
               unfold zJ
               rw[if_neg h1]
               unfold gS
               dsimp only
               omega
           · split
             · exact jX (jX h0)
             · exact h0
theorem GN {b:List Nat} (op:Int) {p:Nat} (h:dX b ⟨p,0,0⟩):(ah b op p).2.p≤b.length:=by
 unfold ah
 split
 · exact(vQ h).p
 · split
   · exact(vQ (eA h)).p
   · split
     · exact(eA h).p
     · split
       · refine(eA (x7 _ ?_)).p
         split
         · exact⟨h.iV,h.len,(eA h).p⟩
         · exact eA h
       · split
         · exact(vQ h).p
         · split
           · split
             · exact h.p
             · rename_i h1
               have:=(jW (b:=b) (last:=iQ) (p:=p) 5 0 0 (T2.1 h1)).1
               unfold zJ
               rw[if_neg h1]
               exact this
           · split
             · exact(eA (eA h)).p
             · exact h.p
theorem IS {b:List Nat} (NG : ∀x∈b,x<256) (hlen:b.length≤1000000000) : ∀(n:Nat) (fs:List Fr) (t:Fr) (p many:Nat) (pre:List Value),b.length<n+p→p≤b.length→pre.length=fs.length*10→fs.length≤900→t.l.length≤p→(∀f∈fs,f.l.length≤p) →
  ak ae (bz []) (hC b p many fs.length pre t) (dY (fs.map Fr.h) pre) hT (Nz b (cU b n fs t p many)):=by
 intro n
 induction n with
 |zero=>intro fs t p many pre h1 h2;omega
 |succ n ih=>
  intro fs t p many pre h1 h2 hu h9 ht hfs
  have hb:dX b ⟨p,0,0⟩:=⟨NG,hlen,h2⟩
  unfold cU
  split
  · rename_i hp
    exact II hb hp hu h9
  rename_i hp
  have hp:p<b.length:=Nat.lt_of_not_le hp
  split
  · rename_i h11
    match fs,hu,h9,hfs with
    |[],hu,h9,hfs=>exact K8 hb hp (by simpa using hu) h11 (aC _ _)
    |f::fs,hu,h9,hfs=>
     refine Lb hb hp hu h9 h11 (by have:=hfs f (.head _);omega) fun pre' Bx=> ?_
     refine ih fs _ (p+1) many pre' (by omega) (by omega) Bx (by simp only[od] at h9;omega) ?_ fun g hg=>T1 (hfs g (.tail _ hg))
     have:=hfs f (.head _)
     simp only[dC,od,Tr]
     omega
  rename_i h11
  split
  · rename_i h5
    obtain⟨h5,hf,h4,ho⟩:=h5
    exact IP hb hp hu h9 h5 hf h4 ho (ih fs _ (p+1) many pre (by omega) (by omega) hu h9 (S3 _) fun g hg=>T1 (hfs g hg))
  rename_i h5
  by_cases e5:b.getD p 0=5
  · have hn:nm ((b.getD p 0:Nat):Int)=⟨#[]⟩:=by rw[e5];exact Qz
    rw[if_pos hn]
    exact Bk hb hp hu h9 e5 fun q=>h5 ⟨e5,q⟩
  split
  · rename_i hn
    exact IJ hb hp hu h9 h11 e5 hn
  rename_i hn
  split
  · rename_i hd
    rcases Nat.lt_or_ge 900 (fs.length+1) with q | q
    · exact IK hb hp hu h9 h11 e5 hn q
    · exact IL hb hp hu h9 h11 e5 hn (by omega) (by omega)
  rename_i hd
  have Kc : ¬900<fs.length+1:=fun q=>hd (.inl q)
  have hd2 : ¬262144≤many:=fun q=>hd (.inr q)
  have Az:dX b ⟨p+1,0,0⟩:=⟨NG,hlen,hp⟩
  split
  · rename_i he
    exact IM hb hp hu h9 h11 e5 hn Kc hd2 he
  rename_i he
  have he:(ah b (b.getD p 0:Nat) (p+1)).2.e=0:=T2.1 he
  have hi:=GM b (b.getD p 0:Nat) (p+1)
  have hfit:=GN (b.getD p 0:Nat) Az
  have hge:=hi.1
  split
  · rename_i dj
    exact IN hb hp hu h9 h11 e5 hn Kc hd2 he (hi.2 he) dj fun vs hv=>ih (t::fs) _ _ (many+1) (pre++vs) (by omega) hfit (by simp only[dC,od];omega) (by simp only[od];omega) (S3 _) fun g hg=>by
     cases hg with
     |head=>omega
     |tail _ hg=>have:=hfs g hg;omega
  · rename_i dj
    refine K7 hb hp hu h9 h11 e5 hn Kc hd2 he (hi.2 he) (by simpa using dj) (by omega) (ih fs _ _ (many+1) pre (by omega) hfit hu h9 ?_ fun g hg=>by have:=hfs g hg;omega)
    simp only[dC,od,Tr]
    omega
end Go.Proofs.YtddfgnmjecogdaaDoor.N
end
