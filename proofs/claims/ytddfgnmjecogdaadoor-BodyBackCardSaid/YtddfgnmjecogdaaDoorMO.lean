import Derived.Test.YtddfgnmjecogdaaDoorMN
open Go.Proofs.Tryd renaming prog→ae
open List renaming getD_eq_getElem?_getD→dt,getElem?_eq_getElem→dp,getElem_mem→fw,length_map→pj,length_cons→pa,length_append→ei,take_of_length_le→fe,map_append→ra,length_nil→VS,map→VU
open Go.IntKind renaming i64→vj
open Bool renaming false_eq_true→rh,true_eq_false→Wa,not_false→rk,not_true→UU,and_true→Wi,and_eq_true→dv
open Int renaming toNat_natCast→V5
open Nat renaming zero_add→sa,ble_eq→V6,le_refl→df,le_succ_of_le→Ws,add_zero→rv,zero_le→Vr,sub_self→Vo,sub_zero→VD
open Decidable renaming not_not→Wt
noncomputable section
section
set_option linter.unusedSimpArgs false
set_option linter.unusedVariables false
namespace Go.Proofs.YtddfgnmjecogdaaDoor.N
open Go Go.Am
def Fr.p1 (f:Fr):List PV:=[.sc (.int .i64 f.op),.sc (.int .i64 f.r),.sc (.int .u32 0),.sc (.int .u32 0),.sc (.int .i32 0),.ps 0 1 [],.ps f.il.length 8 (aa f.il),.ps 0 8 []]
def Fr.h (f:Fr):lS:=⟨f.p1,62,8,f.l.length,match f.l with | []=>none | x::r=>some (aa (x::r)),[.sc (.bool f.aB)]⟩
def hC (b:List Nat) (p many u:Nat) (pre:List Value) (t:Fr):bB:=match t.l with
 |[]=>aj ae (bz []) 27 0 [.mp 0 0,.ms 1 0 (u+1) 10 none,sI .i64 many] [RS.aP b ⟨p,0,0⟩,.ob (.stk 74 pre) (gO t.op t.r t.il (.os none 0 0 []) t.aB)] 1 202
 |x::r=>aj ae (bz []) 27 0 [.mp 0 0,.ms 1 0 (u+1) 10 none,sI .i64 many] [RS.aP b ⟨p,0,0⟩,.ob (.stk 74 pre) (gO t.op t.r t.il (.ms 2 0 (x::r).length 8 none) t.aB),.ob (.gr 62 true) ((aa (x::r)).map .p)] 1 202
def hP (b:List Nat) (p many u:Nat) (pre:List Value) (t:Fr):bB:=aj ae (bz []) 27 0 [.mp 0 0,.ms 1 0 (u+1) 10 none,sI .i64 many] [RS.aP b ⟨p,0,0⟩,.ob (.stk 74 pre) (gO t.op t.r t.il (.p (.ps t.l.length 8 (aa t.l))) t.aB)] 1 202
def hT:Hid:=fun _ _ _=>True
def PL (b:List Nat) (r:Option (List Ins)×RS):Out:=match r with
 |(some l,s)=> .ret (.p (.ps l.length 8 (aa l))) [s.aP b]
 |(none,s)=> .ret (.os none 0 0 []) [s.aP b]
theorem iN {rows:List (Nat×Nat×AV)} {f:FuncId} {args:List AV} {m:Mem} {v:AV} {m':Mem} (h:aG ae env f args m v m'):aG ae (bz rows) f args m v m':=h
theorem xq (b:List Nat) (op:Int) (p:Nat) : ∃xr xa xb xn tg,(ah b op p).1 = .mk op xr xa xb xn tg [] []:=by
 unfold ah
 repeat' split
 all_goals exact⟨_,_,_,_,_,rfl⟩
theorem Kp (b:List Nat) (op:Int) (p:Nat) (h:dx op=true):(ah b op p).1 = .mk op (ah b op p).1.results 0 0 0 [] [] []:=by
 unfold ah
 rw[if_pos h]
 rfl
theorem Cu {s:ByteArray} (h:s≠⟨#[]⟩):(s.data.toList==(ByteArray.mk #[]).data.toList)=false:=by
 rw[beq_eq_false_iff_ne]
 intro e
 apply h
 obtain⟨d⟩:=s
 congr 1
 exact Array.toList_inj.1 e
theorem Lv {s:ByteArray} (h:s=⟨#[]⟩):(s.data.toList==(ByteArray.mk #[]).data.toList)=true:=by rw[h];rfl
theorem iZ : ∀{l l':List AV} {g:Gh} {w:World} {vs:List Value},aW (fun a b=> ∀(g:Gh) (w:World) (v:Value),VA g w a v→VA g w b v) l l'→bN g w l vs→bN g w l' vs
 |[],[],_,_,[],_,_=>trivial
 |a::l,b::l',g,w,x::vs,h,hv=>⟨h.1 g w x hv.1,iZ h.2 hv.2⟩
 |[],_::_,_,_,_,h,_=>h.elim
 |_::_,[],_,_,_,h,_=>h.elim
 |[],[],_,_,_::_,_,h=>h.elim
 |_::_,_::_,_,_,[],_,h=>h.elim
abbrev tj (a b:AV):Prop:= ∀(g:Gh) (w:World) (v:Value),VA g w a v→VA g w b v
theorem uW : ∀l:List AV,aW tj l l
 |[]=>trivial
 |_::l=>⟨fun _ _ _ h=>h,uW l⟩
theorem rD : ∀{a b c d:List AV},aW tj a b→aW tj c d→aW tj (a++c) (b++d)
 |[],[],_,_,_,h=>h
 |_::_,_::_,_,_,h,k=>⟨h.1,rD h.2 k⟩
 |[],_::_,_,_,h,_=>h.elim
 |_::_,[],_,_,h,_=>h.elim
theorem bu (a:AV):tj a a:=fun _ _ _ h=>h
theorem j8 (k:Nat):tj (.p (.ps 0 0 [])) (.p (.ps 0 k [])):=fun g w v h=>VA.pv.2 (Ji.nil g w v (VA.pv.1 h))
theorem zA:tj (.p (.ps 0 0 [])) (.os none 0 0 []):=fun g w v h=>by
 have h:=VA.pv.1 h
 cases h with
 |mT _ a cap hz=>
  rcases hz with hz | ⟨rfl,rfl⟩
  · exact absurd hz (by decide)
  · exact .os _ _ _ _ _ _ (.mT _ _ _ (.inr ⟨rfl,rfl⟩)) (.inl rfl)
 |ps _ _ _ _ _ _ _ _ _ hz=>exact absurd hz (by decide)
theorem zB:tj (.os none 0 0 []) (.p (.ps 0 8 [])):=fun g w v h=>by
 cases h with
 |os _ _ _ _ a cap h' hr'=>exact .p _ _ (.mT _ _ _ (.inl (by decide)))
theorem rE (l:List PV):VU ew (VU AV.p l)=VU AV.p l:=by rw[List.map_map];rfl
def NF (c xr:Int):List AV:=[sI .i64 c,sI .i64 xr,sI .u32 0,sI .u32 0,sI .i32 0,.p (.ps 0 1 []),.p (.ps 0 0 []),.p (.ps 0 0 []),.p (.ps 0 0 []),sB false]
theorem EI (c xr:Int):aW tj (NF c xr) (gO c xr [] (.os none 0 0 []) false):=
 ⟨bu _,bu _,bu _,bu _,bu _,bu _,j8 8,j8 8,zA,bu _,trivial⟩
theorem M9 {b:List Nat} {p many u:Nat} {pre:List Value} {op r:Int} {il:List Ins} {aB:Bool} {c xr:Int} {fs:List lS} {o:Out}
  (H : ∀vs:List Value,vs.length=10→an ae (bz []) (hC b p many (u+1) (pre++vs) ⟨c,xr,[],[],false⟩) (eu ((⟨op,r,il,[],aB⟩:Fr).h::fs) (pre++vs)) hT o) :
  an ae (bz []) (aj ae (bz []) 27 0 [.mp 0 0,.ms 1 0 (u+1+1) 10 none,sI .i64 many] [RS.aP b ⟨p,0,0⟩,.ob (.stk 74 pre) (gO op r il (.os none 0 0 []) aB++NF c xr)] 1 202) (eu fs pre) hT o:=by
 refine an.au (aE _ _) (eH (i:=1) (k:= .stk 74 pre) (l:=gO op r il (.os none 0 0 []) aB++NF c xr) (l':=gO op r il (.os none 0 0 []) aB++gO c xr [] (.os none 0 0 []) false) (by kernel_rfl) (by kernel_rfl) fun g w vs h=>iZ (rD (uW _) (EI c xr)) h) ?_
 exact an.push (i:=1) (tk:=2) (t:=74) (f:=(⟨op,r,il,[],aB⟩:Fr).h) (lN:=gO c xr [] (.os none 0 0 []) false) (by kernel_rfl) (by kernel_rfl) (by decide) trivial fun vs hv=>an.same (by kernel_rfl) (H vs hv)
theorem Na {b:List Nat} {p many u:Nat} {pre:List Value} {op r:Int} {il:List Ins} {aB:Bool} {c xr:Int} {x:Ins} {l:List Ins} {fs:List lS} {o:Out}
  (H : ∀vs:List Value,vs.length=10→an ae (bz []) (hC b p many (u+1) (pre++vs) ⟨c,xr,[],[],false⟩) (eu ((⟨op,r,il,x::l,aB⟩:Fr).h::fs) (pre++vs)) hT o) :
  an ae (bz []) (aj ae (bz []) 27 0 [.mp 0 0,.ms 1 0 (u+1+1) 10 none,sI .i64 many] [RS.aP b ⟨p,0,0⟩,.ob (.stk 74 pre) (gO op r il (.ms 2 0 (x::l).length 8 none) aB++NF c xr),.ob (.gr 62 true) ((aa (x::l)).map .p)] 1 202) (eu fs pre) hT o:=by
 refine an.au (aE _ _) (eH (i:=1) (k:= .stk 74 pre) (l:=gO op r il (.ms 2 0 (x::l).length 8 none) aB++NF c xr) (l':=gO op r il (.ms 2 0 (x::l).length 8 none) aB++gO c xr [] (.os none 0 0 []) false) (by kernel_rfl) (by kernel_rfl) fun g w vs h=>iZ (rD (uW _) (EI c xr)) h) ?_
 refine an.push (i:=1) (tk:=2) (t:=74) (f:=(⟨op,r,il,x::l,aB⟩:Fr).h) (lN:=gO c xr [] (.os none 0 0 []) false) (by kernel_rfl) (by kernel_rfl) (by decide) (by show _=some (aH.ob (.gr 62 true) ((aa (x::l)).map .p));kernel_rfl) fun vs hv=> ?_
 exact an.au (aE _ _) (o9 [0,3,4] (by kernel_rfl)) (an.same (by kernel_rfl) (H vs hv))
def AF (c xr xa xb xn:Int) (tg:List Int):List AV:=[sI .i64 c,sI .i64 xr,sI .u32 xa,sI .u32 xb,sI .i32 xn,.p (.ps tg.length 1 (bW .u32 tg)),.p (.ps 0 0 []),.p (.ps 0 0 [])]
theorem EJ (c xr xa xb xn:Int) (tg:List Int):aW tj (AF c xr xa xb xn tg) ((aa [.mk c xr xa xb xn tg [] []]).map .p):=
 ⟨bu _,bu _,bu _,bu _,bu _,bu _,j8 8,j8 8,trivial⟩
def fM (b:List Nat) (p many u:Nat) (pre:List Value) (op r:Int) (il:List Ins) (aB:Bool) (n:Nat) (X:List AV):bB:=aj ae (bz []) 27 0 [.mp 0 0,.ms 1 0 (u+1) 10 none,sI .i64 many] [RS.aP b ⟨p,0,0⟩,.ob (.stk 74 pre) (gO op r il (.ms 2 0 n 8 none) aB),.ob (.gr 62 true) X] 1 202
theorem PM {b:List Nat} {p many u:Nat} {pre:List Value} {op r:Int} {il:List Ins} {aB:Bool} {c xr xa xb xn:Int} {tg:List Int} {R:Hid} (hs:R.fB) {o:Out}
  (H:an ae (bz []) (hC b p many u pre ⟨op,r,il,[.mk c xr xa xb xn tg [] []],aB⟩) R hT o):an ae (bz []) (fM b p many u pre op r il aB 1 (AF c xr xa xb xn tg)) R hT o:=
 an.au hs (eH (i:=2) (k:= .gr 62 true) (l:=AF c xr xa xb xn tg) (l':=(aa [.mk c xr xa xb xn tg [] []]).map .p) (by kernel_rfl) (by kernel_rfl) fun g w vs h=>iZ (EJ c xr xa xb xn tg) h) (an.same (by kernel_rfl) H)
theorem Lw {b:List Nat} {p many u:Nat} {pre:List Value} {op r:Int} {il:List Ins} {aB:Bool} {i:Ins} {x:Ins} {l:List Ins} {Y:List AV} (hY:aW tj Y ((aa [i]).map .p)) {R:Hid} (hs:R.fB) {o:Out}
  (H:an ae (bz []) (hC b p many u pre ⟨op,r,il,x::l++[i],aB⟩) R hT o):an ae (bz []) (fM b p many u pre op r il aB ((x::l).length+1) ((aa (x::l)).map .p++Y)) R hT o:=by
 have e1:(x::(l++[i])).length=(x::l).length+1:=by simp
 have e2:(aa (x::(l++[i]))).map AV.p=(aa (x::l)).map .p++(aa [i]).map .p:=by rw[←ra,←uf];rfl
 have H1:an ae (bz []) (fM b p many u pre op r il aB (x::(l++[i])).length ((aa (x::(l++[i]))).map .p)) R hT o:=an.same (by kernel_rfl) H
 rw[e1,e2] at H1
 exact an.au hs (eH (i:=2) (k:= .gr 62 true) (l:=(aa (x::l)).map .p++Y) (l':=(aa (x::l)).map .p++(aa [i]).map .p) (by kernel_rfl) (by kernel_rfl) fun g w vs h=>iZ (rD (uW _) hY) h) (an.same (by kernel_rfl) H1)
theorem bO (n:Nat):(eW (n:Int) (n+1)&&true&&true)=true:=by simp[eW];omega
section
variable {b:List Nat} {p many:Nat} {pre:List Value} {t:Fr} {fs:List Fr} {o:Out}
theorem Kq (hb:cP b ⟨p,0,0⟩) (hp:b.length≤p) (hu:pre.length=fs.length*10) (h9:fs.length≤900) :
  an ae (bz []) (hC b p many fs.length pre t) (eu (fs.map Fr.h) pre) hT (.ret (.os none 0 0 []) [RS.aP b ⟨p,4,b.length⟩]):=by
 have jB:=cq hb
 have hr:aR b ⟨p,0,0⟩=(0,⟨p,4,b.length⟩):=by
  unfold aR
  rw[if_neg (by simp),if_pos hp]
 rw[hr] at jB
 have hw:vj.wrap (((fs.length+1:Nat):Int)-1)=(fs.length:Int):=by rw[aX (by omega) (by omega)];omega
 obtain⟨op,r,il,l,aB⟩:=t
 match l with
 |[]=>
  refine an.env (E:=DH b.length (bt b) p fs.length pre many op r il aB 0 [] [] 0 0 [] false 0 p 4 b.length ⟨#[]⟩ 0 0 0 0 [] 0 0 0) (E':=bz []) rfl ?_
  refine bg cV (aE _ _) (fun _ _ _ _=>trivial) (mI b.length (bt b) p fs.length pre many op r il aB 0 [] [] 0 0 [] false 0 p 4 b.length ⟨#[]⟩ 0 0 0 0 [] 0 0 0) ?_
  simp only[kZ,eL,fC,ct,aN.ko,hw]
  exact⟨trivial,bO _,by simp,iN jB,rfl,fun _=>rfl,fun q=>absurd q (by decide)⟩
 |x::l=>
  refine an.env (E:=CL b.length (bt b) p fs.length pre many op r il aB (x::l).length ((aa (x::l)).map .p) [] 0 0 [] false 0 p 4 b.length ⟨#[]⟩ 0 0 0 0 [] 0 0 0) (E':=bz []) rfl ?_
  refine bg cV (aE _ _) (fun _ _ _ _=>trivial) (mJ b.length (bt b) p fs.length pre many op r il aB (x::l).length ((aa (x::l)).map .p) [] 0 0 [] false 0 p 4 b.length ⟨#[]⟩ 0 0 0 0 [] 0 0 0) ?_
  simp only[lg,eM,ct,aN.ko,hw]
  exact⟨trivial,bO _,by simp,iN jB,rfl,fun _=>rfl,fun q=>absurd q (by decide)⟩
theorem Kr (hb:cP b ⟨p,0,0⟩) (hp:p<b.length) (hu:pre.length=fs.length*10) (h9:fs.length≤900) (h11:b.getD p 0≠11) (h5:b.getD p 0≠5) (hn:nm (b.getD p 0:Nat)=⟨#[]⟩) :
  an ae (bz []) (hC b p many fs.length pre t) (eu (fs.map Fr.h) pre) hT (.ret (.os none 0 0 []) [RS.aP b ⟨p+1,160,p⟩]):=by
 have hc:b.getD p 0<256:=by
  rw[dt,dp hp]
  exact hb.gi _ (fw hp)
 have jB:=cq hb
 have hr:aR b ⟨p,0,0⟩=(b.getD p 0,⟨p+1,0,0⟩):=by
  unfold aR
  rw[if_neg (by simp),if_neg (by dsimp only;omega)]
 rw[hr] at jB
 have tq:=eR ((b.getD p 0:Nat):Int)
 have hw:vj.wrap (((fs.length+1:Nat):Int)-1)=(fs.length:Int):=by rw[aX (by omega) (by omega)];omega
 have oH:vj.wrap ((b.getD p 0:Nat):Int)=((b.getD p 0:Nat):Int):=aX (by omega) (by omega)
 have hq:vj.wrap (((p+1:Nat):Int)-1)=(p:Int):=by have:=hb.len;rw[aX (by omega) (by omega)];omega
 have g11:(((b.getD p 0:Nat):Int)==11)=false:=by rw[beq_eq_false_iff_ne];omega
 have g5:(((b.getD p 0:Nat):Int)==5)=false:=by rw[beq_eq_false_iff_ne];omega
 have gn:=Lv hn
 obtain⟨op,r,il,l,aB⟩:=t
 match l with
 |[]=>
  refine an.env (E:=DH b.length (bt b) p fs.length pre many op r il aB 0 [] [] 0 0 [] false (b.getD p 0:Nat) (p+1:Nat) 0 0 (nm (b.getD p 0:Nat)) 0 0 0 0 [] 0 0 0) (E':=bz []) rfl ?_
  refine bg cV (aE _ _) (fun _ _ _ _=>trivial) (mI b.length (bt b) p fs.length pre many op r il aB 0 [] [] 0 0 [] false (b.getD p 0:Nat) (p+1:Nat) 0 0 (nm (b.getD p 0:Nat)) 0 0 0 0 [] 0 0 0) ?_
  simp only[kZ,eL,fC,ct,aN.ko,hw,oH,hq,g11,g5,gn,bne_self_eq_false,rk,UU,rh,Wa,false_implies,true_implies,true_and,and_true,V5,sa]
  exact⟨bO _,iN jB,iN tq,rfl⟩
 |x::l=>
  refine an.env (E:=CL b.length (bt b) p fs.length pre many op r il aB (x::l).length ((aa (x::l)).map .p) [] 0 0 [] false (b.getD p 0:Nat) (p+1:Nat) 0 0 (nm (b.getD p 0:Nat)) 0 0 0 0 [] 0 0 0) (E':=bz []) rfl ?_
  refine bg cV (aE _ _) (fun _ _ _ _=>trivial) (mJ b.length (bt b) p fs.length pre many op r il aB (x::l).length ((aa (x::l)).map .p) [] 0 0 [] false (b.getD p 0:Nat) (p+1:Nat) 0 0 (nm (b.getD p 0:Nat)) 0 0 0 0 [] 0 0 0) ?_
  simp only[lg,eM,ct,aN.ko,hw,oH,hq,g11,g5,gn,bne_self_eq_false,rk,UU,rh,Wa,false_implies,true_implies,true_and,and_true,V5,sa]
  exact⟨bO _,iN jB,iN tq,rfl⟩
theorem Ks (hb:cP b ⟨p,0,0⟩) (hp:p<b.length) (hu:pre.length=fs.length*10) (h9:fs.length≤900) (h11:b.getD p 0≠11) (h5:b.getD p 0≠5) (hn:nm (b.getD p 0:Nat)≠⟨#[]⟩) (hd:900<fs.length+1) :
  an ae (bz []) (hC b p many fs.length pre t) (eu (fs.map Fr.h) pre) hT (.ret (.os none 0 0 []) [RS.aP b ⟨p+1,141,p⟩]):=by
 have hc:b.getD p 0<256:=by
  rw[dt,dp hp]
  exact hb.gi _ (fw hp)
 have jB:=cq hb
 have hr:aR b ⟨p,0,0⟩=(b.getD p 0,⟨p+1,0,0⟩):=by
  unfold aR
  rw[if_neg (by simp),if_neg (by dsimp only;omega)]
 rw[hr] at jB
 have tq:=eR ((b.getD p 0:Nat):Int)
 have hw:vj.wrap (((fs.length+1:Nat):Int)-1)=(fs.length:Int):=by rw[aX (by omega) (by omega)];omega
 have oH:vj.wrap ((b.getD p 0:Nat):Int)=((b.getD p 0:Nat):Int):=aX (by omega) (by omega)
 have hq:vj.wrap (((p+1:Nat):Int)-1)=(p:Int):=by have:=hb.len;rw[aX (by omega) (by omega)];omega
 have g11:(((b.getD p 0:Nat):Int)==11)=false:=by rw[beq_eq_false_iff_ne];omega
 have g5:(((b.getD p 0:Nat):Int)==5)=false:=by rw[beq_eq_false_iff_ne];omega
 have gn:=Cu hn
 have gd:decide (((fs.length+1:Nat):Int)>900)=true:=decide_eq_true (by omega)
 obtain⟨op,r,il,l,aB⟩:=t
 match l with
 |[]=>
  refine an.env (E:=DH b.length (bt b) p fs.length pre many op r il aB 0 [] [] 0 0 [] false (b.getD p 0:Nat) (p+1:Nat) 0 0 (nm (b.getD p 0:Nat)) 0 0 0 0 [] 0 0 0) (E':=bz []) rfl ?_
  refine bg cV (aE _ _) (fun _ _ _ _=>trivial) (mI b.length (bt b) p fs.length pre many op r il aB 0 [] [] 0 0 [] false (b.getD p 0:Nat) (p+1:Nat) 0 0 (nm (b.getD p 0:Nat)) 0 0 0 0 [] 0 0 0) ?_
  simp only[kZ,eL,fC,ct,aN.ko,hw,oH,hq,g11,g5,gn,gd,bne_self_eq_false,rk,UU,rh,Wa,false_implies,true_implies,true_and,and_true,V5,sa]
  exact⟨bO _,iN jB,iN tq,rfl⟩
 |x::l=>
  refine an.env (E:=CL b.length (bt b) p fs.length pre many op r il aB (x::l).length ((aa (x::l)).map .p) [] 0 0 [] false (b.getD p 0:Nat) (p+1:Nat) 0 0 (nm (b.getD p 0:Nat)) 0 0 0 0 [] 0 0 0) (E':=bz []) rfl ?_
  refine bg cV (aE _ _) (fun _ _ _ _=>trivial) (mJ b.length (bt b) p fs.length pre many op r il aB (x::l).length ((aa (x::l)).map .p) [] 0 0 [] false (b.getD p 0:Nat) (p+1:Nat) 0 0 (nm (b.getD p 0:Nat)) 0 0 0 0 [] 0 0 0) ?_
  simp only[lg,eM,ct,aN.ko,hw,oH,hq,g11,g5,gn,gd,bne_self_eq_false,rk,UU,rh,Wa,false_implies,true_implies,true_and,and_true,V5,sa]
  exact⟨bO _,iN jB,iN tq,rfl⟩
theorem Kt (hb:cP b ⟨p,0,0⟩) (hp:p<b.length) (hu:pre.length=fs.length*10) (h9:fs.length≤900) (h11:b.getD p 0≠11) (h5:b.getD p 0≠5) (hn:nm (b.getD p 0:Nat)≠⟨#[]⟩) (hd : ¬900<fs.length+1) (hm:262144≤many) :
  an ae (bz []) (hC b p many fs.length pre t) (eu (fs.map Fr.h) pre) hT (.ret (.os none 0 0 []) [RS.aP b ⟨p+1,141,p⟩]):=by
 have hc:b.getD p 0<256:=by
  rw[dt,dp hp]
  exact hb.gi _ (fw hp)
 have jB:=cq hb
 have hr:aR b ⟨p,0,0⟩=(b.getD p 0,⟨p+1,0,0⟩):=by
  unfold aR
  rw[if_neg (by simp),if_neg (by dsimp only;omega)]
 rw[hr] at jB
 have tq:=eR ((b.getD p 0:Nat):Int)
 have hw:vj.wrap (((fs.length+1:Nat):Int)-1)=(fs.length:Int):=by rw[aX (by omega) (by omega)];omega
 have oH:vj.wrap ((b.getD p 0:Nat):Int)=((b.getD p 0:Nat):Int):=aX (by omega) (by omega)
 have hq:vj.wrap (((p+1:Nat):Int)-1)=(p:Int):=by have:=hb.len;rw[aX (by omega) (by omega)];omega
 have g11:(((b.getD p 0:Nat):Int)==11)=false:=by rw[beq_eq_false_iff_ne];omega
 have g5:(((b.getD p 0:Nat):Int)==5)=false:=by rw[beq_eq_false_iff_ne];omega
 have gn:=Cu hn
 have gd:decide (((fs.length+1:Nat):Int)>900)=false:=decide_eq_false (by omega)
 have gm:decide ((many:Int)≥262144)=true:=decide_eq_true (by omega)
 obtain⟨op,r,il,l,aB⟩:=t
 match l with
 |[]=>
  refine an.env (E:=DH b.length (bt b) p fs.length pre many op r il aB 0 [] [] 0 0 [] false (b.getD p 0:Nat) (p+1:Nat) 0 0 (nm (b.getD p 0:Nat)) 0 0 0 0 [] 0 0 0) (E':=bz []) rfl ?_
  refine bg cV (aE _ _) (fun _ _ _ _=>trivial) (mI b.length (bt b) p fs.length pre many op r il aB 0 [] [] 0 0 [] false (b.getD p 0:Nat) (p+1:Nat) 0 0 (nm (b.getD p 0:Nat)) 0 0 0 0 [] 0 0 0) ?_
  simp only[kZ,eL,fC,ct,aN.ko,hw,oH,hq,g11,g5,gn,gd,gm,bne_self_eq_false,rk,UU,rh,Wa,false_implies,true_implies,true_and,and_true,V5,sa]
  exact⟨bO _,iN jB,iN tq,rfl⟩
 |x::l=>
  refine an.env (E:=CL b.length (bt b) p fs.length pre many op r il aB (x::l).length ((aa (x::l)).map .p) [] 0 0 [] false (b.getD p 0:Nat) (p+1:Nat) 0 0 (nm (b.getD p 0:Nat)) 0 0 0 0 [] 0 0 0) (E':=bz []) rfl ?_
  refine bg cV (aE _ _) (fun _ _ _ _=>trivial) (mJ b.length (bt b) p fs.length pre many op r il aB (x::l).length ((aa (x::l)).map .p) [] 0 0 [] false (b.getD p 0:Nat) (p+1:Nat) 0 0 (nm (b.getD p 0:Nat)) 0 0 0 0 [] 0 0 0) ?_
  simp only[lg,eM,ct,aN.ko,hw,oH,hq,g11,g5,gn,gd,gm,bne_self_eq_false,rk,UU,rh,Wa,false_implies,true_implies,true_and,and_true,V5,sa]
  exact⟨bO _,iN jB,iN tq,rfl⟩
theorem Ku (hb:cP b ⟨p,0,0⟩) (hp:p<b.length) (hu:pre.length=fs.length*10) (h9:fs.length≤900) (h11:b.getD p 0≠11) (h5:b.getD p 0≠5) (hn:nm (b.getD p 0:Nat)≠⟨#[]⟩) (hd : ¬900<fs.length+1) (hm : ¬262144≤many) (he:(ah b (b.getD p 0:Nat) (p+1)).2.e≠0) :
  an ae (bz []) (hC b p many fs.length pre t) (eu (fs.map Fr.h) pre) hT (.ret (.os none 0 0 []) [RS.aP b (ah b (b.getD p 0:Nat) (p+1)).2]):=by
 have hc:b.getD p 0<256:=by
  rw[dt,dp hp]
  exact hb.gi _ (fw hp)
 have jB:=cq hb
 have hr:aR b ⟨p,0,0⟩=(b.getD p 0,⟨p+1,0,0⟩):=by
  unfold aR
  rw[if_neg (by simp),if_neg (by dsimp only;omega)]
 rw[hr] at jB
 have tq:=eR ((b.getD p 0:Nat):Int)
 have hw:vj.wrap (((fs.length+1:Nat):Int)-1)=(fs.length:Int):=by rw[aX (by omega) (by omega)];omega
 have oH:vj.wrap ((b.getD p 0:Nat):Int)=((b.getD p 0:Nat):Int):=aX (by omega) (by omega)
 have hq:vj.wrap (((p+1:Nat):Int)-1)=(p:Int):=by have:=hb.len;rw[aX (by omega) (by omega)];omega
 have g11:(((b.getD p 0:Nat):Int)==11)=false:=by rw[beq_eq_false_iff_ne];omega
 have g5:(((b.getD p 0:Nat):Int)==5)=false:=by rw[beq_eq_false_iff_ne];omega
 have gn:=Cu hn
 have gd:decide (((fs.length+1:Nat):Int)>900)=false:=decide_eq_false (by omega)
 have gm:decide ((many:Int)≥262144)=false:=decide_eq_false (by omega)
 have F8:vj.wrap ((many:Int)+1)=((many+1:Nat):Int):=by rw[aX (by omega) (by omega)];omega
 have BO:cP b ⟨p+1,0,0⟩:=⟨hb.gi,hb.len,hp⟩
 have DK:=sZ (op:=((b.getD p 0:Nat):Int)) BO
 obtain⟨xr,xa,xb,xn,tg,hI⟩:=xq b (b.getD p 0:Nat) (p+1)
 rw[hI] at DK
 have ge:(((ah b (b.getD p 0:Nat) (p+1)).2.e:Int) != 0)=true:=by rw[rB];exact decide_eq_true he
 obtain⟨op,r,il,l,aB⟩:=t
 match l with
 |[]=>
  refine an.env (E:=DH b.length (bt b) p fs.length pre many op r il aB 0 [] [] 0 0 [] false (b.getD p 0:Nat) (p+1:Nat) 0 0 (nm (b.getD p 0:Nat)) xr xa xb xn tg (ah b (b.getD p 0:Nat) (p+1)).2.p (ah b (b.getD p 0:Nat) (p+1)).2.e (ah b (b.getD p 0:Nat) (p+1)).2.fa) (E':=bz []) rfl ?_
  refine bg cV (aE _ _) (fun _ _ _ _=>trivial) (mI b.length (bt b) p fs.length pre many op r il aB 0 [] [] 0 0 [] false (b.getD p 0:Nat) (p+1:Nat) 0 0 (nm (b.getD p 0:Nat)) xr xa xb xn tg (ah b (b.getD p 0:Nat) (p+1)).2.p (ah b (b.getD p 0:Nat) (p+1)).2.e (ah b (b.getD p 0:Nat) (p+1)).2.fa) ?_
  simp only[kZ,eL,fC,ct,aN.ko,hw,oH,hq,g11,g5,gn,gd,gm,F8,ge,bne_self_eq_false,rk,UU,rh,Wa,false_implies,true_implies,true_and,and_true,V5,sa]
  exact⟨bO _,iN jB,iN tq,iN DK,rfl⟩
 |x::l=>
  refine an.env (E:=CL b.length (bt b) p fs.length pre many op r il aB (x::l).length ((aa (x::l)).map .p) [] 0 0 [] false (b.getD p 0:Nat) (p+1:Nat) 0 0 (nm (b.getD p 0:Nat)) xr xa xb xn tg (ah b (b.getD p 0:Nat) (p+1)).2.p (ah b (b.getD p 0:Nat) (p+1)).2.e (ah b (b.getD p 0:Nat) (p+1)).2.fa) (E':=bz []) rfl ?_
  refine bg cV (aE _ _) (fun _ _ _ _=>trivial) (mJ b.length (bt b) p fs.length pre many op r il aB (x::l).length ((aa (x::l)).map .p) [] 0 0 [] false (b.getD p 0:Nat) (p+1:Nat) 0 0 (nm (b.getD p 0:Nat)) xr xa xb xn tg (ah b (b.getD p 0:Nat) (p+1)).2.p (ah b (b.getD p 0:Nat) (p+1)).2.e (ah b (b.getD p 0:Nat) (p+1)).2.fa) ?_
  simp only[lg,eM,ct,aN.ko,hw,oH,hq,g11,g5,gn,gd,gm,F8,ge,bne_self_eq_false,rk,UU,rh,Wa,false_implies,true_implies,true_and,and_true,V5,sa]
  exact⟨bO _,iN jB,iN tq,iN DK,rfl⟩
theorem Kv (hb:cP b ⟨p,0,0⟩) (hp:p<b.length) (hu:pre.length=fs.length*10) (h9:fs.length≤900) (h11:b.getD p 0≠11) (h5:b.getD p 0≠5) (hn:nm (b.getD p 0:Nat)≠⟨#[]⟩) (hd : ¬900<fs.length+1) (hm : ¬262144≤many) (he:(ah b (b.getD p 0:Nat) (p+1)).2.e=0) (za:(ah b (b.getD p 0:Nat) (p+1)).2.fa=0) (cR:dx (b.getD p 0:Nat)=true) (H : ∀vs:List Value,vs.length=10→an ae (bz []) (hC b (ah b (b.getD p 0:Nat) (p+1)).2.p (many+1) (fs.length+1) (pre++vs) ⟨(b.getD p 0:Nat),(ah b (b.getD p 0:Nat) (p+1)).1.results,[],[],false⟩) (eu (t.h::fs.map Fr.h) (pre++vs)) hT o) :
  an ae (bz []) (hC b p many fs.length pre t) (eu (fs.map Fr.h) pre) hT o:=by
 have hc:b.getD p 0<256:=by
  rw[dt,dp hp]
  exact hb.gi _ (fw hp)
 have jB:=cq hb
 have hr:aR b ⟨p,0,0⟩=(b.getD p 0,⟨p+1,0,0⟩):=by
  unfold aR
  rw[if_neg (by simp),if_neg (by dsimp only;omega)]
 rw[hr] at jB
 have tq:=eR ((b.getD p 0:Nat):Int)
 have hw:vj.wrap (((fs.length+1:Nat):Int)-1)=(fs.length:Int):=by rw[aX (by omega) (by omega)];omega
 have oH:vj.wrap ((b.getD p 0:Nat):Int)=((b.getD p 0:Nat):Int):=aX (by omega) (by omega)
 have hq:vj.wrap (((p+1:Nat):Int)-1)=(p:Int):=by have:=hb.len;rw[aX (by omega) (by omega)];omega
 have g11:(((b.getD p 0:Nat):Int)==11)=false:=by rw[beq_eq_false_iff_ne];omega
 have g5:(((b.getD p 0:Nat):Int)==5)=false:=by rw[beq_eq_false_iff_ne];omega
 have gn:=Cu hn
 have gd:decide (((fs.length+1:Nat):Int)>900)=false:=decide_eq_false (by omega)
 have gm:decide ((many:Int)≥262144)=false:=decide_eq_false (by omega)
 have F8:vj.wrap ((many:Int)+1)=((many+1:Nat):Int):=by rw[aX (by omega) (by omega)];omega
 have BO:cP b ⟨p+1,0,0⟩:=⟨hb.gi,hb.len,hp⟩
 have DK:=sZ (op:=((b.getD p 0:Nat):Int)) BO
 have hL:b7=70368744177664:=rfl
 have NY:(fs.length+1)*10-pre.length=10:=by omega
 have mu:(((fs.length+1+1)*136).ble b7&&(fs.length+1+1).ble b7&&(((fs.length+1)*10).ble (pre.length+10)&&pre.length.ble ((fs.length+1)*10))&&true)=true:=by
  simp only[Wi,dv,V6];omega
 have hI:=Kp b (b.getD p 0:Nat) (p+1) cR
 rw[hI] at DK
 have ge:(((ah b (b.getD p 0:Nat) (p+1)).2.e:Int) != 0)=false:=by rw[rB,he];rfl
 have hx:(b.getD p 0:Nat)=2∨(b.getD p 0:Nat)=3∨(b.getD p 0:Nat)=4:=by
  simp only[dx,decide_eq_true_eq] at cR;omega
 obtain⟨op,r,il,l,aB⟩:=t
 match l with
 |[]=>
  refine an.env (E:=DH b.length (bt b) p fs.length pre many op r il aB 0 [] [] 0 0 [] false (b.getD p 0:Nat) (p+1:Nat) 0 0 (nm (b.getD p 0:Nat)) (ah b (b.getD p 0:Nat) (p+1)).1.results 0 0 0 [] (ah b (b.getD p 0:Nat) (p+1)).2.p (ah b (b.getD p 0:Nat) (p+1)).2.e (ah b (b.getD p 0:Nat) (p+1)).2.fa) (E':=bz []) rfl ?_
  have lf : ∀C:bB,C=aj ae (bz []) 27 0 [.mp 0 0,.ms 1 0 (fs.length+1+1) 10 none,sI .i64 (many+1:Nat)] [RS.aP b ⟨(ah b (b.getD p 0:Nat) (p+1)).2.p,0,0⟩,.ob (.stk 74 pre) (gO op r il (.os none 0 0 []) aB++NF (b.getD p 0:Nat) (ah b (b.getD p 0:Nat) (p+1)).1.results)] 1 202→an ae (DH b.length (bt b) p fs.length pre many op r il aB 0 [] [] 0 0 [] false (b.getD p 0:Nat) (p+1:Nat) 0 0 (nm (b.getD p 0:Nat)) (ah b (b.getD p 0:Nat) (p+1)).1.results 0 0 0 [] (ah b (b.getD p 0:Nat) (p+1)).2.p (ah b (b.getD p 0:Nat) (p+1)).2.e (ah b (b.getD p 0:Nat) (p+1)).2.fa) C (eu (fs.map Fr.h) pre) hT o:=fun C hC=>by
   refine an.env (E:=bz []) (E':=DH b.length (bt b) p fs.length pre many op r il aB 0 [] [] 0 0 [] false (b.getD p 0:Nat) (p+1:Nat) 0 0 (nm (b.getD p 0:Nat)) (ah b (b.getD p 0:Nat) (p+1)).1.results 0 0 0 [] (ah b (b.getD p 0:Nat) (p+1)).2.p (ah b (b.getD p 0:Nat) (p+1)).2.e (ah b (b.getD p 0:Nat) (p+1)).2.fa) rfl ?_
   rw[hC]
   exact M9 H
  refine bg cV (aE _ _) (fun _ _ _ _=>trivial) (mI b.length (bt b) p fs.length pre many op r il aB 0 [] [] 0 0 [] false (b.getD p 0:Nat) (p+1:Nat) 0 0 (nm (b.getD p 0:Nat)) (ah b (b.getD p 0:Nat) (p+1)).1.results 0 0 0 [] (ah b (b.getD p 0:Nat) (p+1)).2.p (ah b (b.getD p 0:Nat) (p+1)).2.e (ah b (b.getD p 0:Nat) (p+1)).2.fa) ?_
  rcases hx with hx | hx | hx
  · have g2:(((b.getD p 0:Nat):Int)==2)=true:=by rw[hx];rfl
    simp only[kZ,eL,fC,ct,aN.ko,hw,oH,hq,g11,g5,gn,gd,gm,F8,ge,g2,mu,NY,rE,bne_self_eq_false,rk,UU,rh,Wa,false_implies,true_implies,true_and,and_true,V5,sa]
    refine⟨bO _,iN jB,iN tq,iN DK,by first | rfl | trivial,lf _ ?_⟩
    rw[he,za]
    kernel_rfl
  · have g2:(((b.getD p 0:Nat):Int)==2)=false:=by rw[hx];rfl
    have g3:(((b.getD p 0:Nat):Int)==3)=true:=by rw[hx];rfl
    simp only[kZ,eL,fC,ct,aN.ko,hw,oH,hq,g11,g5,gn,gd,gm,F8,ge,g2,g3,mu,NY,rE,bne_self_eq_false,rk,UU,rh,Wa,false_implies,true_implies,true_and,and_true,V5,sa]
    refine⟨bO _,iN jB,iN tq,iN DK,by first | rfl | trivial,lf _ ?_⟩
    rw[he,za]
    kernel_rfl
  · have g2:(((b.getD p 0:Nat):Int)==2)=false:=by rw[hx];rfl
    have g3:(((b.getD p 0:Nat):Int)==3)=false:=by rw[hx];rfl
    have g4:(((b.getD p 0:Nat):Int)==4)=true:=by rw[hx];rfl
    simp only[kZ,eL,fC,ct,aN.ko,hw,oH,hq,g11,g5,gn,gd,gm,F8,ge,g2,g3,g4,mu,NY,rE,bne_self_eq_false,rk,UU,rh,Wa,false_implies,true_implies,true_and,and_true,V5,sa]
    refine⟨bO _,iN jB,iN tq,iN DK,by first | rfl | trivial,lf _ ?_⟩
    rw[he,za]
    kernel_rfl
 |x::l=>
  refine an.env (E:=CL b.length (bt b) p fs.length pre many op r il aB (x::l).length ((aa (x::l)).map .p) [] 0 0 [] false (b.getD p 0:Nat) (p+1:Nat) 0 0 (nm (b.getD p 0:Nat)) (ah b (b.getD p 0:Nat) (p+1)).1.results 0 0 0 [] (ah b (b.getD p 0:Nat) (p+1)).2.p (ah b (b.getD p 0:Nat) (p+1)).2.e (ah b (b.getD p 0:Nat) (p+1)).2.fa) (E':=bz []) rfl ?_
  have lf : ∀C:bB,C=aj ae (bz []) 27 0 [.mp 0 0,.ms 1 0 (fs.length+1+1) 10 none,sI .i64 (many+1:Nat)] [RS.aP b ⟨(ah b (b.getD p 0:Nat) (p+1)).2.p,0,0⟩,.ob (.stk 74 pre) (gO op r il (.ms 2 0 (x::l).length 8 none) aB++NF (b.getD p 0:Nat) (ah b (b.getD p 0:Nat) (p+1)).1.results),.ob (.gr 62 true) ((aa (x::l)).map .p)] 1 202→an ae (CL b.length (bt b) p fs.length pre many op r il aB (x::l).length ((aa (x::l)).map .p) [] 0 0 [] false (b.getD p 0:Nat) (p+1:Nat) 0 0 (nm (b.getD p 0:Nat)) (ah b (b.getD p 0:Nat) (p+1)).1.results 0 0 0 [] (ah b (b.getD p 0:Nat) (p+1)).2.p (ah b (b.getD p 0:Nat) (p+1)).2.e (ah b (b.getD p 0:Nat) (p+1)).2.fa) C (eu (fs.map Fr.h) pre) hT o:=fun C hC=>by
   refine an.env (E:=bz []) (E':=CL b.length (bt b) p fs.length pre many op r il aB (x::l).length ((aa (x::l)).map .p) [] 0 0 [] false (b.getD p 0:Nat) (p+1:Nat) 0 0 (nm (b.getD p 0:Nat)) (ah b (b.getD p 0:Nat) (p+1)).1.results 0 0 0 [] (ah b (b.getD p 0:Nat) (p+1)).2.p (ah b (b.getD p 0:Nat) (p+1)).2.e (ah b (b.getD p 0:Nat) (p+1)).2.fa) rfl ?_
   rw[hC]
   exact Na H
  refine bg cV (aE _ _) (fun _ _ _ _=>trivial) (mJ b.length (bt b) p fs.length pre many op r il aB (x::l).length ((aa (x::l)).map .p) [] 0 0 [] false (b.getD p 0:Nat) (p+1:Nat) 0 0 (nm (b.getD p 0:Nat)) (ah b (b.getD p 0:Nat) (p+1)).1.results 0 0 0 [] (ah b (b.getD p 0:Nat) (p+1)).2.p (ah b (b.getD p 0:Nat) (p+1)).2.e (ah b (b.getD p 0:Nat) (p+1)).2.fa) ?_
  rcases hx with hx | hx | hx
  · have g2:(((b.getD p 0:Nat):Int)==2)=true:=by rw[hx];rfl
    simp only[lg,eM,ct,aN.ko,hw,oH,hq,g11,g5,gn,gd,gm,F8,ge,g2,mu,NY,rE,bne_self_eq_false,rk,UU,rh,Wa,false_implies,true_implies,true_and,and_true,V5,sa]
    refine⟨bO _,iN jB,iN tq,iN DK,by first | rfl | trivial,lf _ ?_⟩
    rw[he,za]
    kernel_rfl
  · have g2:(((b.getD p 0:Nat):Int)==2)=false:=by rw[hx];rfl
    have g3:(((b.getD p 0:Nat):Int)==3)=true:=by rw[hx];rfl
    simp only[lg,eM,ct,aN.ko,hw,oH,hq,g11,g5,gn,gd,gm,F8,ge,g2,g3,mu,NY,rE,bne_self_eq_false,rk,UU,rh,Wa,false_implies,true_implies,true_and,and_true,V5,sa]
    refine⟨bO _,iN jB,iN tq,iN DK,by first | rfl | trivial,lf _ ?_⟩
    rw[he,za]
    kernel_rfl
  · have g2:(((b.getD p 0:Nat):Int)==2)=false:=by rw[hx];rfl
    have g3:(((b.getD p 0:Nat):Int)==3)=false:=by rw[hx];rfl
    have g4:(((b.getD p 0:Nat):Int)==4)=true:=by rw[hx];rfl
    simp only[lg,eM,ct,aN.ko,hw,oH,hq,g11,g5,gn,gd,gm,F8,ge,g2,g3,g4,mu,NY,rE,bne_self_eq_false,rk,UU,rh,Wa,false_implies,true_implies,true_and,and_true,V5,sa]
    refine⟨bO _,iN jB,iN tq,iN DK,by first | rfl | trivial,lf _ ?_⟩
    rw[he,za]
    kernel_rfl
theorem Nb (hb:cP b ⟨p,0,0⟩) (hp:p<b.length) (hu:pre.length=fs.length*10) (h9:fs.length≤900) (h11:b.getD p 0≠11) (h5:b.getD p 0≠5) (hn:nm (b.getD p 0:Nat)≠⟨#[]⟩) (hd : ¬900<fs.length+1) (hm : ¬262144≤many) (he:(ah b (b.getD p 0:Nat) (p+1)).2.e=0) (za:(ah b (b.getD p 0:Nat) (p+1)).2.fa=0) (cR:dx (b.getD p 0:Nat)=false) (SQ:t.l.length≤1000000000) (H:an ae (bz []) (hC b (ah b (b.getD p 0:Nat) (p+1)).2.p (many+1) fs.length pre {t with l:=t.l++[(ah b (b.getD p 0:Nat) (p+1)).1]}) (eu (fs.map Fr.h) pre) hT o) :
  an ae (bz []) (hC b p many fs.length pre t) (eu (fs.map Fr.h) pre) hT o:=by
 have hc:b.getD p 0<256:=by
  rw[dt,dp hp]
  exact hb.gi _ (fw hp)
 have jB:=cq hb
 have hr:aR b ⟨p,0,0⟩=(b.getD p 0,⟨p+1,0,0⟩):=by
  unfold aR
  rw[if_neg (by simp),if_neg (by dsimp only;omega)]
 rw[hr] at jB
 have tq:=eR ((b.getD p 0:Nat):Int)
 have hw:vj.wrap (((fs.length+1:Nat):Int)-1)=(fs.length:Int):=by rw[aX (by omega) (by omega)];omega
 have oH:vj.wrap ((b.getD p 0:Nat):Int)=((b.getD p 0:Nat):Int):=aX (by omega) (by omega)
 have hq:vj.wrap (((p+1:Nat):Int)-1)=(p:Int):=by have:=hb.len;rw[aX (by omega) (by omega)];omega
 have g11:(((b.getD p 0:Nat):Int)==11)=false:=by rw[beq_eq_false_iff_ne];omega
 have g5:(((b.getD p 0:Nat):Int)==5)=false:=by rw[beq_eq_false_iff_ne];omega
 have gn:=Cu hn
 have gd:decide (((fs.length+1:Nat):Int)>900)=false:=decide_eq_false (by omega)
 have gm:decide ((many:Int)≥262144)=false:=decide_eq_false (by omega)
 have F8:vj.wrap ((many:Int)+1)=((many+1:Nat):Int):=by rw[aX (by omega) (by omega)];omega
 have BO:cP b ⟨p+1,0,0⟩:=⟨hb.gi,hb.len,hp⟩
 have DK:=sZ (op:=((b.getD p 0:Nat):Int)) BO
 have hL:b7=70368744177664:=rfl
 have e8:fs.length*10+8-pre.length=8:=by omega
 have b8:pre.length.ble (fs.length*10+8)=true:=by rw[V6];omega
 have g2:(((b.getD p 0:Nat):Int)==2)=false:=by simp only[dx,decide_eq_false_iff_not] at cR;rw[beq_eq_false_iff_ne];omega
 have g3:(((b.getD p 0:Nat):Int)==3)=false:=by simp only[dx,decide_eq_false_iff_not] at cR;rw[beq_eq_false_iff_ne];omega
 have g4:(((b.getD p 0:Nat):Int)==4)=false:=by simp only[dx,decide_eq_false_iff_not] at cR;rw[beq_eq_false_iff_ne];omega
 have ge:(((ah b (b.getD p 0:Nat) (p+1)).2.e:Int) != 0)=false:=by rw[rB,he];rfl
 obtain⟨xr,xa,xb,xn,tg,hI⟩:=xq b (b.getD p 0:Nat) (p+1)
 rw[hI] at DK
 rw[hI] at H
 obtain⟨op,r,il,l,aB⟩:=t
 match l with
 |[]=>
  refine an.env (E:=DH b.length (bt b) p fs.length pre many op r il aB 0 [] [] 0 0 [] false (b.getD p 0:Nat) (p+1:Nat) 0 0 (nm (b.getD p 0:Nat)) xr xa xb xn tg (ah b (b.getD p 0:Nat) (p+1)).2.p (ah b (b.getD p 0:Nat) (p+1)).2.e (ah b (b.getD p 0:Nat) (p+1)).2.fa) (E':=bz []) rfl ?_
  have lf : ∀C:bB,C=fM b (ah b (b.getD p 0:Nat) (p+1)).2.p (many+1) fs.length pre op r il aB 1 (AF (b.getD p 0:Nat) xr xa xb xn tg)→an ae (DH b.length (bt b) p fs.length pre many op r il aB 0 [] [] 0 0 [] false (b.getD p 0:Nat) (p+1:Nat) 0 0 (nm (b.getD p 0:Nat)) xr xa xb xn tg (ah b (b.getD p 0:Nat) (p+1)).2.p (ah b (b.getD p 0:Nat) (p+1)).2.e (ah b (b.getD p 0:Nat) (p+1)).2.fa) C (eu (fs.map Fr.h) pre) hT o:=fun C hC=>by
   refine an.env (E:=bz []) (E':=DH b.length (bt b) p fs.length pre many op r il aB 0 [] [] 0 0 [] false (b.getD p 0:Nat) (p+1:Nat) 0 0 (nm (b.getD p 0:Nat)) xr xa xb xn tg (ah b (b.getD p 0:Nat) (p+1)).2.p (ah b (b.getD p 0:Nat) (p+1)).2.e (ah b (b.getD p 0:Nat) (p+1)).2.fa) rfl ?_
   rw[hC]
   exact PM (aE _ _) H
  refine bg cV (aE _ _) (fun _ _ _ _=>trivial) (mI b.length (bt b) p fs.length pre many op r il aB 0 [] [] 0 0 [] false (b.getD p 0:Nat) (p+1:Nat) 0 0 (nm (b.getD p 0:Nat)) xr xa xb xn tg (ah b (b.getD p 0:Nat) (p+1)).2.p (ah b (b.getD p 0:Nat) (p+1)).2.e (ah b (b.getD p 0:Nat) (p+1)).2.fa) ?_
  simp only[kZ,eL,fC,ct,aN.ko,hw,oH,hq,g11,g5,gn,gd,gm,F8,ge,g2,g3,g4,e8,b8,rE,bne_self_eq_false,rk,UU,rh,Wa,false_implies,true_implies,true_and,and_true,V5,sa]
  refine⟨bO _,iN jB,iN tq,iN DK,⟨by kernel_rfl,by kernel_rfl,by kernel_rfl,by kernel_rfl,lf _ ?_⟩,by kernel_rfl,by kernel_rfl,lf _ ?_⟩
  all_goals (rw[he,za];kernel_rfl)
 |x::l=>
  dsimp only at SQ
  have ht:((aa (x::l)).map AV.p).take ((x::l).length*8)=(aa (x::l)).map AV.p:=fe (by rw[pj,cN];exact df _)
  have hst : ∀Z Y:List AV,Z.length=8→Y.length=8→bM ((aa (x::l)).map AV.p++Z) ((x::l).length*8) Y=(aa (x::l)).map AV.p++bM Z 0 Y:=fun Z Y _ _=>by
   rw[kJ _ _ _ _ (by rw[pj,cN];exact df _),pj,cN,Vo]
  have hkk:((((x::l).length+1)*104).ble b7&&((x::l).length+1).ble b7&&(((x::l).length*8).ble ((aa (x::l)).map AV.p).length&&true)&&true)=true:=by
   rw[pj,cN]
   simp only[Wi,dv,V6];omega
  have hle : ∀Z:List AV,Z.length=8→(((x::l).length*8+8).ble ((aa (x::l)).map AV.p++Z).length&&true&&true&&true)=true:=fun Z hZ=>by
   rw[ei,pj,cN,hZ];simp
  refine an.env (E:=CL b.length (bt b) p fs.length pre many op r il aB (x::l).length ((aa (x::l)).map .p) [] 0 0 [] false (b.getD p 0:Nat) (p+1:Nat) 0 0 (nm (b.getD p 0:Nat)) xr xa xb xn tg (ah b (b.getD p 0:Nat) (p+1)).2.p (ah b (b.getD p 0:Nat) (p+1)).2.e (ah b (b.getD p 0:Nat) (p+1)).2.fa) (E':=bz []) rfl ?_
  have lf : ∀C:bB,C=fM b (ah b (b.getD p 0:Nat) (p+1)).2.p (many+1) fs.length pre op r il aB ((x::l).length+1) ((aa (x::l)).map .p++AF (b.getD p 0:Nat) xr xa xb xn tg)→an ae (CL b.length (bt b) p fs.length pre many op r il aB (x::l).length ((aa (x::l)).map .p) [] 0 0 [] false (b.getD p 0:Nat) (p+1:Nat) 0 0 (nm (b.getD p 0:Nat)) xr xa xb xn tg (ah b (b.getD p 0:Nat) (p+1)).2.p (ah b (b.getD p 0:Nat) (p+1)).2.e (ah b (b.getD p 0:Nat) (p+1)).2.fa) C (eu (fs.map Fr.h) pre) hT o:=fun C hC=>by
   refine an.env (E:=bz []) (E':=CL b.length (bt b) p fs.length pre many op r il aB (x::l).length ((aa (x::l)).map .p) [] 0 0 [] false (b.getD p 0:Nat) (p+1:Nat) 0 0 (nm (b.getD p 0:Nat)) xr xa xb xn tg (ah b (b.getD p 0:Nat) (p+1)).2.p (ah b (b.getD p 0:Nat) (p+1)).2.e (ah b (b.getD p 0:Nat) (p+1)).2.fa) rfl ?_
   rw[hC]
   exact Lw (EJ _ _ _ _ _ _) (aE _ _) H
  refine bg cV (aE _ _) (fun _ _ _ _=>trivial) (mJ b.length (bt b) p fs.length pre many op r il aB (x::l).length ((aa (x::l)).map .p) [] 0 0 [] false (b.getD p 0:Nat) (p+1:Nat) 0 0 (nm (b.getD p 0:Nat)) xr xa xb xn tg (ah b (b.getD p 0:Nat) (p+1)).2.p (ah b (b.getD p 0:Nat) (p+1)).2.e (ah b (b.getD p 0:Nat) (p+1)).2.fa) ?_
  simp only[lg,eM,ct,aN.ko,hw,oH,hq,g11,g5,gn,gd,gm,F8,ge,g2,g3,g4,e8,b8,ht,hkk,bne_self_eq_false,rk,UU,rh,Wa,false_implies,true_implies,true_and,and_true,V5,sa]
  rw[hst _ _ rfl rfl]
  simp only[ra,rE]
  refine⟨bO _,iN jB,iN tq,iN DK,⟨by kernel_rfl,by kernel_rfl,by kernel_rfl,by kernel_rfl,bO _,hle _ rfl,lf _ ?_⟩,?_,by kernel_rfl,lf _ ?_⟩
  · rw[he,za];kernel_rfl
  · have hna : ∀n:Nat,aI (some (TypeDesc.slice 62)) (AV.ms 2 0 n 8 none)=(AV.ms 2 0 n 8 none,true):=fun n=>by kernel_rfl
    simp[hna,cX,N6]
  · rw[he,za];kernel_rfl
theorem EK {u:Nat} {R:Hid} (hs:R.fB) (H:an ae (bz []) (hP b p many u pre t) R hT o):an ae (bz []) (hC b p many u pre t) R hT o:=by
 obtain⟨op,r,il,l,aB⟩:=t
 match l,H with
 |[],H=>
  exact an.au hs (eH (i:=1) (k:= .stk 74 pre) (l:=gO op r il (.os none 0 0 []) aB) (l':=gO op r il (.p (.ps 0 8 [])) aB) (by kernel_rfl) (by kernel_rfl) fun g w vs h=>iZ (l:=gO op r il (.os none 0 0 []) aB) (l':=gO op r il (.p (.ps 0 8 [])) aB) ⟨bu _,bu _,bu _,bu _,bu _,bu _,bu _,bu _,zB,bu _,trivial⟩ h) (an.same (by kernel_rfl) H)
 |x::l,H=>
  refine an.au hs (xp (i:=1) (tk:=2) (k:= .stk 74 pre) (te:=62) (q:=true) (l1:=[sI .i64 op,sI .i64 r,sI .u32 0,sI .u32 0,sI .i32 0,.p (.ps 0 1 []),.p (.ps il.length 8 (aa il)),.p (.ps 0 8 [])]) (l2:=[sB aB]) (len:=(x::l).length) (sz:=8) (X:=aa (x::l)) (by kernel_rfl) (by kernel_rfl) (by kernel_rfl) (by decide) (cN _) (by decide)) ?_
  exact an.au hs (o9 [0,3,4] (by kernel_rfl)) (an.same (by kernel_rfl) H)
theorem Nc (hb:cP b ⟨p,0,0⟩) (hp:p<b.length) (hu:pre.length=0) (h11:b.getD p 0=11) {R:Hid} (hs:R.fB):an ae (bz []) (hC b p many 0 pre t) R hT (.ret (.p (.ps t.l.length 8 (aa t.l))) [RS.aP b ⟨p+1,0,0⟩]):=by
 obtain rfl:pre=[]:=List.length_eq_zero_iff.1 hu
 have h9:([]:List Fr).length≤900:=Vr _
 refine EK hs ?_
 have hc:b.getD p 0<256:=by
  rw[dt,dp hp]
  exact hb.gi _ (fw hp)
 have jB:=cq hb
 have hr:aR b ⟨p,0,0⟩=(b.getD p 0,⟨p+1,0,0⟩):=by
  unfold aR
  rw[if_neg (by simp),if_neg (by dsimp only;omega)]
 rw[hr] at jB
 have tq:=eR ((b.getD p 0:Nat):Int)
 have hw:vj.wrap (((([]:List Fr).length+1:Nat):Int)-1)=(([]:List Fr).length:Int):=by rw[aX (by omega) (by omega)];omega
 have oH:vj.wrap ((b.getD p 0:Nat):Int)=((b.getD p 0:Nat):Int):=aX (by omega) (by omega)
 have hq:vj.wrap (((p+1:Nat):Int)-1)=(p:Int):=by have:=hb.len;rw[aX (by omega) (by omega)];omega
 have g11:(((b.getD p 0:Nat):Int)==11)=true:=by rw[h11];rfl
 obtain⟨op,r,il,l,aB⟩:=t
 refine an.env (E:=RV b.length (bt b) p 0 [] many op r il aB 0 [] l 0 0 [] false (b.getD p 0:Nat) (p+1:Nat) 0 0 ⟨#[]⟩ 0 0 0 0 [] 0 0 0) (E':=bz []) rfl ?_
 refine bg cV hs (fun _ _ _ _=>trivial) (Ko b.length (bt b) p 0 [] many op r il aB 0 [] l 0 0 [] false (b.getD p 0:Nat) (p+1:Nat) 0 0 ⟨#[]⟩ 0 0 0 0 [] 0 0 0) ?_
 simp only[Is,ct,aN.ko,oH,g11,bne_self_eq_false,rk,UU,rh,Wa,false_implies,true_implies,true_and,and_true,V5,sa]
 exact⟨iN jB,rfl⟩
theorem Kw (hb:cP b ⟨p,0,0⟩) (hp:p<b.length) (hu:pre.length=fs.length*10) (h9:fs.length≤900) (h5:b.getD p 0=5) (hf:fs≠[]) (h4:t.op=4) (ho:t.aB=false) (H:an ae (bz []) (hC b (p+1) many fs.length pre {t with il:=t.l,l:=[],aB:=true}) (eu (fs.map Fr.h) pre) hT o) :
  an ae (bz []) (hC b p many fs.length pre t) (eu (fs.map Fr.h) pre) hT o:=by
 refine EK (aE _ _) ?_
 have hc:b.getD p 0<256:=by
  rw[dt,dp hp]
  exact hb.gi _ (fw hp)
 have jB:=cq hb
 have hr:aR b ⟨p,0,0⟩=(b.getD p 0,⟨p+1,0,0⟩):=by
  unfold aR
  rw[if_neg (by simp),if_neg (by dsimp only;omega)]
 rw[hr] at jB
 have tq:=eR ((b.getD p 0:Nat):Int)
 have hw:vj.wrap (((fs.length+1:Nat):Int)-1)=(fs.length:Int):=by rw[aX (by omega) (by omega)];omega
 have oH:vj.wrap ((b.getD p 0:Nat):Int)=((b.getD p 0:Nat):Int):=aX (by omega) (by omega)
 have hq:vj.wrap (((p+1:Nat):Int)-1)=(p:Int):=by have:=hb.len;rw[aX (by omega) (by omega)];omega
 have f0:fs.length*10-pre.length=0:=by omega
 have f6:fs.length*10+6-pre.length=6:=by omega
 have f8:fs.length*10+8-pre.length=8:=by omega
 have f9:fs.length*10+9-pre.length=9:=by omega
 have b0:pre.length.ble (fs.length*10)=true:=by rw[V6];omega
 have b6:pre.length.ble (fs.length*10+6)=true:=by rw[V6];omega
 have b8:pre.length.ble (fs.length*10+8)=true:=by rw[V6];omega
 have b9:pre.length.ble (fs.length*10+9)=true:=by rw[V6];omega
 have g11:(((b.getD p 0:Nat):Int)==11)=false:=by rw[h5];rfl
 have g5:(((b.getD p 0:Nat):Int)==5)=true:=by rw[h5];rfl
 have hfl:0<fs.length:=List.length_pos_iff.2 hf
 obtain⟨op,r,il,l,aB⟩:=t
 dsimp only at h4 ho
 subst h4 ho
 have gu:decide (((fs.length+1:Nat):Int)>1)=true:=decide_eq_true (by omega)
 refine an.env (E:=NX b.length (bt b) p fs.length pre many 4 r il false 0 [] l 0 0 [] false (b.getD p 0:Nat) (p+1:Nat) 0 0 (nm (b.getD p 0:Nat)) 0 0 0 0 [] 0 0 0) (E':=bz []) rfl ?_
 refine bg cV (aE _ _) (fun _ _ _ _=>trivial) (EF b.length (bt b) p fs.length pre many 4 r il false 0 [] l 0 0 [] false (b.getD p 0:Nat) (p+1:Nat) 0 0 (nm (b.getD p 0:Nat)) 0 0 0 0 [] 0 0 0) ?_
 simp only[DI,nZ,ct,aN.ko,hw,oH,hq,g11,g5,gu,rv,f0,f6,f8,f9,b0,b6,b8,b9,beq_self_eq_true,bne_self_eq_false,rk,UU,rh,Wa,false_implies,true_implies,true_and,and_true,V5,sa]
 refine⟨bO _,iN jB,by kernel_rfl,by kernel_rfl,by kernel_rfl,by kernel_rfl,by kernel_rfl,by kernel_rfl,by kernel_rfl,by kernel_rfl,by kernel_rfl,by kernel_rfl,by kernel_rfl,by kernel_rfl,?_⟩
 refine an.env (E:=bz []) (E':=NX b.length (bt b) p fs.length pre many 4 r il false 0 [] l 0 0 [] false (b.getD p 0:Nat) (p+1:Nat) 0 0 (nm (b.getD p 0:Nat)) 0 0 0 0 [] 0 0 0) rfl ?_
 exact an.same (by kernel_rfl) H
theorem SR:nm 5=⟨#[]⟩:=by kernel_rfl
theorem Cv (hb:cP b ⟨p,0,0⟩) (hp:p<b.length) (hu:pre.length=fs.length*10) (h9:fs.length≤900) (h5:b.getD p 0=5) (hx : ¬(fs≠[]∧t.op=4∧t.aB=false)) :
  an ae (bz []) (hC b p many fs.length pre t) (eu (fs.map Fr.h) pre) hT (.ret (.os none 0 0 []) [RS.aP b ⟨p+1,160,p⟩]):=by
 refine EK (aE _ _) ?_
 have hc:b.getD p 0<256:=by
  rw[dt,dp hp]
  exact hb.gi _ (fw hp)
 have jB:=cq hb
 have hr:aR b ⟨p,0,0⟩=(b.getD p 0,⟨p+1,0,0⟩):=by
  unfold aR
  rw[if_neg (by simp),if_neg (by dsimp only;omega)]
 rw[hr] at jB
 have tq:=eR ((b.getD p 0:Nat):Int)
 have hw:vj.wrap (((fs.length+1:Nat):Int)-1)=(fs.length:Int):=by rw[aX (by omega) (by omega)];omega
 have oH:vj.wrap ((b.getD p 0:Nat):Int)=((b.getD p 0:Nat):Int):=aX (by omega) (by omega)
 have hq:vj.wrap (((p+1:Nat):Int)-1)=(p:Int):=by have:=hb.len;rw[aX (by omega) (by omega)];omega
 have f0:fs.length*10-pre.length=0:=by omega
 have f6:fs.length*10+6-pre.length=6:=by omega
 have f8:fs.length*10+8-pre.length=8:=by omega
 have f9:fs.length*10+9-pre.length=9:=by omega
 have b0:pre.length.ble (fs.length*10)=true:=by rw[V6];omega
 have b6:pre.length.ble (fs.length*10+6)=true:=by rw[V6];omega
 have b8:pre.length.ble (fs.length*10+8)=true:=by rw[V6];omega
 have b9:pre.length.ble (fs.length*10+9)=true:=by rw[V6];omega
 have g11:(((b.getD p 0:Nat):Int)==11)=false:=by rw[h5];rfl
 have g5:(((b.getD p 0:Nat):Int)==5)=true:=by rw[h5];rfl
 have gn:((nm ((b.getD p 0:Nat):Int)).data.toList==(ByteArray.mk #[]).data.toList)=true:=Lv (by rw[h5];exact SR)
 obtain⟨op,r,il,l,aB⟩:=t
 dsimp only at hx
 refine an.env (E:=NX b.length (bt b) p fs.length pre many op r il aB 0 [] l 0 0 [] false (b.getD p 0:Nat) (p+1:Nat) 0 0 (nm (b.getD p 0:Nat)) 0 0 0 0 [] 0 0 0) (E':=bz []) rfl ?_
 refine bg cV (aE _ _) (fun _ _ _ _=>trivial) (EF b.length (bt b) p fs.length pre many op r il aB 0 [] l 0 0 [] false (b.getD p 0:Nat) (p+1:Nat) 0 0 (nm (b.getD p 0:Nat)) 0 0 0 0 [] 0 0 0) ?_
 simp only[DI,nZ,ct,aN.ko,hw,oH,hq,g11,g5,gn,rv,f0,f6,f8,f9,b0,b6,b8,b9,bne_self_eq_false,rk,UU,rh,Wa,false_implies,true_implies,true_and,and_true,V5,sa]
 refine⟨bO _,iN jB,fun q1=>⟨by kernel_rfl,by kernel_rfl,fun q2=>⟨by kernel_rfl,by kernel_rfl,fun q3=>absurd ?_ hx,fun _=>⟨iN tq,rfl⟩⟩,fun _=>⟨iN tq,rfl⟩⟩,fun _=>⟨iN tq,rfl⟩⟩
 have q1:=of_decide_eq_true q1
 exact⟨fun e=>by subst e;exact absurd q1 (by decide),by simpa using q2,by simpa using q3⟩
theorem Nd {u:Nat} {op r:Int} {il:List Ins} {aB:Bool} {i:Ins} {Y:List AV} (hY:aW tj Y ((aa [i]).map .p)) {R:Hid} (hs:R.fB)
  (H:an ae (bz []) (hC b p many u pre ⟨op,r,il,[i],aB⟩) R hT o):an ae (bz []) (fM b p many u pre op r il aB 1 Y) R hT o:=
 an.au hs (eH (i:=2) (k:= .gr 62 true) (l:=Y) (l':=(aa [i]).map .p) (by kernel_rfl) (by kernel_rfl) fun g w vs h=>iZ hY h) (an.same (by kernel_rfl) H)
theorem Iw {u:Nat} {op r bp r2:Int} {il aK:List Ins} {aB az:Bool} {lc:AV} {n:Nat} {X:List AV} {R:Hid} (hs:R.fB) (H:an ae (bz []) (fM b p many u pre bp r2 aK az n X) R hT o) :
  an ae (bz []) (aj ae (bz []) 27 0 [.mp 0 0,.ms 1 0 (u+1) 10 none,sI .i64 many] [RS.aP b ⟨p,0,0⟩,.ob (.stk 74 pre) (gO bp r2 aK (.ms 2 0 n 8 none) az++gO op r il lc aB),.ob (.gr 62 true) X] 1 202) R hT o:=
 an.au hs (Ct (i:=1) (t:=74) (pre:=pre) (l:=gO bp r2 aK (.ms 2 0 n 8 none) az) (x:=gO op r il lc aB) (by kernel_rfl) (by kernel_rfl)) (an.same (by kernel_rfl) H)
def Ix (op r:Int) (l e:List Ins):List AV:=[sI .i64 op,sI .i64 r,sI .u32 0,sI .u32 0,sI .i32 0,.p (.ps 0 1 []),.p (.ps l.length 8 (aa l)),.p (.ps e.length 8 (aa e))]
theorem xu (op r:Int) (l e:List Ins):aW tj (Ix op r l e) ((aa [.mk op r 0 0 0 [] l e]).map .p):=
 ⟨bu _,bu _,bu _,bu _,bu _,bu _,bu _,bu _,trivial⟩
theorem Cw (n:Nat):eW (n:Int) (n+1)=true:=by simp[eW];omega
theorem zC (n:Nat):(eW ((n+1:Nat):Int) (n+2)&&true&&true)=true:=bO (n+1)
theorem Cx (n:Nat):((n+1).ble (n+2)&&true&&true&&true)=true:=by
 simp only[Wi,V6];omega
theorem Iy (n:Int):cX (sI .i64 n) (sI .i64 n)=true:=by
 simp[sI,cX,Bk,N5]
 rfl
theorem eq_mp (b n:Nat):cX (.mp b n) (.mp b n)=true:=by simp[cX]
theorem PN (n:Nat):cX (.ms 2 0 n 8 none) (.ms 2 0 n 8 none)=true:=by simp[cX,N6]
theorem Kx (n:Nat):aI (ae.underlying 24) (.ms 2 0 n 8 none)=(.ms 2 0 n 8 none,true):=by kernel_rfl
theorem PO {op r bp r2:Int} {il l aK:List Ins} {aB az:Bool} (hb:cP b ⟨p,0,0⟩) (hp:p<b.length) (hu:pre.length=fs.length*10) (h9:fs.length≤900) (h11:b.getD p 0=11)
  (H:an ae (bz []) (hC b (p+1) many fs.length pre ⟨bp,r2,aK,[(⟨op,r,il,l,aB⟩:Fr).done],az⟩) (eu (fs.map Fr.h) pre) hT o) :
  an ae (bz []) (aj ae (bz []) 27 0 [.mp 0 0,.ms 1 0 (fs.length+2) 10 none,sI .i64 many] [RS.aP b ⟨p,0,0⟩,.ob (.stk 74 pre) (gO bp r2 aK (.os none 0 0 []) az++gO op r il (.p (.ps l.length 8 (aa l))) aB)] 1 202) (eu (fs.map Fr.h) pre) hT o:=by
 have jB:=cq hb
 have hc:b.getD p 0<256:=by
  rw[dt,dp hp]
  exact hb.gi _ (fw hp)
 have hr:aR b ⟨p,0,0⟩=(b.getD p 0,⟨p+1,0,0⟩):=by
  unfold aR
  rw[if_neg (by simp),if_neg (by dsimp only;omega)]
 rw[hr] at jB
 have hL:b7=70368744177664:=rfl
 have hw:vj.wrap (((fs.length+1:Nat):Int)-1)=(fs.length:Int):=by rw[aX (by omega) (by omega)];omega
 have F5:vj.wrap (((fs.length+2:Nat):Int)-1)=((fs.length+1:Nat):Int):=by rw[aX (by omega) (by omega)];omega
 have oH:vj.wrap ((b.getD p 0:Nat):Int)=((b.getD p 0:Nat):Int):=aX (by omega) (by omega)
 have f8:fs.length*10+8-pre.length=8:=by omega
 have b8:pre.length.ble (fs.length*10+8)=true:=by rw[V6];omega
 have t0:(fs.length+1)*10-pre.length=10:=by omega
 have t8:(fs.length+1)*10+8-pre.length=18:=by omega
 have t9:(fs.length+1)*10+9-pre.length=19:=by omega
 have c0:pre.length.ble ((fs.length+1)*10)=true:=by rw[V6];omega
 have c8:pre.length.ble ((fs.length+1)*10+8)=true:=by rw[V6];omega
 have c9:pre.length.ble ((fs.length+1)*10+9)=true:=by rw[V6];omega
 have g11:(((b.getD p 0:Nat):Int)==11)=true:=by rw[h11];rfl
 have hin:eW (fs.length:Int) (fs.length+1)=true:=Cw _
 have Nf:eW ((fs.length+1:Nat):Int) (fs.length+2)=true:=Cw (fs.length+1)
 refine an.env (E:=DJ b.length (bt b) p fs.length pre many op r il aB 0 [] l bp r2 aK az (b.getD p 0:Nat) (p+1:Nat) 0 0 ⟨#[]⟩ 0 0 0 0 [] 0 0 0) (E':=bz []) rfl ?_
 have lf : ∀(C:bB) (le ll:List Ins),(⟨op,r,il,l,aB⟩:Fr).done = .mk op r 0 0 0 [] ll le→C=aj ae (bz []) 27 0 [.mp 0 0,.ms 1 0 (fs.length+1) 10 none,sI .i64 many] [RS.aP b ⟨p+1,0,0⟩,.ob (.stk 74 pre) (gO bp r2 aK (.ms 2 0 1 8 none) az++gO op r il (.p (.ps l.length 8 (aa l))) aB),.ob (.gr 62 true) (Ix op r ll le)] 1 202→an ae (DJ b.length (bt b) p fs.length pre many op r il aB 0 [] l bp r2 aK az (b.getD p 0:Nat) (p+1:Nat) 0 0 ⟨#[]⟩ 0 0 0 0 [] 0 0 0) C (eu (fs.map Fr.h) pre) hT o:=fun C le ll hd hC=>by
  refine an.env (E:=bz []) (E':=DJ b.length (bt b) p fs.length pre many op r il aB 0 [] l bp r2 aK az (b.getD p 0:Nat) (p+1:Nat) 0 0 ⟨#[]⟩ 0 0 0 0 [] 0 0 0) rfl ?_
  rw[hC]
  rw[hd] at H
  exact Iw (aE _ _) (Nd (xu op r ll le) (aE _ _) H)
 refine bg cV (aE _ _) (fun _ _ _ _=>trivial) (Iu b.length (bt b) p fs.length pre many op r il aB 0 [] l bp r2 aK az (b.getD p 0:Nat) (p+1:Nat) 0 0 ⟨#[]⟩ 0 0 0 0 [] 0 0 0) ?_
 cases aB
 all_goals simp only[EG,td,th,ct,aN.ko,hw,F5,oH,g11,rv,VD,f8,b8,t0,t8,t9,c0,c8,c9,hin,Nf,Iy,eq_mp,bne_self_eq_false,rk,UU,rh,Wa,false_implies,true_implies,true_and,and_true,V5,sa]
 all_goals (repeat' (with_reducible refine And.intro ?_ ?_))
 all_goals try (with_reducible exact bO _)
 all_goals try (with_reducible exact zC _)
 all_goals try (with_reducible exact Cx _)
 all_goals try kernel_rfl
 · exact iN jB
 · exact lf _ _ _ rfl (by kernel_rfl)
 · exact lf _ _ _ rfl (by kernel_rfl)
 · exact iN jB
 · exact lf _ _ _ rfl (by kernel_rfl)
 · exact lf _ _ _ rfl (by kernel_rfl)
theorem PR {op r bp r2:Int} {il l aK:List Ins} {aB az:Bool} {x:Ins} {l2:List Ins} (SQ:(x::l2).length≤1000000000) (hb:cP b ⟨p,0,0⟩) (hp:p<b.length) (hu:pre.length=fs.length*10) (h9:fs.length≤900) (h11:b.getD p 0=11)
  (H:an ae (bz []) (hC b (p+1) many fs.length pre ⟨bp,r2,aK,x::l2++[(⟨op,r,il,l,aB⟩:Fr).done],az⟩) (eu (fs.map Fr.h) pre) hT o) :
  an ae (bz []) (aj ae (bz []) 27 0 [.mp 0 0,.ms 1 0 (fs.length+2) 10 none,sI .i64 many] [RS.aP b ⟨p,0,0⟩,.ob (.stk 74 pre) (gO bp r2 aK (.ms 2 0 (x::l2).length 8 none) az++gO op r il (.p (.ps l.length 8 (aa l))) aB),.ob (.gr 62 true) ((aa (x::l2)).map .p)] 1 202) (eu (fs.map Fr.h) pre) hT o:=by
 have jB:=cq hb
 have hc:b.getD p 0<256:=by
  rw[dt,dp hp]
  exact hb.gi _ (fw hp)
 have hr:aR b ⟨p,0,0⟩=(b.getD p 0,⟨p+1,0,0⟩):=by
  unfold aR
  rw[if_neg (by simp),if_neg (by dsimp only;omega)]
 rw[hr] at jB
 have hL:b7=70368744177664:=rfl
 have hw:vj.wrap (((fs.length+1:Nat):Int)-1)=(fs.length:Int):=by rw[aX (by omega) (by omega)];omega
 have F5:vj.wrap (((fs.length+2:Nat):Int)-1)=((fs.length+1:Nat):Int):=by rw[aX (by omega) (by omega)];omega
 have oH:vj.wrap ((b.getD p 0:Nat):Int)=((b.getD p 0:Nat):Int):=aX (by omega) (by omega)
 have f8:fs.length*10+8-pre.length=8:=by omega
 have b8:pre.length.ble (fs.length*10+8)=true:=by rw[V6];omega
 have t0:(fs.length+1)*10-pre.length=10:=by omega
 have t8:(fs.length+1)*10+8-pre.length=18:=by omega
 have t9:(fs.length+1)*10+9-pre.length=19:=by omega
 have c0:pre.length.ble ((fs.length+1)*10)=true:=by rw[V6];omega
 have c8:pre.length.ble ((fs.length+1)*10+8)=true:=by rw[V6];omega
 have c9:pre.length.ble ((fs.length+1)*10+9)=true:=by rw[V6];omega
 have g11:(((b.getD p 0:Nat):Int)==11)=true:=by rw[h11];rfl
 have hin:eW (fs.length:Int) (fs.length+1)=true:=Cw _
 have Nf:eW ((fs.length+1:Nat):Int) (fs.length+2)=true:=Cw (fs.length+1)
 have ht:((aa (x::l2)).map AV.p).take ((x::l2).length*8)=(aa (x::l2)).map AV.p:=fe (by rw[pj,cN];exact df _)
 have hst : ∀Z Y:List AV,bM ((aa (x::l2)).map AV.p++Z) ((x::l2).length*8) Y=(aa (x::l2)).map AV.p++bM Z 0 Y:=fun Z Y=>by
  rw[kJ _ _ _ _ (by rw[pj,cN];exact df _),pj,cN,Vo]
 have hle : ∀Z:List AV,Z.length=8→(((x::l2).length*8+8).ble ((aa (x::l2)).map AV.p++Z).length&&true&&true&&true)=true:=fun Z hZ=>by
  rw[ei,pj,cN,hZ];simp
 have hk1:(((x::l2).length+1)*104).ble b7=true:=by rw[V6];omega
 have hk2:((x::l2).length+1).ble b7=true:=by rw[V6];omega
 have Ug:((x::l2).length*8).ble ((aa (x::l2)).map AV.p).length=true:=by rw[pj,cN,V6];exact df _
 refine an.env (E:=AY b.length (bt b) p fs.length pre many op r il aB (x::l2).length ((aa (x::l2)).map .p) l bp r2 aK az (b.getD p 0:Nat) (p+1:Nat) 0 0 ⟨#[]⟩ 0 0 0 0 [] 0 0 0) (E':=bz []) rfl ?_
 have lf : ∀(C:bB) (le ll:List Ins),(⟨op,r,il,l,aB⟩:Fr).done = .mk op r 0 0 0 [] ll le→C=aj ae (bz []) 27 0 [.mp 0 0,.ms 1 0 (fs.length+1) 10 none,sI .i64 many] [RS.aP b ⟨p+1,0,0⟩,.ob (.stk 74 pre) (gO bp r2 aK (.ms 2 0 ((x::l2).length+1) 8 none) az++gO op r il (.p (.ps l.length 8 (aa l))) aB),.ob (.gr 62 true) ((aa (x::l2)).map .p++Ix op r ll le)] 1 202→an ae (AY b.length (bt b) p fs.length pre many op r il aB (x::l2).length ((aa (x::l2)).map .p) l bp r2 aK az (b.getD p 0:Nat) (p+1:Nat) 0 0 ⟨#[]⟩ 0 0 0 0 [] 0 0 0) C (eu (fs.map Fr.h) pre) hT o:=fun C le ll hd hC=>by
  refine an.env (E:=bz []) (E':=AY b.length (bt b) p fs.length pre many op r il aB (x::l2).length ((aa (x::l2)).map .p) l bp r2 aK az (b.getD p 0:Nat) (p+1:Nat) 0 0 ⟨#[]⟩ 0 0 0 0 [] 0 0 0) rfl ?_
  rw[hC]
  rw[hd] at H
  exact Iw (aE _ _) (Lw (xu op r ll le) (aE _ _) H)
 refine bg cV (aE _ _) (fun _ _ _ _=>trivial) (Iv b.length (bt b) p fs.length pre many op r il aB (x::l2).length ((aa (x::l2)).map .p) l bp r2 aK az (b.getD p 0:Nat) (p+1:Nat) 0 0 ⟨#[]⟩ 0 0 0 0 [] 0 0 0) ?_
 cases aB
 all_goals simp only[EH,ct,aN.ko,hw,F5,oH,g11,rv,VD,f8,b8,t0,t8,t9,c0,c8,c9,ht,hk1,hk2,Ug,Cw,Kx,PN,List.getD_cons_succ,List.getD_cons_zero,hin,Nf,Iy,eq_mp,bne_self_eq_false,rk,UU,rh,Wa,false_implies,true_implies,true_and,and_true,V5,sa]
 rw[hst]
 any_goals rw[hst]
 all_goals simp only[ra,rE]
 all_goals (repeat' (with_reducible refine And.intro ?_ ?_))
 all_goals try (with_reducible exact bO _)
 all_goals try (with_reducible exact zC _)
 all_goals try (with_reducible exact Cx _)
 all_goals try (with_reducible refine hle _ ?_)
 all_goals try kernel_rfl
 · exact iN jB
 · exact lf _ _ _ rfl (by kernel_rfl)
 · exact lf _ _ _ rfl (by kernel_rfl)
 · exact iN jB
 · exact lf _ _ _ rfl (by kernel_rfl)
 · exact lf _ _ _ rfl (by kernel_rfl)
theorem Ng {f:Fr} (hb:cP b ⟨p,0,0⟩) (hp:p<b.length) (hu:pre.length=(f::fs).length*10) (h9:(f::fs).length≤900) (h11:b.getD p 0=11) (hfl:f.l.length≤1000000000)
  (H : ∀pre':List Value,pre'.length=fs.length*10→an ae (bz []) (hC b (p+1) many fs.length pre' {f with l:=f.l++[t.done]}) (eu (fs.map Fr.h) pre') hT o) :
  an ae (bz []) (hC b p many (f::fs).length pre t) (eu ((f::fs).map Fr.h) pre) hT o:=by
 refine EK (aE _ _) ?_
 refine an.pop (i:=1) (t:=74) (pre:=pre) (f:=f.h) (fs:=fs.map Fr.h) (lN:=gO t.op t.r t.il (.p (.ps t.l.length 8 (aa t.l))) t.aB) (by kernel_rfl) (by kernel_rfl) fun pre' hp'=> ?_
 have h10:f.h.p1.length+1+f.h.p2.length=10:=rfl
 have CI:pre'.length=fs.length*10:=by simp only[pa] at hu;omega
 have Qh:fs.length≤900:=by simp only[pa] at h9;omega
 have H:=H pre' CI
 obtain⟨bp,r2,aK,l2,az⟩:=f
 match l2,hfl,H with
 |[],_,H=>exact an.same (by kernel_rfl) (PO (op:=t.op) (r:=t.r) (il:=t.il) (l:=t.l) (aB:=t.aB) hb hp CI Qh h11 H)
 |x::l2,hfl,H=>exact an.same (by kernel_rfl) (PR (op:=t.op) (r:=t.r) (il:=t.il) (l:=t.l) (aB:=t.aB) hfl hb hp CI Qh h11 H)
end
def Inv (p0:Nat) (s:RS):Prop:=p0≤s.p∧(s.e=0→s.fa=0)
theorem Iz {b:List Nat} {p0:Nat} {s:RS} (h:Inv p0 s):Inv p0 (aR b s).2:=by
 unfold aR
 split
 · exact h
 · split
   · exact⟨h.1,fun q=>by simp at q⟩
   · exact⟨Ws h.1,h.2⟩
theorem kQ {b:List Nat} {p0:Nat} {s:RS} (h:Inv p0 s):Inv p0 (aA b s).2:=by
 unfold aA
 split
 · exact h
 · split
   · rename_i h1 h2
     exact⟨h.1,fun q=>absurd q h2⟩
   · rename_i h1 h2
     have:=(kP (b:=b) 5 0 0 (Wt.1 h2)).2
     exact⟨by have:=h.1;show p0≤(gU b s.p).next;unfold gU;omega,h.2⟩
theorem AZ {b:List Nat} {ok:Nat→Bool} {p0:Nat} {s:RS} (h:Inv p0 s):Inv p0 (cO ok b s).2:=by
 have hb:=Iz (b:=b) h
 unfold cO
 split
 · exact hb
 · dsimp only
   split
   · exact⟨hb.1,fun q=>by simp at q⟩
   · exact hb
theorem Cy {b:List Nat} {p0:Nat} : ∀(f:Nat) {s:RS},Inv p0 s→Inv p0 (aY b f s).2
 |0,_,h=>h
 |f+1,s,h=>by
  unfold aY
  split
  · exact h
  · exact Cy f (kQ h)
theorem IA (b:List Nat) (op:Int) (p:Nat):Inv p (ah b op p).2:=by
 have h0:Inv p ⟨p,0,0⟩:=⟨df _,fun _=>rfl⟩
 unfold ah
 split
 · exact AZ h0
 · split
   · exact AZ (kQ h0)
   · split
     · exact kQ h0
     · split
       · refine kQ (Cy _ ?_)
         split
         · exact⟨(kQ h0).1,fun q=>by simp at q⟩
         · exact kQ h0
       · split
         · exact AZ h0
         · split
           · split
             · rename_i h1
               exact⟨df _,fun q=>absurd q h1⟩
             · rename_i h1
               refine⟨?_,fun _=>rfl⟩
               have:=(kP (b:=b) (last:=iY) (p:=p) 5 0 0 (Wt.1 h1)).2
               unfold xL
               rw[if_neg h1]
               unfold gS
               dsimp only
               omega
           · split
             · exact kQ (kQ h0)
             · exact h0
theorem xw {b:List Nat} (op:Int) {p:Nat} (h:cP b ⟨p,0,0⟩):(ah b op p).2.p≤b.length:=by
 unfold ah
 split
 · exact(j5 h).p
 · split
   · exact(j5 (dy h)).p
   · split
     · exact(dy h).p
     · split
       · refine(dy (zz _ ?_)).p
         split
         · exact⟨h.gi,h.len,(dy h).p⟩
         · exact dy h
       · split
         · exact(j5 h).p
         · split
           · split
             · exact h.p
             · rename_i h1
               have:=(kP (b:=b) (last:=iY) (p:=p) 5 0 0 (Wt.1 h1)).1
               unfold xL
               rw[if_neg h1]
               exact this
           · split
             · exact(dy (dy h)).p
             · exact h.p
theorem Ky {b:List Nat} (Kz : ∀x∈b,x<256) (hlen:b.length≤1000000000) : ∀(n:Nat) (fs:List Fr) (t:Fr) (p many:Nat) (pre:List Value),b.length<n+p→p≤b.length→pre.length=fs.length*10→fs.length≤900→t.l.length≤p→(∀f∈fs,f.l.length≤p) →
  an ae (bz []) (hC b p many fs.length pre t) (eu (fs.map Fr.h) pre) hT (PL b (cG b n fs t p many)):=by
 intro n
 induction n with
 |zero=>intro fs t p many pre h1 h2;omega
 |succ n ih=>
  intro fs t p many pre h1 h2 hu h9 ht hfs
  have hb:cP b ⟨p,0,0⟩:=⟨Kz,hlen,h2⟩
  unfold cG
  split
  · rename_i hp
    exact Kq hb hp hu h9
  rename_i hp
  have hp:p<b.length:=Nat.lt_of_not_le hp
  split
  · rename_i h11
    match fs,hu,h9,hfs with
    |[],hu,h9,hfs=>exact Nc hb hp (by simpa using hu) h11 (aE _ _)
    |f::fs,hu,h9,hfs=>
     refine Ng hb hp hu h9 h11 (by have:=hfs f (.head _);omega) fun pre' CI=> ?_
     refine ih fs _ (p+1) many pre' (by omega) (by omega) CI (by simp only[pa] at h9;omega) ?_ fun g hg=>Ws (hfs g (.tail _ hg))
     have:=hfs f (.head _)
     simp only[ei,pa,VS]
     omega
  rename_i h11
  split
  · rename_i h5
    obtain⟨h5,hf,h4,ho⟩:=h5
    exact Kw hb hp hu h9 h5 hf h4 ho (ih fs _ (p+1) many pre (by omega) (by omega) hu h9 (Vr _) fun g hg=>Ws (hfs g hg))
  rename_i h5
  by_cases e5:b.getD p 0=5
  · have hn:nm ((b.getD p 0:Nat):Int)=⟨#[]⟩:=by rw[e5];exact SR
    rw[if_pos hn]
    exact Cv hb hp hu h9 e5 fun q=>h5 ⟨e5,q⟩
  split
  · rename_i hn
    exact Kr hb hp hu h9 h11 e5 hn
  rename_i hn
  split
  · rename_i hd
    rcases Nat.lt_or_ge 900 (fs.length+1) with q | q
    · exact Ks hb hp hu h9 h11 e5 hn q
    · exact Kt hb hp hu h9 h11 e5 hn (by omega) (by omega)
  rename_i hd
  have Me : ¬900<fs.length+1:=fun q=>hd (.inl q)
  have hd2 : ¬262144≤many:=fun q=>hd (.inr q)
  have BO:cP b ⟨p+1,0,0⟩:=⟨Kz,hlen,hp⟩
  split
  · rename_i he
    exact Ku hb hp hu h9 h11 e5 hn Me hd2 he
  rename_i he
  have he:(ah b (b.getD p 0:Nat) (p+1)).2.e=0:=Wt.1 he
  have hi:=IA b (b.getD p 0:Nat) (p+1)
  have hfit:=xw (b.getD p 0:Nat) BO
  have hge:=hi.1
  split
  · rename_i cR
    exact Kv hb hp hu h9 h11 e5 hn Me hd2 he (hi.2 he) cR fun vs hv=>ih (t::fs) _ _ (many+1) (pre++vs) (by omega) hfit (by simp only[ei,pa];omega) (by simp only[pa];omega) (Vr _) fun g hg=>by
     cases hg with
     |head=>omega
     |tail _ hg=>have:=hfs g hg;omega
  · rename_i cR
    refine Nb hb hp hu h9 h11 e5 hn Me hd2 he (hi.2 he) (by simpa using cR) (by omega) (ih fs _ _ (many+1) pre (by omega) hfit hu h9 ?_ fun g hg=>by have:=hfs g hg;omega)
    simp only[ei,pa,VS]
    omega
end Go.Proofs.YtddfgnmjecogdaaDoor.N
end
