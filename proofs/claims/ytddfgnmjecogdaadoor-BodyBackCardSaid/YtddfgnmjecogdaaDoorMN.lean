import Derived.Test.YtddfgnmjecogdaaDoorMM
section
namespace Go.Proofs.YtddfgnmjecogdaaDoor.N
open Go Go.Am
structure Fr where
 op:Int
 r:Int
 il:List Ins
 l:List Ins
 aB:Bool
def Fr.done (f:Fr):Ins:= .mk f.op f.r 0 0 0 [] (if f.aB=true then f.il else f.l) (if f.aB=true then f.l else[])
def cG (b:List Nat):Nat→List Fr→Fr→Nat→Nat→Option (List Ins)×RS
 |0,_,_,p,_=>(none,⟨p,0,0⟩)
 |n+1,fs,t,p,many=>
  if b.length≤p then(none,⟨p,4,b.length⟩)
  else if b.getD p 0=11 then match fs with
   |[]=>(some t.l,⟨p+1,0,0⟩)
   |f::fs'=>cG b n fs' {f with l:=f.l++[t.done]} (p+1) many
  else if b.getD p 0=5∧fs≠[]∧t.op=4∧t.aB=false then cG b n fs {t with il:=t.l,l:=[],aB:=true} (p+1) many
  else if nm (b.getD p 0)=⟨#[]⟩ then(none,⟨p+1,160,p⟩)
  else if 900<fs.length+1∨262144≤many then(none,⟨p+1,141,p⟩)
  else if(ah b (b.getD p 0) (p+1)).2.e≠0 then(none,(ah b (b.getD p 0) (p+1)).2)
  else if dx (b.getD p 0)=true then cG b n (t::fs) ⟨b.getD p 0,(ah b (b.getD p 0) (p+1)).1.results,[],[],false⟩ (ah b (b.getD p 0) (p+1)).2.p (many+1)
  else cG b n fs {t with l:=t.l++[(ah b (b.getD p 0) (p+1)).1]} (ah b (b.getD p 0) (p+1)).2.p (many+1)
end Go.Proofs.YtddfgnmjecogdaaDoor.N
end
