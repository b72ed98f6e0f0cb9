/- Laid by program out of its parts: PbT, PbU, PbV. -/
import Derived.Test.YthallodoidghoaaGreatPb3
noncomputable section
set_option linter.unusedVariables false
set_option linter.unusedSimpArgs false
section
set_option maxRecDepth 100000
set_option maxHeartbeats 2000000
open Go Go.Ev
namespace Go.Proofs.YthallodoidghoaaGreat
def P8 (D:Ad->PF) (L:Ad):Nat->Bg->RS->Bg×RS
 |0,l,s=>(l,s)
 |k+1,l,s=>if s.err=0/\s.at_<L.length then P8 D L k (l++[(D L s).1]) (D L s).2 else(l,s)
def XP (D:Ad->PF) (L:Ad) (s:RS):Bg×RS:=P8 D L (EW L) [] s
def iU:TK:=⟨0,[],0,1,1⟩
def fG (D:Ad->PF) (L:Ad):PF:=λs=>(nd 1 [] 0 iU (XP D L s).1,(XP D L s).2)
def kX (ks:Bg):Nat->Al:=λi=>[pvX (ks.getD i Ki)]
def pvY (x:PT):AV:=.pv [.int .i64 x.kind,.bs x.text,.int .i64 x.num,.int .i64 x.line,.int .i64 x.Av,.AW,.vec 1 x.ks.length (kX x.ks)]
def Ae9 (r m:Nat):Ah:=.cells 24 .leaf (.Dv [.AR r m 6]) 1 false
def oFl (l:AB) (x:PT):HO:=.gen (flat x) λW=>.ret (.AM []) [Ae9 2 (l.length+W.length),Aip,ez (QQ (l++W.map (J7 (l.length:Int)))) (l.length+W.length)] 1
def hFl (N:Nat):GY:={X:=AB×PT,gl:=[],N4:=λ_=>true,ng:=0,k:=2,args:=λx=>[.ptr 0 0,pvY x.2],Ff:=λx=>[Ae9 1 x.1.length,ez (QQ x.1) x.1.length],pre:=λx=>x.1.length+sz x.2<=1000000/\sz x.2<=N,out:=λx=>oFl x.1 x.2,fz:=0,find:=λ_ _=>none}
end Go.Proofs.YthallodoidghoaaGreat
end
end
