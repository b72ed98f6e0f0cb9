/- Laid by program out of its parts: PbW, PbA, PbB, PbC, PbD. -/
import Derived.Test.YthallodoidghoaaGreatPa3
import Derived.Test.YthallodoidghoaaGreatTk3
import Derived.Test.YthallodoidghoaaGreatMh
noncomputable section
set_option linter.unusedVariables false
set_option linter.unusedSimpArgs false
section
set_option maxRecDepth 100000
set_option maxHeartbeats 2000000
open Go Go.Ev
namespace Go.Proofs.YthallodoidghoaaGreat
--#proofs
def cP (L:Ad) (s:RS):AV:=vK (L.drop s.at_.toNat)
def AqK (c:AV):Nat:=match c with
 |.vec _ n _=>n
 |_=>0
def S7 (L:Ad) (c:AV) (m:Int):RS:=⟨(L.length:Int)-(AqK c:Int),m,0,0⟩
structure R0 (L:List TK) (s:RS):Prop where
 ok:AJ L s
 e:s.err=0
 w:s.BE=0
def UG (L:Ad) (s:RS):Int:=if s.BE<L.length then(L.getD s.BE.toNat TK.zero).line else 0
def T6 (L:Ad) (s:RS):Int:=if s.BE<L.length then(L.getD s.BE.toNat TK.zero).Av else 0
theorem AqO (r:List (Nat×Nat)) (L:Ad) (s:RS):Bi r (cP L s) (cP L s):=⟨rfl,rfl,⟨λi _=>⟨⟨rfl,rfl⟩,rfl,⟨rfl,rfl⟩,⟨rfl,rfl⟩,⟨rfl,rfl⟩,trivial⟩⟩⟩
def PT.text:PT->Aj
 |.mk _ s _ _ _ _=>s
def PT.num:PT->Int
 |.mk _ _ n _ _ _=>n
def PT.line:PT->Int
 |.mk _ _ _ l _ _=>l
def PT.Av:PT->Int
 |.mk _ _ _ _ c _=>c
def PT.ks:PT->Bg
 |.mk _ _ _ _ _ ks=>ks
mutual
def pvT:PT->AV
 |.mk k s n l c ks=>.pv [.int .i64 k,.bs s,.int .i64 n,.int .i64 l,.int .i64 c,.AW,.vec 1 ks.length λi=>(uO ks).getD i []]
def uO:Bg->List Al
 | []=>[]
 |x::r=>[pvT x]::uO r
end
def pvX (x:PT):AV:=.pv [.int .i64 x.kind,.bs x.text,.int .i64 x.num,.int .i64 x.line,.int .i64 x.Av,.AW,.vec 1 x.ks.length λi=>(uO x.ks).getD i []]
end Go.Proofs.YthallodoidghoaaGreat
end
end
