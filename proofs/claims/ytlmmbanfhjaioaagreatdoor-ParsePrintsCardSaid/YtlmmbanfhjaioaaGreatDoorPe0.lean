/- Laid by program out of its parts: PeA, PcA, PeB, PeC, PeD, PeE, PeF. -/
import Derived.Test.YtlmmbanfhjaioaaGreatDoorPd0
import Derived.Test.YtlmmbanfhjaioaaGreatDoorPb5
noncomputable section
set_option linter.unusedVariables false
set_option linter.unusedSimpArgs false
section
set_option maxRecDepth 100000
set_option maxHeartbeats 2000000
open Go Go.Ev
namespace Go.Proofs.YtlmmbanfhjaioaaGreatDoor
def EB (k:Int) (s:Ac) (i:Nat) (y:PT):Int:=(if y.kind=12 then 1 else 0)+(if 0<C7 y.kind y.text/\C7 y.kind y.text<Fo k s i then 1 else 0)+(if k=31/\i=1\/k=34\/k=35 then 1 else 0)
mutual
def B9:PT->Int->Prop
 |.mk k s n _ _ ks,d=>d<=64/\((1<=k/\k<=36)/\Fv k s=true/\E2 k n=true)/\Cq (BO k) (ks.map PT.kind)=true/\Cv k s ks 0 d
def Cv (k:Int) (s:Ac):Av->Nat->Int->Prop
 | [],_,_=>True
 |y::q,i,d=>B9 y (d+EB k s i y)/\Cv k s q (i+1) d
end
def Hr:Nat->Av->AP
 |_,[]=>[]
 |o,y::q=>(o:Int)::Hr (o+sz y) q
def LG:Nat->Av->Ak
 |_,[]=>[]
 |o,y::q=>(flat y).map (Cm o)++LG (o+sz y) q
structure Xq (L:List LT) (a:Nat) (W:List LT):Prop where
 le:a+W.length<=L.length
 eq:∀j,j<W.length->L.getD (a+j) LT.none=Cm a (W.getD j LT.none)
theorem AcS (y:PT) (q:Av):DY (y::q)=flat y::DY q:=by conv=>lhs;unfold DY
theorem QH (o:Nat) (y:PT) (q:Av):Hr o (y::q)=(o:Int)::Hr (o+sz y) q:=rfl
theorem Pw (o:Nat) (y:PT) (q:Av):LG o (y::q)=(flat y).map (Cm o)++LG (o+sz y) q:=rfl
theorem sk:∀(ks:Av) (a:AP×Ak),(DY ks).foldl FJ a=(a.1++Hr (1+a.2.length) ks,a.2++LG (1+a.2.length) ks)
 | [],a=>by rw[AcT];simp[Hr,LG]
 |y::q,a=>by
  have B:(FJ a (flat y)).2.length=a.2.length+sz y:=by simp[FJ,(I0 y).1]
  rw[AcS,List.foldl_cons,sk q (FJ a (flat y)),B];have E:(FJ a (flat y)).1=a.1++[1+(a.2.length:Int)]:=rfl;have C:(FJ a (flat y)).2=a.2++(flat y).map (Cm (1+(a.2.length:Int))):=rfl;rw[E,C,QH,Pw];rw[show((1+a.2.length:Nat):Int)=1+(a.2.length:Int) by omega,show 1+(a.2.length+sz y)=1+a.2.length+sz y by omega,A7,A7];rfl
theorem NS (k:Int) (s:Ac) (n l c:Int) (ks:Av):flat (.mk k s n l c ks)=⟨k,s,n,l,c,Hr 1 ks⟩::LG 1 ks:=by
 have h:=sk ks ([],[])
 conv=>lhs;unfold flat
 unfold Nu;rw[uG,lq,show GU (DY ks)=_ from h];simp
theorem Wu:∀(o:Nat) (ks:Av),(LG o ks).length=BG ks
 |o,[]=>by rw[Hf];rfl
 |o,y::q=>by rw[Pw,AK,FL,(I0 y).1,Wu,Cc]
theorem jB (y:PT):((flat y).getD 0 LT.none).kind=y.kind/\((flat y).getD 0 LT.none).text=y.text:=by cases y;rw[NS];exact⟨rfl,rfl⟩
theorem Ake (w:LT):Cm 0 w=w:=by unfold Cm;cases w;simp
def Iv (L:Ab) (s:RS):Prop:=s.err=0\/s.err=4\/(s.err=5/\s.DM<L.length)
structure Mv (L:List TK) (s r:RS):Prop where
 k:Kp s r
 a:s.at_<=r.at_
 w:s.err=0->r.err≠0->s.at_<=r.DM
 b:s.at_<=L.length->r.at_<=L.length
 i:Iv L s->Iv L r
def MF (L:Ab) (F:PF):Prop:=∀s,Mv L s (F s).2
def Sr (s r:RS):Prop:=s.err=0->r.err=0->s.at_<r.at_
theorem Mv.tr {L:Ab} {s r u:RS} (h:Mv L s r) (k:Mv L r u):Mv L s u:=by
 refine⟨h.k.tr k.k,Int.le_trans h.a k.a,λz q=>?_,λz=>k.b (h.b z),λz=>k.i (h.i z)⟩;by_cases c:r.err=0
 ·exact Int.le_trans h.a (k.w c q)
 ·have:=h.w z c;have:=(k.k.e c).2;omega
theorem Sr.tr {L:Ab} {s r u:RS} (h:Sr s r) (k:Mv L r u):Sr s u:=λz q=>by have:r.err=0:=Classical.byContradiction λc=>absurd q (by rw[(k.k.e c).1];exact c);have:=h z this;have:=k.a;omega
theorem Sr.of {L:Ab} {s r u:RS} (h:Mv L s r) (g:Mv L r u) (k:Sr r u):Sr s u:=λz q=>by have:r.err=0:=Classical.byContradiction λc=>absurd q (by rw[(g.k.e c).1];exact c);have:=k this q;have:=h.a;omega
structure Bd (L:List TK) (n:Nat) (s:RS):Prop where
 a:s.at_<=L.length
 l:(L.length:Int)-s.at_<n
structure WF (L:List TK) (N:Nat) (Q:Int->PT->Prop) (F:PF):Prop where
 m:MF L F
 n:∀s,(F s).2.nest=s.nest
 w:∀s,s.nest<=64->Bd L N s->(F s).2.err=0->Q s.nest (F s).1
structure WE (b:Int) (d:Int) (x:PT):Prop where
 t:B0 x.kind=true
 w:B9 x (if C7 x.kind x.text<b then d+1 else d)
structure WQ (p:Int->Bool) (d:Int) (x:PT):Prop where
 k:p x.kind=true
 w:B9 x d
structure WB (d:Int) (x:PT):Prop where
 k:x.kind=12
 w:B9 x (d+1)
mutual
theorem dA:∀(x:PT) (d e:Int),e<=d->B9 x d->B9 x e
 |.mk k s n l c ks,d,e,h,q=>by unfold B9 at q⊢;exact⟨by omega,q.2.1,q.2.2.1,z4 ks k s 0 d e h q.2.2.2⟩
theorem z4:∀(q:Av) (k:Int) (s:Ac) (i:Nat) (d e:Int),e<=d->Cv k s q i d->Cv k s q i e
 | [],k,s,i,d,e,h,B=>by unfold Cv;trivial
 |y::q,k,s,i,d,e,h,B=>by unfold Cv at B⊢;exact⟨dA y _ _ (by omega) B.1,z4 q k s (i+1) d e h B.2⟩
end
theorem AaU {k:Int} (s:Ac) (h:B0 k=true):0<C7 k s/\C7 k s<=5:=by
 unfold C7;rw[Am h]
 repeat' split
 all_goals omega
theorem AkV {k:Int} (h:B0 k=true):k≠12:=by unfold B0 at h;have:=Bt h;omega
theorem WE.mono {b c d:Int} {x:PT} (h:WE b d x) (hc:c<=b):WE c d x:=by
 refine⟨h.t,?_⟩;have:=h.w;split
 ·rwa[Am (by omega)]at this
 ·split at this
  ·exact dA x _ _ (by omega) this
  ·exact this
theorem WE.H9 {b d:Int} {x:PT} {k:Int} {s:Ac} {i:Nat} (h:WE b (d+(if k=31/\i=1\/k=34\/k=35 then 1 else 0)) x) (B:Fo k s i=b):B9 x (d+EB k s i x):=by
 have y:=(AaU x.text h.t).1;have q:=AkV h.t;refine dA x _ _ ?_ h.w;unfold EB;rw[Ad q,B];split
 ·rename_i c;rw[Am c.2];omega
 ·rename_i c;rw[Ad (λh=>c ⟨y,h⟩)];omega
theorem uK {y:PT} {k:Int} {s:Ac} {i:Nat} {d:Int} (q:Fo k s i=0) (B:¬(k=31/\i=1\/k=34\/k=35)) (h:B9 y (d+if y.kind=12 then 1 else 0)):B9 y (d+EB k s i y):=by refine dA y _ _ ?_ h;unfold EB;rw[q,Ad B,Ad (by omega:¬(0<C7 y.kind y.text/\C7 y.kind y.text<0))];omega
abbrev V5 (k:Int):Prop:=k≠30/\k≠31/\k≠32/\k≠34/\k≠35
theorem vd {k:Int} (h:V5 k) (s:Ac) (i:Int):Fo k s i=0:=by obtain⟨B,y,q,E,C⟩:=h;unfold Fo;rw[Ad q,Ad (by omega),Ad B,Ad y]
theorem WB.H9 {y:PT} {k:Int} {s:Ac} {i:Nat} {d:Int} (h:WB d y) (q:V5 k):B9 y (d+EB k s i y):=uK (vd q s i) (by unfold V5 at q;omega) (by rw[Am h.k];exact h.w)
theorem WQ.H9 {p:Int->Bool} {y:PT} {k:Int} {s:Ac} {i:Nat} {d:Int} (h:WQ p d y) (B:p 12=false) (q:V5 k):B9 y (d+EB k s i y):=uK (vd q s i) (by unfold V5 at q;omega) (by rw[Ad (λc=>by have:=h.k;rw[c,B]at this;cases this),Int.add_zero];exact h.w)
theorem Bd.mv {L:Ab} {n:Nat} {s r:RS} (h:Bd L n s) (m:Mv L s r):Bd L n r:=⟨m.b h.a,by have:=m.a;have:=h.l;omega⟩
theorem Bd.up {L:Ab} {n:Nat} {s r:RS} (h:Bd L (n+1) s) (m:Mv L s r) (k:s.at_<r.at_):Bd L n r:=⟨m.b h.a,by have:=h.l;omega⟩
structure Fin (L:List TK) (N:Nat) (Q:Int->PT->Prop) (s:RS) (r:PT×RS):Prop where
 n:r.2.nest=s.nest
 w:s.nest<=64->Bd L N s->r.2.err=0->Q s.nest r.1
theorem WF.of {L:Ab} {n:Nat} {Q:Int->PT->Prop} {F:PF} (q:MF L F) (h:∀s,Fin L n Q s (F s)):WF L n Q F:=⟨q,λs=>(h s).n,λs=>(h s).w⟩
theorem WF.fin {L:Ab} {n:Nat} {Q:Int->PT->Prop} {F:PF} (h:WF L n Q F) (s:RS):Fin L n Q s (F s):=⟨h.n s,h.w s⟩
def k5 (k:Int):Bool:=decide (k=5)
def k4 (k:Int):Bool:=decide (k=4)
theorem WF.up {L:Ab} {n:Nat} {Q:Int->PT->Prop} {F:PF} (h:WF L (n+1) Q F):WF L n Q F:=⟨h.m,h.n,λs B q y=>h.w s B ⟨q.a,by have:=q.l;omega⟩ y⟩
theorem WF.mono {L:Ab} {n:Nat} {Q R:Int->PT->Prop} {F:PF} (h:WF L n Q F) (q:∀d x,Q d x->R d x):WF L n R F:=⟨h.m,h.n,λs C B y=>q _ _ (h.w s C B y)⟩
end Go.Proofs.YtlmmbanfhjaioaaGreatDoor
end
end
