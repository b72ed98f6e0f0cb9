/- Laid by program out of its parts: TkF, TkS, TkG, TkH. -/
import Derived.Test.YtlmmbanfhjaioaaGreatDoorTkE
import Derived.Test.YtlmmbanfhjaioaaGreatDoorMf
noncomputable section
set_option linter.unusedVariables false
set_option linter.unusedSimpArgs false
section
set_option maxRecDepth 100000
set_option linter.unusedSimpArgs false
open Go Go.Ev
namespace Go.Proofs.YtlmmbanfhjaioaaGreatDoor
theorem SC {H:Tr Ae} (h:Ec H=true):∀p∈CI,H.get p.1=some p.2:=λp q=>by
 unfold Ec at h;unfold CI at q;simp only[DE]at q;subst q;split at h
 ·rename_i l y;rw[y,OM _ _ h]
 ·cases h
theorem Qn:∀p∈CI,H8 p.2=true:=λp q=>by unfold CI at q;simp only[DE]at q;subst q;rfl
theorem cS:EY Tryz.prog PC:=Cj Ae7 <| Cj Ae8 <| Cj Ae9 <| Cj Afb WL
theorem AbT {P:Program} {call:FuncId->Aj->Tr Ae->Nat->KC->Prop} (q:La P call) {g:FuncId} {has:CW->Bool} {val:CW->AV} {z:AV} {gl:List (Nat×Ae)} {ng:Nat} (C:∀p∈gl,H8 p.2=true) (hz:∃E,∀ρ,VR ρ z E) (B:∀k,has k=false->val k=z) (hint:∀n,has (.int n)=false) (SJ:∀k,AZ [] (val k) (val k)) {AJ:Tr Ae->Aj->Option Ct} (y:∀H args ct,AJ H args=some ct->args=[]/\(∀p∈gl,H.get p.1=some p.2)/\ct=.Be True (.ret (.FY has val z))) {Y:Prop} (J:Y) (K:Y=call g [] (Bx gl) ng (Xp has val z)):Ck P g AJ:=AbS q C hz B hint SJ y (by rw[<-K];exact J)
attribute [local irreducible] Xx
theorem Ae6:Ck Tryz.prog 21 gO:=by
 refine AbT (Y:=Xx) (JZ (cx:=Eb PC) Bu cS fu) (gl:=CI) (ng:=4) (has:=G2) (val:=IP) (z:=.agg [.bool false]) Qn AlL (λk B=>?_) UB (λk=>?_) (λH args ct q=>?_) @Ag3 (by kernel_rfl)
 ·cases k with
  |str l=>rw[UC]at B;rw[UF,Ea,B]
  |int n=>unfold IP;rw[UB,Ea]
 ·cases k with
  |str l=>rw[UF];generalize AW (DC l)=b;exact⟨rfl,trivial⟩
  |int n=>unfold IP;rw[UB,Ea];exact⟨rfl,trivial⟩
 ·unfold gO at q;split at q
  ·cases y:Ec H with
   |true=>rw[y]at q;injection q with q;exact⟨rfl,SC y,q.symm⟩
   |false=>rw[y]at q;cases q
  ·cases q
end Go.Proofs.YtlmmbanfhjaioaaGreatDoor
end
section
set_option maxRecDepth 100000
open Go Go.Ev
namespace Go.Proofs.YtlmmbanfhjaioaaGreatDoor
structure Tok where
 kind:Int
 text:List UInt8
 num:Int
 line:Int
 Ao:Int
structure Dg where
 line:Int
 Ao:Int
 err:Int
def t0:Tok:=⟨0,[],0,0,0⟩
def d0:Dg:=⟨0,0,0⟩
def D4 (kind:Int) (s:Ac):Int×Int×Int:=
 if kind=3 then(3,(GL s).1,if(GL s).2 then 0 else 9)
 else if kind=1/\DC s then(2,0,0)else(kind,0,if 32<s.length then 9 else 0)
def EP (b:UInt8) (t:Ac) (line Ao:Int):List Tok×List Dg:=
 let k:=Bs (b::t);let s:=(b::t).take k.2;let m:=D4 k.1 s
 if 0<k.1 then([⟨m.1,s,m.2.1,line,Ao⟩],if m.2.2=0 then []else [⟨line,Ao,m.2.2⟩])
 else([],if MJ (b.toNat:Int)then []else [⟨line,Ao,3⟩])
def Ot:Nat->Ac->Int->Int->List Tok×List Dg
 |0,_,_,_=>([],[])
 |_+1,[],_,_=>([],[])
 |f+1,b::t,line,Ao=>
  let n:=(Bs (b::t)).2;let o:=EP b t line Ao;let r:=Ot f ((b::t).drop n) (if b=10 then line+1 else line) (if b=10 then 1 else Ao+n)
  (o.1++r.1,o.2++r.2)
def DV (l:Ac):List Tok×List Dg:=Ot l.length l 1 1
theorem m7 (f:Nat) (b:UInt8) (t:Ac) (line Ao:Int):Ot (f+1) (b::t) line Ao= ((EP b t line Ao).1++(Ot f ((b::t).drop (Bs (b::t)).2) (if b=10 then line+1 else line) (if b=10 then 1 else Ao+(Bs (b::t)).2)).1,(EP b t line Ao).2++(Ot f ((b::t).drop (Bs (b::t)).2) (if b=10 then line+1 else line) (if b=10 then 1 else Ao+(Bs (b::t)).2)).2):=rfl
theorem Z8 {p:Int->Bool} {b:UInt8} {t:Ac} (h:p (b.toNat:Int)=true):1<=runN p (b::t):=by rw[runN,Am h];omega
theorem Od (b:UInt8) (t:Ac):Bs (b::t)=if C9 (b.toNat:Int)then(1,runN (λz=>C9 z||Bp z) (b::t))else if Bp (b.toNat:Int)then(3,runN Bp (b::t))
  else if(b.toNat:Int)=35 then(0,runN (λz=>!decide (z=10)) (b::t))
  else if(b.toNat:Int)=61/\1<=t.length/\((t.getD 0 0).toNat:Int)=61 then(4,2)else if SU (b.toNat:Int)then(4,1)else(0,1):=rfl
theorem S0 (b:UInt8) (t:Ac):1<=(Bs (b::t)).2/\(Bs (b::t)).2<=(b::t).length:=by
 rw[Od];have B:=Rc (λz=>C9 z||Bp z) (b::t);have y:=Rc Bp (b::t);have q:=Rc (λz=>!decide (z=10)) (b::t);split
 ·rename_i h;exact⟨Z8 (p:=λz=>C9 z||Bp z) (by show(C9 _||Bp _)=true;rw[h];rfl),B⟩
 ·split
  ·rename_i h;exact⟨Z8 (p:=Bp) h,y⟩
  ·split
   ·rename_i h;exact⟨Z8 (p:=λz=>!decide (z=10)) (by show(!decide (_=(10:Int)))=true;rw[h];rfl),q⟩
   ·split
    ·rename_i h;simp;omega
    ·split<;>simp
theorem yC:∀(f g:Nat) (l:Ac) (line Ao:Int),l.length<=f->l.length<=g->Ot f l line Ao=Ot g l line Ao
 |0,g,[],line,Ao,_,_=>by cases g<;>rfl
 |f+1,g,[],line,Ao,_,_=>by cases g<;>rfl
 |f+1,0,b::t,line,Ao,_,h=>by simp at h
 |0,g,b::t,line,Ao,h,_=>by simp at h
 |f+1,g+1,b::t,line,Ao,B,y=>by have q:=S0 b t;simp only[AE]at B y q;rw[m7,m7,yC f g _ _ _ (by rw[HC];simp only[AE];omega) (by rw[HC];simp only[AE];omega)]
def K2 (l:Ac) (line Ao:Int):List Tok×List Dg:=Ot l.length l line Ao
theorem yF (line Ao:Int):K2 [] line Ao=([],[]):=rfl
theorem WD (b:UInt8) (t:Ac) (line Ao:Int):K2 (b::t) line Ao= ((EP b t line Ao).1++(K2 ((b::t).drop (Bs (b::t)).2) (if b=10 then line+1 else line) (if b=10 then 1 else Ao+(Bs (b::t)).2)).1,(EP b t line Ao).2++(K2 ((b::t).drop (Bs (b::t)).2) (if b=10 then line+1 else line) (if b=10 then 1 else Ao+(Bs (b::t)).2)).2):=by have q:=S0 b t;simp only[AE]at q;show Ot (t.length+1) (b::t) line Ao=_;rw[m7,yC t.length ((b::t).drop (Bs (b::t)).2).length _ _ _ (by rw[HC];simp only[AE];omega) (AM _)];rfl
theorem Z7 {p:Int->Bool}:∀(l:Ac),∀x∈l.take (runN p l),p (x.toNat:Int)=true
 | [],x,h=>by simp at h
 |b::l,x,h=>by
  rw[runN]at h;by_cases q:p (b.toNat:Int)=true
  ·rw[Am q,List.take_succ_cons,CS]at h;rcases h with rfl|h
   ·exact q
   ·exact Z7 l x h
  ·rw[Ad q]at h;simp at h
theorem Zd (t:Ac):Bs (10::t)=(0,1):=by rw[Od];rw[Ad (by decide),Ad (by decide),Ad (by decide),Ad (by rintro⟨h,_⟩;revert h;decide),Ad (by decide)]
theorem kO {p:Int->Bool} (q:p 10=false) {x:UInt8} (h:p (x.toNat:Int)=true):x≠10:=by rintro rfl;exact absurd h (by show¬p 10=true;rw[q];simp)
theorem Ae2 {b:UInt8} {t:Ac} (y:b≠10):∀x∈(b::t).take (Bs (b::t)).2,x≠10:=by
 have one:∀x∈(b::t).take 1,x≠10:=λx q=>by simp at q;rw[q];exact y
 rw[Od];split
 ·exactλx q=>kO (p:=λz=>C9 z||Bp z) (by decide) (Z7 (p:=λz=>C9 z||Bp z) (b::t) x q)
 ·split
  ·exactλx q=>kO (p:=Bp) (by decide) (Z7 (p:=Bp) (b::t) x q)
  ·split
   ·exactλx q=>kO (p:=λz=>!decide (z=10)) (by decide) (Z7 (p:=λz=>!decide (z=10)) (b::t) x q)
   ·split
    ·rename_i h;obtain⟨_,C,B⟩:=h;cases t with
     |nil=>simp at C
     |cons c t=>
      intro x q;simp only[List.take_succ_cons,List.take_zero,CS,List.not_mem_nil,or_false]at q;rcases q with rfl|rfl
      ·exact y
      ·rintro rfl;simp at B
    ·split
     ·exact one
     ·exact one
theorem Abu {b:UInt8} {t:Ac} (q:b≠10):Lib.countByte ((b::t).take (Bs (b::t)).2) 10=0:=by unfold Lib.countByte;exact List.count_eq_zero.2 λh=>Ae2 q _ h rfl
theorem AkZ (t:Ac):(10::t).take (Bs (10::t)).2=[10]:=by rw[Zd];rfl
end Go.Proofs.YtlmmbanfhjaioaaGreatDoor
end
section
set_option maxRecDepth 100000
set_option linter.unusedSimpArgs false
open Go Go.Ev
namespace Go.Proofs.YtlmmbanfhjaioaaGreatDoor
def Uu:D9:=(58,Si)::(21,gO)::PC
def JP (t:Tok):Aj:=[.int .i64 t.kind,.bs t.text,.int .i64 t.num,.int .i64 t.line,.int .i64 t.Ao]
def L2 (t:Dg):Aj:=[.int .i64 t.line,.int .i64 t.Ao,.int .i64 t.err]
def gR:Tr Ae->Aj->Option Ct:=λ_ args=>match args with
 | [.int .i64 k,.bs s,.FY has val z]=>some (.Be (has=G2/\val=IP/\z=.agg [.bool false]/\s.length<=1000000) (.ret (.AO [.agg [.int .i64 (AU (D4 k s).1),.bs s,.int .i64 (AU (D4 k s).2.1),.int .i64 0,.int .i64 0],.int .i64 (AU (D4 k s).2.2)])))
 |_=>none
def gN:Tr Ae->Aj->Option Ct:=λ_ args=>match args with
 | [.bs s]=>some (.Be True (.ret (.bool (AW (DC s)))))
 |_=>none
def XV (s:Ac) (x:Bool):List Ac->Prop
 | []=>false=x
 |w::ws=>Ah (decide (w=s)) (true=x) (XV s x ws)
theorem Ae3:Ck Tryz.prog 58 Si:=by
 refine Fh (gl:=[]) (ng:=0) Bq λH args ct q=>?_;unfold Si at q;split at q
 ·rename_i l;injection q with q;subst q;exact⟨Bq,_,_,rfl,λy=>⟨⟨rfl,trivial⟩,IZ PC 58 3 (oP l),60,rfl,Bu,cS,by rw[Ea];exact AgY l y⟩⟩
 ·cases q
theorem Ae4:Ck Tryz.prog 34 Si:=by
 refine Fh (gl:=[]) (ng:=0) Bq λH args ct q=>?_;unfold Si at q;split at q
 ·rename_i l;injection q with q;subst q;exact⟨Bq,_,_,rfl,λy=>⟨⟨rfl,trivial⟩,IZ PC 34 3 (oQ l),60,rfl,Bu,cS,by rw[Ea];exact Ag0 l y⟩⟩
 ·cases q
theorem fx (s:Ac) (x:Bool):∀ws:List Ac,(x=ws.any λw=>decide (s=w))->XV s x ws
 | [],h=>h.symm
 |w::ws,h=>by
  rw[List.any_cons]at h;refine Aw (λq=>?_) λq=>?_
  ·rw[BV]at q;subst q;rw[h];simp
  ·refine fx s x ws ?_;rw[Kt]at q;rw[h,Ej (λe=>q e.symm),Bool.false_or]
def oM (s:Ac):Prop:=(A4 (Eb []) 200).call 33 [.bs s] .leaf 0 (Cb Tryz.prog false (.bool (DC s)))
theorem Ag2 (s:Ac):oM s:=Eq.mpr (show oM s=XV s (DC s) NA by kernel_rfl) (fx s _ NA rfl)
theorem Ae5:Ck Tryz.prog 33 gN:=by
 refine Fh (gl:=[]) (ng:=0) Bq λH args ct q=>?_;unfold gN at q;split at q
 ·rename_i l;injection q with q;subst q;exact⟨Bq,_,_,rfl,λ_=>⟨⟨rfl,trivial⟩,Eb [],200,rfl,Bu,B5,by rw[Ea];exact Ag2 l⟩⟩
 ·cases q
def O8:=(Aa/\Af (0:Int))
@[reducible] def ev:Int->Ac->Prop:=λ(k:Int) (s:Ac)=>(Aa/\k=Prod.fst (D4 k s))/\s=s/\(Aa/\(0:Int)=Prod.fst (Prod.snd (D4 k s)))/\O8/\O8/\True
@[reducible] def ew:Int->Ac->Prop:=λ(k:Int) (s:Ac)=>(Aa/\k=Prod.fst (D4 k s))/\s=s/\(Aa/\Prod.fst (GL s)=Prod.fst (Prod.snd (D4 k s)))/\O8/\O8/\True
def QS (a:Int) (b:Ac):=Prod.snd (Prod.snd (D4 a b))
@[reducible] def ez:Int->Ac->Prop:=λ(k:Int) (s:Ac)=>ev k s/\(Aa/\(0:Int)=QS k s)/\True
@[reducible] def fA:Int->Ac->Prop:=λ(k:Int) (s:Ac)=>ev k s/\(Aa/\(9:Int)=QS k s)/\True
theorem Ahb:∀(k:Int) (s:Ac),qE s->Ah (An k (3:Int)) (qE s/\Ah (!AW (Prod.snd (GL s))) (ew k s/\(Aa/\(9:Int)=QS k s)/\True) (ew k s/\(Aa/\(0:Int)=QS k s)/\True)) (Ah (An k (1:Int)) (Ah (AW (G2 (CW.str s))) (((Aa/\(2:Int)=Prod.fst (D4 k s))/\s=s/\(Aa/\(0:Int)=Prod.fst (Prod.snd (D4 k s)))/\O8/\O8/\True)/\(Aa/\(0:Int)=QS k s)/\True) (Ah (AQ (32:Int) (q8 s)) (fA k s) (ez k s))) (Ah (AQ (32:Int) (q8 s)) (fA k s) (ez k s)))
:=by
 delta qE q8 O8 QS;intro k s y;simp only[Nat.le_eq]at y;simp only[Cd,ev,ew,ez,fA,O8,QS];simp only[FN,DU,EM,UC];unfold D4;by_cases B:k=3
 ·subst B;cases hn:(GL s).2<;>simp[y]
 ·by_cases C:k=1
  ·subst C;cases hw:DC s<;>by_cases q:32<s.length<;>simp[q]<;>omega
  ·by_cases q:32<s.length<;>simp[C,B,q]<;>omega
theorem Aha:∀(k:Int) (s:Ac),s.length<=1000000->(A4 (Eb Uu) 100).call 26 [.int .i64 k,.bs s,Rq] .leaf 0 (Cb Tryz.prog false (.AO [.agg (JP ⟨(D4 k s).1,s,(D4 k s).2.1,0,0⟩),.int .i64 (D4 k s).2.2])):=Eq.mpr (by kernel_rfl) Ahb
theorem Als:AZ [] Rq Rq:=by
 unfold Rq;rw[AZ];refine⟨λ_=>rfl,λk=>?_,λk q=>?_⟩
 ·cases k with
  |str l=>rw[UF];generalize AW (DC l)=b;exact⟨rfl,trivial⟩
  |int n=>unfold IP;rw[UB,Ea];exact⟨rfl,trivial⟩
 ·cases k with
  |str l=>rw[UC]at q;rw[UF,Ea,q];exact .inl rfl
  |int n=>unfold IP;rw[UB,Ea];exact .inl rfl
theorem my:EY Tryz.prog Uu:=Cj Ae3 <| Cj Ae6 cS
theorem Afa:Ck Tryz.prog 26 gR:=by
 refine Fh (gl:=[]) (ng:=0) Bq λH args ct q=>?_;unfold gR at q;split at q
 ·rename_i k s has val z;injection q with q;subst q;refine⟨Bq,_,_,rfl,?_⟩;rintro⟨rfl,rfl,rfl,y⟩;exact⟨⟨⟨rfl,rfl⟩,rfl,Als,trivial⟩,Eb Uu,100,rfl,Bu,my,by rw[Dr,Dr,Dr];exact Aha k s y⟩
 ·cases q
end Go.Proofs.YtlmmbanfhjaioaaGreatDoor
end
section
set_option maxRecDepth 100000
open Go Go.Ev
namespace Go.Proofs.YtlmmbanfhjaioaaGreatDoor
def yg:D9:=(26,gR)::(34,Si)::(33,gN)::Uu
structure X9 where
 rest:List UInt8
 line:Int
 Ao:Int
 out:List Tok
 CU:List Dg
structure I9 (l:List UInt8) (x:X9):Prop where
 le:x.rest.length<=l.length
 Aep:1<=x.line
 Aeq:x.line+x.rest.length<=l.length+1
 Anj:1<=x.Ao
 Ank:x.Ao+x.rest.length<=l.length+1
 out:x.out.length+x.rest.length<=l.length
 CU:x.CU.length+x.rest.length<=l.length
 U9:(x.out++(K2 x.rest x.line x.Ao).1,x.CU++(K2 x.rest x.line x.Ao).2)=DV l
def S9 (l:Ac):CX:={X:=X9,T:=λ_ n0 x=>[(0,.bv x.rest),(2,.AY (n0+2) x.out.length 5),(3,.AY (n0+3) x.CU.length 3),(4,Rq),(5,.ptr n0 0),(6,.ptr (n0+1) 0),(7,.fn (.func 22) [] [.ptr n0 0,.ptr (n0+1) 0])],H:=λ_ n0 x=>[(n0,.cells 3 .leaf (.Dw [.int .i64 x.line]) 1 false),(n0+1,.cells 3 .leaf (.Dw [.int .i64 x.Ao]) 1 false),(n0+2,.cells 60 .leaf (.rows 5 λk=>JP (x.out.getD k t0)) (x.out.length*5) true),(n0+3,.cells 48 .leaf (.rows 3 λk=>L2 (x.CU.getD k d0)) (x.CU.length*3) true)],nx:=λ_ n0=>n0+4,I:=λ_=>I9 l,m:=λx=>x.rest.length}
structure BH where
 b:UInt8
 t:List UInt8
 line:Int
 Ao:Int
 wW:List Tok
 z8:List Dg
def BH.x9 (x:BH):X9:=⟨x.b::x.t,x.line,x.Ao,x.wW,x.z8⟩
def BH.out (x:BH):List Tok:=x.wW++(EP x.b x.t x.line x.Ao).1
def BH.CU (x:BH):List Dg:=x.z8++(EP x.b x.t x.line x.Ao).2
def zc (l:Ac):CX:={X:=BH,T:=λ_ n0 x=>[(0,.bv (x.b::x.t)),(2,.AY (n0+2) x.out.length 5),(3,.AY (n0+3) x.CU.length 3),(4,Rq),(5,.ptr n0 0),(6,.ptr (n0+1) 0),(7,.fn (.func 22) [] [.ptr n0 0,.ptr (n0+1) 0]),(9,.int .i64 (Bs (x.b::x.t)).2)],H:=λ_ n0 x=>[(n0,.cells 3 .leaf (.Dw [.int .i64 x.line]) 1 false),(n0+1,.cells 3 .leaf (.Dw [.int .i64 x.Ao]) 1 false),(n0+2,.cells 60 .leaf (.rows 5 λk=>JP (x.out.getD k t0)) (x.out.length*5) true),(n0+3,.cells 48 .leaf (.rows 3 λk=>L2 (x.CU.getD k d0)) (x.CU.length*3) true)],nx:=λ_ n0=>n0+4,I:=λs x=>I9 l x.x9/\s.T.get 0=some (.bv (x.b::x.t)),m:=λ_=>0}
def pj (l:Ac):Ctx:={P:=Tryz.prog,tb:=yg,lp:=λf r=>cond (Nat.beq f 15) (cond (Nat.beq r 4) (some (S9 l)) none) none,cut:=λf r=>cond (Nat.beq f 15) (cond (Nat.beq r 14) (some (zc l)) none) none}
def Ala (l:List Tok):AV:=.vec 5 l.length λk=>JP (l.getD k t0)
def gJ (l:List Dg):AV:=.vec 3 l.length λk=>L2 (l.getD k d0)
def yB (l:Ac):AV:=.AO [Ala (DV l).1,gJ (DV l).2]
def e9:Tr Ae->Aj->Option Ct:=λH args=>match args with
 | [.bv l]=>cond (Ec H) (some (.Be (l.length<=1000000) (.ret (yB l)))) none
 |_=>none
theorem AkQ:EY Tryz.prog yg:=Cj Afa <| Cj Ae4 <| Cj Ae5 my
theorem z1 (q:List (Nat×Nat)) (t:Tok):Ba q (JP t) (JP t):=⟨⟨rfl,rfl⟩,rfl,⟨rfl,rfl⟩,⟨rfl,rfl⟩,⟨rfl,rfl⟩,trivial⟩
theorem zX (q:List (Nat×Nat)) (t:Dg):Ba q (L2 t) (L2 t):=⟨⟨rfl,rfl⟩,⟨rfl,rfl⟩,⟨rfl,rfl⟩,trivial⟩
theorem AlB:((∀k:CW,G2 k=G2 k)/\(∀k:CW,AW (G2 k)=AW (G2 k)/\True)/\∀k:CW,G2 k=false->dC (AV.agg [AV.bool false]) (IP k)):=⟨λ_=>rfl,λ_=>⟨rfl,trivial⟩,λk q=>by cases k with
  |str l=>rw[UC]at q;rw[UF,Ea,q];exact .inl rfl
  |int n=>unfold IP;rw[UB,Ea];exact .inl rfl⟩
theorem Adh (l:List Tok) (n:Nat):Ed 5 n (λk=>JP (l.getD k t0))=true:=Bi λ_ _=>rfl
theorem Adf (l:List Dg) (n:Nat):Ed 3 n (λk=>L2 (l.getD k d0))=true:=Bi λ_ _=>rfl
theorem Zn {b:UInt8} {t:Ac} {line Ao:Int} {out:List Tok} {CU:List Dg} {a:List Tok} {c:List Dg} (h:EP b t line Ao=(a,c)): BH.out ⟨b,t,line,Ao,out,CU⟩=out++a/\BH.CU ⟨b,t,line,Ao,out,CU⟩=CU++c:=by
 constructor
 ·show out++(EP b t line Ao).1=_;rw[h]
 ·show CU++(EP b t line Ao).2=_;rw[h]
theorem k9 (b:UInt8) (t:Ac) (line Ao:Int):(EP b t line Ao).1.length<=1/\(EP b t line Ao).2.length<=1:=by
 unfold EP;dsimp only
 split
 ·exact⟨AM _,by dsimp only;split<;>simp⟩
 ·exact⟨CL _,by dsimp only;split<;>simp⟩
theorem I9.step {l:Ac} {b:UInt8} {t:Ac} {line Ao:Int} {out:List Tok} {CU:List Dg} (h:I9 l ⟨b::t,line,Ao,out,CU⟩): I9 l ⟨(b::t).drop (Bs (b::t)).2,if b=10 then line+1 else line,if b=10 then 1 else Ao+(Bs (b::t)).2,out++(EP b t line Ao).1,CU++(EP b t line Ao).2⟩:=by
 obtain⟨O,M,L,K,J,E,C,B⟩:=h;obtain⟨n1,y⟩:=S0 b t;obtain⟨S,R⟩:=k9 b t line Ao;simp only[AE]at O M L K J E C y;have q:((b::t).drop (Bs (b::t)).2).length=t.length+1-(Bs (b::t)).2:=by rw[HC,AE]
 refine⟨?_,?_,?_,?_,?_,?_,?_,?_⟩
 ·simp only[q];omega
 ·simp only;split<;>omega
 ·simp only[q];split<;>omega
 ·simp only;split<;>omega
 ·simp only[q];split<;>omega
 ·simp only[q,AK];omega
 ·simp only[q,AK];omega
 ·rw[<-B,WD];simp only[A7]
def qk (a:X9):=List.length (X9.CU a)
def qw (a:X9) (b:Nat):=List.getD (X9.CU a) b d0
def qM (a:BH):=List.length (BH.CU a)
def qR (a:BH) (b:Nat):=List.getD (BH.CU a) b d0
def qU (a:Nat):=Nat.le (Nat.succ (a*3))
@[reducible] def fC:X9->BH->Prop:=λ(a:X9) (q:BH)=>(Aa/\Aa/\Aa/\Aa/\qk a*3=qM q*3/\AH λ(i:Nat)=>qU i (qk a*3)->(Aa/\Dg.line (qw a i)=Dg.line (qR q i))/\(Aa/\Dg.Ao (qw a i)=Dg.Ao (qR q i))/\(Aa/\Dg.err (qw a i)=Dg.err (qR q i))/\True)/\True
def qq (a:X9) (b:Nat):=List.getD (X9.out a) b t0
def qx (a:X9):=List.length (X9.out a)
def qA (a:BH) (b:Nat):=List.getD (BH.out a) b t0
def qK (a:BH):=List.length (BH.out a)
def qZ (a:Nat):=Nat.le (Nat.succ (a*5))
@[reducible] def fD:X9->BH->Prop:=λ(a:X9) (q:BH)=>Aa/\Aa/\Aa/\Aa/\qx a*5=qK q*5/\AH λ(i:Nat)=>qZ i (qx a*5)->(Aa/\Tok.kind (qq a i)=Tok.kind (qA q i))/\Tok.text (qq a i)=Tok.text (qA q i)/\(Aa/\Tok.num (qq a i)=Tok.num (qA q i))/\(Aa/\Tok.line (qq a i)=Tok.line (qA q i))/\(Aa/\Tok.Ao (qq a i)=Tok.Ao (qA q i))/\True
def qo:=((∀(E:CW),Af (G2 E))/\(∀(C:CW),Af (AW (G2 C))/\True)/\∀(q:CW),G2 q=false->IP q=AV.agg [AV.bool false]\/AV.agg [AV.bool false]=AV.Ay/\∃(B:Nat),∃(y:Nat->Aj),IP q=AV.vec B 0 y)
def qB (a:BH):=(BH.b a::BH.t a)
def QR (a:BH):=(↑(Prod.snd (Bs (qB a))):Int)
def lC:=(Aa/\True/\(Af (some 4)/\Aa)/\(Af (some 5)/\Aa)/\True)
@[reducible] def Xt:X9->BH->Prop:=λ(a:X9) (q:BH)=>qo/\(Af (some 4)/\Aa)/\(Af (some 5)/\Aa)/\lC/\(Aa/\(↑(AU (Prod.snd (Bs (X9.rest a)))):Int)=(QR q))/\True
@[reducible] def fE:X9->BH->Prop:=λ(a:X9) (q:BH)=>(Af (some 7)/\qk a=qM q/\Aa)/\Xt a q
@[reducible] def fF:BH->X9->Prop:=λ(a:BH) (q:X9)=>List.drop (Int.toNat (QR a)) (qB a)=X9.rest q/\(Af (some 6)/\qK a=qx q/\Aa)/\(Af (some 7)/\qM a=qk q/\Aa)/\qo/\(Af (some 4)/\Aa)/\(Af (some 5)/\Aa)/\lC/\True
@[reducible] def fG:BH->X9->Prop:=λ(a:BH) (q:X9)=>(Aa/\Aa/\Aa/\Aa/\qK a*5=qx q*5/\AH λ(i:Nat)=>qZ i (qK a*5)->(Aa/\Tok.kind (qA a i)=Tok.kind (qq q i))/\Tok.text (qA a i)=Tok.text (qq q i)/\(Aa/\Tok.num (qA a i)=Tok.num (qq q i))/\(Aa/\Tok.line (qA a i)=Tok.line (qq q i))/\(Aa/\Tok.Ao (qA a i)=Tok.Ao (qq q i))/\True)/\(Aa/\Aa/\Aa/\Aa/\qM a*3=qk q*3/\AH λ(i:Nat)=>qU i (qM a*3)->(Aa/\Dg.line (qR a i)=Dg.line (qw q i))/\(Aa/\Dg.Ao (qR a i)=Dg.Ao (qw q i))/\(Aa/\Dg.err (qR a i)=Dg.err (qw q i))/\True)/\True
def qd (a:BH):=List.take (Int.toNat (↑(Prod.snd (Bs (BH.b a::BH.t a))):Int)) (BH.b a::BH.t a)
def qg (a:X9):=List.take (Int.toNat (↑(AU (Prod.snd (Bs (X9.rest a)))):Int)) (X9.rest a)
def qn (a:X9):=DQ (List.length (X9.out a)) (λ(q:Nat)=>JP (List.getD (X9.out a) q t0)) (λ(y:Nat)=>[AV.int .i64 (AU (Prod.fst (D4 (AU (Prod.fst (Bs (X9.rest a)))) (qg a)))),AV.bs (qg a),AV.int .i64 (AU (Prod.fst (Prod.snd (D4 (AU (Prod.fst (Bs (X9.rest a)))) (qg a))))),AV.int .i64 (X9.line a),AV.int .i64 (X9.Ao a)])
def qC (a:X9):=Al (bif bif Nat.ble (qk a*3) (qk a*3)then true else false then decide (List.length (X9.CU a)+1<=9223372036854775807/\(List.length (X9.CU a)+1)*24<=140737488355328)else false)
def qO (a:X9) (b:BH):=(Aa/\Aa/\Aa/\Aa/\True/\Aa/\X9.line a=BH.line b)
def qQ (a:Ac) (b:BH) (c:X9):=(I9 a (BH.x9 b)/\some (AV.bv (X9.rest c))=some (AV.bv (qB b)))
def qS (a:X9):=List.length (X9.rest a)
def qT (a:BH):=(KK (qd a) (10:Int) (List.length (qd a))+1)
def qW (a:X9) (b:BH):=(Aa/\Aa/\Aa/\Aa/\True/\Aa/\X9.Ao a=BH.Ao b)
def q9 (a:Ac) (b:Nat):=List.getD (Prod.fst (DV a)) b t0
def Zv (a:BH):=(↑(Lib.countByte (qd a) (UInt8.ofNat 10)):Int)
def lA (a:X9):=AU (Prod.snd (Prod.snd (D4 (AU (Prod.fst (Bs (X9.rest a)))) (qg a))))
def lD:=Ba [(5,5),(4,4),(7,23),(6,21),(0,0),(1,1),(2,2),(3,3)]
def lE (a:BH):=Int.ofNat (List.length (List.drop (Int.toNat (qT a)) (qd a)))
theorem AhB:∀(l:Ac),qE l->True/\(∃(O:X9),I9 l O/\Aa/\(l=X9.rest O/\qx O=0/\qk O=0/\qo/\(Af (some 6)/\Aa)/\(Af (some 7)/\Aa)/\(Aa/\True/\(Af (some 6)/\Aa)/\(Af (some 7)/\Aa)/\True)/\True)/\(Aa/\Aa/\Aa/\Aa/\True/\Aa/\(1:Int)=X9.line O)/\(Aa/\Aa/\Aa/\Aa/\True/\Aa/\(1:Int)=X9.Ao O)/\(Aa/\True)/\(Aa/\True)/\True)/\∀(x:X9),I9 l x->Ah (AQ (0:Int) (Int.ofNat (qS x))) (((X9.rest x=[]->False)/\Nat.le (qS x) 1000000)/\Ah (AQ (0:Int) (AU (Prod.fst (Bs (X9.rest x))))) (Al (bif J4 (↑(AU (Prod.snd (Bs (X9.rest x)))):Int) (qS x)then true else false) ((Af G2/\Af IP/\Af (AV.agg [AV.bool false])/\Nat.le (List.length (qg x)) 1000000)/\(((True/\True/\True)/\True)/\((True/\True/\True)/\True)/\((Af (AV.int .i64 (X9.Ao x))/\True/\True)/\True)/\True)/\Al (bif bif Nat.ble (qx x*5) (qx x*5)then true else false then decide (List.length (X9.out x)+1<=9223372036854775807/\(List.length (X9.out x)+1)*48<=140737488355328)else false) (Ah (!An (lA x) (0:Int)) (qC x (∃(q:BH),(qQ l q x)/\Aa/\(X9.rest x=BH.b q::BH.t q/\(Af (some 21)/\qx x+1=qK q/\Aa)/\(Af (some 23)/\qk x+1=qM q/\Aa)/\Xt x q)/\(qO x q)/\(qW x q)/\(Aa/\Aa/\Aa/\Aa/\(qx x+1)*5=qK q*5/\AH λ(i:Nat)=>qZ i ((qx x+1)*5)->lD (JP (qA q i)) (qn x i))/\(Aa/\Aa/\Aa/\Aa/\(qk x+1)*3=qM q*3/\AH λ(i:Nat)=>qU i ((qk x+1)*3)->lD (L2 (qR q i)) (DQ (qk x) (λ(k:Nat)=>L2 (qw x k)) (λ(aa:Nat)=>[AV.int .i64 (X9.line x),AV.int .i64 (X9.Ao x),AV.int .i64 (lA x)]) i))/\True)) (∃(q:BH),(qQ l q x)/\Aa/\(X9.rest x=BH.b q::BH.t q/\(Af (some 21)/\qx x+1=qK q/\Aa)/\fE x q)/\(qO x q)/\(qW x q)/\(Aa/\Aa/\Aa/\Aa/\(qx x+1)*5=qK q*5/\AH λ(i:Nat)=>qZ i ((qx x+1)*5)->Ba [(5,5),(4,4),(7,7),(6,21),(0,0),(1,1),(2,2),(3,3)] (JP (qA q i)) (qn x i))/\fC x q)))) (Al (A9 (0:Int) (qS x)) (True/\Ah (!AW (MJ (↑(UInt8.toNat (List.getD (X9.rest x) 0 (0:UInt8))):Int))) (qC x (∃(q:BH),(qQ l q x)/\Aa/\(X9.rest x=BH.b q::BH.t q/\(Af (some 6)/\qx x=qK q/\Aa)/\(Af (some 13)/\qk x+1=qM q/\Aa)/\Xt x q)/\(qO x q)/\(qW x q)/\fD x q/\(Aa/\Aa/\Aa/\Aa/\(qk x+1)*3=qM q*3/\AH λ(i:Nat)=>qU i ((qk x+1)*3)->Ba [(5,5),(4,4),(7,13),(6,6),(0,0),(1,1),(2,2),(3,3)] (L2 (qR q i)) (DQ (qk x) (λ(k:Nat)=>L2 (qw x k)) (λ(aa:Nat)=>[AV.int .i64 (X9.line x),AV.int .i64 (X9.Ao x),AV.int .i64 (3:Int)]) i))/\True)) (∃(q:BH),(qQ l q x)/\Aa/\(X9.rest x=BH.b q::BH.t q/\(Af (some 6)/\qx x=qK q/\Aa)/\fE x q)/\(qO x q)/\(qW x q)/\fD x q/\fC x q)))/\∀(q:BH),I9 l (BH.x9 q)/\some (AV.bv (X9.rest x))=some (AV.bv (qB q))->Al (bif J4 (QR q) (List.length (qB q))then true else false) (True/\Ah (AQ (0:Int) (Zv q)) (Al (BJ .i64 (BH.line q+(Zv q))) (Nat.le (List.length (qd q)) 1000000/\Al (BJ .i64 (qT q)) (Al (J4 (qT q) (List.length (qd q))) (Al (BJ .i64 ((1:Int)+lE q)) (Al (J4 (QR q) (List.length (qB q))) (∃(J:X9),I9 l J/\Nat.le (Nat.succ (qS J)) (qS x)/\Aa/\fF q J/\(Aa/\Aa/\Aa/\Aa/\True/\Aa/\BH.line q+(Zv q)=X9.line J)/\(Aa/\Aa/\Aa/\Aa/\True/\Aa/\(1:Int)+lE q=X9.Ao J)/\fG q J)))))) (Al (BJ .i64 (BH.Ao q+Int.ofNat (List.length (qd q)))) (Al (J4 (QR q) (List.length (qB q))) (∃(J:X9),I9 l J/\Nat.le (Nat.succ (qS J)) (qS x)/\Aa/\fF q J/\(Aa/\Aa/\Aa/\Aa/\True/\Aa/\BH.line q=X9.line J)/\(Aa/\Aa/\Aa/\Aa/\True/\Aa/\BH.Ao q+Int.ofNat (List.length (qd q))=X9.Ao J)/\fG q J))))) (Al (bif bif Nat.ble (qx x*5) (qx x*5)then Ed 5 (qx x) λ(k:Nat)=>JP (qq x k)else false then bif bif Nat.ble (qk x*3) (qk x*3)then Ed 3 (qk x) λ(k:Nat)=>L2 (qw x k)else false then true else false else false) ((Aa/\qx x=List.length (Prod.fst (DV l))/\AH λ(i:Nat)=>Nat.le (Nat.succ i) (qx x)->(Aa/\Tok.kind (qq x i)=Tok.kind (q9 l i))/\Tok.text (qq x i)=Tok.text (q9 l i)/\(Aa/\Tok.num (qq x i)=Tok.num (q9 l i))/\(Aa/\Tok.line (qq x i)=Tok.line (q9 l i))/\(Aa/\Tok.Ao (qq x i)=Tok.Ao (q9 l i))/\True)/\(Aa/\qk x=List.length (Prod.snd (DV l))/\AH λ(i:Nat)=>Nat.le (Nat.succ i) (qk x)->(Aa/\Dg.line (qw x i)=Dg.line (List.getD (Prod.snd (DV l)) i d0))/\(Aa/\Dg.Ao (qw x i)=Dg.Ao (List.getD (Prod.snd (DV l)) i d0))/\(Aa/\Dg.err (qw x i)=Dg.err (List.getD (Prod.snd (DV l)) i d0))/\True)/\True))
:=by
 delta qd qg qk qn qo qq qw qx qA qB qC qE qK qM qO qQ qR qS qT qU qW qZ q9 QR Zv lA lD lE;intro l hl;simp only[Dr,Ea,true_and,and_true,eq_self,implies_true,Nat.le_eq,gF,gD,Int.toNat_natCast,Int.ofNat_eq_natCast,Nat.ble_eq,Nat.ble_self_eq_true,Bool.true_and,fC,fD,Xt,fE,fF,fG,qk,qw,qM,qR,qU,qq,qx,qA,qK,qZ,qo,qB,QR,lC]at hl⊢;have word:=AlB.2.2;refine⟨⟨⟨l,1,1,[],[]⟩,⟨AM _,JU 1,by simp only;omega,JU 1,by simp only;omega,by simp,by simp,rfl⟩,⟨rfl,rfl,rfl,word⟩,rfl,rfl⟩,λx hx=>?_⟩;obtain⟨rest,line,Ao,out,CU⟩:=x;have Y:=hx;obtain⟨h1,h2,h3,h4,h5,h6,h7,h8⟩:=hx;simp only at h1 h2 h3 h4 h5 h6 h7 h8⊢;refine Aw (λR=>?_) λR=>?_
 ·cases rest with
  |nil=>rw[CE]at R;simp at R
  |cons b t=>
   obtain⟨n1,n2⟩:=S0 b t;have S:(J4 ((Bs (b::t)).2:Int) (b::t).length&&true)=true:=by rw[Bool.and_true];exact SK.2 (by omega)
   have V:J4 ((Bs (b::t)).2:Int) (b::t).length=true:=SK.2 (by omega);have ab:(List.take (Bs (b::t)).2 (b::t)).length=(Bs (b::t)).2:=by rw[List.length_take];omega
   have ha:∀(n k:Nat),n<=1000000->k<=48->decide (n+1<=9223372036854775807/\(n+1)*k<=140737488355328)=true:=λn k hn M=>Bi ⟨by omega,by have:=Nat.mul_le_mul_left (n+1) M;omega⟩;refine⟨⟨λh=>(by cases h),by omega⟩,Aw (λM=>?_) λM=>?_,λy hy=>?_⟩
   ·rw[CE]at M;refine At S ⟨by omega,At (ha _ _ (by omega) (by decide)) (Aw (λB=>?_) λB=>?_)⟩
    ·have B:¬(D4 (Bs (b::t)).1 (List.take (Bs (b::t)).2 (b::t))).2.2=0:=by rw[DU]at B;simpa using B
     have L:EP b t line Ao=([⟨(D4 (Bs (b::t)).1 (List.take (Bs (b::t)).2 (b::t))).1,List.take (Bs (b::t)).2 (b::t),(D4 (Bs (b::t)).1 (List.take (Bs (b::t)).2 (b::t))).2.1,line,Ao⟩],[⟨line,Ao,(D4 (Bs (b::t)).1 (List.take (Bs (b::t)).2 (b::t))).2.2⟩]):=by
      unfold EP;dsimp only
      rw[Am M,Ad B]
     obtain⟨E,C⟩:=Zn (out:=out) (CU:=CU) L
     (try rw[HD]at E)
     (try rw[HD]at C)
     refine At (ha _ _ (by omega) (by decide)) ⟨⟨b,t,line,Ao,out,CU⟩,⟨Y,rfl⟩,⟨rfl,?_,?_,word,rfl⟩,rfl,rfl,⟨?_,?_⟩,?_,?_⟩
     ·rw[E];simp
     ·rw[C];simp
     ·rw[E];simp
     ·rw[E];exact Wv (z1 _) rfl rfl
     ·rw[C];simp
     ·rw[C];exact Wv (zX _) rfl rfl
    ·have B:(D4 (Bs (b::t)).1 (List.take (Bs (b::t)).2 (b::t))).2.2=0:=by rw[DU]at B;simpa using B
     have L:EP b t line Ao=([⟨(D4 (Bs (b::t)).1 (List.take (Bs (b::t)).2 (b::t))).1,List.take (Bs (b::t)).2 (b::t),(D4 (Bs (b::t)).1 (List.take (Bs (b::t)).2 (b::t))).2.1,line,Ao⟩],[]):=by
      unfold EP;dsimp only
      rw[Am M,Am B]
     obtain⟨E,C⟩:=Zn (out:=out) (CU:=CU) L
     (try rw[HD]at E)
     (try rw[HD]at C)
     refine⟨⟨b,t,line,Ao,out,CU⟩,⟨Y,rfl⟩,⟨rfl,?_,?_,word,rfl⟩,rfl,rfl,⟨?_,?_⟩,?_,?_⟩
     ·rw[E];simp
     ·rw[C]
     ·rw[E];simp
     ·rw[E];exact Wv (z1 _) rfl rfl
     ·rw[C]
     ·rw[C];exact⟨λi _=>⟨rfl,rfl,rfl⟩⟩
   ·rw[CF]at M;refine At (Cf.2 (by simp)) (Aw (λB=>?_) λB=>?_)
    ·have L:EP b t line Ao=([],[⟨line,Ao,3⟩]):=by
      unfold EP;dsimp only
      rw[Ad (by omega),Ad (by simpa using B)]
     obtain⟨E,C⟩:=Zn (out:=out) (CU:=CU) L
     (try rw[HD]at E)
     (try rw[HD]at C)
     refine At (ha _ _ (by omega) (by decide)) ⟨⟨b,t,line,Ao,out,CU⟩,⟨Y,rfl⟩,⟨rfl,?_,?_,word,rfl⟩,rfl,rfl,⟨?_,?_⟩,?_,?_⟩
     ·rw[E]
     ·rw[C];simp
     ·rw[E]
     ·rw[E];exact⟨λi _=>⟨rfl,rfl,rfl,rfl,rfl⟩⟩
     ·rw[C];simp
     ·rw[C];exact Wv (zX _) rfl rfl
    ·have L:EP b t line Ao=([],[]):=by
      unfold EP;dsimp only
      rw[Ad (by omega),Am (by simpa using B)]
     obtain⟨E,C⟩:=Zn (out:=out) (CU:=CU) L
     (try rw[HD]at E)
     (try rw[HD]at C)
     refine⟨⟨b,t,line,Ao,out,CU⟩,⟨Y,rfl⟩,⟨rfl,?_,?_,word,rfl⟩,rfl,rfl,⟨?_,?_⟩,?_,?_⟩
     ·rw[E]
     ·rw[C]
     ·rw[E]
     ·rw[E];exact⟨λi _=>⟨rfl,rfl,rfl,rfl,rfl⟩⟩
     ·rw[C]
     ·rw[C];exact⟨λi _=>⟨rfl,rfl,rfl⟩⟩
   ·obtain⟨b',t',ag,ai,ah,Z⟩:=y;obtain⟨U,B⟩:=hy;injection B with B;injection B with B;injection B with af ae;subst af;subst ae;have K:=I9.step U;obtain⟨g1,g2,g3,g4,g5,g6,g7,g8⟩:=U;simp only[AE,BH.x9]at g1 g2 g3 g4 g5 g6 g7;by_cases W:b=10
    ·subst W;have hc:Lib.countByte [10] (UInt8.ofNat 10)=1:=by decide
     have ad:KK [10] 10 1=0:=by decide
     rw[Am rfl,Am rfl,Zd]at K;simp only[AkZ];simp only[Zd,hc,List.length_singleton,ad];refine At (by rw[Bool.and_true];exact SK.2 (by simp;omega)) (Aw (λ_=>?_) λh=>absurd h (by decide));refine At (CJ.2 (by omega)) ⟨by decide,At (by decide) (At (by decide) (At (by decide) (At (SK.2 (by simp;omega)) ?_)))⟩;refine⟨_,K,by simp,⟨rfl,rfl,rfl,word⟩,rfl,rfl,⟨rfl,⟨λi _=>⟨rfl,rfl,rfl,rfl,rfl⟩⟩⟩,rfl,⟨λi _=>⟨rfl,rfl,rfl⟩⟩⟩
    ·have hc:Lib.countByte ((b::t).take (Bs (b::t)).2) (UInt8.ofNat 10)=0:=Abu W;rw[Ad W,Ad W]at K;simp only[hc,ab];refine At S (Aw (λh=>absurd h (by decide)) λ_=>?_);simp only[AE]at n2;refine At (CJ.2 (by omega)) (At V ⟨_,K,?_,⟨rfl,rfl,rfl,word⟩,rfl,rfl,⟨rfl,⟨λi _=>⟨rfl,rfl,rfl,rfl,rfl⟩⟩⟩,rfl,⟨λi _=>⟨rfl,rfl,rfl⟩⟩⟩);simp only[HC,AE];omega
 ·obtain rfl:rest=[]:=by rw[CF]at R;cases rest with|nil=>rfl|cons b t=>simp at R;omega
  rw[yF,HD,HD]at h8;rw[Adh,Adf,<-h8];exact At rfl ⟨⟨rfl,⟨λ_ _=>⟨rfl,rfl,rfl,rfl,rfl⟩⟩⟩,rfl,⟨λ_ _=>⟨rfl,rfl,rfl⟩⟩⟩
theorem AhA:∀(l:Ac),l.length<=1000000->(A4 (pj l) 100).call 15 [.bv l] (Bx CI) 4 (Cb Tryz.prog false (yB l)):=Eq.mpr (by kernel_rfl) AhB
theorem ok9:Ck Tryz.prog 15 e9:=by
 refine Fh (gl:=CI) (ng:=4) Qn λH args ct q=>?_;unfold e9 at q;split at q
 ·rename_i l;cases y:Ec H with
  |true=>rw[y]at q;injection q with q;subst q;exact⟨SC y,_,_,rfl,λB=>⟨⟨rfl,trivial⟩,pj l,100,rfl,Bu,AkQ,AhA l B⟩⟩
  |false=>rw[y]at q;cases q
 ·cases q
end Go.Proofs.YtlmmbanfhjaioaaGreatDoor
end
end
