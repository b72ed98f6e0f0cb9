/- Laid by program out of its parts: TkF, TkS, TkG, TkH. -/
import Derived.Test.YtlmmbanfhjaioaaGreatDoorTkE
import Derived.Test.YtlmmbanfhjaioaaGreatDoorMf
noncomputable section
set_option linter.unusedVariables false
set_option linter.unusedSimpArgs false
section
set_option maxRecDepth 100000
set_option linter.unusedSimpArgs false
open Go Go.Ev
namespace Go.Proofs.YtlmmbanfhjaioaaGreatDoor
theorem QJ {H:Tr Ac} (h:DM H=true):∀p∈Cm,H.get p.1=some p.2:=λp q=>by
 unfold DM at h;unfold Cm at q;simp only[List.mem_singleton]at q;subst q;split at h
 ·rename_i l y;rw[y,OL _ _ h]
 ·cases h
theorem NN:∀p∈Cm,Hf p.2=true:=λp q=>by unfold Cm at q;simp only[List.mem_singleton]at q;subst q;rfl
theorem fc:DP Tryz.prog P7:=Cw AhK <| Cw AhL <| Cw AhM <| Cw AhO XT
theorem Aez {P:Program} {call:FuncId->List AV->Tr Ac->Nat->KC->Prop} (q:K2 P call) {g:FuncId} {has:CN->Bool} {val:CN->AV} {z:AV} {gl:List (Nat×Ac)} {ng:Nat} (C:∀p∈gl,Hf p.2=true) (hz:∃E,∀ρ,VR ρ z E) (B:∀k,has k=false->val k=z) (hint:∀n,has (.int n)=false) (Tz:∀k,AR [] (val k) (val k)) {AE:Tr Ac->List AV->Option Ct} (y:∀H args ct,AE H args=some ct->args=[]/\(∀p∈gl,H.get p.1=some p.2)/\ct=.A6 True (.ret (.FN has val z))) {Y:Prop} (J:Y) (K:Y=call g [] (AU gl) ng (YR has val z)):Ci P g AE:=Aey q C hz B hint Tz y (by rw[<-K];exact J)
attribute [local irreducible] Y1
theorem AhJ:Ci Tryz.prog 21 lW:=by
 refine Aez (Y:=Y1) (Is (cx:=D4 P7) AW fc fu) (gl:=Cm) (ng:=4) (has:=GK) (val:=IM) (z:=.agg [.bool false]) NN Apy (λk B=>?_) Vn (λk=>?_) (λH args ct q=>?_) @Aj3 (by kernel_rfl)
 ·cases k with
  |str l=>rw[Vo]at B;rw[Vq,DT,B]
  |int n=>unfold IM;rw[Vn,DT]
 ·cases k with
  |str l=>rw[Vq];generalize Ax (Dm l)=b;exact⟨rfl,trivial⟩
  |int n=>unfold IM;rw[Vn,DT];exact⟨rfl,trivial⟩
 ·unfold lW at q;split at q
  ·cases y:DM H with
   |true=>rw[y]at q;injection q with q;exact⟨rfl,QJ y,q.symm⟩
   |false=>rw[y]at q;cases q
  ·cases q
end Go.Proofs.YtlmmbanfhjaioaaGreatDoor
end
section
set_option maxRecDepth 100000
open Go Go.Ev
namespace Go.Proofs.YtlmmbanfhjaioaaGreatDoor
structure Tok where
 kind:Int
 text:List UInt8
 num:Int
 line:Int
 Ag:Int
structure Dg where
 line:Int
 Ag:Int
 err:Int
def t0:Tok:=⟨0,[],0,0,0⟩
def d0:Dg:=⟨0,0,0⟩
def C6 (kind:Int) (s:List UInt8):Int×Int×Int:=
 if kind=3 then(3,(E0 s).1,if(E0 s).2 then 0 else 9)
 else if kind=1/\Dm s then(2,0,0)else(kind,0,if 32<s.length then 9 else 0)
def Es (b:UInt8) (t:List UInt8) (line Ag:Int):List Tok×List Dg:=
 let k:=Bi (b::t);let s:=(b::t).take k.2;let m:=C6 k.1 s
 if 0<k.1 then([⟨m.1,s,m.2.1,line,Ag⟩],if m.2.2=0 then []else [⟨line,Ag,m.2.2⟩])
 else([],if JR (b.toNat:Int)then []else [⟨line,Ag,3⟩])
def Ow:Nat->List UInt8->Int->Int->List Tok×List Dg
 |0,_,_,_=>([],[])
 |_+1,[],_,_=>([],[])
 |f+1,b::t,line,Ag=>
  let n:=(Bi (b::t)).2;let o:=Es b t line Ag;let r:=Ow f ((b::t).drop n) (if b=10 then line+1 else line) (if b=10 then 1 else Ag+n)
  (o.1++r.1,o.2++r.2)
def Bk (l:List UInt8):List Tok×List Dg:=Ow l.length l 1 1
theorem sN (f:Nat) (b:UInt8) (t:List UInt8) (line Ag:Int):Ow (f+1) (b::t) line Ag= ((Es b t line Ag).1++(Ow f ((b::t).drop (Bi (b::t)).2) (if b=10 then line+1 else line) (if b=10 then 1 else Ag+(Bi (b::t)).2)).1,(Es b t line Ag).2++(Ow f ((b::t).drop (Bi (b::t)).2) (if b=10 then line+1 else line) (if b=10 then 1 else Ag+(Bi (b::t)).2)).2):=rfl
theorem XI {p:Int->Bool} {b:UInt8} {t:List UInt8} (h:p (b.toNat:Int)=true):1<=runN p (b::t):=by rw[runN,if_pos h];omega
theorem TN (b:UInt8) (t:List UInt8):Bi (b::t)=if BW (b.toNat:Int)then(1,runN (λz=>BW z||AZ z) (b::t))else if AZ (b.toNat:Int)then(3,runN AZ (b::t))
  else if(b.toNat:Int)=35 then(0,runN (λz=>!decide (z=10)) (b::t))
  else if(b.toNat:Int)=61/\1<=t.length/\((t.getD 0 0).toNat:Int)=61 then(4,2)else if NX (b.toNat:Int)then(4,1)else(0,1):=rfl
theorem Pb (b:UInt8) (t:List UInt8):1<=(Bi (b::t)).2/\(Bi (b::t)).2<=(b::t).length:=by
 rw[TN];have B:=RO (λz=>BW z||AZ z) (b::t);have y:=RO AZ (b::t);have q:=RO (λz=>!decide (z=10)) (b::t);split
 ·rename_i h;exact⟨XI (p:=λz=>BW z||AZ z) (by show(BW _||AZ _)=true;rw[h];rfl),B⟩
 ·split
  ·rename_i h;exact⟨XI (p:=AZ) h,y⟩
  ·split
   ·rename_i h;exact⟨XI (p:=λz=>!decide (z=10)) (by show(!decide (_=(10:Int)))=true;rw[h];rfl),q⟩
   ·split
    ·rename_i h;simp;omega
    ·split<;>simp
theorem AbW:∀(f g:Nat) (l:List UInt8) (line Ag:Int),l.length<=f->l.length<=g->Ow f l line Ag=Ow g l line Ag
 |0,g,[],line,Ag,_,_=>by cases g<;>rfl
 |f+1,g,[],line,Ag,_,_=>by cases g<;>rfl
 |f+1,0,b::t,line,Ag,_,h=>by simp at h
 |0,g,b::t,line,Ag,h,_=>by simp at h
 |f+1,g+1,b::t,line,Ag,B,y=>by have q:=Pb b t;simp only[List.length_cons]at B y q;rw[sN,sN,AbW f g _ _ _ (by rw[List.length_drop];simp only[List.length_cons];omega) (by rw[List.length_drop];simp only[List.length_cons];omega)]
def KT (l:List UInt8) (line Ag:Int):List Tok×List Dg:=Ow l.length l line Ag
theorem sO (line Ag:Int):KT [] line Ag=([],[]):=rfl
theorem fC (b:UInt8) (t:List UInt8) (line Ag:Int):KT (b::t) line Ag= ((Es b t line Ag).1++(KT ((b::t).drop (Bi (b::t)).2) (if b=10 then line+1 else line) (if b=10 then 1 else Ag+(Bi (b::t)).2)).1,(Es b t line Ag).2++(KT ((b::t).drop (Bi (b::t)).2) (if b=10 then line+1 else line) (if b=10 then 1 else Ag+(Bi (b::t)).2)).2):=by have q:=Pb b t;simp only[List.length_cons]at q;show Ow (t.length+1) (b::t) line Ag=_;rw[sN,AbW t.length ((b::t).drop (Bi (b::t)).2).length _ _ _ (by rw[List.length_drop];simp only[List.length_cons];omega) (Nat.le_refl _)];rfl
theorem XH {p:Int->Bool}:∀(l:List UInt8),∀x∈l.take (runN p l),p (x.toNat:Int)=true
 | [],x,h=>by simp at h
 |b::l,x,h=>by
  rw[runN]at h;by_cases hb:p (b.toNat:Int)=true
  ·rw[if_pos hb,List.take_succ_cons,List.mem_cons]at h;rcases h with rfl|h
   ·exact hb
   ·exact XH l x h
  ·rw[if_neg hb]at h;simp at h
theorem cn (t:List UInt8):Bi (10::t)=(0,1):=by rw[TN];rw[if_neg (by decide),if_neg (by decide),if_neg (by decide),if_neg (by rintro⟨h,_⟩;revert h;decide),if_neg (by decide)]
theorem og {p:Int->Bool} (q:p 10=false) {x:UInt8} (h:p (x.toNat:Int)=true):x≠10:=by rintro rfl;exact absurd h (by show¬p 10=true;rw[q];simp)
theorem AhD {b:UInt8} {t:List UInt8} (hb:b≠10):∀x∈(b::t).take (Bi (b::t)).2,x≠10:=by
 have one:∀x∈(b::t).take 1,x≠10:=λx q=>by simp at q;rw[q];exact hb
 rw[TN];split
 ·exactλx q=>og (p:=λz=>BW z||AZ z) (by decide) (XH (p:=λz=>BW z||AZ z) (b::t) x q)
 ·split
  ·exactλx q=>og (p:=AZ) (by decide) (XH (p:=AZ) (b::t) x q)
  ·split
   ·exactλx q=>og (p:=λz=>!decide (z=10)) (by decide) (XH (p:=λz=>!decide (z=10)) (b::t) x q)
   ·split
    ·rename_i h;obtain⟨_,B,y⟩:=h;cases t with
     |nil=>simp at B
     |cons c t=>
      intro x q;simp only[List.take_succ_cons,List.take_zero,List.mem_cons,List.not_mem_nil,or_false]at q;rcases q with rfl|rfl
      ·exact hb
      ·rintro rfl;simp at y
    ·split
     ·exact one
     ·exact one
theorem Aek {b:UInt8} {t:List UInt8} (hb:b≠10):Lib.countByte ((b::t).take (Bi (b::t)).2) 10=0:=by unfold Lib.countByte;exact List.count_eq_zero.2 λh=>AhD hb _ h rfl
theorem AoD (t:List UInt8):(10::t).take (Bi (10::t)).2=[10]:=by rw[cn];rfl
end Go.Proofs.YtlmmbanfhjaioaaGreatDoor
end
section
set_option maxRecDepth 100000
set_option linter.unusedSimpArgs false
open Go Go.Ev
namespace Go.Proofs.YtlmmbanfhjaioaaGreatDoor
def Vc:DQ:=(58,S7)::(21,lW)::P7
def Dq (t:Tok):List AV:=[.int .i64 t.kind,.bs t.text,.int .i64 t.num,.int .i64 t.line,.int .i64 t.Ag]
def EW (t:Dg):List AV:=[.int .i64 t.line,.int .i64 t.Ag,.int .i64 t.err]
def l4:Tr Ac->List AV->Option Ct:=λ_ args=>match args with
 | [.int .i64 k,.bs s,.FN has val z]=>some (.A6 (has=GK/\val=IM/\z=.agg [.bool false]/\s.length<=1000000) (.ret (.AL [.agg [.int .i64 (AY (C6 k s).1),.bs s,.int .i64 (AY (C6 k s).2.1),.int .i64 0,.int .i64 0],.int .i64 (AY (C6 k s).2.2)])))
 |_=>none
def lV:Tr Ac->List AV->Option Ct:=λ_ args=>match args with
 | [.bs s]=>some (.A6 True (.ret (.bool (Ax (Dm s)))))
 |_=>none
def Zp (s:List UInt8) (x:Bool):List (List UInt8)->Prop
 | []=>false=x
 |w::ws=>Ad (decide (w=s)) (true=x) (Zp s x ws)
theorem AhG:Ci Tryz.prog 58 S7:=by
 refine EN (gl:=[]) (ng:=0) BQ λH args ct q=>?_;unfold S7 at q;split at q
 ·rename_i l;injection q with q;subst q;exact⟨BQ,_,_,rfl,λy=>⟨⟨rfl,trivial⟩,JU P7 58 3 (uF l),60,rfl,AW,fc,by rw[DT];exact AjY l y⟩⟩
 ·cases q
theorem AhH:Ci Tryz.prog 34 S7:=by
 refine EN (gl:=[]) (ng:=0) BQ λH args ct q=>?_;unfold S7 at q;split at q
 ·rename_i l;injection q with q;subst q;exact⟨BQ,_,_,rfl,λy=>⟨⟨rfl,trivial⟩,JU P7 34 3 (uG l),60,rfl,AW,fc,by rw[DT];exact Aj0 l y⟩⟩
 ·cases q
theorem lI (s:List UInt8) (x:Bool):∀ws:List (List UInt8),(x=ws.any λw=>decide (s=w))->Zp s x ws
 | [],h=>h.symm
 |w::ws,h=>by
  rw[List.any_cons]at h;refine Aj (λq=>?_) λq=>?_
  ·rw[decide_eq_true_eq]at q;subst q;rw[h];simp
  ·refine lI s x ws ?_;rw[decide_eq_false_iff_not]at q;rw[h,decide_eq_false (λe=>q e.symm),Bool.false_or]
def uB (s:List UInt8):Prop:=(AG (D4 []) 200).call 33 [.bs s] .leaf 0 (Ch Tryz.prog false (.bool (Dm s)))
theorem Aj2 (s:List UInt8):uB s:=Eq.mpr (show uB s=Zp s (Dm s) Nt by kernel_rfl) (lI s _ Nt rfl)
theorem AhI:Ci Tryz.prog 33 lV:=by
 refine EN (gl:=[]) (ng:=0) BQ λH args ct q=>?_;unfold lV at q;split at q
 ·rename_i l;injection q with q;subst q;exact⟨BQ,_,_,rfl,λ_=>⟨⟨rfl,trivial⟩,D4 [],200,rfl,AW,Bc,by rw[DT];exact Aj2 l⟩⟩
 ·cases q
def Pl:=(Aa/\Ab (0:Int))
@[reducible] def jw:Int->List UInt8->Prop:=λ(k:Int) (s:List UInt8)=>(Aa/\k=Prod.fst (C6 k s))/\s=s/\(Aa/\(0:Int)=Prod.fst (Prod.snd (C6 k s)))/\Pl/\Pl/\True
@[reducible] def jx:Int->List UInt8->Prop:=λ(k:Int) (s:List UInt8)=>(Aa/\k=Prod.fst (C6 k s))/\s=s/\(Aa/\Prod.fst (E0 s)=Prod.fst (Prod.snd (C6 k s)))/\Pl/\Pl/\True
def Q6 (a:Int) (b:List UInt8):=Prod.snd (Prod.snd (C6 a b))
@[reducible] def jy:Int->List UInt8->Prop:=λ(k:Int) (s:List UInt8)=>jw k s/\(Aa/\(0:Int)=Q6 k s)/\True
@[reducible] def jz:Int->List UInt8->Prop:=λ(k:Int) (s:List UInt8)=>jw k s/\(Aa/\(9:Int)=Q6 k s)/\True
theorem Akb:∀(k:Int) (s:List UInt8),qI s->Ad (Ak k (3:Int)) (qI s/\Ad (!Ax (Prod.snd (E0 s))) (jx k s/\(Aa/\(9:Int)=Q6 k s)/\True) (jx k s/\(Aa/\(0:Int)=Q6 k s)/\True)) (Ad (Ak k (1:Int)) (Ad (Ax (GK (CN.str s))) (((Aa/\(2:Int)=Prod.fst (C6 k s))/\s=s/\(Aa/\(0:Int)=Prod.fst (Prod.snd (C6 k s)))/\Pl/\Pl/\True)/\(Aa/\(0:Int)=Q6 k s)/\True) (Ad (AP (32:Int) (qY s)) (jz k s) (jy k s))) (Ad (AP (32:Int) (qY s)) (jz k s) (jy k s)))
:=by
 delta qI qY Pl Q6;intro k s y;simp only[Nat.le_eq]at y;simp only[A9,jw,jx,jy,jz,Pl,Q6];simp only[FH,Dt,EG,Vo];unfold C6;by_cases B:k=3
 ·subst B;cases hn:(E0 s).2<;>simp[y]
 ·by_cases C:k=1
  ·subst C;cases hw:Dm s<;>by_cases q:32<s.length<;>simp[q]<;>omega
  ·by_cases q:32<s.length<;>simp[C,B,q]<;>omega
theorem Aka:∀(k:Int) (s:List UInt8),s.length<=1000000->(AG (D4 Vc) 100).call 26 [.int .i64 k,.bs s,Sa] .leaf 0 (Ch Tryz.prog false (.AL [.agg (Dq ⟨(C6 k s).1,s,(C6 k s).2.1,0,0⟩),.int .i64 (C6 k s).2.2])):=Eq.mpr (by kernel_rfl) Akb
theorem Ao4:AR [] Sa Sa:=by
 unfold Sa;rw[AR];refine⟨λ_=>rfl,λk=>?_,λk q=>?_⟩
 ·cases k with
  |str l=>rw[Vq];generalize Ax (Dm l)=b;exact⟨rfl,trivial⟩
  |int n=>unfold IM;rw[Vn,DT];exact⟨rfl,trivial⟩
 ·cases k with
  |str l=>rw[Vo]at q;rw[Vq,DT,q];exact .inl rfl
  |int n=>unfold IM;rw[Vn,DT];exact .inl rfl
theorem s9:DP Tryz.prog Vc:=Cw AhG <| Cw AhJ fc
theorem AhN:Ci Tryz.prog 26 l4:=by
 refine EN (gl:=[]) (ng:=0) BQ λH args ct q=>?_;unfold l4 at q;split at q
 ·rename_i k s has val z;injection q with q;subst q;refine⟨BQ,_,_,rfl,?_⟩;rintro⟨rfl,rfl,rfl,y⟩;exact⟨⟨⟨rfl,rfl⟩,rfl,Ao4,trivial⟩,D4 Vc,100,rfl,AW,s9,by rw[Du,Du,Du];exact Aka k s y⟩
 ·cases q
end Go.Proofs.YtlmmbanfhjaioaaGreatDoor
end
section
set_option maxRecDepth 100000
open Go Go.Ev
namespace Go.Proofs.YtlmmbanfhjaioaaGreatDoor
def sa:DQ:=(26,l4)::(34,S7)::(33,lV)::Vc
structure X9 where
 rest:List UInt8
 line:Int
 Ag:Int
 out:List Tok
 Bx:List Dg
structure I9 (l:List UInt8) (x:X9):Prop where
 le:x.rest.length<=l.length
 Ag0:1<=x.line
 Ag1:x.line+x.rest.length<=l.length+1
 ApG:1<=x.Ag
 ApH:x.Ag+x.rest.length<=l.length+1
 out:x.out.length+x.rest.length<=l.length
 Bx:x.Bx.length+x.rest.length<=l.length
 V0:(x.out++(KT x.rest x.line x.Ag).1,x.Bx++(KT x.rest x.line x.Ag).2)=Bk l
def S9 (l:List UInt8):CV:={X:=X9,T:=λ_ n0 x=>[(0,.bv x.rest),(2,.AJ (n0+2) x.out.length 5),(3,.AJ (n0+3) x.Bx.length 3),(4,Sa),(5,.ptr n0 0),(6,.ptr (n0+1) 0),(7,.fn (.func 22) [] [.ptr n0 0,.ptr (n0+1) 0])],H:=λ_ n0 x=>[(n0,.cells 3 .leaf (.CC [.int .i64 x.line]) 1 false),(n0+1,.cells 3 .leaf (.CC [.int .i64 x.Ag]) 1 false),(n0+2,.cells 60 .leaf (.rows 5 λk=>Dq (x.out.getD k t0)) (x.out.length*5) true),(n0+3,.cells 48 .leaf (.rows 3 λk=>EW (x.Bx.getD k d0)) (x.Bx.length*3) true)],nx:=λ_ n0=>n0+4,I:=λ_=>I9 l,m:=λx=>x.rest.length}
structure BE where
 b:UInt8
 t:List UInt8
 line:Int
 Ag:Int
 AaX:List Tok
 Adc:List Dg
def BE.x9 (x:BE):X9:=⟨x.b::x.t,x.line,x.Ag,x.AaX,x.Adc⟩
def BE.out (x:BE):List Tok:=x.AaX++(Es x.b x.t x.line x.Ag).1
def BE.Bx (x:BE):List Dg:=x.Adc++(Es x.b x.t x.line x.Ag).2
def C14 (l:List UInt8):CV:={X:=BE,T:=λ_ n0 x=>[(0,.bv (x.b::x.t)),(2,.AJ (n0+2) x.out.length 5),(3,.AJ (n0+3) x.Bx.length 3),(4,Sa),(5,.ptr n0 0),(6,.ptr (n0+1) 0),(7,.fn (.func 22) [] [.ptr n0 0,.ptr (n0+1) 0]),(9,.int .i64 (Bi (x.b::x.t)).2)],H:=λ_ n0 x=>[(n0,.cells 3 .leaf (.CC [.int .i64 x.line]) 1 false),(n0+1,.cells 3 .leaf (.CC [.int .i64 x.Ag]) 1 false),(n0+2,.cells 60 .leaf (.rows 5 λk=>Dq (x.out.getD k t0)) (x.out.length*5) true),(n0+3,.cells 48 .leaf (.rows 3 λk=>EW (x.Bx.getD k d0)) (x.Bx.length*3) true)],nx:=λ_ n0=>n0+4,I:=λs x=>I9 l x.x9/\s.T.get 0=some (.bv (x.b::x.t)),m:=λ_=>0}
def ve (l:List UInt8):Ctx:={P:=Tryz.prog,tb:=sa,lp:=λf r=>cond (Nat.beq f 15) (cond (Nat.beq r 4) (some (S9 l)) none) none,cut:=λf r=>cond (Nat.beq f 15) (cond (Nat.beq r 14) (some (C14 l)) none) none}
def AoJ (l:List Tok):AV:=.vec 5 l.length λk=>Dq (l.getD k t0)
def Qv (l:List Dg):AV:=.vec 3 l.length λk=>EW (l.getD k d0)
def fA (l:List UInt8):AV:=.AL [AoJ (Bk l).1,Qv (Bk l).2]
def e9:Tr Ac->List AV->Option Ct:=λH args=>match args with
 | [.bv l]=>cond (DM H) (some (.A6 (l.length<=1000000) (.ret (fA l)))) none
 |_=>none
theorem Acn:DP Tryz.prog sa:=Cw AhN <| Cw AhH <| Cw AhI s9
theorem tL (q:List (Nat×Nat)) (t:Tok):AH q (Dq t) (Dq t):=⟨⟨rfl,rfl⟩,rfl,⟨rfl,rfl⟩,⟨rfl,rfl⟩,⟨rfl,rfl⟩,trivial⟩
theorem ft (q:List (Nat×Nat)) (t:Dg):AH q (EW t) (EW t):=⟨⟨rfl,rfl⟩,⟨rfl,rfl⟩,⟨rfl,rfl⟩,trivial⟩
theorem Apn:((∀k:CN,GK k=GK k)/\(∀k:CN,Ax (GK k)=Ax (GK k)/\True)/\∀k:CN,GK k=false->gH (AV.agg [AV.bool false]) (IM k)):=⟨λ_=>rfl,λ_=>⟨rfl,trivial⟩,λk q=>by cases k with
  |str l=>rw[Vo]at q;rw[Vq,DT,q];exact .inl rfl
  |int n=>unfold IM;rw[Vn,DT];exact .inl rfl⟩
theorem xn (l:List Tok) (n:Nat):Ds 5 n (λk=>Dq (l.getD k t0))=true:=decide_eq_true λ_ _=>rfl
theorem xl (l:List Dg) (n:Nat):Ds 3 n (λk=>EW (l.getD k d0))=true:=decide_eq_true λ_ _=>rfl
theorem dD {b:UInt8} {t:List UInt8} {line Ag:Int} {out:List Tok} {Bx:List Dg} {a:List Tok} {c:List Dg} (h:Es b t line Ag=(a,c)): BE.out ⟨b,t,line,Ag,out,Bx⟩=out++a/\BE.Bx ⟨b,t,line,Ag,out,Bx⟩=Bx++c:=by
 constructor
 ·show out++(Es b t line Ag).1=_;rw[h]
 ·show Bx++(Es b t line Ag).2=_;rw[h]
theorem pE (b:UInt8) (t:List UInt8) (line Ag:Int):(Es b t line Ag).1.length<=1/\(Es b t line Ag).2.length<=1:=by
 unfold Es;dsimp only
 split
 ·exact⟨Nat.le_refl _,by dsimp only;split<;>simp⟩
 ·exact⟨Nat.zero_le _,by dsimp only;split<;>simp⟩
theorem I9.step {l:List UInt8} {b:UInt8} {t:List UInt8} {line Ag:Int} {out:List Tok} {Bx:List Dg} (h:I9 l ⟨b::t,line,Ag,out,Bx⟩): I9 l ⟨(b::t).drop (Bi (b::t)).2,if b=10 then line+1 else line,if b=10 then 1 else Ag+(Bi (b::t)).2,out++(Es b t line Ag).1,Bx++(Es b t line Ag).2⟩:=by
 obtain⟨O,M,L,K,J,E,C,B⟩:=h;obtain⟨n1,y⟩:=Pb b t;obtain⟨S,R⟩:=pE b t line Ag;simp only[List.length_cons]at O M L K J E C y;have q:((b::t).drop (Bi (b::t)).2).length=t.length+1-(Bi (b::t)).2:=by rw[List.length_drop,List.length_cons]
 refine⟨?_,?_,?_,?_,?_,?_,?_,?_⟩
 ·simp only[q];omega
 ·simp only;split<;>omega
 ·simp only[q];split<;>omega
 ·simp only;split<;>omega
 ·simp only[q];split<;>omega
 ·simp only[q,List.length_append];omega
 ·simp only[q,List.length_append];omega
 ·rw[<-B,fC];simp only[List.append_assoc]
def qn (a:X9):=List.length (X9.Bx a)
def qJ (a:X9) (b:Nat):=List.getD (X9.Bx a) b d0
def qK (a:Nat):=Nat.le (Nat.succ (a*3))
def qV (a:BE):=List.length (BE.Bx a)
def q8 (a:BE) (b:Nat):=List.getD (BE.Bx a) b d0
@[reducible] def kA:X9->BE->Prop:=λ(a:X9) (q:BE)=>(Aa/\Aa/\Aa/\Aa/\qn a*3=qV q*3/\Au λ(i:Nat)=>qK i (qn a*3)->(Aa/\Dg.line (qJ a i)=Dg.line (q8 q i))/\(Aa/\Dg.Ag (qJ a i)=Dg.Ag (q8 q i))/\(Aa/\Dg.err (qJ a i)=Dg.err (q8 q i))/\True)/\True
def qA (a:X9):=List.length (X9.out a)
def qB (a:X9) (b:Nat):=List.getD (X9.out a) b t0
def qN (a:BE) (b:Nat):=List.getD (BE.out a) b t0
def qU (a:BE):=List.length (BE.out a)
def L7 (a:Nat):=Nat.le (Nat.succ (a*5))
@[reducible] def kC:X9->BE->Prop:=λ(a:X9) (q:BE)=>Aa/\Aa/\Aa/\Aa/\qA a*5=qU q*5/\Au λ(i:Nat)=>L7 i (qA a*5)->(Aa/\Tok.kind (qB a i)=Tok.kind (qN q i))/\Tok.text (qB a i)=Tok.text (qN q i)/\(Aa/\Tok.num (qB a i)=Tok.num (qN q i))/\(Aa/\Tok.line (qB a i)=Tok.line (qN q i))/\(Aa/\Tok.Ag (qB a i)=Tok.Ag (qN q i))/\True
def qr:=((∀(E:CN),Ab (GK E))/\(∀(C:CN),Ab (Ax (GK C))/\True)/\∀(q:CN),GK q=false->IM q=AV.agg [AV.bool false]\/AV.agg [AV.bool false]=AV.As/\∃(B:Nat),∃(y:Nat->List AV),IM q=AV.vec B 0 y)
def qO (a:BE):=(BE.b a::BE.t a)
def Q5 (a:BE):=(↑(Prod.snd (Bi (qO a))):Int)
def pT:=(Aa/\True/\(Ab (some 4)/\Aa)/\(Ab (some 5)/\Aa)/\True)
@[reducible] def YU:X9->BE->Prop:=λ(a:X9) (q:BE)=>qr/\(Ab (some 4)/\Aa)/\(Ab (some 5)/\Aa)/\pT/\(Aa/\(↑(AY (Prod.snd (Bi (X9.rest a)))):Int)=(Q5 q))/\True
@[reducible] def kD:X9->BE->Prop:=λ(a:X9) (q:BE)=>(Ab (some 7)/\qn a=qV q/\Aa)/\YU a q
@[reducible] def kE:BE->X9->Prop:=λ(a:BE) (q:X9)=>List.drop (Int.toNat (Q5 a)) (qO a)=X9.rest q/\(Ab (some 6)/\qU a=qA q/\Aa)/\(Ab (some 7)/\qV a=qn q/\Aa)/\qr/\(Ab (some 4)/\Aa)/\(Ab (some 5)/\Aa)/\pT/\True
@[reducible] def kF:BE->X9->Prop:=λ(a:BE) (q:X9)=>(Aa/\Aa/\Aa/\Aa/\qU a*5=qA q*5/\Au λ(i:Nat)=>L7 i (qU a*5)->(Aa/\Tok.kind (qN a i)=Tok.kind (qB q i))/\Tok.text (qN a i)=Tok.text (qB q i)/\(Aa/\Tok.num (qN a i)=Tok.num (qB q i))/\(Aa/\Tok.line (qN a i)=Tok.line (qB q i))/\(Aa/\Tok.Ag (qN a i)=Tok.Ag (qB q i))/\True)/\(Aa/\Aa/\Aa/\Aa/\qV a*3=qn q*3/\Au λ(i:Nat)=>qK i (qV a*3)->(Aa/\Dg.line (q8 a i)=Dg.line (qJ q i))/\(Aa/\Dg.Ag (q8 a i)=Dg.Ag (qJ q i))/\(Aa/\Dg.err (q8 a i)=Dg.err (qJ q i))/\True)/\True
def qb (a:BE):=List.take (Int.toNat (↑(Prod.snd (Bi (BE.b a::BE.t a))):Int)) (BE.b a::BE.t a)
def qk (a:X9):=List.take (Int.toNat (↑(AY (Prod.snd (Bi (X9.rest a)))):Int)) (X9.rest a)
def qu (a:X9):=B0 (List.length (X9.out a)) (λ(q:Nat)=>Dq (List.getD (X9.out a) q t0)) (λ(y:Nat)=>[AV.int .i64 (AY (Prod.fst (C6 (AY (Prod.fst (Bi (X9.rest a)))) (qk a)))),AV.bs (qk a),AV.int .i64 (AY (Prod.fst (Prod.snd (C6 (AY (Prod.fst (Bi (X9.rest a)))) (qk a))))),AV.int .i64 (X9.line a),AV.int .i64 (X9.Ag a)])
def qG (a:List UInt8) (b:Nat):=List.getD (Prod.fst (Bk a)) b t0
def qR (a:X9):=Ap (bif bif Nat.ble (qn a*3) (qn a*3)then true else false then decide (List.length (X9.Bx a)+1<=9223372036854775807/\(List.length (X9.Bx a)+1)*24<=140737488355328)else false)
def qZ (a:X9) (b:BE):=(Aa/\Aa/\Aa/\Aa/\True/\Aa/\X9.line a=BE.line b)
def q9 (a:X9):=List.length (X9.rest a)
def dN (a:BE):=(Kw (qb a) (10:Int) (List.length (qb a))+1)
def Xe (a:List UInt8) (b:BE) (c:X9):=(I9 a (BE.x9 b)/\some (AV.bv (X9.rest c))=some (AV.bv (qO b)))
def Pk (a:List UInt8) (b:Nat):=List.getD (Prod.snd (Bk a)) b d0
def Xg (a:X9) (b:BE):=(Aa/\Aa/\Aa/\Aa/\True/\Aa/\X9.Ag a=BE.Ag b)
def dP (a:BE):=(↑(Lib.countByte (qb a) (UInt8.ofNat 10)):Int)
def pS (a:X9):=AY (Prod.snd (Prod.snd (C6 (AY (Prod.fst (Bi (X9.rest a)))) (qk a))))
def pU:=AH [(5,5),(4,4),(7,23),(6,21),(0,0),(1,1),(2,2),(3,3)]
def pV (a:BE):=Int.ofNat (List.length (List.drop (Int.toNat (dN a)) (qb a)))
theorem AkB:∀(l:List UInt8),qI l->True/\(∃(O:X9),I9 l O/\Aa/\(l=X9.rest O/\qA O=0/\qn O=0/\qr/\(Ab (some 6)/\Aa)/\(Ab (some 7)/\Aa)/\(Aa/\True/\(Ab (some 6)/\Aa)/\(Ab (some 7)/\Aa)/\True)/\True)/\(Aa/\Aa/\Aa/\Aa/\True/\Aa/\(1:Int)=X9.line O)/\(Aa/\Aa/\Aa/\Aa/\True/\Aa/\(1:Int)=X9.Ag O)/\(Aa/\True)/\(Aa/\True)/\True)/\∀(x:X9),I9 l x->Ad (AP (0:Int) (Int.ofNat (q9 x))) (((X9.rest x=[]->False)/\Nat.le (q9 x) 1000000)/\Ad (AP (0:Int) (AY (Prod.fst (Bi (X9.rest x))))) (Ap (bif Iu (↑(AY (Prod.snd (Bi (X9.rest x)))):Int) (q9 x)then true else false) ((Ab GK/\Ab IM/\Ab (AV.agg [AV.bool false])/\Nat.le (List.length (qk x)) 1000000)/\(((True/\True/\True)/\True)/\((True/\True/\True)/\True)/\((Ab (AV.int .i64 (X9.Ag x))/\True/\True)/\True)/\True)/\Ap (bif bif Nat.ble (qA x*5) (qA x*5)then true else false then decide (List.length (X9.out x)+1<=9223372036854775807/\(List.length (X9.out x)+1)*48<=140737488355328)else false) (Ad (!Ak (pS x) (0:Int)) (qR x (∃(q:BE),(Xe l q x)/\Aa/\(X9.rest x=BE.b q::BE.t q/\(Ab (some 21)/\qA x+1=qU q/\Aa)/\(Ab (some 23)/\qn x+1=qV q/\Aa)/\YU x q)/\(qZ x q)/\(Xg x q)/\(Aa/\Aa/\Aa/\Aa/\(qA x+1)*5=qU q*5/\Au λ(i:Nat)=>L7 i ((qA x+1)*5)->pU (Dq (qN q i)) (qu x i))/\(Aa/\Aa/\Aa/\Aa/\(qn x+1)*3=qV q*3/\Au λ(i:Nat)=>qK i ((qn x+1)*3)->pU (EW (q8 q i)) (B0 (qn x) (λ(k:Nat)=>EW (qJ x k)) (λ(aa:Nat)=>[AV.int .i64 (X9.line x),AV.int .i64 (X9.Ag x),AV.int .i64 (pS x)]) i))/\True)) (∃(q:BE),(Xe l q x)/\Aa/\(X9.rest x=BE.b q::BE.t q/\(Ab (some 21)/\qA x+1=qU q/\Aa)/\kD x q)/\(qZ x q)/\(Xg x q)/\(Aa/\Aa/\Aa/\Aa/\(qA x+1)*5=qU q*5/\Au λ(i:Nat)=>L7 i ((qA x+1)*5)->AH [(5,5),(4,4),(7,7),(6,21),(0,0),(1,1),(2,2),(3,3)] (Dq (qN q i)) (qu x i))/\kA x q)))) (Ap (Bn (0:Int) (q9 x)) (True/\Ad (!Ax (JR (↑(UInt8.toNat (List.getD (X9.rest x) 0 (0:UInt8))):Int))) (qR x (∃(q:BE),(Xe l q x)/\Aa/\(X9.rest x=BE.b q::BE.t q/\(Ab (some 6)/\qA x=qU q/\Aa)/\(Ab (some 13)/\qn x+1=qV q/\Aa)/\YU x q)/\(qZ x q)/\(Xg x q)/\kC x q/\(Aa/\Aa/\Aa/\Aa/\(qn x+1)*3=qV q*3/\Au λ(i:Nat)=>qK i ((qn x+1)*3)->AH [(5,5),(4,4),(7,13),(6,6),(0,0),(1,1),(2,2),(3,3)] (EW (q8 q i)) (B0 (qn x) (λ(k:Nat)=>EW (qJ x k)) (λ(aa:Nat)=>[AV.int .i64 (X9.line x),AV.int .i64 (X9.Ag x),AV.int .i64 (3:Int)]) i))/\True)) (∃(q:BE),(Xe l q x)/\Aa/\(X9.rest x=BE.b q::BE.t q/\(Ab (some 6)/\qA x=qU q/\Aa)/\kD x q)/\(qZ x q)/\(Xg x q)/\kC x q/\kA x q)))/\∀(q:BE),I9 l (BE.x9 q)/\some (AV.bv (X9.rest x))=some (AV.bv (qO q))->Ap (bif Iu (Q5 q) (List.length (qO q))then true else false) (True/\Ad (AP (0:Int) (dP q)) (Ap (Bo .i64 (BE.line q+(dP q))) (Nat.le (List.length (qb q)) 1000000/\Ap (Bo .i64 (dN q)) (Ap (Iu (dN q) (List.length (qb q))) (Ap (Bo .i64 ((1:Int)+pV q)) (Ap (Iu (Q5 q) (List.length (qO q))) (∃(J:X9),I9 l J/\Nat.le (Nat.succ (q9 J)) (q9 x)/\Aa/\kE q J/\(Aa/\Aa/\Aa/\Aa/\True/\Aa/\BE.line q+(dP q)=X9.line J)/\(Aa/\Aa/\Aa/\Aa/\True/\Aa/\(1:Int)+pV q=X9.Ag J)/\kF q J)))))) (Ap (Bo .i64 (BE.Ag q+Int.ofNat (List.length (qb q)))) (Ap (Iu (Q5 q) (List.length (qO q))) (∃(J:X9),I9 l J/\Nat.le (Nat.succ (q9 J)) (q9 x)/\Aa/\kE q J/\(Aa/\Aa/\Aa/\Aa/\True/\Aa/\BE.line q=X9.line J)/\(Aa/\Aa/\Aa/\Aa/\True/\Aa/\BE.Ag q+Int.ofNat (List.length (qb q))=X9.Ag J)/\kF q J))))) (Ap (bif bif Nat.ble (qA x*5) (qA x*5)then Ds 5 (qA x) λ(k:Nat)=>Dq (qB x k)else false then bif bif Nat.ble (qn x*3) (qn x*3)then Ds 3 (qn x) λ(k:Nat)=>EW (qJ x k)else false then true else false else false) ((Aa/\qA x=List.length (Prod.fst (Bk l))/\Au λ(i:Nat)=>M8 i (qA x)->(Aa/\Tok.kind (qB x i)=Tok.kind (qG l i))/\Tok.text (qB x i)=Tok.text (qG l i)/\(Aa/\Tok.num (qB x i)=Tok.num (qG l i))/\(Aa/\Tok.line (qB x i)=Tok.line (qG l i))/\(Aa/\Tok.Ag (qB x i)=Tok.Ag (qG l i))/\True)/\(Aa/\qn x=List.length (Prod.snd (Bk l))/\Au λ(i:Nat)=>M8 i (qn x)->(Aa/\Dg.line (qJ x i)=Dg.line (Pk l i))/\(Aa/\Dg.Ag (qJ x i)=Dg.Ag (Pk l i))/\(Aa/\Dg.err (qJ x i)=Dg.err (Pk l i))/\True)/\True))
:=by
 delta qb qk qn qr qu qA qB qG qI qJ qK qN qO qR qU qV qZ q8 q9 dN Xe Pk L7 Xg Q5 dP pS M8 pU pV;intro l hl;simp only[Du,DT,true_and,and_true,eq_self,implies_true,Nat.le_eq,Zu,Zt,Int.toNat_natCast,Int.ofNat_eq_natCast,Nat.ble_eq,Nat.ble_self_eq_true,Bool.true_and,kA,kC,YU,kD,kE,kF,qn,qJ,qK,qV,q8,qA,qB,qN,qU,L7,qr,qO,Q5,pT]at hl⊢;have word:=Apn.2.2;refine⟨⟨⟨l,1,1,[],[]⟩,⟨Nat.le_refl _,Int.le_refl 1,by simp only;omega,Int.le_refl 1,by simp only;omega,by simp,by simp,rfl⟩,⟨rfl,rfl,rfl,word⟩,rfl,rfl⟩,λx hx=>?_⟩;obtain⟨rest,line,Ag,out,Bx⟩:=x;have W:=hx;obtain⟨h1,h2,h3,h4,h5,h6,h7,h8⟩:=hx;simp only at h1 h2 h3 h4 h5 h6 h7 h8⊢;refine Aj (λR=>?_) λR=>?_
 ·cases rest with
  |nil=>rw[B1]at R;simp at R
  |cons b t=>
   obtain⟨n1,n2⟩:=Pb b t;have S:(Iu ((Bi (b::t)).2:Int) (b::t).length&&true)=true:=by rw[Bool.and_true];exact Jt.2 (by omega)
   have V:Iu ((Bi (b::t)).2:Int) (b::t).length=true:=Jt.2 (by omega);have ab:(List.take (Bi (b::t)).2 (b::t)).length=(Bi (b::t)).2:=by rw[List.length_take];omega
   have Z:∀(n k:Nat),n<=1000000->k<=48->decide (n+1<=9223372036854775807/\(n+1)*k<=140737488355328)=true:=λn k hn M=>decide_eq_true ⟨by omega,by have:=Nat.mul_le_mul_left (n+1) M;omega⟩;refine⟨⟨λh=>(by cases h),by omega⟩,Aj (λM=>?_) λM=>?_,λy hy=>?_⟩
   ·rw[B1]at M;refine An S ⟨by omega,An (Z _ _ (by omega) (by decide)) (Aj (λB=>?_) λB=>?_)⟩
    ·have B:¬(C6 (Bi (b::t)).1 (List.take (Bi (b::t)).2 (b::t))).2.2=0:=by rw[Dt]at B;simpa using B
     have L:Es b t line Ag=([⟨(C6 (Bi (b::t)).1 (List.take (Bi (b::t)).2 (b::t))).1,List.take (Bi (b::t)).2 (b::t),(C6 (Bi (b::t)).1 (List.take (Bi (b::t)).2 (b::t))).2.1,line,Ag⟩],[⟨line,Ag,(C6 (Bi (b::t)).1 (List.take (Bi (b::t)).2 (b::t))).2.2⟩]):=by
      unfold Es;dsimp only
      rw[if_pos M,if_neg B]
     obtain⟨E,C⟩:=dD (out:=out) (Bx:=Bx) L
     (try rw[List.append_nil]at E)
     (try rw[List.append_nil]at C)
     refine An (Z _ _ (by omega) (by decide)) ⟨⟨b,t,line,Ag,out,Bx⟩,⟨W,rfl⟩,⟨rfl,?_,?_,word,rfl⟩,rfl,rfl,⟨?_,?_⟩,?_,?_⟩
     ·rw[E];simp
     ·rw[C];simp
     ·rw[E];simp
     ·rw[E];exact RN (tL _) rfl rfl
     ·rw[C];simp
     ·rw[C];exact RN (ft _) rfl rfl
    ·have B:(C6 (Bi (b::t)).1 (List.take (Bi (b::t)).2 (b::t))).2.2=0:=by rw[Dt]at B;simpa using B
     have L:Es b t line Ag=([⟨(C6 (Bi (b::t)).1 (List.take (Bi (b::t)).2 (b::t))).1,List.take (Bi (b::t)).2 (b::t),(C6 (Bi (b::t)).1 (List.take (Bi (b::t)).2 (b::t))).2.1,line,Ag⟩],[]):=by
      unfold Es;dsimp only
      rw[if_pos M,if_pos B]
     obtain⟨E,C⟩:=dD (out:=out) (Bx:=Bx) L
     (try rw[List.append_nil]at E)
     (try rw[List.append_nil]at C)
     refine⟨⟨b,t,line,Ag,out,Bx⟩,⟨W,rfl⟩,⟨rfl,?_,?_,word,rfl⟩,rfl,rfl,⟨?_,?_⟩,?_,?_⟩
     ·rw[E];simp
     ·rw[C]
     ·rw[E];simp
     ·rw[E];exact RN (tL _) rfl rfl
     ·rw[C]
     ·rw[C];exact⟨λi _=>⟨rfl,rfl,rfl⟩⟩
   ·rw[Cg]at M;refine An (BJ.2 (by simp)) (Aj (λB=>?_) λB=>?_)
    ·have L:Es b t line Ag=([],[⟨line,Ag,3⟩]):=by
      unfold Es;dsimp only
      rw[if_neg (by omega),if_neg (by simpa using B)]
     obtain⟨E,C⟩:=dD (out:=out) (Bx:=Bx) L
     (try rw[List.append_nil]at E)
     (try rw[List.append_nil]at C)
     refine An (Z _ _ (by omega) (by decide)) ⟨⟨b,t,line,Ag,out,Bx⟩,⟨W,rfl⟩,⟨rfl,?_,?_,word,rfl⟩,rfl,rfl,⟨?_,?_⟩,?_,?_⟩
     ·rw[E]
     ·rw[C];simp
     ·rw[E]
     ·rw[E];exact⟨λi _=>⟨rfl,rfl,rfl,rfl,rfl⟩⟩
     ·rw[C];simp
     ·rw[C];exact RN (ft _) rfl rfl
    ·have L:Es b t line Ag=([],[]):=by
      unfold Es;dsimp only
      rw[if_neg (by omega),if_pos (by simpa using B)]
     obtain⟨E,C⟩:=dD (out:=out) (Bx:=Bx) L
     (try rw[List.append_nil]at E)
     (try rw[List.append_nil]at C)
     refine⟨⟨b,t,line,Ag,out,Bx⟩,⟨W,rfl⟩,⟨rfl,?_,?_,word,rfl⟩,rfl,rfl,⟨?_,?_⟩,?_,?_⟩
     ·rw[E]
     ·rw[C]
     ·rw[E]
     ·rw[E];exact⟨λi _=>⟨rfl,rfl,rfl,rfl,rfl⟩⟩
     ·rw[C]
     ·rw[C];exact⟨λi _=>⟨rfl,rfl,rfl⟩⟩
   ·obtain⟨b',t',ag,ai,ah,Y⟩:=y;obtain⟨U,B⟩:=hy;injection B with B;injection B with B;injection B with af ae;subst af;subst ae;have K:=I9.step U;obtain⟨g1,g2,g3,g4,g5,g6,g7,g8⟩:=U;simp only[List.length_cons,BE.x9]at g1 g2 g3 g4 g5 g6 g7;by_cases hb:b=10
    ·subst hb;have hc:Lib.countByte [10] (UInt8.ofNat 10)=1:=by decide
     have ad:Kw [10] 10 1=0:=by decide
     rw[if_pos rfl,if_pos rfl,cn]at K;simp only[AoD];simp only[cn,hc,List.length_singleton,ad];refine An (by rw[Bool.and_true];exact Jt.2 (by simp;omega)) (Aj (λ_=>?_) λh=>absurd h (by decide));refine An (Be.2 (by omega)) ⟨by decide,An (by decide) (An (by decide) (An (by decide) (An (Jt.2 (by simp;omega)) ?_)))⟩;refine⟨_,K,by simp,⟨rfl,rfl,rfl,word⟩,rfl,rfl,⟨rfl,⟨λi _=>⟨rfl,rfl,rfl,rfl,rfl⟩⟩⟩,rfl,⟨λi _=>⟨rfl,rfl,rfl⟩⟩⟩
    ·have hc:Lib.countByte ((b::t).take (Bi (b::t)).2) (UInt8.ofNat 10)=0:=Aek hb;rw[if_neg hb,if_neg hb]at K;simp only[hc,ab];refine An S (Aj (λh=>absurd h (by decide)) λ_=>?_);simp only[List.length_cons]at n2;refine An (Be.2 (by omega)) (An V ⟨_,K,?_,⟨rfl,rfl,rfl,word⟩,rfl,rfl,⟨rfl,⟨λi _=>⟨rfl,rfl,rfl,rfl,rfl⟩⟩⟩,rfl,⟨λi _=>⟨rfl,rfl,rfl⟩⟩⟩);simp only[List.length_drop,List.length_cons];omega
 ·obtain rfl:rest=[]:=by rw[Cg]at R;cases rest with|nil=>rfl|cons b t=>simp at R;omega
  rw[sO,List.append_nil,List.append_nil]at h8;rw[xn,xl,<-h8];exact An rfl ⟨⟨rfl,⟨λ_ _=>⟨rfl,rfl,rfl,rfl,rfl⟩⟩⟩,rfl,⟨λ_ _=>⟨rfl,rfl,rfl⟩⟩⟩
theorem AkA:∀(l:List UInt8),l.length<=1000000->(AG (ve l) 100).call 15 [.bv l] (AU Cm) 4 (Ch Tryz.prog false (fA l)):=Eq.mpr (by kernel_rfl) AkB
theorem ok9:Ci Tryz.prog 15 e9:=by
 refine EN (gl:=Cm) (ng:=4) NN λH args ct q=>?_;unfold e9 at q;split at q
 ·rename_i l;cases y:DM H with
  |true=>rw[y]at q;injection q with q;subst q;exact⟨QJ y,_,_,rfl,λB=>⟨⟨rfl,trivial⟩,ve l,100,rfl,AW,Acn,AkA l B⟩⟩
  |false=>rw[y]at q;cases q
 ·cases q
end Go.Proofs.YtlmmbanfhjaioaaGreatDoor
end
end
