/- Laid by program out of its parts: TkF, TkS, TkG, TkH. -/
import Derived.Test.YthallodoidghoaaGreatTkE
import Derived.Test.YthallodoidghoaaGreatMf
noncomputable section
set_option linter.unusedVariables false
set_option linter.unusedSimpArgs false
section
set_option maxRecDepth 100000
set_option linter.unusedSimpArgs false
open Go Go.Ev
namespace Go.Proofs.YthallodoidghoaaGreat
theorem AeS:EU Tryz.prog iT:=BD Aka AeR
end Go.Proofs.YthallodoidghoaaGreat
end
section
set_option maxRecDepth 100000
open Go Go.Ev
namespace Go.Proofs.YthallodoidghoaaGreat
structure CV where
 kind:Int
 text:List UInt8
 num:Int
 line:Int
 Av:Int
structure Dg where
 line:Int
 Av:Int
 err:Int
def t0:CV:=⟨0,[],0,0,0⟩
def d0:Dg:=⟨0,0,0⟩
def Ji (kind:Int) (s:Aj):Int×Int×Int:=
 if kind=3 then(3,(Ij s).1,if(Ij s).2 then 0 else 9)
 else if kind=1/\OA s then(2,0,0)else(kind,0,if 32<s.length then 9 else 0)
def IG (b:UInt8) (t:Aj) (line Av:Int):List CV×List Dg:=
 let k:=Fy (b::t);let s:=(b::t).take k.2;let m:=Ji k.1 s
 if 0<k.1 then([⟨m.1,s,m.2.1,line,Av⟩],if m.2.2=0 then []else [⟨line,Av,m.2.2⟩])
 else([],if WN (b.toNat:Int)then []else [⟨line,Av,3⟩])
def Pb:Nat->Aj->Int->Int->List CV×List Dg
 |0,_,_,_=>([],[])
 |_+1,[],_,_=>([],[])
 |f+1,b::t,line,Av=>
  let n:=(Fy (b::t)).2;let o:=IG b t line Av;let r:=Pb f ((b::t).drop n) (if b=10 then line+1 else line) (if b=10 then 1 else Av+n)
  (o.1++r.1,o.2++r.2)
def FH (l:Aj):List CV×List Dg:=Pb l.length l 1 1
theorem wF (f:Nat) (b:UInt8) (t:Aj) (line Av:Int):Pb (f+1) (b::t) line Av= ((IG b t line Av).1++(Pb f ((b::t).drop (Fy (b::t)).2) (if b=10 then line+1 else line) (if b=10 then 1 else Av+(Fy (b::t)).2)).1,(IG b t line Av).2++(Pb f ((b::t).drop (Fy (b::t)).2) (if b=10 then line+1 else line) (if b=10 then 1 else Av+(Fy (b::t)).2)).2):=rfl
theorem gu {p:Int->Bool} {b:UInt8} {t:Aj} (h:p (b.toNat:Int)=true):1<=runN p (b::t):=by rw[runN,As h];omega
theorem eW (b:UInt8) (t:Aj):Fy (b::t)=if Ha (b.toNat:Int)then(1,runN (λz=>Ha z||C4 z) (b::t))else if C4 (b.toNat:Int)then(3,runN C4 (b::t))
  else if(b.toNat:Int)=35 then(0,runN (λz=>!decide (z=10)) (b::t))
  else if(b.toNat:Int)=61/\1<=t.length/\((t.getD 0 0).toNat:Int)=61 then(4,2)else if RW (b.toNat:Int)then(4,1)else(0,1):=rfl
theorem UU (b:UInt8) (t:Aj):1<=(Fy (b::t)).2/\(Fy (b::t)).2<=(b::t).length:=by
 rw[eW];have y:=VN (λz=>Ha z||C4 z) (b::t);have x:=VN C4 (b::t);have r:=VN (λz=>!decide (z=10)) (b::t);split
 ·rename_i h;exact⟨gu (p:=λz=>Ha z||C4 z) (by show(Ha _||C4 _)=true;rw[h];rfl),y⟩
 ·split
  ·rename_i h;exact⟨gu (p:=C4) h,x⟩
  ·split
   ·rename_i h;exact⟨gu (p:=λz=>!decide (z=10)) (by show(!decide (_=(10:Int)))=true;rw[h];rfl),r⟩
   ·split
    ·rename_i h;simp;omega
    ·split<;>simp
theorem Aeo:∀(f g:Nat) (l:Aj) (line Av:Int),l.length<=f->l.length<=g->Pb f l line Av=Pb g l line Av
 |0,g,[],line,Av,_,_=>by cases g<;>rfl
 |f+1,g,[],line,Av,_,_=>by cases g<;>rfl
 |f+1,0,b::t,line,Av,_,h=>by simp at h
 |0,g,b::t,line,Av,h,_=>by simp at h
 |f+1,g+1,b::t,line,Av,y,x=>by have r:=UU b t;simp only[Dn]at y x r;rw[wF,wF,Aeo f g _ _ _ (by rw[Iw];simp only[Dn];omega) (by rw[Iw];simp only[Dn];omega)]
def N3 (l:Aj) (line Av:Int):List CV×List Dg:=Pb l.length l line Av
theorem ApN (line Av:Int):N3 [] line Av=([],[]):=rfl
theorem wG (b:UInt8) (t:Aj) (line Av:Int):N3 (b::t) line Av= ((IG b t line Av).1++(N3 ((b::t).drop (Fy (b::t)).2) (if b=10 then line+1 else line) (if b=10 then 1 else Av+(Fy (b::t)).2)).1,(IG b t line Av).2++(N3 ((b::t).drop (Fy (b::t)).2) (if b=10 then line+1 else line) (if b=10 then 1 else Av+(Fy (b::t)).2)).2):=by have r:=UU b t;simp only[Dn]at r;show Pb (t.length+1) (b::t) line Av=_;rw[wF,Aeo t.length ((b::t).drop (Fy (b::t)).2).length _ _ _ (by rw[Iw];simp only[Dn];omega) (AH _)];rfl
theorem Aj4 (t:Aj):Fy (10::t)=(0,1):=by rw[eW];rw[An (by decide),An (by decide),An (by decide),An (by rintro⟨h,_⟩;revert h;decide),An (by decide)]
end Go.Proofs.YthallodoidghoaaGreat
end
section
set_option maxRecDepth 100000
set_option linter.unusedSimpArgs false
open Go Go.Ev
namespace Go.Proofs.YthallodoidghoaaGreat
def tbD:DQ:=iT
def KY (t:CV):Al:=[.int .i64 t.kind,.bs t.text,.int .i64 t.num,.int .i64 t.line,.int .i64 t.Av]
def Iz (t:Dg):Al:=[.int .i64 t.line,.int .i64 t.Av,.int .i64 t.err]
def pL:Tr Ah->Al->Option Ct:=λ_ args=>match args with
 | [.bs s]=>some (.Bb True (.ret (.bool (Ay (OA s)))))
 |_=>none
def od (s:Aj) (x:Bool):List Aj->Prop
 | []=>false=x
 |w::ws=>Ag (decide (w=s)) (true=x) (od s x ws)
theorem Aj8:BC Tryz.prog 56 pK:=by
 refine Cw (gl:=[]) (ng:=0) AS λH args ct r=>?_;unfold pK at r;split at r
 ·rename_i l;injection r with r;subst r;exact⟨AS,_,_,rfl,λx=>⟨⟨rfl,trivial⟩,yo iT 56 3 (x5 l),60,rfl,Dq,AeS,by rw[F2];exact Amg l x⟩⟩
 ·cases r
theorem yf (s:Aj) (x:Bool):∀ws:List Aj,(x=ws.any λw=>decide (s=w))->od s x ws
 | [],h=>h.symm
 |w::ws,h=>by
  rw[List.any_cons]at h;refine Ao (λr=>?_) λr=>?_
  ·rw[Bn]at r;subst r;rw[h];simp
  ·refine yf s x ws ?_;rw[CU]at r;rw[h,E7 (λe=>r e.symm),Bool.false_or]
def xW (s:Aj):Prop:=(A3 (PH []) 200).call 55 [.bs s] .leaf 0 (BS Tryz.prog false (.bool (OA s)))
theorem Ami (s:Aj):xW s:=Eq.mpr (show xW s=od s (OA s) ix by kernel_rfl) (yf s _ ix rfl)
theorem Aj9:BC Tryz.prog 55 pL:=by
 refine Cw (gl:=[]) (ng:=0) AS λH args ct r=>?_;unfold pL at r;split at r
 ·rename_i l;injection r with r;subst r;exact⟨AS,_,_,rfl,λ_=>⟨⟨rfl,trivial⟩,PH [],200,rfl,Dq,Bk,by rw[F2];exact Ami l⟩⟩
 ·cases r
theorem Ap9:EU Tryz.prog tbD:=AeS
end Go.Proofs.YthallodoidghoaaGreat
end
section
set_option maxRecDepth 100000
open Go Go.Ev
namespace Go.Proofs.YthallodoidghoaaGreat
def tbE:DQ:=(56,pK)::(55,pL)::tbD
structure X9 where
 rest:List UInt8
 line:Int
 Av:Int
 out:List CV
 C9:List Dg
structure I9 (l:List UInt8) (x:X9):Prop where
 le:x.rest.length<=l.length
 Ajh:1<=x.line
 Aji:x.line+x.rest.length<=l.length+1
 Arb:1<=x.Av
 Arc:x.Av+x.rest.length<=l.length+1
 out:x.out.length+x.rest.length<=l.length
 C9:x.C9.length+x.rest.length<=l.length
 yB:(x.out++(N3 x.rest x.line x.Av).1,x.C9++(N3 x.rest x.line x.Av).2)=FH l
structure TJ where
 b:UInt8
 t:List UInt8
 line:Int
 Av:Int
 Adl:List CV
 AfB:List Dg
def TJ.x9 (x:TJ):X9:=⟨x.b::x.t,x.line,x.Av,x.Adl,x.AfB⟩
def TJ.out (x:TJ):List CV:=x.Adl++(IG x.b x.t x.line x.Av).1
def TJ.C9 (x:TJ):List Dg:=x.AfB++(IG x.b x.t x.line x.Av).2
def Aqo (l:List CV):AV:=.vec 5 l.length λk=>KY (l.getD k t0)
def pD (l:List Dg):AV:=.vec 3 l.length λk=>Iz (l.getD k d0)
def Aen (l:Aj):AV:=.AM [Aqo (FH l).1,pD (FH l).2]
theorem Aqa:EU Tryz.prog tbE:=BD Aj8 <| BD Aj9 Ap9
theorem AqS (r:List (Nat×Nat)) (t:CV):AZ r (KY t) (KY t):=⟨⟨rfl,rfl⟩,rfl,⟨rfl,rfl⟩,⟨rfl,rfl⟩,⟨rfl,rfl⟩,trivial⟩
theorem AqP (r:List (Nat×Nat)) (t:Dg):AZ r (Iz t) (Iz t):=⟨⟨rfl,rfl⟩,⟨rfl,rfl⟩,⟨rfl,rfl⟩,trivial⟩
theorem Ais (l:List CV) (n:Nat):B1 5 n (λk=>KY (l.getD k t0))=true:=BF λ_ _=>rfl
theorem Air (l:List Dg) (n:Nat):B1 3 n (λk=>Iz (l.getD k d0))=true:=BF λ_ _=>rfl
theorem uC (b:UInt8) (t:Aj) (line Av:Int):(IG b t line Av).1.length<=1/\(IG b t line Av).2.length<=1:=by
 unfold IG;dsimp only
 split
 ·exact⟨AH _,by dsimp only;split<;>simp⟩
 ·exact⟨BL _,by dsimp only;split<;>simp⟩
theorem I9.step {l:Aj} {b:UInt8} {t:Aj} {line Av:Int} {out:List CV} {C9:List Dg} (h:I9 l ⟨b::t,line,Av,out,C9⟩): I9 l ⟨(b::t).drop (Fy (b::t)).2,if b=10 then line+1 else line,if b=10 then 1 else Av+(Fy (b::t)).2,out++(IG b t line Av).1,C9++(IG b t line Av).2⟩:=by
 obtain⟨R,L,K,J,B,z,y,x⟩:=h;obtain⟨n1,r⟩:=UU b t;obtain⟨U,S⟩:=uC b t line Av;simp only[Dn]at R L K J B z y r;have hl:((b::t).drop (Fy (b::t)).2).length=t.length+1-(Fy (b::t)).2:=by rw[Iw,Dn]
 refine⟨?_,?_,?_,?_,?_,?_,?_,?_⟩
 ·simp only[hl];omega
 ·simp only;split<;>omega
 ·simp only[hl];split<;>omega
 ·simp only;split<;>omega
 ·simp only[hl];split<;>omega
 ·simp only[hl,E6];omega
 ·simp only[hl,E6];omega
 ·rw[<-x,wG];simp only[List.append_assoc]
end Go.Proofs.YthallodoidghoaaGreat
end
end
