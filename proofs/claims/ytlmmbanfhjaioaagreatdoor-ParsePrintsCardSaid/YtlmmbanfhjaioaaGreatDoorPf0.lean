/- Laid by program out of its parts: PaX, PaY, PcMs, PcK, PfA, PfB. -/
import Derived.Test.YtlmmbanfhjaioaaGreatDoorPb5
import Derived.Test.YtlmmbanfhjaioaaGreatDoorPa3
import Derived.Test.YtlmmbanfhjaioaaGreatDoorPe0
noncomputable section
set_option linter.unusedVariables false
set_option linter.unusedSimpArgs false
section
set_option maxRecDepth 100000
set_option maxHeartbeats 2000000
open Go Go.Ev
namespace Go.Proofs.YtlmmbanfhjaioaaGreatDoor
@[reducible] def oB:Ab->Prop:=λ(L:Ab)=>Aa/\Af L.length/\AH λ(i:Nat)=>Bh i L.length->(Aa/\Af (TK.kind (Nh L i)))/\Af (TK.text (Nh L i))/\(Aa/\Af (TK.num (Nh L i)))/\(Aa/\Af (TK.line (Nh L i)))/\(Aa/\Af (TK.Ao (Nh L i)))/\True
@[reducible] def AmZ:Ab->Prop:=λ(L:Ab)=>True/\oB L
@[reducible] def Am0:Ab->Prop:=λ(L:Ab)=>oB L/\Ie/\True/\KU/\True
@[reducible] def Am1:Ab->PT×RS->Av×RS->Prop:=λ(L:Ab) (t:PT×RS) (a:Av×RS)=>(Bn/\((Af (AV.agg [BX,BX,AV.int .i64 (RS.err a.2)])/\True)/\True)/\True)/\(TL t=0/\True)/\(Aa/\1=TS L t.2/\AH λ(i:Nat)=>Bh i 1->(Aa/\(0:Int)=Dg.line (Ni L t.2 i))/\(Aa/\(0:Int)=Dg.Ao (Ni L t.2 i))/\(Aa/\RS.err a.2=Dg.err (Ni L t.2 i))/\True)/\True
def ZS (a:Ab) (b:RS):=List.getD a (Int.toNat (RS.DM b)) TK.zero
@[reducible] def Am2:Ab->PT×RS->Av×RS->Prop:=λ(L:Ab) (t:PT×RS) (a:Av×RS)=>(Bn/\((Af (AV.agg [AV.int .i64 (TK.line (ZS L a.2)),AV.int .i64 (TK.Ao (ZS L a.2)),AV.int .i64 (RS.err a.2)])/\True)/\True)/\True)/\(TL t=0/\True)/\(Aa/\1=TS L t.2/\AH λ(i:Nat)=>Bh i 1->(Aa/\TK.line (ZS L a.2)=Dg.line (Ni L t.2 i))/\(Aa/\TK.Ao (ZS L a.2)=Dg.Ao (Ni L t.2 i))/\(Aa/\RS.err a.2=Dg.err (Ni L t.2 i))/\True)/\True
def ku (a:Av×RS) (b:Av):=Nu (1:Int) [] (0:Int) (TK.mk (0:Int) [] (0:Int) (1:Int) (1:Int)) (WX a.1.length λ(q:Nat)=>jX (Wt (DY b) q))
def Pq (a:Av×RS) (b:Av) (c:Nat):=List.getD (ku a b) c LT.none
@[reducible] def Am3:Ab->PT×RS->Av×RS->Prop:=λ(L:Ab) (t:PT×RS) (a:Av×RS)=>(Nat.blt 6 8=true/\(Aa/\Nat.le a.1.length (List.length (DY a.1))/\Aar a.1.length (Wt (DY a.1)))/\TwK a.1.length λ(i:Nat)=>jX (Wt (DY a.1) i))/\((Aa/\List.length (ku a a.1)=TL t/\AH λ(i:Nat)=>Bh i (List.length (ku a a.1))->(Aa/\LT.kind (Pq a a.1 i)=LT.kind (JD t i))/\LT.text (Pq a a.1 i)=LT.text (JD t i)/\(Aa/\LT.n (Pq a a.1 i)=LT.n (JD t i))/\(Aa/\LT.line (Pq a a.1 i)=LT.line (JD t i))/\(Aa/\LT.Ao (Pq a a.1 i)=LT.Ao (JD t i))/\(Aa/\List.length (LT.kids (Pq a a.1 i))=List.length (LT.kids (JD t i))/\AH λ(q:Nat)=>Bh q (List.length (LT.kids (Pq a a.1 i)))->(Aa/\List.getD (LT.kids (Pq a a.1 i)) q (0:Int)=List.getD (LT.kids (JD t i)) q (0:Int))/\True)/\True)/\True)/\TS L t.2=0/\True
def Q9 (l:Ac):Nat->Ac
 |0=>[]
 |n+1=>Q9 l n++l
theorem w7 {l:Ac} (h:Da l≠[]):Ep l=[]:=by
 unfold Da at h;unfold Ep;split
 ·rename_i c;rw[Am c]at h;unfold Ki at h;unfold JQ;split
  ·rename_i e;rw[Am e]at h;exact absurd rfl h
  ·rfl
 ·rfl
def wZ (l:Ac):List Dg:=if(DV l).2.length=0 then Ki ((DV l).1.map Uv) (Rk 100001 ((DV l).1.map Uv) IG).2 else(DV l).2
theorem kh (l:Ac):Da l=wZ l:=by unfold Da wZ;rw[WN,cX]
def rp (a b:List Dg):Bool:=match a,b with
 | [],[]=>true
 | [x],[y]=>decide (x.line=y.line)&&(decide (x.Ao=y.Ao)&&decide (x.err=y.err))
 |_,_=>false
theorem iB {a b:List Dg} (h:rp a b=true):a=b:=by
 unfold rp at h;split at h
 ·rfl
 ·rename_i x y;cases x;cases y;simp only[C5,BV]at h;obtain⟨C,B,q⟩:=h;subst C;subst B;subst q;rfl
 ·cases h
def gk:Tr Ae->Aj->Option Ct:=λH args=>match args with
 | []=>cond (Ec H) (some (.Be True (.ret (.bool true)))) none
 |_=>none
def yh:D9:=(6,Yh)::[]
def py:Ctx:={P:=Tryz.prog,tb:=yh,lp:=λ_ _=>none,cut:=λ_ _=>none}
theorem AkR:EY Tryz.prog yh:=Cj wK B5
def k1:Ac:=[109,97,105,110,32,123,32,120,32,61,32,49,32,125]
def k2:Ac:=[109,97,105,110,32,123,32,53,32,61,32,49,59,32,125]
def k3:Ac:=[108,111,111,112,101,114]
theorem kn1:Da k1=[⟨1,14,4⟩]:=by rw[kh];exact iB (by kernel_rfl)
theorem kn2:Da k2=[⟨1,10,4⟩]:=by rw[kh];exact iB (by kernel_rfl)
theorem uV:Da k3=[⟨0,0,4⟩]:=by rw[kh];exact iB (by kernel_rfl)
theorem wO {l:Ac} {a b c:Int} {K X:Prop} (h:Da l=[⟨a,b,c⟩]) (y:K):Ah (An ((Ep l).length:Int) 0) (Ah (An ((Da l).length:Int) 1) (Al (A9 0 (Da l).length) (Ah (An ((Da l).getD 0 d0).line a&&(An ((Da l).getD 0 d0).Ao b&&An ((Da l).getD 0 d0).err c)) K X)) X) X:=by
 have q:Ep l=[]:=w7 (by rw[h];exactλe=>by cases e);rw[q,h];refine Aw (λ_=>Aw (λ_=>At (Cf.2 ⟨JU 0,(by show(0:Int)<((1:Nat):Int);decide)⟩) (Aw (λ_=>y) λe=>?_)) λe=>?_) λe=>?_
 ·exfalso;have:(An a a&&(An b b&&An c c))=false:=e;rw[VE,VE,VE]at this;cases this
 ·exact absurd rfl (Dy.1 e)
 ·exact absurd rfl (Dy.1 e)
def Wa:=[(109:UInt8),97,105,110,32,123,32,53,32,61,32,49,59,32,125]
def Wb:=[(109:UInt8),97,105,110,32,123,32,120,32,61,32,49,32,125]
def ZX:=List.getD (AU (Da Tm)) 0 d0
def ZY:=List.getD (AU (Da Wb)) 0 d0
def ZZ:=List.getD (AU (Da Wa)) 0 d0
theorem Aib:Nat.le 14 100000/\Ah (An (Int.ofNat (List.length (AU (Ep Wb)))) (0:Int)) (Ah (An (Int.ofNat (List.length (AU (Da Wb)))) (1:Int)) (Al (A9 (0:Int) (List.length (AU (Da Wb)))) (Ah (An (Dg.line (ZY)) (1:Int)&&(An (Dg.Ao (ZY)) (14:Int)&&(An (Dg.err (ZY)) (4:Int)&&true))) (Nat.le 15 100000/\Ah (An (Int.ofNat (List.length (AU (Ep Wa)))) (0:Int)) (Ah (An (Int.ofNat (List.length (AU (Da Wa)))) (1:Int)) (Al (A9 (0:Int) (List.length (AU (Da Wa)))) (Ah (An (Dg.line (ZZ)) (1:Int)&&(An (Dg.Ao (ZZ)) (10:Int)&&(An (Dg.err (ZZ)) (4:Int)&&true))) (Nat.le 6 100000/\Ah (An (Int.ofNat (List.length (AU (Ep Tm)))) (0:Int)) (Ah (An (Int.ofNat (List.length (AU (Da Tm)))) (1:Int)) (Al (A9 (0:Int) (List.length (AU (Da Tm)))) ((An (Dg.line (ZX)) (0:Int)&&(An (Dg.Ao (ZX)) (0:Int)&&(An (Dg.err (ZX)) (4:Int)&&true)))=true)) (false=true)) (false=true)) (false=true))) (false=true)) (false=true)) (false=true))) (false=true)) (false=true)
:=by delta Wa Wb Tm ZX ZY ZZ;simp only[Cd];refine⟨by decide,wO kn1 ⟨by decide,wO kn2 ⟨by decide,?_⟩⟩⟩;have q:Ep k3=[]:=w7 (by rw[uV];exactλe=>by cases e);show Ah (An ((Ep k3).length:Int) 0) (Ah (An ((Da k3).length:Int) 1) (Al (A9 0 (Da k3).length) ((An ((Da k3).getD 0 d0).line 0&&(An ((Da k3).getD 0 d0).Ao 0&&An ((Da k3).getD 0 d0).err 4))=true)) _) _;rw[q,uV];exact Aw (λ_=>Aw (λ_=>At (Cf.2 ⟨by decide,by decide⟩) (by decide)) λe=>absurd rfl (Dy.1 e)) λe=>absurd rfl (Dy.1 e)
theorem Aia:(A4 py 100).call 5 [] (Bx CI) 4 (Cb Tryz.prog false (.bool true)):=Eq.mpr (by kernel_rfl) Aib
theorem Afx:Ck Tryz.prog 5 gk:=by
 refine Fh (gl:=CI) (ng:=4) Qn λH args ct q=>?_;unfold gk at q;split at q
 ·cases y:Ec H with
  |false=>rw[y]at q;cases q
  |true=>rw[y]at q;injection q with q;exact⟨SC y,_,_,q.symm,λB=>⟨trivial,py,100,rfl,Bu,AkR,Aia⟩⟩
 ·cases q
@[reducible] def oI:List Dg->Prop:=λ(D:List Dg)=>Aa/\Af D.length/\AH λ(i:Nat)=>Bh i D.length->(Aa/\Af (Dg.line (List.getD D i d0)))/\(Aa/\Af (Dg.Ao (List.getD D i d0)))/\(Aa/\Af (Dg.err (List.getD D i d0)))/\True
@[reducible] def Am4:List Dg->Prop:=λ(D:List Dg)=>oI D/\oI D/\True
def SSm (W:Ak):CX:=thin Nat [0,1,2,3] (λi=>[(5,.int .i64 i)]) (λ_ i=>i<=W.length) λi=>W.length-i
structure IK (W:List LT) (o:Option AV) (k:Nat):Prop where
 le:k<=1000000
 i:∀a,o=some (.int .i64 a)->k<=(W.getD a.toNat LT.none).kids.length
def SSk (W:Ak):CX:=thin Nat [0,1,2,3,5,6,7] (λk=>[(8,.int .i64 k)]) (λst k=>IK W (st.T.get 5) k) λk=>1000001-k
def rN (W:Ak):Ctx:={P:=Tryz.prog,tb:=[],lp:=λf r=>cond (Nat.beq f 9) (cond (Nat.beq r 4) (some (SSm W)) (cond (Nat.beq r 10) (some (SSk W)) none)) none,cut:=λ_ _=>none}
@[reducible] def eJ:Ak->Prop:=λ(W:Ak)=>Aa/\Af W.length/\AH λ(i:Nat)=>Bh i W.length->(Aa/\Af (HM W i))/\Af (LT.text (CG W i))/\(Aa/\Af (LT.n (CG W i)))/\(Mo W i)/\(Mm W i)/\(Me W i)/\True
@[reducible] def PU:Ak->Prop:=λ(W:Ak)=>eJ W/\True
@[reducible] def PV:Ak->Prop:=λ(W:Ak)=>Aa/\Aa/\Aa/\Aa/\True/\eJ W
@[reducible] def oK:Ak->Nat->Prop:=λ(W:Ak) (a:Nat)=>Aa/\Aa/\Aa/\Aa/\(ZE W a)/\Aa/\Af (Ig W a)/\AH λ(i:Nat)=>Bh i (Ig W a)->(Aa/\Af (List.getD (LT.kids (Di W a)) i (0:Int)))/\True
@[reducible] def Am5:Ak->Prop:=λ(W:Ak)=>PV W/\PV W/\True
@[reducible] def Am6:Ak->Prop:=λ(W:Ak)=>PU W/\PU W/\Cx/\Hb/\True
@[reducible] def Am7:Ak->Nat->Prop:=λ(W:Ak) (a:Nat)=>PU W/\PU W/\Cx/\Hb/\(HJ a)/\(Af (some 12)/\Aa)/\(Af (some 13)/\Aa)/\True
@[reducible] def Am8:Ak->Nat->Prop:=λ(W:Ak) (a:Nat)=>PV W/\PV W/\oK W a/\oK W a/\True
theorem vh {s:Ac} (h:G9 s=true):s.length<=32:=by unfold G9 at h;simp only[C5,BV]at h;exact h.2.2.1
theorem nB {k:Int} {s:Ac} (h:Fv k s=true):s.length<=32:=by
 unfold Fv at h;split at h
 ·unfold Jg at h;rcases Bool.or_eq_true _ _▸h with h|h
  ·rcases Bt h with rfl|rfl|rfl|rfl|rfl<;>decide
  ·exact vh h
 ·split at h
  ·unfold QK at h;rcases Bt h with rfl|rfl|rfl|rfl|rfl<;>decide
  ·split at h
   ·exact vh h
   ·rw[Bt h];decide
theorem Ac3 {P:LT->Prop} {W:Ak} (h:∀w∈W,P w) (q:P LT.none) (i:Nat):P (W.getD i LT.none):=by
 by_cases hi:i<W.length
 ·rw[B2,CC hi];exact h _ (List.getElem_mem _)
 ·rw[B2,List.getElem?_eq_none (by omega)];exact q
end Go.Proofs.YtlmmbanfhjaioaaGreatDoor
end
end
