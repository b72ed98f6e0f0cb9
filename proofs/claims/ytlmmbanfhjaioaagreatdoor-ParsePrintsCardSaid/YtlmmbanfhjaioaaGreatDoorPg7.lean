/- Laid by program out of its parts: PgW, PgX, PgY. -/
import Derived.Test.YtlmmbanfhjaioaaGreatDoorPg6
import Derived.Test.YtlmmbanfhjaioaaGreatDoorMj
import Derived.OpenShut
noncomputable section
set_option linter.unusedVariables false
set_option linter.unusedSimpArgs false
section
set_option maxRecDepth 100000
set_option maxHeartbeats 2000000
open Go Go.Ev
namespace Go.Proofs.YtlmmbanfhjaioaaGreatDoor
def KN (i:Nat):Ac:=Q9 [40,32] i
def Ms (i:Nat):Ac:=Q9 [35,41,10,41] i
def K3 (i:Nat):Ac:=[109,97,105,110,32,123,32,108,111,103,32]++KN i++[53]++Ms i++[59,32,125]
def Vu (W:Ak):Bool:=decide (W.length=5)&&(decide ((W.getD 4 LT.none).kind=26)&&decide ((W.getD 4 LT.none).n=5))
def jA:PT->Bool
 |.mk _ _ _ _ _ [.mk _ _ _ _ _ [.mk _ _ _ _ _ [.mk _ _ _ _ _ [.mk k _ n _ _ []]]]]=>decide (k=26)&&decide (n=5)
 |_=>false
def s8 (t:PT×RS):Bool:=decide (t.2.err=0)&&jA t.1
def fy (l:Ac):Bool:=(DV l).2.isEmpty&&s8 (Rk 100001 ((DV l).1.map Uv) IG)
theorem AcP {x:PT} (h:jA x=true):Vu (flat x)=true:=by
 unfold jA at h;split at h
 ·simp only[C5,BV]at h;obtain⟨rfl,rfl⟩:=h;unfold Vu;simp[NS,Pw,LG,Hr,Cm]
 ·cases h
theorem AcQ {l:Ac} (h:fy l=true):Da l=[]/\Vu (Ep l)=true:=by
 unfold fy s8 at h;simp only[C5,BV,List.isEmpty_iff]at h;obtain⟨C,q,y⟩:=h;rw[<-WN,<-cX]at q y;have B:(DV l).2.length=0:=by rw[C];rfl
 unfold Da Ep Ki JQ;rw[Am B,Am B,Am q,Am q];exact⟨rfl,AcP y⟩
set_option maxRecDepth 1000000 in
set_option maxHeartbeats 0 in
theorem Aa4:(List.range 21).all (λi=>fy (K3 i))=true:=by kernel_rfl
theorem c5 {i:Nat} (h:i<=20):Da (K3 i)=[]/\Vu (Ep (K3 i))=true:=AcQ (List.all_eq_true.1 Aa4 i (List.mem_range.2 (by omega)))
def xT:U3:=[(12,lj)]
theorem AgW:U5 Tryz.prog xT:=AgX AfB (xU _)
def SPp (a:Int):CX:=thin Nat [0,1] (λi=>[(7,.bs (AU (KN i))),(8,.bs (AU (Ms i))),(9,.int .i64 i)]) (λ_ i=>(i:Int)<=a/\i<=20) λi=>21-i
def yk:D9:=(5,gk)::(6,Yh)::(13,gu)::(9,gv)::(11,Yf)::[]
def rJ (a:Int):Ctx:={P:=Tryz.prog,tb:=yk,rt:=xT,xH:=AgW,lp:=λf r=>cond (Nat.beq f 4) (cond (Nat.beq r 8) (some (SPp a)) none) none,cut:=λ_ _=>none}
theorem AkU:EY Tryz.prog yk:=Cj Afx (Cj wK (Cj AfK (Cj AfL (Cj wI B5))))
theorem Aj8 {L:Ak} {x:PT} (h:Xq L 0 (flat x)) (B:sz x=L.length):L=flat x:=by have C:=(I0 x).1;apply List.ext_getElem (by omega);intro i y q;have:=h.eq i q;rw[Nat.zero_add,B2,B2,CC y,CC q]at this;rw[show L[i]=_ from this];exact Ake _
theorem wU:∀i:Nat,(KN i).length=2*i
 |0=>rfl
 |i+1=>by show(Q9 [40,32] i++[40,32]).length=_;rw[AK,show(Q9 [40,32] i).length=2*i from wU i];simp;omega
theorem yQ:∀i:Nat,(Ms i).length=4*i
 |0=>rfl
 |i+1=>by show(Q9 [35,41,10,41] i++[35,41,10,41]).length=_;rw[AK,show(Q9 [35,41,10,41] i).length=4*i from yQ i];simp;omega
@[reducible] def ej:Ak->Int->Prop:=λ(L:Ak) (a:Int)=>((Aa/\Af L.length/\AH λ(i:Nat)=>Bh i L.length->(Aa/\Af (HM L i))/\Af (LT.text (CG L i))/\(Aa/\Af (LT.n (CG L i)))/\(Mo L i)/\(Mm L i)/\(Me L i)/\True)/\True)/\(Aa/\a=a)/\True
def Wc (a:Nat):=([(109:UInt8),97,105,110,32,123,32,108,111,103,32]++AU (KN a)++[(53:UInt8)]++AU (Ms a)++[(59:UInt8),32,125])
def Zy (a:Nat):=Gs (List.length (Wc a)) (Iw (Wc a))
def Wh (a:Ak):=Gs (List.length (QO a)) (Iw (QO a))
def T5 (a:Nat):=AU (Ep (Zy a))
def T7 (a:Nat):=List.length (Wc a)
def Ua (a:Ak):=List.length (QO a)
theorem AiH:∀(L:Ak) (a:Int),(∃(q:Ak),L.length=q.length/\A8 L=A8 q/\Af (300:Int))/\∀(x:Bool),(x=false->∀(q:Ak),L.length=q.length->A8 L=A8 q->LR q)->Ah x (True/\Aa) ((ZW L)/\Ah (!AW (Js (Kd L))) (True/\Aa) (Ah (AQ a (0:Int)) (True/\Aa) (Ah (AQ (20:Int) a) (True/\Aa) ((∃(q:Ak),∃(x:PT),L.length=q.length/\A8 L=A8 q/\JT q/\Js q=true/\Ji L.length q 0 [] x)/\Al (decide (List.length (AU (E5 L.length (KZ L.length (A8 L)) 0 []))<=140737488355328)) (Al (bif bif Nat.ble (Ua L*1) (Ua L)then LU (Ua L) (Iw (QO L))else false then true else false) (Al (bif bif bif bif bif Nat.beq (Ua L) (Ua L)then true else false then true else false then true else false then true else false then true else false) (Nat.le (List.length (Wh L)) 100000/\Ah (AQ (0:Int) (Int.ofNat (List.length (AU (Da (Wh L)))))) (false=true) (oR (List.length (AU (Ep (Wh L)))) (A8 (AU (Ep (Wh L)))) L.length (A8 L)/\(∃(E:Nat),(Int.NonNeg (a-(↑E:Int))/\Nat.le E 20)/\Aa/\([]=AU (KN E)/\[]=AU (Ms E)/\(Gr E)/\ej L a)/\FH/\(Aa/\True)/\(Aa/\True)/\True)/\∀(x:Nat),Int.NonNeg (a-(↑x:Int))/\Nat.le x 20->Ah (AQ (↑x:Int) a) (Al (decide (List.length (AU (KN x))+2<=9223372036854775807)) (Al (decide (List.length (AU (Ms x))+4<=9223372036854775807)) (EU x (∃(C:Nat),(Int.NonNeg (a-(↑C:Int))/\Nat.le C 20)/\Nat.le (Nat.succ (21-C)) (21-x)/\Aa/\(AU (KN x)++[(40:UInt8),32]=AU (KN C)/\AU (Ms x)++[(35:UInt8),41,10,41]=AU (Ms C)/\(Fq x C)/\ej L a)/\FH/\(Aa/\True)/\(Aa/\True)/\True)))) (Al (decide (11+List.length (AU (KN x))<=9223372036854775807)) (Al (decide (List.length ([(109:UInt8),97,105,110,32,123,32,108,111,103,32]++AU (KN x))+1<=9223372036854775807)) (Al (decide (List.length ([(109:UInt8),97,105,110,32,123,32,108,111,103,32]++AU (KN x)++[(53:UInt8)])+List.length (AU (Ms x))<=9223372036854775807)) (Al (decide (List.length ([(109:UInt8),97,105,110,32,123,32,108,111,103,32]++AU (KN x)++[(53:UInt8)]++AU (Ms x))+3<=9223372036854775807)) (Al (decide (List.length ([(109:UInt8),97,105,110,32,123,32,108,111,103,32]++AU (KN x)++[(53:UInt8)]++AU (Ms x)++[(59:UInt8),32,125])<=140737488355328)) (Al (bif bif Nat.ble (T7 x*1) (T7 x)then LU (T7 x) (Iw (Wc x))else false then true else false) (Al (bif Nat.beq (T7 x) (T7 x)then true else false) (Nat.le (List.length (Zy x)) 100000/\Ah (An (Int.ofNat (List.length (AU (Da (Zy x))))) (0:Int)) (Ah (An (Int.ofNat (List.length (T5 x))) (5:Int)) (Al (A9 (4:Int) (List.length (T5 x))) (Ah (An (LT.kind (List.getD (T5 x) 4 LT.none)) (26:Int)) (Al (A9 (4:Int) (List.length (T5 x))) (Ah (An (LT.n (List.getD (T5 x) 4 LT.none)) (5:Int)) (True/\Aa) (false=true))) (false=true))) (false=true)) (false=true)))))))))))))))))
:=by
 delta Wc QO EU Fq Zy FH Gr Wh Kd T5 T7 ZW Ua;intro L a;simp only[Cd,ej,CG,Bh,Me,HM,Mo,Mm];simp only[K0];refine⟨⟨L,rfl,rfl⟩,λb U=>Aw (λ_=>trivial) λhf=>?_⟩;have M:LR L:=U hf L rfl rfl;have aa:=M.len;have K:=AeS M;refine⟨⟨L,rfl,rfl,K⟩,Aw (λ_=>trivial) λhm=>Aw (λ_=>trivial) λZ=>Aw (λ_=>trivial) λU=>?_⟩;have hm:Js L=true:=by simpa using hm
 have Z:=CF.1 Z;have U:=CF.1 U;obtain⟨x,sg,wf,hz,Y⟩:=AeO hm;have J:Ji L.length L 0 [] x:=⟨sg,⟨0,wf⟩,by omega,by rw[List.length_nil];omega⟩;have W:=Agj Y wf (by omega);obtain⟨y,hn,hw,hd⟩:=Agg Y wf W;have e:=Aj8 sg hz;have hs:Ku (flat y) L:=by rw[e];exact(xi y x hn).1
 rw[AkY _ _ _ _ _ J,hw,hd];refine⟨⟨L,x,rfl,rfl,K,hm,J⟩,At (Bi (by omega)) ⟨W,Aw (λh=>?_) λ_=>⟨⟨⟨flat y,L,rfl,rfl,rfl,rfl,hs,by omega,?_⟩⟩,⟨0,⟨by show(0:Int)<=a;omega,by omega⟩,rfl,rfl,rfl⟩,λi hi=>?_⟩⟩⟩
 ·have:=CE.1 h;rw[List.length_nil]at this;omega
 ·rw[e];obtain⟨h1,h2⟩:=I0 x;exact Ac3 (P:=λw=>w.kids.length<=1000000) (λw hw=>by have:=(h2 w hw).l;omega) (by decide)
 obtain⟨R,V⟩:=hi;have R:(i:Int)<=a:=R;have h1:=wU i;have h2:=yQ i;refine Aw (λh=>?_) λh=>?_
 ·have h:=CE.1 h;exact At (Bi (by omega)) (At (Bi (by omega)) (At (CJ.2 (by omega)) ⟨i+1,⟨by show((i+1:Nat):Int)<=a;omega,by omega⟩,by omega,rfl,rfl,by omega⟩))
 ·obtain⟨g1,g2⟩:=c5 V;unfold Vu at g2;simp only[C5,BV]at g2;obtain⟨g2,g3,g4⟩:=g2;show Al _ (Al _ (Al _ (Al _ (Al _ ((K3 i).length<=100000/\_)))));have S:(K3 i).length<=135:=by unfold K3;simp only[AK,AE,List.length_nil];omega
  refine At (Bi (by omega)) (At (Bi (by simp only[AK,AE,List.length_nil];omega)) (At (Bi (by simp only[AK,AE,List.length_nil];omega)) (At (Bi (by simp only[AK,AE,List.length_nil];omega)) (At (Bi ?_) ⟨by omega,?_⟩))))
  ·exact G3 S (by decide)
  change Ah (An ((Da (K3 i)).length:Int) 0) (Ah (An ((Ep (K3 i)).length:Int) 5) (Al (A9 4 (Ep (K3 i)).length) (Ah (An ((Ep (K3 i)).getD 4 LT.none).kind 26) (Al (A9 4 (Ep (K3 i)).length) (Ah (An ((Ep (K3 i)).getD 4 LT.none).n 5) True (false=true))) (false=true))) (false=true)) (false=true);have B:∀ {a b:Int} {p:Prop},a=b->An a b=false->p:=λh g=>by rw[C0.2 h]at g;cases g
  rw[g1];have O:A9 4 (Ep (K3 i)).length=true:=Cf.2 (by omega);exact Aw (λ_=>Aw (λ_=>At O (Aw (λ_=>At O (Aw (λ_=>trivial) (B g4))) (B g3))) (B (by omega))) (B rfl)
theorem AiG:∀(L:Ak) (a:Int),(A4 (rJ a) 200).call 4 [tree L,.int .i64 a] (Bx CI) 4 (Cb Tryz.prog false (.bool true)):=Eq.mpr (by kernel_rfl) AiH
def rf:Tr Ae->Aj->Option Ct:=λH args=>match args with
 | [.agg [.vec 6 n f],.int .i64 a]=>cond (Ec H) (some (.Be (∃L:Ak,n=L.length/\f=A8 L) (.ret (.bool true)))) none
 |_=>none
theorem AfG:Ck Tryz.prog 4 rf:=by
 refine Fh (gl:=CI) (ng:=4) Qn λH args ct q=>?_;unfold rf at q;split at q
 ·rename_i n f a;cases y:Ec H with
  |false=>rw[y]at q;cases q
  |true=>rw[y]at q;injection q with q;refine⟨SC y,_,_,q.symm,?_⟩;rintro⟨L,rfl,rfl⟩;exact⟨⟨Nz L,⟨rfl,rfl⟩,trivial⟩,rJ a,200,rfl,Bu,AkU,AiG L a⟩
 ·cases q
theorem Aey {H:Type} {enc:TypeId×Value->H} {w:World} (cs:List Value) (m:Nat) (x:DataW H×List MemPlace) (h:DataW.trod enc Tryz.prog w 0 (λ_=>true) true m 39 cs=some x):∃a:LT,AG (OE w) a.row cs:=by
 obtain⟨xs,n,_,rfl,hl,hlen,q⟩:=DataW.trod_struct Tryz.underlying39 h;have K:cs.length=6:=hl.trans (by kernel_rfl);clear h
 match xs,hlen with
 | [y0,y1,y2,Z,Y,W],_=>
 match cs,K with
 | [v0,v1,v2,v3,v4,v5],_=>
 have h0:DataW.trod enc Tryz.prog w 0 (λ_=>true) true n 36 [v0]=some y0:=by
  have c:Tryz.prog.cellsOf 36=1:=by kernel_rfl
  simpa[c]using q 0 _ rfl
 obtain⟨V,J,_,_⟩:=DataW.trod_int (k:=.i64) (by kernel_rfl) h0;injection J with J _;subst J;have h1:DataW.trod enc Tryz.prog w 0 (λ_=>true) true n 9 [v1]=some y1:=by
  have c:Tryz.prog.cellsOf 9=1:=by kernel_rfl
  simpa[c]using q 1 _ rfl
 obtain⟨L,E,_,_⟩:=DataW.trod_string (by kernel_rfl) h1;injection E with E _;subst E;obtain⟨U,rfl⟩:∃l:Ac,L=⟨l.toArray⟩:=⟨L.data.toList,by simp⟩;have h2:DataW.trod enc Tryz.prog w 0 (λ_=>true) true n 2 [v2]=some y2:=by
  have c:Tryz.prog.cellsOf 2=1:=by kernel_rfl
  simpa[c]using q 2 _ rfl
 obtain⟨S,C,_,_⟩:=DataW.trod_int (k:=.i64) (by kernel_rfl) h2;injection C with C _;subst C;have h3:DataW.trod enc Tryz.prog w 0 (λ_=>true) true n 3 [v3]=some Z:=by
  have c:Tryz.prog.cellsOf 3=1:=by kernel_rfl
  simpa[c]using q 3 _ rfl
 obtain⟨R,B,_,_⟩:=DataW.trod_int (k:=.i64) (by kernel_rfl) h3;injection B with B _;subst B;have h4:DataW.trod enc Tryz.prog w 0 (λ_=>true) true n 3 [v4]=some Y:=by
  have c:Tryz.prog.cellsOf 3=1:=by kernel_rfl
  simpa[c]using q 4 _ rfl
 obtain⟨O,y,_,_⟩:=DataW.trod_int (k:=.i64) (by kernel_rfl) h4;injection y with y _;subst y;have h5:DataW.trod enc Tryz.prog w 0 (λ_=>true) true n 37 [v5]=some W:=by
  have c:Tryz.prog.cellsOf 37=1:=by kernel_rfl
  simpa[c]using q 5 _ rfl
 obtain⟨M,r5⟩:=Adv (k:=.i64) (e:=3) (by kernel_rfl) (by kernel_rfl) (by kernel_rfl) h5;exact⟨⟨V,U,S,R,O,M⟩,.cons _ _ _ _ (.int _ _) (.cons _ _ _ _ (.bs _) (.cons _ _ _ _ (.int _ _) (.cons _ _ _ _ (.int _ _) (.cons _ _ _ _ (.int _ _) (.cons _ _ _ _ r5 .nil)))))⟩
theorem Ald {H:Type} {enc:TypeId×Value->H} {w:World} (cs:List Value) (m:Nat) (x:DataW H×List MemPlace) (h:DataW.trod enc Tryz.prog w 0 (λ_=>true) true m 26 cs=some x):∃L:Ak,AG (OE w) [AV.vec 6 L.length (A8 L)] cs:=by
 obtain⟨B,n,_,rfl,C,hlen,E⟩:=DataW.trod_struct Tryz.underlying26 h;have q:cs.length=1:=C.trans (by kernel_rfl);clear h
 match B,hlen with
 | [y],_=>
 match cs,q with
 | [v0],_=>
 have J:DataW.trod enc Tryz.prog w 0 (λ_=>true) true n 24 [v0]=some y:=by
  have c:Tryz.prog.cellsOf 24=1:=by kernel_rfl
  simpa[c]using E 0 _ rfl
 obtain⟨l,r⟩:=zQ (row:=LT.row) (d:=LT.none) (Ap:=6) (e:=39) (by decide) (by kernel_rfl) (by kernel_rfl) (λcs m x h=>Aey cs m x h) J;exact⟨l,.cons _ _ _ _ r .nil⟩
end Go.Proofs.YtlmmbanfhjaioaaGreatDoor
end
end
