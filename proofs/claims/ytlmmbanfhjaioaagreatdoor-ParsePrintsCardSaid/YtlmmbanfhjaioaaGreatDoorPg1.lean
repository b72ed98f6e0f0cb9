/- Laid by program out of its parts: PgA, PgB, PgC, PgD. -/
import Derived.Test.YtlmmbanfhjaioaaGreatDoorPd0
import Derived.Test.YtlmmbanfhjaioaaGreatDoorMf
import Derived.Test.YtlmmbanfhjaioaaGreatDoorMj
noncomputable section
open List(getD)
set_option linter.unusedVariables false
set_option linter.unusedSimpArgs false
section
set_option maxRecDepth 100000
set_option maxHeartbeats 2000000
open Go Go.Ev
namespace Go.Proofs.YtlmmbanfhjaioaaGreatDoor
def HE (n:Nat) (s:Ac):Ac:=if h:n=0 then s else HE (n/10) (UInt8.ofNat (48+n %10)::s)
termination_by n
decreasing_by omega
def Ek (n:Nat):Ac:=if n=0 then [48]else HE n []
def Yd:Tr Ae->Aj->Option Ct:=λ_ args=>match args with
 | [.int .i64 z]=>some (.Be (0<=z/\z<=10000000000) (.ret (.bs (AU (Ek z.toNat)))))
 |_=>none
structure DI (n:Nat) (x:Nat×List UInt8):Prop where
 le:x.1<=n
 len:x.2.length+x.1<=n+1
 eq:Ek n=if x.2=[]then Ek x.1 else HE x.1 x.2
 zero:x.2=[]->x.1=n
def oT (n:Nat):CX:={X:=Nat×Ac,T:=λs _ x=>[(0,.int .i64 x.1),(3,.bs x.2)],H:=λs n0 x=>[],nx:=λs _=>s.nx,I:=λ_ x=>DI n x,m:=λx=>x.1+(if x.2=[]then 1 else 0)}
@[reducible] def eK:Nat->Nat×Ac->Nat×Ac->Prop:=λ(n:Nat) (a q:Nat×Ac)=>DI n q/\Nat.le (Nat.succ (q.1+if q.2=[]then 1 else 0)) (a.1+if a.2=[]then 1 else 0)/\Aa/\((Aa/\Int.tdiv (↑a.1:Int) (10:Int)=(↑q.1:Int))/\List.map (λ(a:AV)=>fT (λ(l:Aj)=>UInt8) [a] (λ(k:IntKind) (n:Int)=>UInt8.ofNat (Int.toNat n)) λ(x:Aj)=>(0:UInt8)) [AV.int .u8 ((48:Int)+Int.tmod (↑a.1:Int) (10:Int))]++a.2=q.2/\True)/\True
theorem AhR:∀(n:Nat),Nat.le n 10000000000->(∃(K:Nat×Ac),DI n K/\Aa/\((Aa/\(↑n:Int)=(↑K.1:Int))/\[]=K.2/\True)/\True)/\∀(x:Nat×Ac),DI n x->Ah (AQ (0:Int) (↑x.1:Int)) (Al (BJ .i64 ((48:Int)+Int.tmod (↑x.1:Int) (10:Int))) (Al (BJ .u8 ((48:Int)+Int.tmod (↑x.1:Int) (10:Int))) (Al (decide (List.length (List.map (λ(a:AV)=>fT (λ(l:Aj)=>UInt8) [a] (λ(k:IntKind) (n:Int)=>UInt8.ofNat (Int.toNat n)) λ(x:Aj)=>(0:UInt8)) [AV.int .u8 ((48:Int)+Int.tmod (↑x.1:Int) (10:Int))])+x.2.length<=9223372036854775807)) (Al (BJ .i64 (Int.tdiv (↑x.1:Int) (10:Int))) (∃(y:Nat×Ac),eK n x y))))) (Ah (decide (x.2=[])) (Al (BJ .i64 ((48:Int)+Int.tmod (↑x.1:Int) (10:Int))) (Al (BJ .u8 ((48:Int)+Int.tmod (↑x.1:Int) (10:Int))) (Al (decide (List.length (List.map (λ(a:AV)=>fT (λ(l:Aj)=>UInt8) [a] (λ(k:IntKind) (n:Int)=>UInt8.ofNat (Int.toNat n)) λ(x:Aj)=>(0:UInt8)) [AV.int .u8 ((48:Int)+Int.tmod (↑x.1:Int) (10:Int))])+x.2.length<=9223372036854775807)) (Al (BJ .i64 (Int.tdiv (↑x.1:Int) (10:Int))) (∃(y:Nat×Ac),eK n x y))))) (x.2=Ek n))
:=by
 intro n hn;have hn:n<=10000000000:=hn;simp only[Cd,eK];refine⟨⟨(n,[]),⟨AM _,by simp,by simp,λ_=>rfl⟩,rfl,rfl⟩,λx E=>?_⟩;obtain⟨m,s⟩:=x;have R:=E.le;have B:=E.len;have q:=E.eq;have hz:=E.zero;simp only at R B q hz⊢;have M:(m:Int).tmod 10=((m %10:Nat):Int):=by rw[Int.tmod_eq_emod_of_nonneg (by omega)];omega
 have O:(m:Int).tdiv 10=((m/10:Nat):Int):=by rw[Int.tdiv_eq_ediv_of_nonneg (by omega)];omega
 rw[M,O];have S:(48+((m %10:Nat):Int)).toNat=48+m %10:=by omega
 have next:0<m\/s=[]->Al (BJ .i64 (48+((m %10:Nat):Int))) (Al (BJ .u8 (48+((m %10:Nat):Int))) (Al (decide ((UInt8.ofNat (48+((m %10:Nat):Int)).toNat::([]:Ac)).length+s.length<=9223372036854775807)) (Al (BJ .i64 ((m/10:Nat):Int))
   (∃y:Nat×Ac,DI n y/\(y.fst+if y.snd=[]then 1 else 0).succ<=m+(if s=[]then 1 else 0)/\((m/10:Nat):Int)=(y.fst:Int)/\(UInt8.ofNat (48+((m %10:Nat):Int)).toNat::s)=y.snd)))):=λh=>by
  rw[S];refine At (CJ.2 (by omega)) (At (VF.2 (by omega)) (At (Bi (by simp;omega)) (At (CJ.2 (by omega)) ⟨(m/10,UInt8.ofNat (48+m %10)::s),⟨by simp only;omega,?_,?_,λh=>by simp at h⟩,?_,rfl,rfl⟩)))
  ·simp only[AE];rcases h with h|h
   ·omega
   ·have:=hz h;subst h;simp only[List.length_nil]at B⊢;omega
  ·simp only[List.cons_ne_nil,if_false,reduceCtorEq];by_cases J:s=[]
   ·rw[Am J]at q;rw[q,J];unfold Ek;split
    ·rename_i L;subst L;rw[HE];rfl
    ·rename_i L;rw[HE,dif_neg L]
   ·rw[Ad J]at q;rw[q,HE,dif_neg (by rcases h with h|h;omega;exact absurd h J)]
  ·simp only[List.cons_ne_nil,if_false,reduceCtorEq];rcases h with h|h
   ·omega
   ·rw[Am h];omega
 refine Aw (λh=>?_) λh=>Aw (λC=>?_) λC=>?_
 ·rw[CE]at h;exact next (.inl (by omega))
 ·exact next (.inr (Bt C))
 ·rw[CF]at h;have C:=Gj C;rw[Ad C]at q;obtain rfl:m=0:=by omega
  rw[q,HE];rfl
theorem AhQ:∀(n:Nat),n<=10000000000->(A4 (IZ [] 76 2 (oT n)) 60).call 76 [.int .i64 n] .leaf 0 (Cb Tryz.prog false (.bs (Ek n))):=Eq.mpr (by kernel_rfl) AhR
theorem wG:Ck Tryz.prog 76 Yd:=by
 refine Fh (gl:=[]) (ng:=0) Bq λH args ct q=>?_;unfold Yd at q;split at q
 ·rename_i z;injection q with q;subst q;refine⟨Bq,_,_,rfl,?_⟩;rintro⟨B,y⟩;obtain⟨b,rfl⟩:∃b:Nat,z=b:=⟨z.toNat,by omega⟩;rw[Dr,Int.toNat_natCast];exact⟨⟨⟨rfl,rfl⟩,trivial⟩,IZ [] 76 2 (oT b),60,rfl,Bu,B5,AhQ b (by omega)⟩
 ·cases q
structure Ld (K:List (List UInt8)):Prop where
 len:K.length<=1000
 all:∀t∈K,t.length<=10000000
def N8 (K:List Ac) (ind:Ac):Ac:=(K.map λt=>ind++[32,32]++t++[10]).flatten
def HW (K:List Ac) (ind:Ac):Ac:=if K=[]then [123,32,125]else [123,10]++N8 K ind++ind++[125]
structure WY (K:List (List UInt8)) (ind:List UInt8) (x:Nat×List UInt8):Prop where
 le:x.1<=K.length
 eq:x.2=[123,10]++N8 (K.take x.1) ind
 len:x.2.length<=2+x.1*10002000
def SBr (K:List Ac) (ind:Ac):CX:={X:=Nat×Ac,T:=λ_ _ x=>[(0,.vec 1 K.length (rT K)),(1,.bs ind),(5,.bs x.2),(6,.int .i64 x.1)],H:=λs n0 _=>SM s n0,nx:=λs _=>s.nx,I:=λ_=>WY K ind,m:=λx=>K.length-x.1}
def po (K:List Ac) (ind:Ac):Ctx:={P:=Tryz.prog,tb:=[],lp:=λf r=>cond (Nat.beq f 42) (cond (Nat.beq r 5) (some (SBr K ind)) none) none,cut:=λ_ _=>none}
theorem Lo {K:List Ac} (h:Ld K) (i:Nat):(K.getD i []).length<=10000000:=by
 by_cases hi:i<K.length
 ·rw[B2,CC hi];exact h.all _ (List.getElem_mem _)
 ·rw[B2,List.getElem?_eq_none (by omega)];exact CL _
theorem mu {K:List Ac} {i:Nat} (h:i<K.length):K.take (i+1)=K.take i++[K.getD i []]:=by rw[List.take_add_one,CC h,B2,CC h];rfl
theorem Aer {K:List Ac} {i:Nat} (h:i<K.length) (ind:Ac):N8 (K.take (i+1)) ind=N8 (K.take i) ind++(ind++[32,32]++K.getD i []++[10]):=by unfold N8;rw[mu h,List.map_append,List.flatten_append];simp
theorem AhH:∀(K:List Ac) (ind:Ac),Ld K->Nat.le ind.length 1000->Ah (An (Int.ofNat K.length) (0:Int)) ([(123:UInt8),32,125]=HW K ind) ((∃(B:Nat×Ac),WY K ind B/\Aa/\((Aa/\Af K.length/\AH λ(i:Nat)=>Nat.le (Nat.succ i) K.length->Af (getD K i [])/\True)/\Af ind/\[(123:UInt8),10]=B.2/\(Aa/\(0:Int)=(↑B.1:Int))/\True)/\True)/\∀(x:Nat×Ac),WY K ind x->Ah (AQ (↑x.1:Int) (Int.ofNat K.length)) (Al (decide (x.2.length+ind.length<=9223372036854775807)) (Al (decide (List.length (x.2++ind)+2<=9223372036854775807)) (Al (A9 (↑x.1:Int) K.length) (Al (decide (List.length (x.2++ind++[(32:UInt8),32])+List.length (getD K (Int.toNat (↑x.1:Int)) [])<=9223372036854775807)) (Al (decide (List.length (x.2++ind++[(32:UInt8),32]++getD K (Int.toNat (↑x.1:Int)) [])+1<=9223372036854775807)) (Al (BJ .i64 ((↑x.1:Int)+1)) (∃(y:Nat×Ac),WY K ind y/\Nat.le (Nat.succ (K.length-y.1)) (K.length-x.1)/\Aa/\((Aa/\Af K.length/\AH λ(i:Nat)=>Nat.le (Nat.succ i) K.length->Af (getD K i [])/\True)/\Af ind/\x.2++ind++[(32:UInt8),32]++getD K (Int.toNat (↑x.1:Int)) []++[(10:UInt8)]=y.2/\(Aa/\(↑x.1:Int)+1=(↑y.1:Int))/\True)/\True))))))) (Al (decide (x.2.length+ind.length<=9223372036854775807)) (Al (decide (List.length (x.2++ind)+1<=9223372036854775807)) (x.2++ind++[(125:UInt8)]=HW K ind))))
:=by
 intro K ind L M;simp only[Cd];have M:ind.length<=1000:=M;have hn:=L.len;refine Aw (λh=>?_) λh=>⟨⟨(0,[123,10]),⟨CL _,by simp[N8],by simp⟩,rfl,rfl⟩,λx C=>?_⟩
 ·have h:K=[]:=List.length_eq_zero_iff.1 (by rw[C0]at h;omega);subst h;rfl
 have O:¬K=[]:=λe=>by rw[Dy]at h;exact h (by rw[e];rfl)
 obtain⟨i,s⟩:=x;have J:=C.le;have heq:=C.eq;have q:=C.len;simp only at J heq q⊢;have R:=Lo L i;have S:i*10002000<=1000*10002000:=Nat.mul_le_mul_right _ (by omega);refine Aw (λE=>?_) λE=>?_
 ·rw[CE]at E;refine At (Bi (by omega)) (At (Bi (by simp only[AK];omega)) (At (Cf.2 (by omega)) (At (Bi (by simp only[AK,AE,List.length_nil];omega)) (At (Bi (by simp only[AK,AE,List.length_nil];omega)) (At (CJ.2 (by omega)) ⟨(i+1,s++ind++[32,32]++K.getD i []++[10]),⟨by simp only;omega,?_,?_⟩,by simp only;omega,rfl,by simp only;omega⟩)))))
  ·simp only
   rw[Aer (by omega),heq];simp
  ·simp only[AK,AE,List.length_nil];omega
 ·rw[CF]at E;refine At (Bi (by omega)) (At (Bi (by simp only[AK];omega)) ?_);unfold HW;rw[Ad O,heq,List.take_of_length_le (by omega)]
theorem AhG:∀(K:List Ac) (ind:Ac),Ld K->ind.length<=1000->(A4 (po K ind) 60).call 42 [.vec 1 K.length (rT K),.bs ind] .leaf 0 (Cb Tryz.prog false (.bs (HW K ind))):=Eq.mpr (by kernel_rfl) AhH
def gZ:Tr Ae->Aj->Option Ct:=λ_ args=>match args with
 | [.vec 1 n f,.bs ind]=>some (.Be (P2 n f=true/\Ld (Ft n f)/\ind.length<=1000) (.ret (.bs (AU (HW (Ft n f) ind)))))
 |_=>none
theorem cn (K:List Ac):AZ [] (.vec 1 K.length (rT K)) (.vec 1 K.length (rT K)):=⟨rfl,rfl,⟨λi _=>Alr K i⟩⟩
theorem c9 {n:Nat} {f:Nat->Aj} (h:P2 n f=true):VA (.vec 1 n f) (.vec 1 (Ft n f).length (rT (Ft n f))):=λρ v hv=>
 zO (AgR n f).symm (λi hi=>(Agy h hi).symm) ρ v hv
theorem Afh:Ck Tryz.prog 42 gZ:=by
 refine OV (gl:=[]) (ng:=0) Bq λH args ct q=>?_;unfold gZ at q;split at q
 ·rename_i n f ind;injection q with q;refine⟨Bq,_,_,q.symm,λy=>⟨[.vec 1 (Ft n f).length (rT (Ft n f)),.bs ind],Kl (c9 y.1) (Kl (PH _) Rm),⟨cn _,rfl,trivial⟩,po (Ft n f) ind,60,rfl,Bu,B5,?_⟩⟩;rw[Dr];exact AhG _ _ y.2.1 y.2.2
 ·cases q
def kd (K:List Ac) (i:Nat):Ac:=K.getD i []
def GQ (w:LT) (K:List Ac):Ac:=
 if w.kind=26 then Ek w.n.toNat else if w.kind=27 then [110,117,108,108]else if w.kind=28 then [105,116]else
 if w.kind=30 then kd K 0++[46]++w.text else if w.kind=31 then kd K 0++[91]++kd K 1++[93]else
 if w.kind=32 then kd K 0++[32]++w.text++[32]++kd K 1 else if w.kind=33 then [110,101,119,32]++w.text else
 if w.kind=34 then [97,114,114,32]++kd K 0 else if w.kind=35 then [108,101,110,32]++kd K 0 else
 if w.kind=36 then [102,110,32]++kd K 0 else w.text
structure Xb (w:LT) (K:List (List UInt8)):Prop where
 ks:Ld K
 tx:w.text.length<=1000
 n:w.kind=26->0<=w.n/\w.n<=10000000000
 k1:(w.kind=30\/w.kind=34\/w.kind=35\/w.kind=36)->1<=K.length
 k2:(w.kind=31\/w.kind=32)->2<=K.length
def rP:Ctx:={P:=Tryz.prog,tb:=[(76,Yd)],lp:=λ_ _=>none,cut:=λ_ _=>none}
def Oa (K:List Ac):Ac:=(K.map λt=>32::t).flatten
def Qz (n:Int):Ac:=if n=0 then [99,114,101,97,116,101,32]else if n=1 then [115,116,97,114,116,32]else if n=2 then [115,116,111,112,32]else [100,101,115,116,114,111,121,32]
def QI (n:Int):Ac:=if n=0 then [32,111,102,102,32]else [32,111,110,32]
def Ff (w:LT) (K:List Ac):Ac:=
 if w.kind=2 then [108,111,111,112,101,114,32]++w.text++[59]else
 if w.kind=3 then [99,108,97,115,115,32]++w.text++[32,123]++Oa K++[32,125]else
 if w.kind=4 then w.text++[32]++kd K 0++[59]else
 if w.kind=6 then [118,97,114,32]++w.text++[32]++kd K 0++[59]else
 if w.kind=7 then [102,110,32]++w.text++[32]++kd K 0 else
 if w.kind=9 then Qz w.n++kd K 0 else
 if w.kind=10 then [101,118,101,110,116,32]++w.text++[32,111,110,32]++kd K 0++QI w.n++kd K 1 else
 if w.kind=11 then [109,97,105,110,32]++kd K 0 else w.text
structure UN (w:LT) (K:List (List UInt8)):Prop where
 ks:Ld K
 tx:w.text.length<=1000
 n9:w.kind=9->0<=w.n/\w.n<=3
 vf:w.kind=10->w.n=0\/w.n=1
 k1:(w.kind=4\/w.kind=6\/w.kind=7\/w.kind=9\/w.kind=11)->1<=K.length
 k2:w.kind=10->2<=K.length
structure W6 (w:LT) (K:List (List UInt8)) (x:Nat×List UInt8):Prop where
 le:x.1<=K.length
 eq:x.2=[99,108,97,115,115,32]++w.text++[32,123]++Oa (K.take x.1)
 len:x.2.length<=1010+x.1*10002000
def SMe (w:LT) (K:List Ac):CX:={X:=Nat×Ac,T:=λs _ x=>[(1,.vec 1 K.length (rT K)),(5,.bs x.2),(6,.int .i64 x.1)]++MZ s [0,2],H:=λs n0 _=>SM s n0,nx:=λs _=>s.nx,I:=λ_=>W6 w K,m:=λx=>K.length-x.1}
def pw (w:LT) (K:List Ac):Ctx:={P:=Tryz.prog,tb:=[],lp:=λf r=>cond (Nat.beq f 47) (cond (Nat.beq r 7) (some (SMe w K)) none) none,cut:=λ_ _=>none}
theorem Aj7 {z a:Int} {P:Prop} (q:z=a) (y:z=a->P):Al (An z a) P:=At (C0.2 q) (y q)
theorem Kv {z a:Int} {P Q:Prop} (y:z=a->P) (q:¬z=a->Q):Ah (An z a) P Q:=Aw (λe=>y (C0.1 e)) λe=>q (Dy.1 e)
theorem AiZ:∀(w:LT) (K:List Ac),Xb w K->Ah (An w.kind (26:Int)) ((Int.NonNeg (w.n-0)/\Int.NonNeg ((10000000000:Int)-w.n))/\AU (Ek (Int.toNat w.n))=GQ w K) (Ah (An w.kind (27:Int)) ([(110:UInt8),117,108,108]=GQ w K) (Ah (An w.kind (28:Int)) ([(105:UInt8),116]=GQ w K) (Ah (An w.kind (30:Int)) (Al (A9 (0:Int) K.length) (Al (decide (List.length (getD K 0 [])+1<=9223372036854775807)) (Al (decide (List.length (getD K 0 []++[(46:UInt8)])+w.text.length<=9223372036854775807)) ((((True/\True/\True)/\True)/\True)/\getD K 0 []++[(46:UInt8)]++w.text=GQ w K)))) (Ah (An w.kind (31:Int)) (Al (A9 (0:Int) K.length) (Al (decide (List.length (getD K 0 [])+1<=9223372036854775807)) (Al (A9 (1:Int) K.length) (Al (decide (List.length (getD K 0 []++[(91:UInt8)])+List.length (getD K 1 [])<=9223372036854775807)) (Al (decide (List.length (getD K 0 []++[(91:UInt8)]++getD K 1 [])+1<=9223372036854775807)) ((((True/\True/\True)/\True)/\True)/\getD K 0 []++[(91:UInt8)]++getD K 1 []++[(93:UInt8)]=GQ w K)))))) (Ah (An w.kind (32:Int)) (Al (A9 (0:Int) K.length) (Al (decide (List.length (getD K 0 [])+1<=9223372036854775807)) (Al (decide (List.length (getD K 0 []++[(32:UInt8)])+w.text.length<=9223372036854775807)) (Al (decide (List.length (getD K 0 []++[(32:UInt8)]++w.text)+1<=9223372036854775807)) (Al (A9 (1:Int) K.length) (Al (decide (List.length (getD K 0 []++[(32:UInt8)]++w.text++[(32:UInt8)])+List.length (getD K 1 [])<=9223372036854775807)) ((((True/\True/\True/\True)/\True)/\True)/\getD K 0 []++[(32:UInt8)]++w.text++[(32:UInt8)]++getD K 1 []=GQ w K))))))) (Ah (An w.kind (33:Int)) (Al (decide (4+w.text.length<=9223372036854775807)) ([(110:UInt8),101,119,32]++w.text=GQ w K)) (Ah (An w.kind (34:Int)) (Al (A9 (0:Int) K.length) (Al (decide (4+List.length (getD K 0 [])<=9223372036854775807)) ([(97:UInt8),114,114,32]++getD K 0 []=GQ w K))) (Ah (An w.kind (35:Int)) (Al (A9 (0:Int) K.length) (Al (decide (4+List.length (getD K 0 [])<=9223372036854775807)) ([(108:UInt8),101,110,32]++getD K 0 []=GQ w K))) (Ah (An w.kind (36:Int)) (Al (A9 (0:Int) K.length) (Al (decide (3+List.length (getD K 0 [])<=9223372036854775807)) ([(102:UInt8),110,32]++getD K 0 []=GQ w K))) (w.text=GQ w K))))))))))
:=by
 intro w K h;simp only[Cd];have C:=Lo h.ks 0;have B:=Lo h.ks 1;have tx:=h.tx;have y:=h.k1;have q:=h.k2;have hn:=h.n;clear h;refine Kv (λe=>⟨hn e,by unfold GQ;rw[Am e]⟩) λYc=>?_;clear hn
 repeat' first
  |with_reducible refine Kv (λ_=>?_) (λ_=>?_)
  |with_reducible refine At (Cf.2 (by omega)) ?_
  |with_reducible refine At (Bi (by first|omega|(simp only[AK,AE,List.length_nil];omega))) ?_
 all_goals
  unfold GQ kd;simp[*]
theorem AiY:∀(w:LT) (K:List Ac),Xb w K->(A4 rP 60).call 44 [.agg w.row,.vec 1 K.length (rT K)] .leaf 0 (Cb Tryz.prog false (.bs (GQ w K))):=Eq.mpr (by kernel_rfl) AiZ
@[reducible] def eL:LT->Prop:=λ(w:LT)=>(Aa/\Aa/\Aa/\Aa/\(((((True/\Aa/\Af w.kind)/\Af w.text)/\Aa/\Af w.n)/\Aa/\Af w.line)/\Aa/\Af w.Ao)/\Aa/\Af w.kids.length/\AH λ(i:Nat)=>Nat.le (Nat.succ i) w.kids.length->(Aa/\Af (getD w.kids i (0:Int)))/\True)/\True
@[reducible] def eM:LT->Prop:=λ(w:LT)=>((Aa/\Af w.kind)/\Af w.text/\(Aa/\Af w.n)/\(Aa/\Af w.line)/\(Aa/\Af w.Ao)/\(Aa/\Af w.kids.length/\AH λ(i:Nat)=>Nat.le (Nat.succ i) w.kids.length->(Aa/\Af (getD w.kids i (0:Int)))/\True)/\True)/\(Af (some 0)/\Aa)/\True
theorem AhL:∀(w:LT) (K:List Ac),UN w K->Ah (An w.kind (2:Int)) (Al (decide (7+w.text.length<=9223372036854775807)) (Al (decide (List.length ([(108:UInt8),111,111,112,101,114,32]++w.text)+1<=9223372036854775807)) ([(108:UInt8),111,111,112,101,114,32]++w.text++[(59:UInt8)]=Ff w K))) (Ah (An w.kind (3:Int)) (Al (decide (6+w.text.length<=9223372036854775807)) (Al (decide (List.length ([(99:UInt8),108,97,115,115,32]++w.text)+2<=9223372036854775807)) ((∃(C:Nat×Ac),W6 w K C/\Aa/\((Aa/\Af K.length/\AH λ(i:Nat)=>Nat.le (Nat.succ i) K.length->Af (getD K i [])/\True)/\[(99:UInt8),108,97,115,115,32]++w.text++[(32:UInt8),123]=C.2/\(Aa/\(0:Int)=(↑C.1:Int))/\eM w)/\eL w)/\∀(x:Nat×Ac),W6 w K x->Ah (AQ (↑x.1:Int) (Int.ofNat K.length)) (Al (decide (x.2.length+1<=9223372036854775807)) (Al (A9 (↑x.1:Int) K.length) (Al (decide (List.length (x.2++[(32:UInt8)])+List.length (getD K (Int.toNat (↑x.1:Int)) [])<=9223372036854775807)) (Al (BJ .i64 ((↑x.1:Int)+1)) (∃(y:Nat×Ac),W6 w K y/\Nat.le (Nat.succ (K.length-y.1)) (K.length-x.1)/\Aa/\((Aa/\Af K.length/\AH λ(i:Nat)=>Nat.le (Nat.succ i) K.length->Af (getD K i [])/\True)/\x.2++[(32:UInt8)]++getD K (Int.toNat (↑x.1:Int)) []=y.2/\(Aa/\(↑x.1:Int)+1=(↑y.1:Int))/\eM w)/\eL w))))) (Al (decide (x.2.length+2<=9223372036854775807)) (x.2++[(32:UInt8),125]=Ff w K))))) (Ah (An w.kind (4:Int)) (Al (decide (w.text.length+1<=9223372036854775807)) (Al (A9 (0:Int) K.length) (Al (decide (List.length (w.text++[(32:UInt8)])+List.length (getD K 0 [])<=9223372036854775807)) (Al (decide (List.length (w.text++[(32:UInt8)]++getD K 0 [])+1<=9223372036854775807)) ((((True/\True/\True)/\True)/\True)/\w.text++[(32:UInt8)]++getD K 0 []++[(59:UInt8)]=Ff w K))))) (Ah (An w.kind (6:Int)) (Al (decide (4+w.text.length<=9223372036854775807)) (Al (decide (List.length ([(118:UInt8),97,114,32]++w.text)+1<=9223372036854775807)) (Al (A9 (0:Int) K.length) (Al (decide (List.length ([(118:UInt8),97,114,32]++w.text++[(32:UInt8)])+List.length (getD K 0 [])<=9223372036854775807)) (Al (decide (List.length ([(118:UInt8),97,114,32]++w.text++[(32:UInt8)]++getD K 0 [])+1<=9223372036854775807)) ((((True/\True/\True)/\True)/\True)/\[(118:UInt8),97,114,32]++w.text++[(32:UInt8)]++getD K 0 []++[(59:UInt8)]=Ff w K)))))) (Ah (An w.kind (7:Int)) (Al (decide (3+w.text.length<=9223372036854775807)) (Al (decide (List.length ([(102:UInt8),110,32]++w.text)+1<=9223372036854775807)) (Al (A9 (0:Int) K.length) (Al (decide (List.length ([(102:UInt8),110,32]++w.text++[(32:UInt8)])+List.length (getD K 0 [])<=9223372036854775807)) ((((True/\True/\True)/\True)/\True)/\[(102:UInt8),110,32]++w.text++[(32:UInt8)]++getD K 0 []=Ff w K))))) (Ah (An w.kind (9:Int)) (Ah (An w.n (3:Int)) (Al (A9 (0:Int) K.length) (Al (decide (8+List.length (getD K 0 [])<=9223372036854775807)) ((((True/\True/\True/\True)/\True)/\True)/\[(100:UInt8),101,115,116,114,111,121,32]++getD K 0 []=Ff w K))) (Ah (An w.n (2:Int)) (Al (A9 (0:Int) K.length) (Al (decide (5+List.length (getD K 0 [])<=9223372036854775807)) ((((True/\True/\True/\True)/\True)/\True)/\[(115:UInt8),116,111,112,32]++getD K 0 []=Ff w K))) (Ah (An w.n (1:Int)) (Al (A9 (0:Int) K.length) (Al (decide (6+List.length (getD K 0 [])<=9223372036854775807)) ((((True/\True/\True/\True)/\True)/\True)/\[(115:UInt8),116,97,114,116,32]++getD K 0 []=Ff w K))) (Al (An w.n (0:Int)) (Al (A9 (0:Int) K.length) (Al (decide (7+List.length (getD K 0 [])<=9223372036854775807)) ((((True/\True/\True/\True)/\True)/\True)/\[(99:UInt8),114,101,97,116,101,32]++getD K 0 []=Ff w K))))))) (Ah (An w.kind (10:Int)) (Al (decide (6+w.text.length<=9223372036854775807)) (Al (decide (List.length ([(101:UInt8),118,101,110,116,32]++w.text)+4<=9223372036854775807)) (Al (A9 (0:Int) K.length) (Al (decide (List.length ([(101:UInt8),118,101,110,116,32]++w.text++[(32:UInt8),111,110,32])+List.length (getD K 0 [])<=9223372036854775807)) (Ah (An w.n (1:Int)) (Al (decide (List.length ([(101:UInt8),118,101,110,116,32]++w.text++[(32:UInt8),111,110,32]++getD K 0 [])+4<=9223372036854775807)) (Al (A9 (1:Int) K.length) (Al (decide (List.length ([(101:UInt8),118,101,110,116,32]++w.text++[(32:UInt8),111,110,32]++getD K 0 []++[(32:UInt8),111,110,32])+List.length (getD K 1 [])<=9223372036854775807)) ((((True/\True/\True/\True/\True/\True)/\True)/\True)/\[(101:UInt8),118,101,110,116,32]++w.text++[(32:UInt8),111,110,32]++getD K 0 []++[(32:UInt8),111,110,32]++getD K 1 []=Ff w K)))) (Al (An w.n (0:Int)) (Al (decide (List.length ([(101:UInt8),118,101,110,116,32]++w.text++[(32:UInt8),111,110,32]++getD K 0 [])+5<=9223372036854775807)) (Al (A9 (1:Int) K.length) (Al (decide (List.length ([(101:UInt8),118,101,110,116,32]++w.text++[(32:UInt8),111,110,32]++getD K 0 []++[(32:UInt8),111,102,102,32])+List.length (getD K 1 [])<=9223372036854775807)) ((((True/\True/\True/\True/\True/\True)/\True)/\True)/\[(101:UInt8),118,101,110,116,32]++w.text++[(32:UInt8),111,110,32]++getD K 0 []++[(32:UInt8),111,102,102,32]++getD K 1 []=Ff w K)))))))))) (Ah (An w.kind (11:Int)) (Al (A9 (0:Int) K.length) (Al (decide (5+List.length (getD K 0 [])<=9223372036854775807)) ([(109:UInt8),97,105,110,32]++getD K 0 []=Ff w K))) (w.text=Ff w K))))))))
:=by
 intro w K h;simp only[Cd,eL,eM];have B:=h.ks;have S:=B.len;have Y:=Lo B 0;have W:=Lo B 1;have tx:=h.tx;have R:=h.k1;have O:=h.k2;have n9:=h.n9;have vf:=h.vf;clear h;refine Kv (λe=>?_) λM=>Kv (λe=>?_) λZ=>?_
 ·refine At (Bi (by omega)) (At (Bi (by simp only[AK,AE,List.length_nil];omega)) ?_);unfold Ff;rw[Am e]
 ·refine At (Bi (by omega)) (At (Bi (by simp only[AK,AE,List.length_nil];omega)) ⟨⟨(0,[99,108,97,115,115,32]++w.text++[32,123]),⟨CL _,by simp[Oa],by simp only[AK,AE,List.length_nil];omega⟩,rfl,rfl⟩,λx E=>?_⟩);obtain⟨i,s⟩:=x;have L:=E.le;have heq:=E.eq;have q:=E.len;simp only at L heq q⊢;have U:=Lo B i;have V:i*10002000<=1000*10002000:=Nat.mul_le_mul_right _ (by omega);refine Aw (λJ=>?_) λJ=>?_
  ·rw[CE]at J;refine At (Bi (by omega)) (At (Cf.2 (by omega)) (At (Bi (by simp only[AK,AE,List.length_nil];omega)) (At (CJ.2 (by omega)) ⟨(i+1,s++[32]++K.getD i []),⟨by simp only;omega,?_,?_⟩,by simp only;omega,rfl,by simp only;omega⟩)))
   ·simp only
    unfold Oa at heq⊢;rw[mu (by omega),List.map_append,List.flatten_append,heq];simp
   ·simp only[AK,AE,List.length_nil];omega
  ·rw[CF]at J;refine At (Bi (by omega)) ?_;unfold Ff;rw[Ad M,Am e,heq,List.take_of_length_le (by omega)]
 repeat' first
  |with_reducible refine Kv (λ_=>?_) (λ_=>?_)
  |with_reducible refine Aj7 (by omega) (λ_=>?_)
  |with_reducible refine At (Cf.2 (by omega)) ?_
  |with_reducible refine At (Bi (by first|omega|(simp only[AK,AE,List.length_nil];omega))) ?_
 all_goals
  unfold Ff kd;simp[Qz,QI, *]
theorem AhK:∀(w:LT) (K:List Ac),UN w K->(A4 (pw w K) 60).call 47 [.agg w.row,.vec 1 K.length (rT K)] .leaf 0 (Cb Tryz.prog false (.bs (Ff w K))):=Eq.mpr (by kernel_rfl) AhL
def gx:Tr Ae->Aj->Option Ct:=λ_ args=>match args with
 | [.agg r,.vec 1 m f]=>some (.Be (P2 m f=true/\∃w:LT,r=w.row/\Xb w (Ft m f)) (.ret (.bs (AU (GQ (FP r) (Ft m f))))))
 |_=>none
def gf:Tr Ae->Aj->Option Ct:=λ_ args=>match args with
 | [.agg r,.vec 1 m f]=>some (.Be (P2 m f=true/\∃w:LT,r=w.row/\UN w (Ft m f)) (.ret (.bs (AU (Ff (FP r) (Ft m f))))))
 |_=>none
theorem AfQ:Ck Tryz.prog 44 gx:=by
 refine OV (gl:=[]) (ng:=0) Bq λH args ct q=>?_;unfold gx at q;split at q
 ·rename_i r n f;injection q with q;refine⟨Bq,_,_,q.symm,?_⟩;rintro⟨y,w,rfl,B⟩;refine⟨[.agg w.row,.vec 1 (Ft n f).length (rT (Ft n f))],Kl (PH _) (Kl (c9 y) Rm),⟨OD [] w,cn _,trivial⟩,rP,60,rfl,Bu,Cj wG B5,?_⟩;rw[Dr,NM];exact AiY _ _ B
 ·cases q
theorem Afj:Ck Tryz.prog 47 gf:=by
 refine OV (gl:=[]) (ng:=0) Bq λH args ct q=>?_;unfold gf at q;split at q
 ·rename_i r n f;injection q with q;refine⟨Bq,_,_,q.symm,?_⟩;rintro⟨y,w,rfl,B⟩;refine⟨[.agg w.row,.vec 1 (Ft n f).length (rT (Ft n f))],Kl (PH _) (Kl (c9 y) Rm),⟨OD [] w,cn _,trivial⟩,pw w (Ft n f),60,rfl,Bu,B5,?_⟩;rw[Dr,NM];exact AhK _ _ B
 ·cases q
def Eu (w:LT) (K:List Ac):Ac:=if(w.kind=19\/w.kind=20)/\1<K.length then [32,116,111,32]++kd K 1 else []
def Fg (L:Ak) (w:LT):Bool:=decide (0<(L.getD (w.kids.getD 2 0).toNat LT.none).kids.length)
def Et (w:LT) (b:Bool) (K:List Ac):Ac:=
 if w.kind=13 then [118,97,114,32]++w.text++[32]++kd K 0++[32,61,32]++kd K 1++[59]else
 if w.kind=14 then kd K 0++[32,61,32]++kd K 1++[59]else
 if w.kind=15 then [99,97,108,108,32]++kd K 0++[59]else
 if w.kind=16 then [99,97,110,99,101,108,32]++kd K 0++[59]else
 if w.kind=17 then [106,111,105,110,32]++kd K 0++[59]else
 if w.kind=18 then [108,111,103,32]++kd K 0++[59]else
 if w.kind=19 then [112,111,115,116,32]++w.text++[32]++kd K 0++(if 0<w.n then [32,97,102,116,101,114,32]++Ek w.n.toNat else if w.n<0 then [32,102,114,111,110,116]else [])++Eu w K++[59]else
 if w.kind=20 then [115,112,97,119,110,32]++kd K 0++Eu w K++[59]else
 if w.kind=21 then [101,110,97,98,108,101,32]++w.text++[59]else
 if w.kind=22 then [100,105,115,97,98,108,101,32]++w.text++[59]else
 if w.kind=24 then [119,104,105,108,101,32]++kd K 0++[32]++kd K 1 else
 if w.kind=23 then [105,102,32]++kd K 0++[32]++kd K 1++(if b=true then [32,101,108,115,101,32]++kd K 2 else [])else
 [114,101,116,117,114,110,59]
structure Xa (L:List LT) (w:LT) (K:List (List UInt8)):Prop where
 ks:Ld K
 tx:w.text.length<=1000
 n:w.kind=19->-1<=w.n/\w.n<=10000000000
 k1:(w.kind=15\/w.kind=16\/w.kind=17\/w.kind=18\/w.kind=19\/w.kind=20)->1<=K.length
 k2:(w.kind=13\/w.kind=14\/w.kind=24)->2<=K.length
 k3:w.kind=23->3<=K.length/\3<=w.kids.length/\0<=w.kids.getD 2 0/\w.kids.getD 2 0<L.length
def HQ (w:LT) (K:List Ac):Ac:=[112,111,115,116,32]++w.text++[32]++kd K 0++(if 0<w.n then [32,97,102,116,101,114,32]++Ek w.n.toNat else if w.n<0 then [32,102,114,111,110,116]else [])
def zg (w:LT) (K:List Ac):CX:=thin Unit [0,1,2,3,4] (λ_=>[(7,.bs (Eu w K))]) (λ_ _=>True) λ_=>0
def zf (w:LT) (K:List Ac):CX:=thin Unit [0,1,2,3,4,7] (λ_=>[(8,.bs (HQ w K))]) (λ_ _=>True) λ_=>0
def rO (w:LT) (K:List Ac):Ctx:={P:=Tryz.prog,tb:=[(76,Yd)],lp:=λ_ _=>none,cut:=λf r=>cond (Nat.beq f 46) (cond (Nat.beq r 4) (some (zg w K)) (cond (Nat.beq r 23) (some (zf w K)) none)) none}
theorem AbH:∀(n:Nat) (s:Ac),(HE n s).length<=n+s.length:=by
 intro n
 induction n using Nat.strongRecOn with
 |_ n q=>
  intro s;rw[HE];split
  ·omega
  ·rename_i h;have:=q (n/10) (by omega) (UInt8.ofNat (48+n %10)::s);rw[AE]at this;omega
theorem AbE (n:Nat):(Ek n).length<=n+1:=by
 unfold Ek;split
 ·simp
 ·have:=AbH n [];simp only[List.length_nil]at this;omega
theorem Ak4 {w:LT} {K:List Ac} (h:Ld K):(Eu w K).length<=10000004:=by
 have:=Lo h 1;unfold Eu kd;split
 ·simp only[AK,AE,List.length_nil];omega
 ·exact CL _
@[reducible] def eN:LT->Prop:=λ(w:LT)=>(Aa/\Af w.kind)/\Af w.text/\(Aa/\Af w.n)/\(Aa/\Af w.line)/\(Aa/\Af w.Ao)/\(Aa/\Af w.kids.length/\AH λ(i:Nat)=>Nat.le (Nat.succ i) w.kids.length->(Aa/\Af (getD w.kids i (0:Int)))/\True)/\True
@[reducible] def RF:Ak->LT->Prop:=λ(L:Ak) (w:LT)=>(Aa/\Aa/\Aa/\Aa/\True/\NG L)/\(Aa/\Aa/\Aa/\Aa/\(((((True/\Aa/\Af w.kind)/\Af w.text)/\Aa/\Af w.n)/\Aa/\Af w.line)/\Aa/\Af w.Ao)/\Aa/\Af w.kids.length/\AH λ(i:Nat)=>Nat.le (Nat.succ i) w.kids.length->(Aa/\Af (getD w.kids i (0:Int)))/\True)/\True
@[reducible] def eO:Ak->LT->List Ac->Prop:=λ(L:Ak) (w:LT) (K:List Ac)=>MI L/\eN w/\(Aa/\Af K.length/\AH λ(i:Nat)=>Nat.le (Nat.succ i) K.length->Af (getD K i [])/\True)/\(Af (some 0)/\Aa)/\(Af (some 1)/\Aa)/\True
@[reducible] def Xk:Ak->LT->List Ac->Prop:=λ(L:Ak) (w:LT) (K:List Ac)=>MI L/\eN w/\(Aa/\Af K.length/\AH λ(i:Nat)=>Nat.le (Nat.succ i) K.length->Af (getD K i [])/\True)/\(Af (some 0)/\Aa)/\(Af (some 1)/\Aa)/\Af (Eu w K)/\True
@[reducible] def Xl:Ak->LT->List Ac->Prop:=λ(L:Ak) (w:LT) (K:List Ac)=>True/\Aa/\([]=Eu w K/\eO L w K)/\RF L w
@[reducible] def eP:Ak->LT->List Ac->Prop:=λ(L:Ak) (w:LT) (K:List Ac)=>True/\Aa/\([(32:UInt8),116,111,32]++getD K 1 []=Eu w K/\eO L w K)/\RF L w
theorem AiT:∀(L:Ak) (w:LT) (K:List Ac),Xa L w K->Ah (An w.kind (19:Int)) (Ah (AQ (1:Int) (Int.ofNat K.length)) (Al (A9 (1:Int) K.length) (Al (decide (4+List.length (getD K 1 [])<=9223372036854775807)) (∃(x:Unit),eP L w K))) (∃(x:Unit),Xl L w K)) (Ah (An w.kind (20:Int)) (Ah (AQ (1:Int) (Int.ofNat K.length)) (Al (A9 (1:Int) K.length) (Al (decide (4+List.length (getD K 1 [])<=9223372036854775807)) (∃(x:Unit),eP L w K))) (∃(x:Unit),Xl L w K)) (∃(x:Unit),Xl L w K))/\∀(x:Unit),True->Ah (An w.kind (13:Int)) (Al (decide (4+w.text.length<=9223372036854775807)) (Al (decide (List.length ([(118:UInt8),97,114,32]++w.text)+1<=9223372036854775807)) (Al (A9 (0:Int) K.length) (Al (decide (List.length ([(118:UInt8),97,114,32]++w.text++[(32:UInt8)])+List.length (getD K 0 [])<=9223372036854775807)) (Al (decide (List.length ([(118:UInt8),97,114,32]++w.text++[(32:UInt8)]++getD K 0 [])+3<=9223372036854775807)) (Al (A9 (1:Int) K.length) (Al (decide (List.length ([(118:UInt8),97,114,32]++w.text++[(32:UInt8)]++getD K 0 []++[(32:UInt8),61,32])+List.length (getD K 1 [])<=9223372036854775807)) (Al (decide (List.length ([(118:UInt8),97,114,32]++w.text++[(32:UInt8)]++getD K 0 []++[(32:UInt8),61,32]++getD K 1 [])+1<=9223372036854775807)) ((((True/\True/\True/\True)/\True)/\True)/\[(118:UInt8),97,114,32]++w.text++[(32:UInt8)]++getD K 0 []++[(32:UInt8),61,32]++getD K 1 []++[(59:UInt8)]=Et w (Fg L w) K))))))))) (Ah (An w.kind (14:Int)) (Al (A9 (0:Int) K.length) (Al (decide (List.length (getD K 0 [])+3<=9223372036854775807)) (Al (A9 (1:Int) K.length) (Al (decide (List.length (getD K 0 []++[(32:UInt8),61,32])+List.length (getD K 1 [])<=9223372036854775807)) (Al (decide (List.length (getD K 0 []++[(32:UInt8),61,32]++getD K 1 [])+1<=9223372036854775807)) ((((True/\True/\True)/\True)/\True)/\getD K 0 []++[(32:UInt8),61,32]++getD K 1 []++[(59:UInt8)]=Et w (Fg L w) K)))))) (Ah (An w.kind (15:Int)) (Al (A9 (0:Int) K.length) (Al (decide (5+List.length (getD K 0 [])<=9223372036854775807)) (Al (decide (List.length ([(99:UInt8),97,108,108,32]++getD K 0 [])+1<=9223372036854775807)) ([(99:UInt8),97,108,108,32]++getD K 0 []++[(59:UInt8)]=Et w (Fg L w) K)))) (Ah (An w.kind (16:Int)) (Al (A9 (0:Int) K.length) (Al (decide (7+List.length (getD K 0 [])<=9223372036854775807)) (Al (decide (List.length ([(99:UInt8),97,110,99,101,108,32]++getD K 0 [])+1<=9223372036854775807)) ([(99:UInt8),97,110,99,101,108,32]++getD K 0 []++[(59:UInt8)]=Et w (Fg L w) K)))) (Ah (An w.kind (17:Int)) (Al (A9 (0:Int) K.length) (Al (decide (5+List.length (getD K 0 [])<=9223372036854775807)) (Al (decide (List.length ([(106:UInt8),111,105,110,32]++getD K 0 [])+1<=9223372036854775807)) ([(106:UInt8),111,105,110,32]++getD K 0 []++[(59:UInt8)]=Et w (Fg L w) K)))) (Ah (An w.kind (18:Int)) (Al (A9 (0:Int) K.length) (Al (decide (4+List.length (getD K 0 [])<=9223372036854775807)) (Al (decide (List.length ([(108:UInt8),111,103,32]++getD K 0 [])+1<=9223372036854775807)) ([(108:UInt8),111,103,32]++getD K 0 []++[(59:UInt8)]=Et w (Fg L w) K)))) (Ah (An w.kind (19:Int)) (Al (decide (5+w.text.length<=9223372036854775807)) (Al (decide (List.length ([(112:UInt8),111,115,116,32]++w.text)+1<=9223372036854775807)) (Al (A9 (0:Int) K.length) (Al (decide (List.length ([(112:UInt8),111,115,116,32]++w.text++[(32:UInt8)])+List.length (getD K 0 [])<=9223372036854775807)) ((((True/\True/\True)/\True)/\True)/\Ah (AQ (0:Int) w.n) (Al (decide (List.length ([(112:UInt8),111,115,116,32]++w.text++[(32:UInt8)]++getD K 0 [])+7<=9223372036854775807)) ((Int.NonNeg (w.n-0)/\Int.NonNeg ((10000000000:Int)-w.n))/\Al (decide (List.length ([(112:UInt8),111,115,116,32]++w.text++[(32:UInt8)]++getD K 0 []++[(32:UInt8),97,102,116,101,114,32])+List.length (AU (Ek (Int.toNat w.n)))<=9223372036854775807)) (∃(x:Unit),True/\Aa/\([(112:UInt8),111,115,116,32]++w.text++[(32:UInt8)]++getD K 0 []++[(32:UInt8),97,102,116,101,114,32]++AU (Ek (Int.toNat w.n))=HQ w K/\Xk L w K)/\RF L w))) (Ah (AQ w.n (0:Int)) (Al (decide (List.length ([(112:UInt8),111,115,116,32]++w.text++[(32:UInt8)]++getD K 0 [])+6<=9223372036854775807)) (∃(x:Unit),True/\Aa/\([(112:UInt8),111,115,116,32]++w.text++[(32:UInt8)]++getD K 0 []++[(32:UInt8),102,114,111,110,116]=HQ w K/\Xk L w K)/\RF L w)) (∃(x:Unit),True/\Aa/\([(112:UInt8),111,115,116,32]++w.text++[(32:UInt8)]++getD K 0 []=HQ w K/\Xk L w K)/\RF L w))/\∀(x:Unit),True->Al (decide (List.length (HQ w K)+List.length (Eu w K)<=9223372036854775807)) (Al (decide (List.length (HQ w K++Eu w K)+1<=9223372036854775807)) (HQ w K++Eu w K++[(59:UInt8)]=Et w (Fg L w) K))))))) (Ah (An w.kind (20:Int)) (Al (A9 (0:Int) K.length) (Al (decide (6+List.length (getD K 0 [])<=9223372036854775807)) (Al (decide (List.length ([(115:UInt8),112,97,119,110,32]++getD K 0 [])+List.length (Eu w K)<=9223372036854775807)) (Al (decide (List.length ([(115:UInt8),112,97,119,110,32]++getD K 0 []++Eu w K)+1<=9223372036854775807)) ([(115:UInt8),112,97,119,110,32]++getD K 0 []++Eu w K++[(59:UInt8)]=Et w (Fg L w) K))))) (Ah (An w.kind (21:Int)) (Al (decide (7+w.text.length<=9223372036854775807)) (Al (decide (List.length ([(101:UInt8),110,97,98,108,101,32]++w.text)+1<=9223372036854775807)) ([(101:UInt8),110,97,98,108,101,32]++w.text++[(59:UInt8)]=Et w (Fg L w) K))) (Ah (An w.kind (22:Int)) (Al (decide (8+w.text.length<=9223372036854775807)) (Al (decide (List.length ([(100:UInt8),105,115,97,98,108,101,32]++w.text)+1<=9223372036854775807)) ([(100:UInt8),105,115,97,98,108,101,32]++w.text++[(59:UInt8)]=Et w (Fg L w) K))) (Ah (An w.kind (24:Int)) (Al (A9 (0:Int) K.length) (Al (decide (6+List.length (getD K 0 [])<=9223372036854775807)) (Al (decide (List.length ([(119:UInt8),104,105,108,101,32]++getD K 0 [])+1<=9223372036854775807)) (Al (A9 (1:Int) K.length) (Al (decide (List.length ([(119:UInt8),104,105,108,101,32]++getD K 0 []++[(32:UInt8)])+List.length (getD K 1 [])<=9223372036854775807)) ((((True/\True/\True)/\True)/\True)/\[(119:UInt8),104,105,108,101,32]++getD K 0 []++[(32:UInt8)]++getD K 1 []=Et w (Fg L w) K)))))) (Ah (An w.kind (23:Int)) (Al (A9 (0:Int) K.length) (Al (decide (3+List.length (getD K 0 [])<=9223372036854775807)) (Al (decide (List.length ([(105:UInt8),102,32]++getD K 0 [])+1<=9223372036854775807)) (Al (A9 (1:Int) K.length) (Al (decide (List.length ([(105:UInt8),102,32]++getD K 0 []++[(32:UInt8)])+List.length (getD K 1 [])<=9223372036854775807)) ((((True/\True/\True)/\True)/\True)/\Al (A9 (2:Int) w.kids.length) (Al (A9 (getD w.kids 2 (0:Int)) L.length) ((((True/\True/\True/\True/\True/\True)/\True)/\True)/\Ah (AQ (0:Int) (Int.ofNat (List.length (LT.kids (getD L (Int.toNat (getD w.kids 2 (0:Int))) LT.none))))) (Al (decide (List.length ([(105:UInt8),102,32]++getD K 0 []++[(32:UInt8)]++getD K 1 [])+6<=9223372036854775807)) (Al (A9 (2:Int) K.length) (Al (decide (List.length ([(105:UInt8),102,32]++getD K 0 []++[(32:UInt8)]++getD K 1 []++[(32:UInt8),101,108,115,101,32])+List.length (getD K 2 [])<=9223372036854775807)) ([(105:UInt8),102,32]++getD K 0 []++[(32:UInt8)]++getD K 1 []++[(32:UInt8),101,108,115,101,32]++getD K 2 []=Et w (Fg L w) K)))) ([(105:UInt8),102,32]++getD K 0 []++[(32:UInt8)]++getD K 1 []=Et w (Fg L w) K))))))))) ([(114:UInt8),101,116,117,114,110,59]=Et w (Fg L w) K))))))))))))
:=by
 intro L w K h;simp only[Cd,eN,NG,MI,RF,eO,Xk,Xl,eP,CG,Bh,Me,HM,Mo,Mm];have q:=h.ks;have V:=Lo q 0;have U:=Lo q 1;have g2:=Lo q 2;have S:=Ak4 (w:=w) q;have tx:=h.tx;have M:=h.k1;have J:=h.k2;have C:=h.k3;have hn:=h.n;have hd:=AbE w.n.toNat;clear h q;have E:¬(w.kind=19\/w.kind=20)->[]=Eu w K:=λe=>by unfold Eu;rw[Ad λg=>e g.1]
 have B:¬1<K.length->[]=Eu w K:=λe=>by unfold Eu;rw[Ad λg=>e g.2]
 have y:(w.kind=19\/w.kind=20)->1<K.length->[32,116,111,32]++K.getD 1 []=Eu w K:=λe g=>by unfold Eu;rw[Am ⟨e,g⟩];rfl
 refine⟨?_,λ_ _=>?_⟩
 ·refine Kv (λk=>Aw (λg=>?_) λg=>?_) λk=>Kv (λk=>Aw (λg=>?_) λg=>?_) λO=>⟨(),E (by omega)⟩
  ·rw[CE]at g;exact At (Cf.2 (by omega)) (At (Bi (by omega)) ⟨(),y (.inl k) (by omega)⟩)
  ·rw[CF]at g;exact⟨(),B (by omega)⟩
  ·rw[CE]at g;exact At (Cf.2 (by omega)) (At (Bi (by omega)) ⟨(),y (.inr k) (by omega)⟩)
  ·rw[CF]at g;exact⟨(),B (by omega)⟩
 clear E B y;have post:w.kind=19->(Ah (AQ 0 w.n) (Al (decide (([112,111,115,116,32]++w.text++[32]++K.getD 0 []).length+7<=9223372036854775807)) (((w.n-0).NonNeg/\(10000000000-w.n).NonNeg)/\Al (decide (([112,111,115,116,32]++w.text++[32]++K.getD 0 []++[32,97,102,116,101,114,32]).length+(Ek w.n.toNat).length<=9223372036854775807)) (∃x:Unit,[112,111,115,116,32]++w.text++[32]++K.getD 0 []++[32,97,102,116,101,114,32]++Ek w.n.toNat=HQ w K))) (Ah (AQ w.n 0) (Al (decide (([112,111,115,116,32]++w.text++[32]++K.getD 0 []).length+6<=9223372036854775807)) (∃x:Unit,[112,111,115,116,32]++w.text++[32]++K.getD 0 []++[32,102,114,111,110,116]=HQ w K)) (∃x:Unit,[112,111,115,116,32]++w.text++[32]++K.getD 0 []=HQ w K))/\ ∀(x:Unit),True->Al (decide ((HQ w K).length+(Eu w K).length<=9223372036854775807)) (Al (decide ((HQ w K++Eu w K).length+1<=9223372036854775807)) (HQ w K++Eu w K++[59]=Et w (Fg L w) K))):=λk=>by
  have hn:=hn k;have R:(HQ w K).length<=20000002000:=by
   unfold HQ kd;split
   ·simp only[AK,AE,List.length_nil];omega
   ·split
    ·simp only[AK,AE,List.length_nil];omega
    ·simp only[AK,AE,List.length_nil];omega
  refine⟨Aw (λg=>?_) λg=>Aw (λg2=>?_) λg2=>?_,λ_ _=>?_⟩
  ·rw[CE]at g;refine At (Bi (by simp only[AK,AE,List.length_nil];omega)) ⟨⟨(show(0:Int)<=w.n by omega),hn.2⟩,At (Bi (by simp only[AK,AE,List.length_nil];omega)) ⟨(),?_⟩⟩;unfold HQ kd;rw[Am g,<-A7]
  ·rw[CE]at g2;rw[CF]at g;refine At (Bi (by simp only[AK,AE,List.length_nil];omega)) ⟨(),?_⟩;unfold HQ kd;rw[Ad (Int.not_lt.2 g),Am g2]
  ·rw[CF]at g g2;refine⟨(),?_⟩;unfold HQ kd;rw[Ad (Int.not_lt.2 g),Ad (Int.not_lt.2 g2),HD]
  ·refine At (Bi (by omega)) (At (Bi (by simp only[AK,AE,List.length_nil];omega)) ?_);unfold Et HQ;simp[k]
 repeat' first
  |with_reducible refine Kv (λ_=>?_) (λ_=>?_)
  |with_reducible refine At (Cf.2 (by omega)) ?_
  |with_reducible refine At (Bi (by first|omega|(simp only[AK,AE,List.length_nil];omega))) ?_
 all_goals first
  |exact post (by assumption)
  |(unfold Et kd;simp[*];done)
  |skip
 rename_i k;have C:=C k;have ht:∀b,Et w b K=[105,102,32]++K.getD 0 []++[32]++K.getD 1 []++(if b=true then [32,101,108,115,101,32]++K.getD 2 []else []):=λb=>by unfold Et kd;simp[k]
 rw[ht];refine Aw (λg=>At (Bi (by simp only[AK,AE,List.length_nil];omega)) (At (Cf.2 (by omega)) (At (Bi (by simp only[AK,AE,List.length_nil];omega)) ?_))) λg=>?_
 ·rw[CE]at g;rw[show Fg L w=true from Bi (by omega),Am rfl,<-A7]
 ·rw[CF]at g;rw[show Fg L w=false from Ej (by omega),Ad (by simp),HD]
theorem AiS:∀(L:Ak) (w:LT) (K:List Ac),Xa L w K->(A4 (rO w K) 60).call 46 [tree L,.agg w.row,.vec 1 K.length (rT K)] .leaf 0 (Cb Tryz.prog false (.bs (Et w (Fg L w) K))):=Eq.mpr (by kernel_rfl) AiT
def gw:Tr Ae->Aj->Option Ct:=λ_ args=>match args with
 | [.agg [.vec 6 n g],.agg r,.vec 1 m f]=>some (.Be (P2 m f=true/\∃(L:Ak) (w:LT),n=L.length/\g=A8 L/\r=w.row/\Xa L w (Ft m f)) (.ret (.bs (AU (Et (FP r) (Fg (KZ n g) (FP r)) (Ft m f))))))
 |_=>none
theorem AfN:Ck Tryz.prog 46 gw:=by
 refine OV (gl:=[]) (ng:=0) Bq λH args ct q=>?_;unfold gw at q;split at q
 ·rename_i C g r n f;injection q with q;refine⟨Bq,_,_,q.symm,?_⟩;rintro⟨y,L,w,rfl,rfl,rfl,B⟩;refine⟨[tree L,.agg w.row,.vec 1 (Ft n f).length (rT (Ft n f))],Kl (PH _) (Kl (PH _) (Kl (c9 y) Rm)),⟨Nz L,OD [] w,cn _,trivial⟩,rO w (Ft n f),60,rfl,Bu,Cj wG B5,?_⟩;rw[Dr,NM,K0];exact AiS _ _ _ B
 ·cases q
end Go.Proofs.YtlmmbanfhjaioaaGreatDoor
end
end
