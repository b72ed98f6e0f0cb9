/- Laid by program out of its parts: PbT, PbU, PbV. -/
import Derived.Test.YtlmmbanfhjaioaaDoorPb3
set_option linter.unusedVariables false
set_option linter.unusedSimpArgs false
section
set_option maxRecDepth 100000
set_option maxHeartbeats 2000000
open Go Go.Ev
namespace Go.Proofs.YtlmmbanfhjaioaaDoor
noncomputable def progL (D:List TK→PF) (L:List TK):Nat→List PT→RS→List PT×RS
 | 0,l,s=>(l,s)
 | k + 1,l,s=>if s.err=0∧s.at_ < L.length then progL D L k (l ++ [(D L s).1]) (D L s).2 else (l,s)
noncomputable def progX (D:List TK→PF) (L:List TK) (s:RS):List PT×RS:=progL D L (fuelN L) [] s
def tk11:TK:=⟨0,[],0,1,1⟩
noncomputable def progM (D:List TK→PF) (L:List TK):PF:=fun s=>(nd 1 [] 0 tk11 (progX D L s).1,(progX D L s).2)
noncomputable def cxPr (L:List TK) (n:Nat) (D:List TK→PF) (h:OkI 22 L n D) (s0:RS):Ctx :=
 { P:=Tryd.prog,tb:=[],ht:=htI 22 L n D,hok:=Zcq h,lp:=fun f r=>cond (Nat.beq f 18) (cond (Nat.beq r 2) (some (stnB L (progL D L) (progX D L s0) s0 [0,3] 3)) none) none,cut:=fun _ _=>none }
theorem Zg0 {D:List TK→PF} {L:List TK} (hD:KF (D L)):∀ (k:Nat) (l:List PT) (r:RS),Kp r (progL D L k l r).2
 | 0,l,r=>Zy r
 | k + 1,l,r=>by
  unfold progL
  exact Yh (P:=fun x:List PT×RS=>Kp r x.2) (fun _=>(hD r).tr (Zg0 hD k _ _)) fun _=>Zy r
noncomputable def qaW:=((((((True∧true=true∧(1:Int)=(1:Int))∧([]:List UInt8)=[])∧true=true∧(0:Int)=(0:Int))∧true=true∧(1:Int)=(1:Int))∧true=true∧(1:Int)=(1:Int))∧True)
theorem Zkh:∀ (L:List TK) (n:Nat) (D:List TK→PF),OkI (22:FuncId) L n D→∀ (s:RS) (t:PT×RS),R0 L s→Pre L n s→FG34 L n D→t=progM D L s→(∃ (x0:List PT×RS),LpB L (progL D L) (progX D L s) s x0∧true=true∧(qQ∧qcf∧True)∧qbj∧(qay s L x0.2)∧(true=true∧true=true∧true=true∧true=true∧qaW∧x0.1.length=0)∧qaw∧True)∧∀ (x:List PT×RS),LpB L (progL D L) (progX D L s) s x→qcg x.2 L ((qag L x.2 n)∧∀ (y:PT×RS),y=D L (qb L x.2)→qh y.2 (qa0 x ((ql∧ql∧ql∧((AV.slg 7 x.1.length 1=AV.slg 7 x.1.length 1∧True)∧True)∧True)∧∃ (x':List PT×RS),LpB L (progL D L) (progX D L s) s x'∧qa7 L x'.2 x.2∧true=true∧(qQ∧qcf∧True)∧(true=true∧true=true∧true=true∧true=true∧(qck x) * 1=x'.1.length∧AllI fun (i:Nat)=>qby i ((qck x) * 1)→vmL [(7,16),(6,6),(0,0),(1,1),(2,2),(3,3),(4,4)] (qbA x'.1 i) (appF x.1.length (fun (i:Nat)=>qbA x.1 i) (fun (x:Nat)=>[pvX y.1]) i))∧(qay y.2 L x'.2)∧(true=true∧true=true∧true=true∧true=true∧qaW∧some 16=some 16∧x.1.length + 1=x'.1.length∧true=true)∧qaw∧True)) (qaq L y.2 t.2)) (qax x x.1 (qt L x.2 (AV.pv [qcj,AV.bs [],qB,qcj,qcj,AV.sl0,AV.vec 1 x.1.length fun (i:Nat)=>qbA x.1 i]) t∧True))
:= by
 delta qb qc qd qg qh ql qt qA qB qQ qab qag qaq qaw qax qay qaW qa0 qa7 qbj qby qbA qcf qcg qcj qck
 intro L n D hok s t hs hp hD ht
 simp only [Zi,Zs,true_and,and_true,eq_self,implies_true,Nat.le_eq,ZA,Zz,ZK,Int.toNat_natCast,Int.ofNat_eq_natCast,Nat.ble_eq,Nat.ble_self_eq_true,Bool.true_and,Bool.and_true,Bool.and_self,Option.some.injEq,AV.int.injEq,Zo,Zj,Nat.mul_one,Nat.beq_refl,Zn,cond_true,cond_false,Zp,Bool.not_true,Bool.not_false,decide_true,ZY,Ya,ZZ,Zf,List.nil_append]
 have kL:∀ (k:Nat) (l:List PT) (r:RS),Kp r (progL D L k l r).2:=Zg0 hD.k
 refine ⟨⟨([],s),⟨⟨fuelN L,XZ hs.ok,rfl⟩,XX hs.ok (by decide),hs⟩,Yd (s:=s) rfl,rfl⟩,fun x hx=>?_⟩
 obtain ⟨⟨k,hk,hkt⟩,px,rx⟩:=hx
 have b1:=px.bnd hs.ok (by decide)
 have b2:=Vw x.1
 have h0:=rx.ok.a0
 have hlen:((L.drop x.2.at_.toNat).length:Int)=(L.length:Int) - x.2.at_∨(L.length:Int)≤x.2.at_∧(L.drop x.2.at_.toNat).length=0:=by
  rw [List.length_drop];omega
 cases k with
 | zero=>omega
 | succ k =>
 unfold progL at hkt
 refine Zc (fun c=>?_) fun c=>?_
 ·rw [ZR] at c
  rw [if_pos ⟨rx.e,by omega⟩] at hkt
  obtain ⟨d0,d1,d2⟩:=Ur (by decide) hD.g (l:=x.1) (s:=x.2) px (fun _=>hp) rx.e
  refine ZG (f:=D L) rx d0 (by rw [ht];show Kp _ (progX D L s).2;rw [← hkt];exact kL _ _ _) fun e=>?_
  exact Zd (decide_eq_true (by omega)) ⟨(x.1 ++ [(D L x.2).1],(D L x.2).2),⟨⟨k,by have:meas L (D L x.2).2 < meas L x.2:=d2;show meas L (D L x.2).2 < k;omega,hkt⟩,d1,ZS rx (hD.g L _ d0) (hD.k _) e⟩,d2,Zlp x.1 (D L x.2).1 rfl,Yd (s:=(D L x.2).2) rfl,by rw [List.length_append,List.length_singleton]⟩
 ·rw [ZF] at c
  rw [if_neg (by rintro ⟨_,h⟩;omega)] at hkt
  refine Zd (Za2 x.1) (Zfj (tk:=tk11) ?_ rx.e)
  rw [ht];unfold progM;rw [← hkt]
theorem runProgP:∀ (L:List TK) (n:Nat) (D:List TK→PF) (hok:OkI 22 L n D) (s:RS) (t:PT×RS),R0 L s→Pre L n s→FG34 L n D→t=progM D L s→(cRun (cxPr L n D hok s) 60).call 18 [.ptr 4 0] (mkH (glT ++ numL [objP L s] 4)) (4 + 1) (ResP L t) :=
 Eq.mpr (by kernel_rfl) Zkh
theorem Zcs {n:Nat} {D:List TK→PF} (hD:GF n 3 4 D) {L:List TK} {s0:RS} (hp:s0.err=0→Pre L n s0):∀ (k:Nat) (l:List PT) (s:RS),PostL L 0 4 s0 (l,s)→PostL L 0 4 s0 (progL D L k l s)
 | 0,l,s,h=>h
 | k + 1,l,s,h=>by
  unfold progL
  split
  ·rename_i e
   exact Zcs hD hp k _ _ (Ur (by decide) hD h hp e.1).2.1
  ·exact h
theorem okProgP {L:List TK} {n:Nat} {D:List TK→PF} (h:OkI 22 L n D) (hD:FG34 L n D):HEntOK Tryd.prog 18 (mF L n (progM D)) :=
 Xa fun s h1 h2=>⟨cxPr L n D h s,60,rfl,fol,ZN,fun t ht=>runProgP L n D h s t h1 h2 hD ht⟩
end Go.Proofs.YtlmmbanfhjaioaaDoor
end
section
set_option maxRecDepth 100000
set_option maxHeartbeats 2000000
open Go Go.Ev
namespace Go.Proofs.YtlmmbanfhjaioaaDoor
noncomputable def kX (ks:List PT):Nat→List AV:=fun i=>[pvX (ks.getD i zPT)]
noncomputable def pvY (x:PT):AV:=.pv [.int .i64 x.kind,.bs x.text,.int .i64 x.num,.int .i64 x.line,.int .i64 x.col,.sl0,.vec 1 x.ks.length (kX x.ks)]
def treeO (r m:Nat):AObj:=.cells 30 .leaf (.per [.slg r m 6]) 1 false
def ltA (l:List AV):LT:=match l with
 | [.int _ k,.bs s,.int _ n,.int _ a,.int _ c,.vec _ m g]=>⟨k,s,n,a,c,rowL m g⟩
 | _=>LT.none
noncomputable def ltsF (m:Nat) (f:Nat→List AV):List LT:=barr ((List.range m).map fun i=>ltA (f i))
def hd0 (x:PT):LT:=⟨x.kind,x.text,x.num,x.line,x.col,[]⟩
noncomputable def wsX (x:PT):List (List LT):=barr (flatL x.ks)
noncomputable def lstQ (l:List LT) (x:PT) (q:Nat):List LT:=l ++ (hd0 x :: rS (wsX x) q).map (shiftT (l.length:Int))
noncomputable def kdQ (l:List LT) (x:PT) (q:Nat):List Int:=(kS (wsX x) q).map (· + (l.length:Int))
open Classical in
noncomputable def ptR (a:AV):PT:=barr (if h:∃ x,a=pvX x then Classical.choose h else zPT)
noncomputable def treeIn (H:Tr AObj) (id:Nat):Option (Nat×Nat):=ob (H.get id) fun o=>match o with
 | .cells el c z N op=>cond (cond (Nat.beq el 30) (cond op false (Nat.beq N 1)) false) (ob (readL c z 1 0) fun l=>match l with
  | [.slg r m 6]=>some (r,m)
  | _=>none) none
 | _=>none
noncomputable def twIn (H:Tr AObj) (r:Nat):Option ((Nat→List AV)×Nat):=ob (H.get r) fun o=>match o with
 | .cells el c z N op=>match c,z with
  | .leaf,.rows e f=>cond (cond (Nat.beq el 63) (cond op (Nat.beq e 6) false) false) (some (f,N)) none
  | _,_=>none
 | _=>none
structure FlP (N m n:Nat) (f:Nat→List AV) (a:AV):Prop where
 f:∀ i,i < m→f i=(ltA (f i)).row
 n:n=m * 6
 x:∃ x,a=pvX x
 z:sz (ptR a) < N
 b:m + sz (ptR a)≤1000000
noncomputable def eFl (N:Nat):HEnt:=fun H nx args=>match args with
 | [.ptr id 0,a]=>ob (treeIn H id) fun q=>ob (twIn H q.1) fun g=>cond (cond (Nat.blt id nx) (cond (Nat.blt q.1 nx) (neB id q.1) false) false)
  (some (.need (FlP N q.2 g.2 g.1 a) (.gen (flat (ptR a)) fun W=>.ret (.tup []) [(id,treeO nx (q.2 + W.length)),(q.1,goneO),(nx,outO (rowT (ltsF q.2 g.1 ++ W.map (shiftT (q.2:Int)))) (q.2 + W.length))] (nx + 1)))) none
 | _=>none
noncomputable def SFl (l:List LT) (x:PT):Stn:={ X:=Nat,T:=fun s _ q=>(5,.slg (s.nx + 1) q 1) :: (31,.int .i64 q) :: keepT s [0,4,29,30],H:=fun s n0 q=>[(s.nx,outO (rowT (lstQ l x q)) (lstQ l x q).length),(s.nx + 1,intO (kdQ l x q)),(0,treeO s.nx (lstQ l x q).length)],nx:=fun s _=>s.nx + 2,I:=fun s q=>q≤x.ks.length,m:=fun q=>x.ks.length - q }
structure OkFl (N:Nat):Prop where
 f:HEntOK Tryd.prog 17 (eFl N)
theorem htFl_ok {N:Nat} (h:OkFl N):HtOK Tryd.prog [(17,eFl N)]:=ZI h.f (Zer _)
noncomputable def cxFl (N:Nat) (h:OkFl N) (l:List LT) (x:PT):Ctx:={ P:=Tryd.prog,tb:=[],ht:=[(17,eFl N)],hok:=htFl_ok h,lp:=fun f r=>cond (Nat.beq f 17) (cond (Nat.beq r 4) (some (SFl l x)) none) none,cut:=fun _ _=>none,fr:=fun f r=>cond (Nat.beq r 9) [5] [] }
noncomputable def oFl (l:List LT) (x:PT):HO:=.gen (flat x) fun W=>.ret (.tup []) [treeO 2 (l.length + W.length),goneO,outO (rowT (l ++ W.map (shiftT (l.length:Int)))) (l.length + W.length)] 1
mutual
theorem Zkq:∀ x y:PT,pvT x=pvT y→x=y
 | .mk k s n l c ks,.mk k' s' n' l' c' ks',h=>by
  unfold pvT at h
  injection h with h
  injection h with h1 h;injection h with h2 h;injection h with h3 h;injection h with h4 h;injection h with h5 h;injection h with _ h;injection h with h6 _
  injection h1 with _ h1;injection h2 with h2;injection h3 with _ h3;injection h4 with _ h4;injection h5 with _ h5;injection h6 with _ h6 h7
  subst h1;subst h2;subst h3;subst h4;subst h5
  rw [Zk9 ks ks' h6 fun i=>congrFun h7 i]
theorem Zk9:∀ ks ks':List PT,ks.length=ks'.length→(∀ i,(pvL ks).getD i []=(pvL ks').getD i [])→ks=ks'
 | [],[],_,_=>rfl
 | [],_ :: _,h,_=>by cases h
 | _ :: _,[],h,_=>by cases h
 | x :: xs,y :: ys,h,hi=>by
  have h0:=hi 0
  unfold pvL at h0
  injection (show [pvT x]=[pvT y] from h0) with h0 _
  rw [Zkq x y h0,Zk9 xs ys (by simpa using h) fun i=>by
   have:=hi (i + 1)
   unfold pvL at this
   exact this]
end
theorem Qk (x:PT):ptR (pvX x)=x:=by
 unfold ptR
 rw [Zi]
 have h:∃ y,pvX x=pvX y:=⟨x,rfl⟩
 rw [dif_pos h]
 have:=Classical.choose_spec h
 exact (Zkq _ _ ((Zft _).trans (this.trans (Zft _).symm))).symm
theorem Zir (x:PT):wsX x=flatL x.ks:=by unfold wsX;rw [Zi]
theorem QY (x:PT):(wsX x).length=x.ks.length:=by rw [Zir,Zdx]
theorem wsX_nth (x:PT) {q:Nat} (h:q < x.ks.length):wS (wsX x) q=flat (x.ks.getD q zPT):=by
 unfold wS
 rw [Zir,Gj,List.getD_eq_getElem?_getD,List.getElem?_map,List.getD_eq_getElem?_getD,List.getElem?_eq_getElem h];rfl
theorem Gm (x:PT):flat x=⟨x.kind,x.text,x.num,x.line,x.col,kS (wsX x) x.ks.length⟩ :: rS (wsX x) x.ks.length:=by
 cases x with
 | mk k s n l c ks =>
 rw [← QY,Zir]
 show flat (.mk k s n l c ks)=_
 conv=>lhs;unfold flat
 rfl
theorem Zgz (b c:Int) (w:LT):shiftT b (shiftT c w)=shiftT (c + b) w:=by
 unfold shiftT
 simp only [List.map_map]
 congr 1
 apply List.map_congr_left
 intro a _
 show a + c + b=a + (c + b)
 omega
theorem Uu (l:List LT) (x:PT) (q:Nat):(lstQ l x q).length=l.length + 1 + (rS (wsX x) q).length:=by
 unfold lstQ;rw [List.length_append,List.length_map,List.length_cons];omega
theorem Zeb (l:List LT) (x:PT) {q:Nat} (h:q < x.ks.length):lstQ l x (q + 1)=lstQ l x q ++ (flat (x.ks.getD q zPT)).map (shiftT ((lstQ l x q).length:Int)):=by
 rw [Uu]
 unfold lstQ
 rw [rS_succ (by rw [QY];exact h),wsX_nth x h,← List.cons_append,List.map_append,List.map_map,List.append_assoc]
 congr 2
 apply List.map_congr_left
 intro w _
 show shiftT _ (shiftT _ w)=_
 rw [Zgz]
 congr 1
 omega
theorem Zak (l:List LT) (x:PT) {q:Nat} (h:q≤x.ks.length):(kdQ l x q).length=q:=by
 unfold kdQ;rw [List.length_map,Zi9 (by rw [QY];exact h)]
theorem Zh1 (l:List LT) (x:PT) {q:Nat} (h:q < x.ks.length):kdQ l x (q + 1)=kdQ l x q ++ [((lstQ l x q).length:Int)]:=by
 rw [Uu]
 unfold kdQ
 rw [Zku (by rw [QY];exact h),List.map_append]
 congr 1
 show [1 + _ + _]=_
 congr 1
 omega
theorem Xk (x:PT):(flat x).length=sz x:=(Zik x).1
theorem Zay (l:List LT) (x:PT):(lstQ l x x.ks.length).length=l.length + sz x:=by
 rw [Uu,← Xk,Gm,List.length_cons];omega
theorem Zao (l:List LT) (x:PT) (q:Nat):(lstQ l x q).length≤l.length + sz x:=by
 have h:=rS_le (wsX x) q
 rw [← Zay,Uu,Uu,← QY,Zle]
 omega
theorem sz_kid {x:PT} {q:Nat} (h:q < x.ks.length):sz (x.ks.getD q zPT) < sz x:=by
 cases x with
 | mk k s n l c ks =>
 have h:q < ks.length:=h
 rw [Zaz]
 show sz (ks.getD q zPT) < _
 have:∀ (l:List PT) (i:Nat),i < l.length→sz (l.getD i zPT)≤szL l:=by
  intro l
  induction l with
  | nil=>intro i hi;cases hi
  | cons a l ih =>
   intro i hi
   rw [YE]
   cases i with
   | zero=>show sz a≤_;omega
   | succ i=>have:=ih i (by simpa using hi);show sz (l.getD i zPT)≤_;omega
 have:=this ks q h
 omega
theorem Zlx (w:LT):ltA w.row=w:=by
 cases w with
 | mk k s n a c ks =>
 show (⟨k,s,n,a,c,rowL ks.length (rI ks)⟩:LT)=_
 rw [rowL_rI]
theorem Zd9 (l:List LT):ltsF l.length (rowT l)=l:=by
 unfold ltsF
 rw [Zi]
 apply List.ext_getElem
 ·simp
 ·intro i h1 h2
  simp only [List.getElem_map,List.getElem_range]
  show ltA (l.getD i LT.none).row=_
  rw [Zlx,List.getD_eq_getElem?_getD,List.getElem?_eq_getElem h2];rfl
theorem flP_of {N:Nat} {l:List LT} {x:PT} (h1:sz x < N) (h2:l.length + sz x≤1000000):FlP N l.length (l.length * 6) (rowT l) (pvX x) :=
 ⟨fun i _=>by show _=(ltA (l.getD i LT.none).row).row;rw [Zlx];rfl,rfl,⟨x,rfl⟩,by rw [Qk];exact h1,by rw [Qk];exact h2⟩
theorem rowsLT {A B:List LT} (h:A=B) {n:Nat}:AllI fun i=>(i * 6).succ≤n→(A.getD i LT.none).kind=(B.getD i LT.none).kind∧(A.getD i LT.none).text=(B.getD i LT.none).text∧(A.getD i LT.none).n=(B.getD i LT.none).n∧(A.getD i LT.none).line=(B.getD i LT.none).line∧(A.getD i LT.none).col=(B.getD i LT.none).col∧(A.getD i LT.none).kids.length=(B.getD i LT.none).kids.length ∧
  AllI fun j=>j.succ≤(A.getD i LT.none).kids.length→(A.getD i LT.none).kids.getD j 0=(B.getD i LT.none).kids.getD j 0:=by
 subst h
 exact ⟨fun i _=>⟨rfl,rfl,rfl,rfl,rfl,rfl,⟨fun j _=>rfl⟩⟩⟩
theorem Zhs {σ:List (Nat×Nat)} {A B:List Int} {z:Int} {n:Nat} (hn:n=A.length) (h:B=A ++ [z]):AllI fun i=>i.succ≤n + 1→vmL σ (rI B i) (appF n (rI A) (fun _=>[AV.int .i64 z]) i):=by
 subst hn;subst h
 refine ⟨fun i hi=>?_⟩
 by_cases h:i < A.length
 ·rw [Xx (r:=rI A i) (fun _=>rfl) fun h'=>absurd h h']
  show vmL σ [AV.int .i64 ((A ++ [z]).getD i 0)] [AV.int .i64 (A.getD i 0)]
  rw [Uo h]
  exact ⟨⟨rfl,rfl⟩,trivial⟩
 ·have hi':i=A.length:=by omega
  subst hi'
  rw [Xx (r:=[AV.int .i64 z]) (fun h'=>absurd h' h) fun _=>rfl]
  show vmL σ [AV.int .i64 ((A ++ [z]).getD A.length 0)] _
  rw [getD_apr]
  exact ⟨⟨rfl,rfl⟩,trivial⟩
theorem Zk5 (A:List Int) (n:Nat):goodR 1 n (rI A)=true:=XT fun i _=>rfl
theorem Vp {α:Type} {d:α} {l m:List α} {i:Nat} (h:l.length≤i):(l ++ m).getD i d=m.getD (i - l.length) d:=by
 simp [List.getD_eq_getElem?_getD,List.getElem?_append_right h]
noncomputable def qp (a:PT) (b:Nat):=List.getD (PT.ks a) b zPT
noncomputable def qw (a:List LT) (b:PT) (c:Nat) (d:List LT) (e:Nat):=List.getD (ltsF (List.length (lstQ a b c)) (rowT (lstQ a b c)) ++ List.map (shiftT (↑(List.length (lstQ a b c)):Int)) d) e LT.none
noncomputable def qaD (a:PT) (b:Nat):=List.length (PT.ks (qp a b))
noncomputable def qaK (a:List LT) (b:PT) (c:Nat):=List.length (lstQ a b c)
noncomputable def qaS (a:PT) (b:Nat) (c:Nat):=List.getD (pvL (PT.ks (qp a b))) c []
noncomputable def qbp (a:PT):=(true=true∧Int.ofNat (qz a)=Int.ofNat (qz a))
noncomputable def qbH (a:PT) (b:Nat):=(true=true∧PT.line (qp a b)=PT.line (qp a b))
noncomputable def qbJ (a:PT) (b:Nat):=(true=true∧PT.kind (qp a b)=PT.kind (qp a b))
noncomputable def qbQ (a:List LT):=Int.ofNat a.length
noncomputable def qbR (a:List LT) (b:PT) (c:Nat) (d:Nat):=List.getD (lstQ a b c) d LT.none
noncomputable def qbS (a:PT) (b:Nat):=(true=true∧PT.num (qp a b)=PT.num (qp a b))
noncomputable def qb0 (a:PT) (b:Nat):=(true=true∧PT.col (qp a b)=PT.col (qp a b))
noncomputable def qb6 (a:Nat):=Nat.le (Nat.succ (a * 6))
noncomputable def qcd (a:PT) (b:Nat):=pvX (List.getD (PT.ks a) (q6 b) zPT)
noncomputable def qcz (a:Nat):=sdA (bif bif Nat.beq a a then true else false then true else false)
noncomputable def qcO (a:PT) (b:Nat):=PT.text (qp a b)
theorem runFl_r:∀ (N:Nat),OkFl N→∀ (l:List LT) (x:PT),Nat.le (l.length + sz x) 1000000→Nat.le (sz x) N→sdA (bif bif Nat.ble (l.length * 6) (l.length * 6) then true else false then decide (l.length + 1≤9223372036854775807∧(l.length + 1) * 72≤140737488355328) else false) ((qs∧qs∧qs∧True)∧(∃ (x0:Nat),Nat.le x0 (qz x)∧true=true∧(x0=0∧(qbt x0)∧qba∧(true=true∧qbQ l=qbQ l)∧(true=true∧qz x=qz x∧AllI fun (i:Nat)=>qN i (qz x)→((qbJ x i)∧qcO x i=qcO x i∧(qbS x i)∧(qbH x i)∧(qb0 x i)∧True∧(true=true∧qaD x i=qaD x i∧AllI fun (i_1:Nat)=>qN i_1 (qaD x i)→vmL [(16,12),(0,0),(1,1)] (qaS x i i_1) (qaS x i i_1))∧True)∧True)∧(qbp x)∧True)∧(true=true∧true=true∧true=true∧true=true∧(l.length + 1) * 6=qaK l x x0 * 6∧AllI fun (i:Nat)=>qb6 i ((l.length + 1) * 6)→vmL [(16,12),(0,0),(1,1)] (rowT (lstQ l x x0) i) (appF l.length (rowT l) (fun (x_1:Nat)=>[AV.int .i64 (PT.kind x),AV.bs (PT.text x),AV.int .i64 (PT.num x),AV.int .i64 (PT.line x),AV.int .i64 (PT.col x),AV.sl0]) i))∧qbj∧(true=true∧true=true∧true=true∧true=true∧True∧some 12=some 12∧l.length + 1=qaK l x x0∧true=true)∧True)∧∀ (x_1:Nat),Nat.le x_1 (qz x)→brP (ilt (↑x_1:Int) (Int.ofNat (qz x))) (sdA (inB (↑x_1:Int) (qz x)) (sdA (bif bif Nat.ble (x_1 * 1) (List.length (kdQ l x x_1)) then true else false then decide (x_1 + 1≤9223372036854775807∧(x_1 + 1) * 8≤140737488355328) else false) (FlP N (qaK l x x_1) (qaK l x x_1 * 6) (rowT (lstQ l x x_1)) (qcd x x_1)∧∀ (y:List LT),y=flat (ptR (qcd x x_1))→q3 x_1 (∃ (x':Nat),Nat.le x' (qz x)∧Nat.le (Nat.succ (qz x - x')) (qz x - x_1)∧true=true∧((some 19=some 19∧x_1 + 1=x'∧true=true)∧(qbK x_1 x')∧qba∧(true=true∧qbQ l=qbQ l)∧(true=true∧qz x=qz x∧AllI fun (i:Nat)=>qN i (qz x)→((qbJ x i)∧qcO x i=qcO x i∧(qbS x i)∧(qbH x i)∧(qb0 x i)∧True∧(true=true∧qaD x i=qaD x i∧AllI fun (i_1:Nat)=>qN i_1 (qaD x i)→vmL [(16,21),(17,19),(0,0),(1,1)] (qaS x i i_1) (qaS x i i_1))∧True)∧True)∧(qbp x)∧True)∧(true=true∧true=true∧true=true∧true=true∧(qaK l x x_1 + y.length) * 6=qaK l x x' * 6∧AllI fun (i:Nat)=>qb6 i ((qaK l x x_1 + y.length) * 6)→(true=true∧LT.kind (qw l x x_1 y i)=LT.kind (qbR l x x' i))∧LT.text (qw l x x_1 y i)=LT.text (qbR l x x' i)∧(true=true∧LT.n (qw l x x_1 y i)=LT.n (qbR l x x' i))∧(true=true∧LT.line (qw l x x_1 y i)=LT.line (qbR l x x' i))∧(true=true∧LT.col (qw l x x_1 y i)=LT.col (qbR l x x' i))∧(true=true∧List.length (LT.kids (qw l x x_1 y i))=List.length (LT.kids (qbR l x x' i))∧AllI fun (i_1:Nat)=>qN i_1 (List.length (LT.kids (qw l x x_1 y i)))→(true=true∧List.getD (LT.kids (qw l x x_1 y i)) i_1 (0:Int)=List.getD (LT.kids (qbR l x x' i)) i_1 (0:Int))∧True)∧True)∧(true=true∧true=true∧true=true∧true=true∧(x_1 + 1) * 1=List.length (kdQ l x x')∧AllI fun (i:Nat)=>qby i ((x_1 + 1) * 1)→vmL [(16,21),(17,19),(0,0),(1,1)] (rI (kdQ l x x') i) (appF x_1 (rI (kdQ l x x_1)) (fun (x_2:Nat)=>[AV.int .i64 (Int.ofNat (qaK l x x_1))]) i))∧(true=true∧true=true∧true=true∧true=true∧True∧some 21=some 21∧qaK l x x_1 + y.length=qaK l x x'∧true=true)∧True)))) (sdA (bif Nat.ble (x_1 * 1) (List.length (kdQ l x x_1)) then goodR 1 x_1 (rI (kdQ l x x_1)) else false) (qcz x_1 (sdA (inB (qbQ l) (qaK l x x_1)) (sdA (bif Nat.ble (5 + List.length [AV.vec 1 x_1 (rI (kdQ l x x_1))]) (List.length (rowT (lstQ l x x_1) (Int.toNat (qbQ l)))) then Nat.ble (Int.toNat (qbQ l) * 6 + 5 + List.length [AV.vec 1 x_1 (rI (kdQ l x x_1))]) (qaK l x x_1 * 6) else false) (true=true∧(True∧True)∧(true=true∧true=true∧true=true∧true=true∧True∧some 16=some 16∧qaK l x x_1=l.length + List.length (flat x)∧true=true)∧(true=true∧true=true∧true=true∧true=true∧qaK l x x_1 * 6=(l.length + List.length (flat x)) * 6∧AllI fun (i:Nat)=>qb6 i (qaK l x x_1 * 6)→vmL [(2,16),(0,0),(1,1)] (rowT (l ++ List.map (shiftT (↑l.length:Int)) (flat x)) i) (updRow (rowT (lstQ l x x_1)) (Int.toNat (qbQ l)) 5 [AV.vec 1 x_1 (rI (kdQ l x x_1))] i))∧True))))))
:= by
 delta qp qs qw qz qN q3 q6 qaD qaK qaS qba qbj qbp qbt qby qbH qbJ qbK qbQ qbR qbS qb0 qb6 qcd qcz qcO
 intro N hok l x hb hz
 simp only [Zi,Zs,true_and,and_true,eq_self,implies_true,Nat.le_eq,ZA,Zz,ZK,Int.toNat_natCast,Int.ofNat_eq_natCast,Nat.ble_eq,Nat.ble_self_eq_true,Bool.true_and,Bool.and_true,Bool.and_self,Option.some.injEq,AV.int.injEq,Zo,Zj,Nat.mul_one,Nat.beq_refl,Zn,cond_true,cond_false,Zp,Bool.not_true,Bool.not_false,decide_true,ZY,Ya,ZZ,Zf,List.nil_append]
 have hb:l.length + sz x≤1000000:=hb
 have hz:sz x≤N:=hz
 have hl:(lstQ l x 0).length=l.length + 1:=by rw [Uu,Zfy];rfl
 have hp:=Wj x
 refine Zd (decide_eq_true (by omega)) ⟨⟨0,Nat.zero_le _,⟨rfl,rfl,⟨fun i _=>⟨fun j _=>VZ _ _ _⟩⟩⟩,⟨by rw [hl],⟨fun i hi=>?_⟩⟩,hl.symm⟩,fun q hq=>?_⟩
 ·by_cases h:i < l.length
  ·rw [Xx (r:=rowT l i) (fun _=>rfl) fun h'=>absurd h h']
   show vmL _ ((l ++ _).getD i LT.none).row (l.getD i LT.none).row
   rw [Uo h]
   exact Zgq _ _
  ·have hi':i=l.length:=by omega
   subst hi'
   rw [Xx (r:=[AV.int .i64 x.kind,.bs x.text,.int .i64 x.num,.int .i64 x.line,.int .i64 x.col,.sl0]) (fun h'=>absurd h' h) fun _=>rfl]
   show vmL _ ((l ++ (hd0 x :: rS (wsX x) 0).map (shiftT (l.length:Int))).getD l.length LT.none).row _
   rw [Zfy,Vp (Nat.le_refl _),Nat.sub_self]
   exact ⟨⟨rfl,rfl⟩,rfl,⟨rfl,rfl⟩,⟨rfl,rfl⟩,⟨rfl,rfl⟩,rfl,trivial⟩
 have hkd:=Zak l x hq
 refine Zc (fun c=>?_) fun c=>?_
 ·rw [ZR] at c
  have c:q < x.ks.length:=by omega
  have hk:=sz_kid c
  have hs:=Zeb l x c
  have hle:=Zao l x (q + 1)
  have hlen:(lstQ l x (q + 1)).length=(lstQ l x q).length + sz (x.ks.getD q zPT):=by rw [hs,List.length_append,List.length_map,Xk]
  have hle0:=Zao l x q
  have hks:x.ks.length≤sz x:=by
   have:=Vw x.ks
   cases x with
   | mk k s n a c ks=>rw [Zaz];show ks.length≤_;have:ks.length≤szL ks:=this;omega
  refine Zd (ZD.2 ⟨by omega,by omega⟩) (Zd ?_ ⟨flP_of (by omega) (by omega),fun y hy=>Zd (Zv.2 (by omega)) ⟨q + 1,c,by omega,⟨rfl,rfl,⟨fun i _=>⟨fun j _=>VZ _ _ _⟩⟩⟩,⟨?_,?_⟩,⟨(Zak l x c).symm,Zhs hkd.symm (Zh1 l x c)⟩,?_⟩⟩)
  ·rw [Bool.and_eq_true,Nat.ble_eq,hkd];exact ⟨Nat.le_refl _,decide_eq_true (by omega)⟩
  ·rw [Qk] at hy
   rw [hlen,hy,Xk]
  ·rw [Qk] at hy
   exact rowsLT (by rw [hs,hy,Zd9])
  ·rw [Qk] at hy
   rw [hlen,hy,Xk]
 ·rw [ZF] at c
  have hq':q=x.ks.length:=by omega
  subst hq'
  have he:=Zay l x
  refine Zd (by rw [Bool.and_eq_true,Nat.ble_eq,hkd];exact ⟨Nat.le_refl _,Zk5 _ _⟩) (Zd (ZD.2 ⟨by omega,by omega⟩) (Zd ?_ ⟨by rw [he,Xk],by rw [he,Xk],⟨fun i hi=>?_⟩⟩))
  ·rw [Bool.and_eq_true,Nat.ble_eq,Nat.ble_eq]
   refine ⟨Nat.le_refl _,?_⟩
   show l.length * 6 + 5 + 1≤_
   omega
  ·have e:(l ++ (flat x).map (shiftT (l.length:Int)))=l ++ (shiftT (l.length:Int) ⟨x.kind,x.text,x.num,x.line,x.col,kS (wsX x) x.ks.length⟩) :: (rS (wsX x) x.ks.length).map (shiftT (l.length:Int)):=by
    rw [Gm];rfl
   have e2:lstQ l x x.ks.length=l ++ (shiftT (l.length:Int) (hd0 x)) :: (rS (wsX x) x.ks.length).map (shiftT (l.length:Int)):=rfl
   by_cases h:i=l.length
   ·subst h
    have:updRow (rowT (lstQ l x x.ks.length)) l.length 5 [AV.vec 1 x.ks.length (rI (kdQ l x x.ks.length))] l.length=splice (rowT (lstQ l x x.ks.length) l.length) 5 [AV.vec 1 x.ks.length (rI (kdQ l x x.ks.length))]:=by
     unfold updRow;rw [Nat.beq_refl,cond_true]
    rw [this]
    show vmL _ ((l ++ (flat x).map (shiftT (l.length:Int))).getD l.length LT.none).row (splice ((lstQ l x x.ks.length).getD l.length LT.none).row 5 _)
    rw [e,e2,Vp (Nat.le_refl _),Vp (Nat.le_refl _),Nat.sub_self]
    show vmL _ [AV.int .i64 x.kind,.bs x.text,.int .i64 x.num,.int .i64 x.line,.int .i64 x.col,.vec 1 (kdQ l x x.ks.length).length (rI (kdQ l x x.ks.length))] [AV.int .i64 x.kind,.bs x.text,.int .i64 x.num,.int .i64 x.line,.int .i64 x.col,.vec 1 x.ks.length (rI (kdQ l x x.ks.length))]
    rw [hkd]
    exact ⟨⟨rfl,rfl⟩,rfl,⟨rfl,rfl⟩,⟨rfl,rfl⟩,⟨rfl,rfl⟩,⟨rfl,rfl,⟨fun i _=>vm_rI _ _ i⟩⟩,trivial⟩
   ·have:updRow (rowT (lstQ l x x.ks.length)) l.length 5 [AV.vec 1 x.ks.length (rI (kdQ l x x.ks.length))] i=rowT (lstQ l x x.ks.length) i:=by
     unfold updRow
     rw [show Nat.beq i l.length=false from Bool.eq_false_iff.2 fun hb=>h (Nat.eq_of_beq_eq_true hb),cond_false]
    rw [this]
    show vmL _ ((l ++ (flat x).map (shiftT (l.length:Int))).getD i LT.none).row ((lstQ l x x.ks.length).getD i LT.none).row
    have:(l ++ (flat x).map (shiftT (l.length:Int))).getD i LT.none=(lstQ l x x.ks.length).getD i LT.none:=by
     rw [e,e2]
     by_cases h':i < l.length
     ·rw [Uo h',Uo h']
     ·rw [Vp (by omega),Vp (by omega)]
      obtain ⟨j,hj⟩:∃ j,i - l.length=j + 1:=⟨i - l.length - 1,by omega⟩
      rw [hj];rfl
    rw [this]
    exact Zgq _ _
theorem runFl:∀ (N:Nat) (hok:OkFl N) (l:List LT) (x:PT),l.length + sz x≤1000000→sz x≤N→(cRun (cxFl N hok l x) 60).call 17 [.ptr 0 0,pvY x] (mkH (numL [treeO 1 l.length,outO (rowT l) l.length] 0)) 2 (ResO Tryd.prog 0 0 2 (oFl l x)) :=
 Eq.mpr (by kernel_rfl) runFl_r
end Go.Proofs.YtlmmbanfhjaioaaDoor
end
section
set_option maxRecDepth 100000
set_option maxHeartbeats 2000000
open Go Go.Ev
namespace Go.Proofs.YtlmmbanfhjaioaaDoor
noncomputable def hFl (N:Nat):HSpec:={ X:=List LT×PT,gl:=[],sel:=fun _=>true,ng:=0,k:=2,args:=fun x=>[.ptr 0 0,pvY x.2],objs:=fun x=>[treeO 1 x.1.length,outO (rowT x.1) x.1.length],pre:=fun x=>x.1.length + sz x.2≤1000000∧sz x.2≤N,out:=fun x=>oFl x.1 x.2,fz:=0,find:=fun _ _=>none }
def tree0:AObj:=.cells 30 .leaf (.per [.sl0]) 1 false
noncomputable def oFl0 (x:PT):HO:=.gen (flat x) fun W=>.ret (.tup []) [treeO 1 W.length,outO (rowT W) W.length] 1
noncomputable def hFl0 (N:Nat):HSpec:={ X:=PT,gl:=[],sel:=fun _=>true,ng:=0,k:=1,args:=fun x=>[.ptr 0 0,pvY x],objs:=fun x=>[tree0],pre:=fun x=>sz x≤1000000∧sz x≤N,out:=fun x=>oFl0 x,fz:=0,find:=fun _ _=>none }
noncomputable def treeIn0 (H:Tr AObj) (id:Nat):Option Unit:=ob (H.get id) fun o=>match o with
 | .cells el c z N op=>cond (cond (Nat.beq el 30) (cond op false (Nat.beq N 1)) false) (ob (readL c z 1 0) fun l=>match l with
  | [.sl0]=>some ()
  | _=>none) none
 | _=>none
structure FlP0 (a:AV):Prop where
 x:∃ x,a=pvX x
 b:sz (ptR a)≤1000000
noncomputable def eFl0:HEnt:=fun H nx args=>match args with
 | [.ptr id 0,a]=>ob (treeIn0 H id) fun _=>cond (Nat.blt id nx)
  (some (.need (FlP0 a) (.gen (flat (ptR a)) fun W=>.ret (.tup []) [(id,treeO nx W.length),(nx,outO (rowT W) W.length)] (nx + 1)))) none
 | _=>none
theorem vm_kX (σ:List (Nat×Nat)) (x:PT):vmP σ (pvY x) (pvX x) :=
 ⟨⟨rfl,rfl⟩,rfl,⟨rfl,rfl⟩,⟨rfl,rfl⟩,⟨rfl,rfl⟩,trivial,⟨rfl,rfl,⟨fun i hi=>by
  show vmL σ [pvX (x.ks.getD i zPT)] ((pvL x.ks).getD i [])
  rw [Yk x.ks i hi,show x.ks.getD i zPT=x.ks[i] from by rw [List.getD_eq_getElem?_getD,List.getElem?_eq_getElem hi];rfl]
  exact ⟨Qt σ _,trivial⟩⟩⟩,trivial⟩
theorem clTree (r m:Nat):clO (treeO r m):=fun a ha=>by rw [List.mem_singleton.1 ha];trivial
theorem clOut (l:List LT) (n:Nat):clO (outO (rowT l) n):=fun i _=>Zgq [] _
theorem okFlX {N:Nat} (h:OkFl N) (l:List LT) (x:PT) (ids:List Nat):HEntOK Tryd.prog 17 ((hFl N).at (l,x) ids).ent:=by
 refine Xv _ (fun p hp=>by cases hp) (fun H _ p hp=>by cases hp) (fun y=>rfl) (fun y o ho=>Jr (p:=fun o=>isGl o=false) rfl rfl o ho) (fun y hp=>?_) fun y hp=>⟨(cRun (cxFl N h y.1 y.2) 60).call,Xr fol ZN 60,runFl N h y.1 y.2 hp.1 hp.2⟩
 exact ⟨fun a ha=>(by cases ha),rfl,VI (clTree _ _) trivial (clOut _ _)⟩
theorem Zgv {H:Tr AObj} {id r m:Nat} (h:treeIn H id=some (r,m)):Desc H id (treeO r m):=by
 obtain ⟨o,ho,h⟩:=Za.1 h
 split at h
 ·rename_i el c z N op
  obtain ⟨h1,h2⟩:=Vg h
  obtain ⟨l',hl,h3⟩:=Za.1 h2
  obtain ⟨e1,h1⟩:=Ze h1
  cases hop:op with
  | true=>rw [hop] at h1;cases h1
  | false =>
  rw [hop] at h1
  have e2:Nat.beq N 1=true:=h1
  rw [Nat.beq_eq] at e1 e2
  subst e1;subst e2;subst hop
  split at h3
  ·injection h3 with h3;injection h3 with h3 h4
   subst h3;subst h4
   exact ⟨⟨_,ho,fun ρ b x hx=>Gs hl hx⟩,rfl⟩
  ·cases h3
 ·cases h
theorem Zf3 {H:Tr AObj} {id:Nat} (h:treeIn0 H id=some ()):Desc H id tree0:=by
 obtain ⟨o,ho,h⟩:=Za.1 h
 split at h
 ·rename_i el c z N op
  obtain ⟨h1,h2⟩:=Vg h
  obtain ⟨l',hl,h3⟩:=Za.1 h2
  obtain ⟨e1,h1⟩:=Ze h1
  cases hop:op with
  | true=>rw [hop] at h1;cases h1
  | false =>
  rw [hop] at h1
  have e2:Nat.beq N 1=true:=h1
  rw [Nat.beq_eq] at e1 e2
  subst e1;subst e2;subst hop
  split at h3
  ·exact ⟨⟨_,ho,fun ρ b x hx=>Gs hl hx⟩,rfl⟩
  ·cases h3
 ·cases h
theorem ltsF_len (m:Nat) (f:Nat→List AV):(ltsF m f).length=m:=by unfold ltsF;rw [Zi];simp
theorem Zmq {H:Tr AObj} {r n m:Nat} {f:Nat→List AV} (h:twIn H r=some (f,n)) (hf:∀ i,i < m→f i=(ltA (f i)).row) (hn:n=m * 6):Desc H r (outO (rowT (ltsF m f)) m):=by
 obtain ⟨o,ho,h⟩:=Za.1 h
 split at h
 ·rename_i el c z N op
  split at h
  ·rename_i e f'
   obtain ⟨h1,h2⟩:=Jy h
   injection h2 with h2;injection h2 with h2 h3
   subst h2;subst h3
   obtain ⟨e1,h1⟩:=Ze h1
   obtain ⟨e2,e3⟩:=Ze h1
   rw [Nat.beq_eq] at e1 e3
   subst e1;subst e2;subst e3;subst hn
   refine ⟨⟨_,ho,fun ρ b x hx=>?_⟩,rfl⟩
   cases hx with
   | cells _ _ _ _ _ cs fz hsize hn hop hfz hcell =>
    refine .cells _ _ _ _ _ cs fz hsize hn hop hfz fun k a hk ha=>hcell k a hk ?_
    rw [Zx] at ha ⊢
    have ha:((ltsF m f').getD (k / 6) LT.none).row[k % 6]? = some a:=ha
    show (f' (k / 6))[k % 6]? = some a
    have hk':k / 6 < m:=by omega
    rw [hf _ hk']
    have:(ltsF m f').getD (k / 6) LT.none=ltA (f' (k / 6)):=by
     unfold ltsF
     rw [Zi,List.getD_eq_getElem?_getD,List.getElem?_map,List.getElem?_range hk'];rfl
    rw [this] at ha
    exact ha
  ·cases h
 ·cases h
theorem okFlS {N:Nat} (h:OkFl N):HEntOK Tryd.prog 17 (eFl (N + 1)):=by
 intro H nx args hc he
 unfold eFl at he
 split at he
 case h_2=>cases he
 rename_i id a
 obtain ⟨⟨r,m⟩,hq,he⟩:=Za.1 he
 obtain ⟨⟨f,n⟩,hr,he⟩:=Za.1 he
 obtain ⟨hb,he⟩:=Xg he
 injection he with he;subst he
 obtain ⟨b1,hb⟩:=Ze hb
 obtain ⟨b2,b3⟩:=Ze hb
 have n3:=VL b3
 intro p v up nx' hout E F ρ w0 rel
 obtain ⟨⟨hf,hn,⟨x,rfl⟩,hz,hbd⟩,hout⟩:=Xn hout
 simp only at hf hn hz hbd hout hr b1 b2
 rw [Qk] at hz hbd hout
 have hll:=ltsF_len m f
 have hd1:=Zgv hq
 have hd2:=Zmq hr hf hn
 have key:hOut (instH 0 [id,r] nx (oFl (ltsF m f) x))=some (p,v,up,nx'):=by
  refine Eq.trans ?_ hout
  show hOut (fN1 (nx + 1) fun n=>(fun ts=>HCt.ret (rnF (tauN 0 ts) 4 (.tup [])) (ts.zip ([treeO 2 ((ltsF m f).length + (flat x).length),goneO,outO (rowT (ltsF m f ++ (flat x).map (shiftT ((ltsF m f).length:Int)))) ((ltsF m f).length + (flat x).length)].map (rnO (tauN 0 ts)))) n) ([id,r] ++ List.range' nx 1))=_
  rw [YG,hll]
  rfl
 refine YV (S:=hFl N) (x:=(ltsF m f,x)) (ids:=[id,r]) (os:=[treeO r m,outO (rowT (ltsF m f)) m]) (args':=[.ptr id 0,pvX x]) (okFlX h (ltsF m f) x [id,r]) ⟨by show (ltsF m f).length + _≤_;rw [hll];exact hbd,Nat.lt_succ_iff.1 hz⟩ rfl rfl ?_ ?_ rfl ?_ ⟨⟨rfl,rfl⟩,vm_kX _ x,trivial⟩ ⟨?_,?_,trivial⟩ key ?_ rel fun vs h=>h
 ·show cond (List.any [r] (Nat.beq id)) false true=true
  have:Nat.beq id r=false:=Bool.eq_false_iff.2 fun hb=>n3 (Nat.eq_of_beq_eq_true hb)
  simp only [List.any_cons,List.any_nil,this,Bool.or_false,cond_false]
 ·show (List.all [id,r] fun j=>Nat.blt j nx)=true
  simp only [List.all_cons,List.all_nil,b1,b2,Bool.and_true]
 ·exact fun q hq=>JD (p:=fun q:Nat×AObj=>Desc H q.1 q.2) hd1 hd2 q hq
 ·show (match ((H.set r (outO (rowT (ltsF m f)) m)).set id (treeO r m)).get id with
   | none=>False
   | some o=>omP [(0,id),(1,r)] (treeO 1 (ltsF m f).length) o)
  rw [Tr.get_set_same,hll]
  exact ⟨rfl,rfl,rfl,trivial,rfl,rfl,rfl⟩
 ·show (match ((H.set r (outO (rowT (ltsF m f)) m)).set id (treeO r m)).get r with
   | none=>False
   | some o=>omP [(0,id),(1,r)] (outO (rowT (ltsF m f)) (ltsF m f).length) o)
  rw [Tr.get_set_ne _ n3,Tr.get_set_same,hll]
  exact ⟨rfl,rfl,rfl,rfl,⟨fun i _=>Zgq _ _⟩⟩
 ·obtain ⟨_,_,rfl,_⟩:=Up (show hOut (.ret (.tup []) [(id,treeO nx (m + (flat x).length)),(r,goneO),(nx,outO (rowT (ltsF m f ++ (flat x).map (shiftT (m:Int)))) (m + (flat x).length))] (nx + 1))=some (p,v,up,nx') from hout)
  exact JD ⟨_,List.mem_cons_self ..,rfl⟩ ⟨_,List.mem_cons_of_mem _ (List.mem_cons_self ..),rfl⟩
theorem okFl:∀ N,OkFl N
 | 0=>⟨fun H nx args hc he=>by
  unfold eFl at he
  split at he
  case h_2=>cases he
  obtain ⟨⟨r,m⟩,hq,he⟩:=Za.1 he
  obtain ⟨⟨f,n⟩,hr,he⟩:=Za.1 he
  obtain ⟨hb,he⟩:=Xg he
  injection he with he;subst he
  intro p v up nx' hout
  obtain ⟨h,_⟩:=Xn hout
  exact absurd h.z (Nat.not_lt_zero _)⟩
 | N + 1=>⟨okFlS (okFl N)⟩
theorem shift0 (l:List LT):l.map (shiftT 0)=l:=by
 have:∀ w:LT,shiftT 0 w=w:=fun w=>by
  cases w with
  | mk k s n a c ks =>
   show LT.mk k s n a c (ks.map (· + 0))=_
   simp
 rw [show shiftT 0=id from funext this,List.map_id]
noncomputable def qu (a:PT) (b:Nat) (c:List LT) (d:Nat):=List.getD (ltsF (List.length (lstQ [] a b)) (rowT (lstQ [] a b)) ++ List.map (shiftT (↑(List.length (lstQ [] a b)):Int)) c) d LT.none
noncomputable def qap (a:PT) (b:Nat):=List.length (lstQ [] a b)
noncomputable def qbi (a:PT) (b:Nat) (c:Nat):=List.getD (lstQ [] a b) c LT.none
noncomputable def qbl (a:PT) (b:Nat):=List.getD (lstQ [] a b) 0 LT.none
theorem runFl0_r:∀ (N:Nat),OkFl N→∀ (x:PT),Nat.le (sz x) 1000000→Nat.le (sz x) N→(qs∧qs∧qs∧True)∧(∃ (x0:Nat),Nat.le x0 (qz x)∧true=true∧(x0=0∧(qbt x0)∧qba∧qb4∧(true=true∧qz x=qz x∧AllI fun (i:Nat)=>qN i (qz x)→((qbJ x i)∧qcO x i=qcO x i∧(qbS x i)∧(qbH x i)∧(qb0 x i)∧True∧(true=true∧qaD x i=qaD x i∧AllI fun (i_1:Nat)=>qN i_1 (qaD x i)→vmL [(15,11),(0,0)] (qaS x i i_1) (qaS x i i_1))∧True)∧True)∧(qbp x)∧True)∧(true=true∧true=true∧true=true∧6=qap x x0 * 6∧(((((True∧true=true∧PT.kind x=LT.kind (qbl x x0))∧PT.text x=LT.text (qbl x x0))∧true=true∧PT.num x=LT.n (qbl x x0))∧true=true∧PT.line x=LT.line (qbl x x0))∧true=true∧PT.col x=LT.col (qbl x x0))∧List.length (LT.kids (qbl x x0))=0)∧qbj∧(true=true∧true=true∧true=true∧true=true∧True∧some 11=some 11∧true=true∧1=qap x x0∧true=true)∧True)∧∀ (x_1:Nat),Nat.le x_1 (qz x)→brP (ilt (↑x_1:Int) (Int.ofNat (qz x))) (sdA (inB (↑x_1:Int) (qz x)) (sdA (bif bif Nat.ble (x_1 * 1) (List.length (kdQ [] x x_1)) then true else false then decide (x_1 + 1≤9223372036854775807∧(x_1 + 1) * 8≤140737488355328) else false) (FlP N (qap x x_1) (qap x x_1 * 6) (rowT (lstQ [] x x_1)) (qcd x x_1)∧∀ (y:List LT),y=flat (ptR (qcd x x_1))→q3 x_1 (∃ (x':Nat),Nat.le x' (qz x)∧Nat.le (Nat.succ (qz x - x')) (qz x - x_1)∧true=true∧((some 18=some 18∧x_1 + 1=x'∧true=true)∧(qbK x_1 x')∧qba∧qb4∧(true=true∧qz x=qz x∧AllI fun (i:Nat)=>qN i (qz x)→((qbJ x i)∧qcO x i=qcO x i∧(qbS x i)∧(qbH x i)∧(qb0 x i)∧True∧(true=true∧qaD x i=qaD x i∧AllI fun (i_1:Nat)=>qN i_1 (qaD x i)→vmL [(15,20),(16,18),(0,0)] (qaS x i i_1) (qaS x i i_1))∧True)∧True)∧(qbp x)∧True)∧(true=true∧true=true∧true=true∧true=true∧(qap x x_1 + y.length) * 6=qap x x' * 6∧AllI fun (i:Nat)=>qb6 i ((qap x x_1 + y.length) * 6)→(true=true∧LT.kind (qu x x_1 y i)=LT.kind (qbi x x' i))∧LT.text (qu x x_1 y i)=LT.text (qbi x x' i)∧(true=true∧LT.n (qu x x_1 y i)=LT.n (qbi x x' i))∧(true=true∧LT.line (qu x x_1 y i)=LT.line (qbi x x' i))∧(true=true∧LT.col (qu x x_1 y i)=LT.col (qbi x x' i))∧(true=true∧List.length (LT.kids (qu x x_1 y i))=List.length (LT.kids (qbi x x' i))∧AllI fun (i_1:Nat)=>qN i_1 (List.length (LT.kids (qu x x_1 y i)))→(true=true∧List.getD (LT.kids (qu x x_1 y i)) i_1 (0:Int)=List.getD (LT.kids (qbi x x' i)) i_1 (0:Int))∧True)∧True)∧(true=true∧true=true∧true=true∧true=true∧(x_1 + 1) * 1=List.length (kdQ [] x x')∧AllI fun (i:Nat)=>qby i ((x_1 + 1) * 1)→vmL [(15,20),(16,18),(0,0)] (rI (kdQ [] x x') i) (appF x_1 (rI (kdQ [] x x_1)) (fun (x_2:Nat)=>[AV.int .i64 (Int.ofNat (qap x x_1))]) i))∧(true=true∧true=true∧true=true∧true=true∧True∧some 20=some 20∧qap x x_1 + y.length=qap x x'∧true=true)∧True)))) (sdA (bif Nat.ble (x_1 * 1) (List.length (kdQ [] x x_1)) then goodR 1 x_1 (rI (kdQ [] x x_1)) else false) (qcz x_1 (sdA (inB (0:Int) (qap x x_1)) (sdA (bif Nat.ble (5 + List.length [AV.vec 1 x_1 (rI (kdQ [] x x_1))]) (List.length (rowT (lstQ [] x x_1) 0)) then Nat.ble (5 + List.length [AV.vec 1 x_1 (rI (kdQ [] x x_1))]) (qap x x_1 * 6) else false) (true=true∧(True∧True)∧(true=true∧true=true∧true=true∧true=true∧True∧some 15=some 15∧qap x x_1=List.length (flat x)∧true=true)∧(true=true∧true=true∧true=true∧true=true∧qap x x_1 * 6=List.length (flat x) * 6∧AllI fun (i:Nat)=>qb6 i (qap x x_1 * 6)→vmL [(1,15),(0,0)] (rowT (flat x) i) (updRow (rowT (lstQ [] x x_1)) 0 5 [AV.vec 1 x_1 (rI (kdQ [] x x_1))] i))∧True)))))
:= by
 delta qp qs qu qz qN q3 q6 qap qaD qaS qba qbi qbj qbl qbp qbt qby qbH qbJ qbK qbS qb0 qb4 qb6 qcd qcz qcO
 intro N hok x hb hz
 simp only [Zi,Zs,true_and,and_true,eq_self,implies_true,Nat.le_eq,ZA,Zz,ZK,Int.toNat_natCast,Int.ofNat_eq_natCast,Nat.ble_eq,Nat.ble_self_eq_true,Bool.true_and,Bool.and_true,Bool.and_self,Option.some.injEq,AV.int.injEq,Zo,Zj,Nat.mul_one,Nat.beq_refl,Zn,cond_true,cond_false,Zp,Bool.not_true,Bool.not_false,decide_true,ZY,Ya,ZZ,Zf,List.nil_append]
 have hb:sz x≤1000000:=hb
 have hz:sz x≤N:=hz
 have h00:([]:List LT).length=0:=rfl
 have hl:lstQ [] x 0=[hd0 x]:=by
  show [] ++ (hd0 x :: rS (wsX x) 0).map (shiftT 0)=_
  rw [shift0,Zfy];rfl
 have hp:=Wj x
 refine ⟨⟨0,Nat.zero_le _,⟨rfl,rfl,⟨fun i _=>⟨fun j _=>VZ _ _ _⟩⟩⟩,?_⟩,fun q hq=>?_⟩
 ·rw [hl];exact ⟨⟨rfl,⟨⟨⟨⟨rfl,rfl⟩,rfl⟩,rfl⟩,rfl⟩,rfl⟩,rfl⟩
 have hkd:=Zak [] x hq
 refine Zc (fun c=>?_) fun c=>?_
 ·rw [ZR] at c
  have c:q < x.ks.length:=by omega
  have hk:=sz_kid c
  have hs:=Zeb [] x c
  have hle:=Zao [] x (q + 1)
  have hlen:(lstQ [] x (q + 1)).length=(lstQ [] x q).length + sz (x.ks.getD q zPT):=by rw [hs,List.length_append,List.length_map,Xk]
  have hle0:=Zao [] x q
  have hks:x.ks.length≤sz x:=by
   have:=Vw x.ks
   cases x with
   | mk k s n a c ks=>rw [Zaz];show ks.length≤_;have:ks.length≤szL ks:=this;omega
  refine Zd (ZD.2 ⟨by omega,by omega⟩) (Zd ?_ ⟨flP_of (by omega) (by omega),fun y hy=>Zd (Zv.2 (by omega)) ⟨q + 1,c,by omega,⟨rfl,rfl,⟨fun i _=>⟨fun j _=>VZ _ _ _⟩⟩⟩,⟨?_,?_⟩,⟨(Zak [] x c).symm,Zhs hkd.symm (Zh1 [] x c)⟩,?_⟩⟩)
  ·rw [Bool.and_eq_true,Nat.ble_eq,hkd];exact ⟨Nat.le_refl _,decide_eq_true (by omega)⟩
  ·rw [Qk] at hy
   rw [hlen,hy,Xk]
  ·rw [Qk] at hy
   exact rowsLT (by rw [hs,hy,Zd9])
  ·rw [Qk] at hy
   rw [hlen,hy,Xk]
 ·rw [ZF] at c
  have hq':q=x.ks.length:=by omega
  subst hq'
  have he:=Zay [] x
  have h0:([]:List LT).length=0:=rfl
  rw [h0,Nat.zero_add] at he
  have hfo:=Gm x
  have e2:lstQ [] x x.ks.length=hd0 x :: rS (wsX x) x.ks.length:=by
   show [] ++ (hd0 x :: rS (wsX x) x.ks.length).map (shiftT 0)=_
   rw [shift0];rfl
  have e3:kdQ [] x x.ks.length=kS (wsX x) x.ks.length:=by
   show (kS (wsX x) x.ks.length).map (· + (0:Int))=_
   simp
  refine Zd (by rw [Bool.and_eq_true,Nat.ble_eq,hkd];exact ⟨Nat.le_refl _,Zk5 _ _⟩) (Zd (ZD.2 ⟨by omega,by omega⟩) (Zd ?_ ⟨by rw [he,Xk],by rw [he,Xk],⟨fun i hi=>?_⟩⟩))
  ·rw [Bool.and_eq_true,Nat.ble_eq,Nat.ble_eq,he]
   refine ⟨Nat.le_refl _,?_⟩
   show 5 + 1≤_
   omega
  ·cases i with
   | zero =>
    show vmL _ ((flat x).getD 0 LT.none).row (splice ((lstQ [] x x.ks.length).getD 0 LT.none).row 5 _)
    rw [hfo,e2,e3]
    have hk:(kS (wsX x) x.ks.length).length=x.ks.length:=Zi9 (by rw [QY];exact Nat.le_refl _)
    show vmL _ [AV.int .i64 x.kind,.bs x.text,.int .i64 x.num,.int .i64 x.line,.int .i64 x.col,.vec 1 (kS (wsX x) x.ks.length).length (rI (kS (wsX x) x.ks.length))] [AV.int .i64 x.kind,.bs x.text,.int .i64 x.num,.int .i64 x.line,.int .i64 x.col,.vec 1 x.ks.length (rI (kS (wsX x) x.ks.length))]
    rw [hk]
    exact ⟨⟨rfl,rfl⟩,rfl,⟨rfl,rfl⟩,⟨rfl,rfl⟩,⟨rfl,rfl⟩,⟨rfl,rfl,⟨fun i _=>vm_rI _ _ i⟩⟩,trivial⟩
   | succ i =>
    show vmL _ ((flat x).getD (i + 1) LT.none).row ((lstQ [] x x.ks.length).getD (i + 1) LT.none).row
    rw [hfo,e2]
    exact Zgq _ _
theorem runFl0:∀ (N:Nat) (hok:OkFl N) (x:PT),sz x≤1000000→sz x≤N→(cRun (cxFl N hok [] x) 60).call 17 [.ptr 0 0,pvY x] (mkH (numL [tree0] 0)) 1 (ResO Tryd.prog 0 0 1 (oFl0 x)) :=
 Eq.mpr (by kernel_rfl) runFl0_r
theorem okFl0X (x:PT) (ids:List Nat) (hx:sz x≤1000000):HEntOK Tryd.prog 17 ((hFl0 1000000).at x ids).ent:=by
 refine Xv _ (fun p hp=>by cases hp) (fun H _ p hp=>by cases hp) (fun y=>rfl) (fun y o ho=>XM (p:=fun o=>isGl o=false) rfl o ho) (fun y hp=>?_) fun y hp=>⟨(cRun (cxFl 1000000 (okFl _) [] y) 60).call,Xr fol ZN 60,runFl0 1000000 (okFl _) y hp.1 hp.2⟩
 exact ⟨fun a ha=>(by cases ha),rfl,Jr (clTree _ _) (clOut _ _)⟩
theorem okFl0:HEntOK Tryd.prog 17 eFl0:=by
 intro H nx args hc he
 unfold eFl0 at he
 split at he
 case h_2=>cases he
 rename_i id a
 obtain ⟨_,hq,he⟩:=Za.1 he
 obtain ⟨hb,he⟩:=Xg he
 injection he with he;subst he
 intro p v up nx' hout E F ρ w0 rel
 obtain ⟨⟨⟨x,rfl⟩,hbd⟩,hout⟩:=Xn hout
 rw [Qk] at hbd hout
 have hd1:=Zf3 hq
 have key:hOut (instH 0 [id] nx (oFl0 x))=some (p,v,up,nx'):=by
  refine Eq.trans ?_ hout
  show hOut (fN1 (nx + 1) fun n=>(fun ts=>HCt.ret (rnF (tauN 0 ts) 4 (.tup [])) (ts.zip ([treeO 1 (flat x).length,outO (rowT (flat x)) (flat x).length].map (rnO (tauN 0 ts)))) n) ([id] ++ List.range' nx 1))=_
  rw [YG]
  rfl
 refine YV (S:=hFl0 1000000) (x:=x) (ids:=[id]) (os:=[tree0]) (args':=[.ptr id 0,pvX x]) (okFl0X x [id] hbd) ⟨hbd,hbd⟩ rfl rfl rfl ?_ rfl ?_ ⟨⟨rfl,rfl⟩,vm_kX _ x,trivial⟩ ⟨?_,trivial⟩ key ?_ rel fun vs h=>h
 ·show (List.all [id] fun j=>Nat.blt j nx)=true
  simp only [List.all_cons,List.all_nil,hb,Bool.and_true]
 ·exact fun q hq=>by rw [List.mem_singleton.1 hq];exact hd1
 ·show (match (H.set id tree0).get id with
   | none=>False
   | some o=>omP [(0,id)] tree0 o)
  rw [Tr.get_set_same]
  exact ⟨rfl,rfl,rfl,trivial,trivial⟩
 ·obtain ⟨_,_,rfl,_⟩:=Up (show hOut (.ret (.tup []) [(id,treeO nx (flat x).length),(nx,outO (rowT (flat x)) (flat x).length)] (nx + 1))=some (p,v,up,nx') from hout)
  exact fun i hi=>⟨_,List.mem_cons_self ..,(List.mem_singleton.1 hi).symm⟩
end Go.Proofs.YtlmmbanfhjaioaaDoor
end
