/- Laid by program out of its parts: PcF. -/
import Derived.Test.YtlmmbanfhjaioaaDoorPcD
import Derived.Test.YtlmmbanfhjaioaaDoorPcM
set_option linter.unusedVariables false
set_option linter.unusedSimpArgs false
set_option maxRecDepth 100000
set_option maxHeartbeats 2000000
open Go Go.Ev
namespace Go.Proofs.YtlmmbanfhjaioaaDoor
structure SdP (n:Nat) (f:Nat→List AV) (m:Nat) (g:Nat→List AV):Prop where
 d:∃ D:List Dg,n=D.length∧m=D.length∧(f=fun k=>dgRow (D.getD k d0))∧(g=fun k=>dgRow (D.getD k d0))
noncomputable def eSD:Tr AObj→List AV→Option Ct:=fun _ args=>match args with
 | [.vec 3 n f,.vec 3 m g]=>some (.need (SdP n f m g∧n≤1000000) (.ret (.bool true)))
 | _=>none
noncomputable def eKn:Tr AObj→List AV→Option Ct:=fun H args=>match args with
 | []=>cond (globB H) (some (.need True (.ret (.bool true)))) none
 | _=>none
noncomputable def SSd (D:List Dg):Stn:=thin Nat [0,1] (fun i=>[(5,.int .i64 i)]) (fun _ i=>i≤D.length) fun i=>D.length - i
noncomputable def cxSd0 (D:List Dg):Ctx:={ P:=Tryd.prog,tb:=[],lp:=fun f r=>cond (Nat.beq f 8) (cond (Nat.beq r 4) (some (SSd D)) none) none,cut:=fun _ _=>none }
noncomputable def tbF0:Tbl:=(9,ePar) :: []
noncomputable def cxF0:Ctx:={ P:=Tryd.prog,tb:=tbF0,lp:=fun _ _=>none,cut:=fun _ _=>none }
noncomputable def tbFi:Tbl:=(5,eKn) :: (6,e10) :: (7,eTok) :: (8,eSD) :: []
structure IF (T:List Tok) (w:Nat) (i:Nat):Prop where
 le:i≤w
 lt:w < T.length
noncomputable def SFi (b:List UInt8):Stn:={ X:=Nat×Nat×Int,T:=fun s _ x=>(11,.int .i64 x.2.1) :: keepT s [5,7,10],H:=fun s n0 _=>keepH s n0,nx:=fun s _=>s.nx,I:=fun s x=>Fst (scanR b).1 x.1 x.2.2∧x.2.1≤x.1,m:=fun x=>x.1 - x.2.1 }
noncomputable def cxFi (b:List UInt8):Ctx:={ P:=Tryd.prog,tb:=tbFi,lp:=fun f r=>cond (Nat.beq f 3) (cond (Nat.beq r 11) (some (SFi b)) none) none,cut:=fun _ _=>none }
theorem tbF0_ok:TbOK Tryd.prog tbF0:=ZT okPar ZN
def k1:List UInt8:=[109,97,105,110,32,123,32,120,32,61,32,49,32,125]
def k2:List UInt8:=[109,97,105,110,32,123,32,53,32,61,32,49,59,32,125]
def k3:List UInt8:=[108,111,111,112,101,114]
theorem kn1:parD k1=[⟨1,14,4⟩]:=by rw [Zf4];exact Zj0 (by kernel_rfl)
theorem kn2:parD k2=[⟨1,10,4⟩]:=by rw [Zf4];exact Zj0 (by kernel_rfl)
theorem kn3:parD k3=[⟨0,0,4⟩]:=by rw [Zf4];exact Zj0 (by kernel_rfl)
theorem Zlf {l:List UInt8} {a b c:Int} {K X:Prop} (h:parD l=[⟨a,b,c⟩]) (hK:K):brP (ieq ((parW l).length:Int) 0) (brP (ieq ((parD l).length:Int) 1) (sdA (inB 0 (parD l).length) (brP (ieq ((parD l).getD 0 d0).line a && (ieq ((parD l).getD 0 d0).col b && ieq ((parD l).getD 0 d0).err c)) K X)) X) X:=by
 have hw:parW l=[]:=parW0 (by rw [h];exact fun e=>by cases e)
 rw [hw,h]
 refine Zc (fun _=>Zc (fun _=>Zd (ZD.2 ⟨Int.le_refl 0,(by show (0:Int) < ((1:Nat):Int);decide)⟩) (Zc (fun _=>hK) fun e=>?_)) fun e=>?_) fun e=>?_
 ·exfalso
  have:(ieq a a && (ieq b b && ieq c c))=false:=e
  rw [Zp,Zp,Zp] at this
  cases this
 ·exact absurd rfl (Zu.1 e)
 ·exact absurd rfl (Zu.1 e)
noncomputable def qv:=[(109:UInt8),(97:UInt8),(105:UInt8),(110:UInt8),(32:UInt8),(123:UInt8),(32:UInt8),(53:UInt8),(32:UInt8),(61:UInt8),(32:UInt8),(49:UInt8),(59:UInt8),(32:UInt8),(125:UInt8)]
noncomputable def qx:=[(109:UInt8),(97:UInt8),(105:UInt8),(110:UInt8),(32:UInt8),(123:UInt8),(32:UInt8),(120:UInt8),(32:UInt8),(61:UInt8),(32:UInt8),(49:UInt8),(32:UInt8),(125:UInt8)]
noncomputable def qcr:=List.getD (barr (parD qx)) 0 d0
noncomputable def qcs:=List.getD (barr (parD qv)) 0 d0
noncomputable def qct:=List.getD (barr (parD qJ)) 0 d0
theorem runKn_r:Nat.le 14 100000∧brP (ieq (Int.ofNat (List.length (barr (parW qx)))) (0:Int)) (brP (ieq (Int.ofNat (List.length (barr (parD qx)))) (1:Int)) (sdA (inB (0:Int) (List.length (barr (parD qx)))) (brP (ieq (Dg.line (qcr)) (1:Int) && (ieq (Dg.col (qcr)) (14:Int) && (ieq (Dg.err (qcr)) (4:Int) && true))) (Nat.le 15 100000∧brP (ieq (Int.ofNat (List.length (barr (parW qv)))) (0:Int)) (brP (ieq (Int.ofNat (List.length (barr (parD qv)))) (1:Int)) (sdA (inB (0:Int) (List.length (barr (parD qv)))) (brP (ieq (Dg.line (qcs)) (1:Int) && (ieq (Dg.col (qcs)) (10:Int) && (ieq (Dg.err (qcs)) (4:Int) && true))) (Nat.le 6 100000∧brP (ieq (Int.ofNat (List.length (barr (parW qJ)))) (0:Int)) (brP (ieq (Int.ofNat (List.length (barr (parD qJ)))) (1:Int)) (sdA (inB (0:Int) (List.length (barr (parD qJ)))) ((ieq (Dg.line (qct)) (0:Int) && (ieq (Dg.col (qct)) (0:Int) && (ieq (Dg.err (qct)) (4:Int) && true)))=true)) (false=true)) (false=true)) (false=true))) (false=true)) (false=true)) (false=true))) (false=true)) (false=true)
:= by
 delta qv qx qJ qcr qcs qct
 simp only [Zi,Zs,true_and,and_true,eq_self,implies_true,Nat.le_eq,ZA,Zz,ZK,Int.toNat_natCast,Int.ofNat_eq_natCast,Nat.ble_eq,Nat.ble_self_eq_true,Bool.true_and,Bool.and_true,Bool.and_self,Option.some.injEq,AV.int.injEq,Zo,Zj,Nat.mul_one,Nat.beq_refl,Zn,cond_true,cond_false,Zp,Bool.not_true,Bool.not_false,decide_true,ZY,Ya,ZZ,Zf,List.nil_append]
 refine ⟨by decide,Zlf kn1 ⟨by decide,Zlf kn2 ⟨by decide,?_⟩⟩⟩
 have hw:parW k3=[]:=parW0 (by rw [kn3];exact fun e=>by cases e)
 show brP (ieq ((parW k3).length:Int) 0) (brP (ieq ((parD k3).length:Int) 1) (sdA (inB 0 (parD k3).length) ((ieq ((parD k3).getD 0 d0).line 0 && (ieq ((parD k3).getD 0 d0).col 0 && ieq ((parD k3).getD 0 d0).err 4))=true)) _) _
 rw [hw,kn3]
 exact Zc (fun _=>Zc (fun _=>Zd (ZD.2 ⟨by decide,by decide⟩) (by decide)) fun e=>absurd rfl (Zu.1 e)) fun e=>absurd rfl (Zu.1 e)
theorem runKn:(cRun cxF0 100).call 5 [] (mkH glT) 4 (ResM Tryd.prog false (.bool true)) :=
 Eq.mpr (by kernel_rfl) runKn_r
theorem okKn:EntOK Tryd.prog 5 eKn:=by
 refine WA (gl:=glT) (ng:=4) JE fun H args ct hct=>?_
 unfold eKn at hct
 split at hct
 ·cases hg:globB H with
  | false=>rw [hg] at hct;cases hct
  | true =>
   rw [hg] at hct
   injection hct with hct
   exact ⟨Us hg,_,_,hct.symm,fun hp=>⟨trivial,cxF0,100,rfl,fol,tbF0_ok,runKn⟩⟩
 ·cases hct
theorem vm_dgs (σ:List (Nat×Nat)) (D:List Dg):vmP σ (dgsAV D) (dgsAV D):=⟨rfl,rfl,⟨fun i _=>Zl4 σ _⟩⟩
@[reducible] def UL:List Dg→Prop:=fun (D:List Dg)=>true=true∧D.length=D.length∧AllI fun (i:Nat)=>Nat.le (Nat.succ i) D.length→(true=true∧Dg.line (List.getD D i d0)=Dg.line (List.getD D i d0))∧(true=true∧Dg.col (List.getD D i d0)=Dg.col (List.getD D i d0))∧(true=true∧Dg.err (List.getD D i d0)=Dg.err (List.getD D i d0))∧True
@[reducible] def Qd:List Dg→Prop:=fun (D:List Dg)=>UL D∧UL D∧True
noncomputable def qcL (a:List Dg) (b:Nat):=List.getD a (q6 b) d0
theorem runSD_r:∀ (D:List Dg),Nat.le D.length 1000000→brP (!ieq (Int.ofNat D.length) (Int.ofNat D.length)) (false=true) ((∃ (x0:Nat),Nat.le x0 D.length∧true=true∧((qbt x0)∧Qd D)∧True)∧∀ (x:Nat),Nat.le x D.length→brP (ilt (↑x:Int) (Int.ofNat D.length)) (sdA (inB (↑x:Int) D.length) (sdA (inB (↑x:Int) D.length) ((qs∧True)∧brP (!(ieq (Dg.line (qcL D x)) (Dg.line (qcL D x)) && (ieq (Dg.col (qcL D x)) (Dg.col (qcL D x)) && (ieq (Dg.err (qcL D x)) (Dg.err (qcL D x)) && true)))) (false=true) (q3 x (∃ (x':Nat),Nat.le x' D.length∧Nat.le (Nat.succ (D.length - x')) (D.length - x)∧true=true∧((qbK x x')∧Qd D)∧True))))) (true=true))
:= by
 delta qs q3 q6 qbt qbK qcL
 intro D hD
 simp only [Zi,Zs,true_and,and_true,eq_self,implies_true,Nat.le_eq,ZA,Zz,ZK,Int.toNat_natCast,Int.ofNat_eq_natCast,Nat.ble_eq,Nat.ble_self_eq_true,Bool.true_and,Bool.and_true,Bool.and_self,Option.some.injEq,AV.int.injEq,Zo,Zj,Nat.mul_one,Nat.beq_refl,Zn,cond_true,cond_false,Zp,Bool.not_true,Bool.not_false,decide_true,ZY,Ya,ZZ,Zf,List.nil_append,UL,Qd]
 have hD:D.length≤1000000:=hD
 refine ⟨⟨0,Nat.zero_le _,rfl⟩,fun x hx=>Zc (fun c=>?_) fun _=>trivial⟩
 have c:=ZR.1 c
 exact Zd (ZD.2 ⟨by omega,by omega⟩) (Zd (ZD.2 ⟨by omega,by omega⟩) (Zd (Zv.2 (by omega)) ⟨x + 1,by omega,by omega,rfl⟩))
theorem runSD:∀ (D:List Dg),D.length≤1000000→(cRun (cxSd0 D) 60).call 8 [dgsAV D,dgsAV D] .leaf 0 (ResM Tryd.prog false (.bool true)) :=
 Eq.mpr (by kernel_rfl) runSD_r
theorem okSD:EntOK Tryd.prog 8 eSD:=by
 refine WA (gl:=[]) (ng:=0) gl0 fun H args ct hct=>?_
 unfold eSD at hct
 split at hct
 ·rename_i n f m g
  injection hct with hct;subst hct
  refine ⟨gl0,_,_,rfl,fun hp=>?_⟩
  obtain ⟨⟨D,rfl,rfl,rfl,rfl⟩,hlen⟩:=hp
  exact ⟨⟨vm_dgs [] D,vm_dgs [] D,trivial⟩,cxSd0 D,60,rfl,fol,ZN,runSD D hlen⟩
 ·cases hct
theorem tbFi_ok:TbOK Tryd.prog tbFi:=ZT okKn (ZT ok10 (ZT okTok (ZT okSD ZN)))
theorem tkF_take (T:List Tok) {a:Nat} (h:a≤100000):TkF a (fun k=>tokRow (T.getD k t0)):=⟨h,fun i _=>rfl⟩
theorem tkF_app (T U:List Tok) {a:Nat} (h:a + U.length≤100000):TkF (a + U.length) (appF a (fun k=>tokRow (T.getD k t0)) fun k=>tokRow (U.getD k t0)):=⟨h,fun i _=>by
 by_cases c:i < a
 ·rw [Xx (r:=tokRow (T.getD i t0)) (fun _=>rfl) fun h=>absurd c h];rfl
 ·rw [Xx (r:=tokRow (U.getD (i - a) t0)) (fun h=>absurd h c) fun _=>rfl];rfl⟩
theorem good_app (T U:List Tok) {a n:Nat}:goodR 5 n (appF a (fun k=>tokRow (T.getD k t0)) fun k=>tokRow (U.getD k t0))=true:=XT fun i _=>by
 by_cases c:i < a
 ·rw [Xx (r:=tokRow (T.getD i t0)) (fun _=>rfl) fun h=>absurd c h];rfl
 ·rw [Xx (r:=tokRow (U.getD (i - a) t0)) (fun h=>absurd h c) fun _=>rfl];rfl
@[reducible] def Wh:Nat×Nat×Int→Prop:=fun (a:Nat×Nat×Int)=>Int.toNat ((↑(a.2.1):Int) + 1)≤9223372036854775807∧Int.toNat ((↑(a.2.1):Int) + 1) * 48≤140737488355328
@[reducible] def Wk:List UInt8→Nat×Nat×Int→Prop:=fun (c:List UInt8) (a:Nat×Nat×Int)=>Int.toNat ((↑(a.2.1):Int) + 1) + List.length (Prod.fst (scanR c))≤9223372036854775807∧(Int.toNat ((↑(a.2.1):Int) + 1) + List.length (Prod.fst (scanR c))) * 48≤140737488355328
@[reducible] def XW:List UInt8→List UInt8→Prop:=fun (b c:List UInt8)=>(true=true∧List.length (Prod.fst (scanR b))=List.length (Prod.fst (scanR b))∧AllI fun (i:Nat)=>Nat.le (Nat.succ i) (List.length (Prod.fst (scanR b)))→(true=true∧Tok.kind (List.getD (Prod.fst (scanR b)) i t0)=Tok.kind (List.getD (Prod.fst (scanR b)) i t0))∧Tok.text (List.getD (Prod.fst (scanR b)) i t0)=Tok.text (List.getD (Prod.fst (scanR b)) i t0)∧(true=true∧Tok.num (List.getD (Prod.fst (scanR b)) i t0)=Tok.num (List.getD (Prod.fst (scanR b)) i t0))∧(true=true∧Tok.line (List.getD (Prod.fst (scanR b)) i t0)=Tok.line (List.getD (Prod.fst (scanR b)) i t0))∧(true=true∧Tok.col (List.getD (Prod.fst (scanR b)) i t0)=Tok.col (List.getD (Prod.fst (scanR b)) i t0))∧True)∧(true=true∧List.length (Prod.fst (scanR c))=List.length (Prod.fst (scanR c))∧AllI fun (i:Nat)=>Nat.le (Nat.succ i) (List.length (Prod.fst (scanR c)))→(true=true∧Tok.kind (List.getD (Prod.fst (scanR c)) i t0)=Tok.kind (List.getD (Prod.fst (scanR c)) i t0))∧Tok.text (List.getD (Prod.fst (scanR c)) i t0)=Tok.text (List.getD (Prod.fst (scanR c)) i t0)∧(true=true∧Tok.num (List.getD (Prod.fst (scanR c)) i t0)=Tok.num (List.getD (Prod.fst (scanR c)) i t0))∧(true=true∧Tok.line (List.getD (Prod.fst (scanR c)) i t0)=Tok.line (List.getD (Prod.fst (scanR c)) i t0))∧(true=true∧Tok.col (List.getD (Prod.fst (scanR c)) i t0)=Tok.col (List.getD (Prod.fst (scanR c)) i t0))∧True)∧(true=true∧List.length (barr (tokD (rowKs (List.length (Prod.fst (scanR b))) fun (k:Nat)=>tokRow (List.getD (Prod.fst (scanR b)) k t0)) (Prod.snd (tokM (rowKs (List.length (Prod.fst (scanR b))) fun (k:Nat)=>tokRow (List.getD (Prod.fst (scanR b)) k t0))))))=List.length (barr (tokD (rowKs (List.length (Prod.fst (scanR b))) fun (k:Nat)=>tokRow (List.getD (Prod.fst (scanR b)) k t0)) (Prod.snd (tokM (rowKs (List.length (Prod.fst (scanR b))) fun (k:Nat)=>tokRow (List.getD (Prod.fst (scanR b)) k t0))))))∧AllI fun (i:Nat)=>Nat.le (Nat.succ i) (List.length (barr (tokD (rowKs (List.length (Prod.fst (scanR b))) fun (k:Nat)=>tokRow (List.getD (Prod.fst (scanR b)) k t0)) (Prod.snd (tokM (rowKs (List.length (Prod.fst (scanR b))) fun (k:Nat)=>tokRow (List.getD (Prod.fst (scanR b)) k t0)))))))→(true=true∧Dg.line (List.getD (barr (tokD (rowKs (List.length (Prod.fst (scanR b))) fun (k:Nat)=>tokRow (List.getD (Prod.fst (scanR b)) k t0)) (Prod.snd (tokM (rowKs (List.length (Prod.fst (scanR b))) fun (k:Nat)=>tokRow (List.getD (Prod.fst (scanR b)) k t0)))))) i d0)=Dg.line (List.getD (barr (tokD (rowKs (List.length (Prod.fst (scanR b))) fun (k:Nat)=>tokRow (List.getD (Prod.fst (scanR b)) k t0)) (Prod.snd (tokM (rowKs (List.length (Prod.fst (scanR b))) fun (k:Nat)=>tokRow (List.getD (Prod.fst (scanR b)) k t0)))))) i d0))∧(true=true∧Dg.col (List.getD (barr (tokD (rowKs (List.length (Prod.fst (scanR b))) fun (k:Nat)=>tokRow (List.getD (Prod.fst (scanR b)) k t0)) (Prod.snd (tokM (rowKs (List.length (Prod.fst (scanR b))) fun (k:Nat)=>tokRow (List.getD (Prod.fst (scanR b)) k t0)))))) i d0)=Dg.col (List.getD (barr (tokD (rowKs (List.length (Prod.fst (scanR b))) fun (k:Nat)=>tokRow (List.getD (Prod.fst (scanR b)) k t0)) (Prod.snd (tokM (rowKs (List.length (Prod.fst (scanR b))) fun (k:Nat)=>tokRow (List.getD (Prod.fst (scanR b)) k t0)))))) i d0))∧(true=true∧Dg.err (List.getD (barr (tokD (rowKs (List.length (Prod.fst (scanR b))) fun (k:Nat)=>tokRow (List.getD (Prod.fst (scanR b)) k t0)) (Prod.snd (tokM (rowKs (List.length (Prod.fst (scanR b))) fun (k:Nat)=>tokRow (List.getD (Prod.fst (scanR b)) k t0)))))) i d0)=Dg.err (List.getD (barr (tokD (rowKs (List.length (Prod.fst (scanR b))) fun (k:Nat)=>tokRow (List.getD (Prod.fst (scanR b)) k t0)) (Prod.snd (tokM (rowKs (List.length (Prod.fst (scanR b))) fun (k:Nat)=>tokRow (List.getD (Prod.fst (scanR b)) k t0)))))) i d0))∧True)∧True
@[reducible] def Wg:List UInt8→List UInt8→Nat×Nat×Int→Nat×Nat×Int→Prop:=fun (b c:List UInt8) (a a_1:Nat×Nat×Int)=>(Fst (Prod.fst (scanR b)) a_1.1 (a_1.2.2)∧Nat.le (a_1.2.1) a_1.1)∧Nat.le (Nat.succ (a_1.1 - a_1.2.1)) (a.1 - a.2.1)∧true=true∧((true=true∧(↑(a.2.1):Int) + 1=(↑(a_1.2.1):Int))∧XW b c)∧(true=true∧asciiTab=asciiTab)∧(true=true∧True)∧True
@[reducible] def Wc:List UInt8→List UInt8→Nat×Nat×Int→Prop:=fun (b c:List UInt8) (a:Nat×Nat×Int)=>TkF (Int.toNat ((↑(a.2.1):Int) + 1) + List.length (Prod.fst (scanR c))) (appF (Int.toNat ((↑(a.2.1):Int) + 1)) (fun (k:Nat)=>tokRow (List.getD (Prod.fst (scanR b)) k t0)) fun (k:Nat)=>tokRow (List.getD (Prod.fst (scanR c)) k t0))∧((SdP (List.length (barr (tokD (rowKs (Int.toNat ((↑(a.2.1):Int) + 1) + List.length (Prod.fst (scanR c))) (appF (Int.toNat ((↑(a.2.1):Int) + 1)) (fun (k:Nat)=>tokRow (List.getD (Prod.fst (scanR b)) k t0)) fun (k:Nat)=>tokRow (List.getD (Prod.fst (scanR c)) k t0))) (Prod.snd (tokM (rowKs (Int.toNat ((↑(a.2.1):Int) + 1) + List.length (Prod.fst (scanR c))) (appF (Int.toNat ((↑(a.2.1):Int) + 1)) (fun (k:Nat)=>tokRow (List.getD (Prod.fst (scanR b)) k t0)) fun (k:Nat)=>tokRow (List.getD (Prod.fst (scanR c)) k t0)))))))) (fun (k:Nat)=>dgRow (List.getD (barr (tokD (rowKs (Int.toNat ((↑(a.2.1):Int) + 1) + List.length (Prod.fst (scanR c))) (appF (Int.toNat ((↑(a.2.1):Int) + 1)) (fun (k:Nat)=>tokRow (List.getD (Prod.fst (scanR b)) k t0)) fun (k:Nat)=>tokRow (List.getD (Prod.fst (scanR c)) k t0))) (Prod.snd (tokM (rowKs (Int.toNat ((↑(a.2.1):Int) + 1) + List.length (Prod.fst (scanR c))) (appF (Int.toNat ((↑(a.2.1):Int) + 1)) (fun (k:Nat)=>tokRow (List.getD (Prod.fst (scanR b)) k t0)) fun (k:Nat)=>tokRow (List.getD (Prod.fst (scanR c)) k t0))))))) k d0)) (List.length (barr (tokD (rowKs (List.length (Prod.fst (scanR b))) fun (k:Nat)=>tokRow (List.getD (Prod.fst (scanR b)) k t0)) (Prod.snd (tokM (rowKs (List.length (Prod.fst (scanR b))) fun (k:Nat)=>tokRow (List.getD (Prod.fst (scanR b)) k t0))))))) fun (k:Nat)=>dgRow (List.getD (barr (tokD (rowKs (List.length (Prod.fst (scanR b))) fun (k:Nat)=>tokRow (List.getD (Prod.fst (scanR b)) k t0)) (Prod.snd (tokM (rowKs (List.length (Prod.fst (scanR b))) fun (k:Nat)=>tokRow (List.getD (Prod.fst (scanR b)) k t0)))))) k d0))∧Nat.le (List.length (barr (tokD (rowKs (Int.toNat ((↑(a.2.1):Int) + 1) + List.length (Prod.fst (scanR c))) (appF (Int.toNat ((↑(a.2.1):Int) + 1)) (fun (k:Nat)=>tokRow (List.getD (Prod.fst (scanR b)) k t0)) fun (k:Nat)=>tokRow (List.getD (Prod.fst (scanR c)) k t0))) (Prod.snd (tokM (rowKs (Int.toNat ((↑(a.2.1):Int) + 1) + List.length (Prod.fst (scanR c))) (appF (Int.toNat ((↑(a.2.1):Int) + 1)) (fun (k:Nat)=>tokRow (List.getD (Prod.fst (scanR b)) k t0)) fun (k:Nat)=>tokRow (List.getD (Prod.fst (scanR c)) k t0)))))))) 1000000)∧sdA (bif inL (↑(a.2.1):Int) (List.length (Prod.fst (scanR b))) then true else false) ((TkF (Int.toNat (↑(a.2.1):Int)) fun (k:Nat)=>tokRow (List.getD (Prod.fst (scanR b)) k t0))∧brP (ieq (Int.ofNat (List.length (barr (tokD (rowKs (Int.toNat (↑(a.2.1):Int)) fun (k:Nat)=>tokRow (List.getD (Prod.fst (scanR b)) k t0)) (Prod.snd (tokM (rowKs (Int.toNat (↑(a.2.1):Int)) fun (k:Nat)=>tokRow (List.getD (Prod.fst (scanR b)) k t0)))))))) (0:Int)) (True∧true=true) (brP (ieq (Int.ofNat (List.length (barr (tokD (rowKs (Int.toNat (↑(a.2.1):Int)) fun (k:Nat)=>tokRow (List.getD (Prod.fst (scanR b)) k t0)) (Prod.snd (tokM (rowKs (Int.toNat (↑(a.2.1):Int)) fun (k:Nat)=>tokRow (List.getD (Prod.fst (scanR b)) k t0)))))))) (1:Int)) (sdA (inB (0:Int) (List.length (barr (tokD (rowKs (Int.toNat (↑(a.2.1):Int)) fun (k:Nat)=>tokRow (List.getD (Prod.fst (scanR b)) k t0)) (Prod.snd (tokM (rowKs (Int.toNat (↑(a.2.1):Int)) fun (k:Nat)=>tokRow (List.getD (Prod.fst (scanR b)) k t0)))))))) (brP (ieq (Dg.line (List.getD (barr (tokD (rowKs (Int.toNat (↑(a.2.1):Int)) fun (k:Nat)=>tokRow (List.getD (Prod.fst (scanR b)) k t0)) (Prod.snd (tokM (rowKs (Int.toNat (↑(a.2.1):Int)) fun (k:Nat)=>tokRow (List.getD (Prod.fst (scanR b)) k t0)))))) 0 d0)) (0:Int) && (ieq (Dg.col (List.getD (barr (tokD (rowKs (Int.toNat (↑(a.2.1):Int)) fun (k:Nat)=>tokRow (List.getD (Prod.fst (scanR b)) k t0)) (Prod.snd (tokM (rowKs (Int.toNat (↑(a.2.1):Int)) fun (k:Nat)=>tokRow (List.getD (Prod.fst (scanR b)) k t0)))))) 0 d0)) (0:Int) && (ieq (Dg.err (List.getD (barr (tokD (rowKs (Int.toNat (↑(a.2.1):Int)) fun (k:Nat)=>tokRow (List.getD (Prod.fst (scanR b)) k t0)) (Prod.snd (tokM (rowKs (Int.toNat (↑(a.2.1):Int)) fun (k:Nat)=>tokRow (List.getD (Prod.fst (scanR b)) k t0)))))) 0 d0)) (4:Int) && true))) (True∧true=true) (false=true))) (false=true)))
noncomputable def qk (a:Nat) (b:List UInt8) (c:Nat×Nat×Int) (d:List UInt8):=brP (ieq (↑a:Int) (Int.ofNat (List.length (Prod.fst (scanR b))))) (false=true) (sdA (inR .i64 ((↑a:Int) + 1)) (sdA (bif inL ((↑a:Int) + 1) (List.length (Prod.fst (scanR b))) then true else false) (sdA (bif goodR 5 (Int.toNat ((↑a:Int) + 1)) fun (v1:Nat)=>tokRow (List.getD (Prod.fst (scanR b)) v1 t0) then decide (Wh c) else false) (sdA (bif bif Nat.ble (Int.toNat ((↑a:Int) + 1) * 5) (Int.toNat ((↑a:Int) + 1) * 5) then goodR 5 (List.length (Prod.fst (scanR d))) fun (v2:Nat)=>tokRow (List.getD (Prod.fst (scanR d)) v2 t0) else false then decide (Wk d c) else false) (sdA (bif bif Nat.ble ((Int.toNat ((↑a:Int) + 1) + List.length (Prod.fst (scanR d))) * 5) ((Int.toNat ((↑a:Int) + 1) + List.length (Prod.fst (scanR d))) * 5) then goodR 5 (Int.toNat ((↑a:Int) + 1) + List.length (Prod.fst (scanR d))) (appF (Int.toNat ((↑a:Int) + 1)) (fun (v3:Nat)=>tokRow (List.getD (Prod.fst (scanR b)) v3 t0)) fun (v4:Nat)=>tokRow (List.getD (Prod.fst (scanR d)) v4 t0)) else false then true else false) (sdA (bif bif bif bif bif Nat.beq (Int.toNat ((↑a:Int) + 1) + List.length (Prod.fst (scanR d))) (Int.toNat ((↑a:Int) + 1) + List.length (Prod.fst (scanR d))) then true else false then true else false then true else false then true else false then true else false) (Wc b d c)))))))
noncomputable def qcx:=(True∧true=true)
noncomputable def qcG (a:List UInt8):=sdA (inB (0:Int) (List.length (qT a)))
theorem Zgy:∀ (b c:List UInt8),brP (ilt (2000:Int) (qaT b)) qcx (brP (ilt (2000:Int) (qaT c)) qcx (qak b∧qak c∧sdA (inR .i64 (Int.ofNat (qbD b) + Int.ofNat (qbD c))) (brP (ilt (0:Int) (Int.ofNat (qbD b) + Int.ofNat (qbD c))) qcx ((TkF (qci b) fun (k:Nat)=>tokRow (qa6 b k))∧brP (ieq (Int.ofNat (List.length (qT b))) (0:Int)) qcx (qcG b (brP (ieq (Dg.line (List.getD (qT b) 0 d0)) (0:Int)) qcx ((∃ (x0:Nat×Nat×Int),(Fst (qae b) x0.1 x0.2.2∧Nat.le x0.2.1 x0.1)∧true=true∧((qbt x0.2.1)∧XW b c)∧qaw∧qbj∧True)∧∀ (x:Nat×Nat×Int),Fst (qae b) x.1 x.2.2∧Nat.le x.2.1 x.1→brP (ilt (↑x.2.1:Int) (Int.ofNat (qci b))) (sdA (inB (↑x.2.1:Int) (qci b)) (qcG b (brP (!ieq (Tok.line (List.getD (qae b) (q6 x.2.1) t0)) (Dg.line (List.getD (qT b) 0 d0))) ((qW∧True)∧q3 x.2.1 (∃ (x':Nat×Nat×Int),Wg b c x x')) (sdA (inB (↑x.2.1:Int) (qci b)) (qcG b ((((True∧True∧True∧True∧True∧True)∧True)∧True)∧brP (!ieq (Tok.col (List.getD (qae b) (q6 x.2.1) t0)) (Dg.col (List.getD (qT b) 0 d0))) (q3 x.2.1 (∃ (x':Nat×Nat×Int),Wg b c x x')) (qk x.2.1 b x c))))))) ((ql∧True)∧qk x.2.1 b x c))))))))
:= by
 delta qe qk ql qT qW q3 q6 qae qak qaw qaE qaT qa6 qbj qbt qbD qci qcx qcG
 intro b c
 simp only [Zi,Zs,true_and,and_true,eq_self,implies_true,Nat.le_eq,ZA,Zz,ZK,Int.toNat_natCast,Int.ofNat_eq_natCast,Nat.ble_eq,Nat.ble_self_eq_true,Bool.true_and,Bool.and_true,Bool.and_self,Option.some.injEq,AV.int.injEq,Zo,Zj,Nat.mul_one,Nat.beq_refl,Zn,cond_true,cond_false,Zp,Bool.not_true,Bool.not_false,decide_true,ZY,Ya,ZZ,Zf,List.nil_append,Wh,Wk,XW,Wg,Wc]
 refine Zc (fun _=>trivial) fun h1=>Zc (fun _=>trivial) fun h2=>?_
 rw [ZF] at h1 h2
 have n1:=KY b
 have n2:=KY c
 refine ⟨by omega,by omega,Zd (Zv.2 (by omega)) (Zc (fun _=>trivial) fun _=>⟨Zkt _ (by omega),?_⟩)⟩
 simp only [Zdu]
 have hlo:∀ t∈(scanR b).1,1≤t.line:=fun t ht=>scan_lo b ht
 have hpw:=scan_pw b
 generalize hT:(scanR b).1=T at hlo hpw n1
 generalize hU:(scanR c).1=U at n2
 rcases fst_of hlo with hd | ⟨e,hd⟩ | ⟨w,e,hF⟩
 ·rw [hd]
  exact Zc (fun _=>trivial) fun h=>absurd rfl (Zu.1 h)
 ·rw [hd]
  exact Zc (fun _=>trivial) fun _=>Zd (ZD.2 ⟨Int.le_refl 0,(by show (0:Int) < ((1:Nat):Int);decide)⟩) (Zc (fun _=>trivial) fun h=>absurd rfl (Zu.1 h))
 have hd:=hF.d
 have hw:=hF.lt
 have i01:inB 0 [(⟨(T.getD w t0).line,(T.getD w t0).col,e⟩:Dg)].length=true:=ZD.2 ⟨Int.le_refl 0,(by show (0:Int) < ((1:Nat):Int);decide)⟩
 rw [hd]
 refine Zc (fun _=>trivial) fun _=>Zd i01 (Zc (fun _=>trivial) fun _=>⟨⟨(w,0,e),⟨hF,Nat.zero_le _⟩,rfl⟩,fun x hx=>?_⟩)
 obtain ⟨w',i,e'⟩:=x
 obtain ⟨hF',hi⟩:=hx
 have hF':Fst T w' e':=hF'
 have hi:i≤w':=hi
 obtain ⟨r1,r2⟩:=hF.r
 obtain ⟨r3,r4⟩:=hF'.r
 obtain rfl:w'=w:=by omega
 obtain rfl:e'=e:=r3.symm.trans r1
 show brP (ilt (i:Int) T.length) _ _
 refine Zc (fun c0=>?_) fun c0=>absurd (ZF.1 c0) (by omega)
 have step:i≠w'→sdA (inR IntKind.i64 ((i:Int) + 1)) (∃ x':Nat×Nat×Int,(Fst T x'.1 x'.2.2∧x'.2.1≤x'.1)∧(x'.1 - x'.2.1).succ≤w' - i∧(i:Int) + 1=x'.2.1):=fun h =>
  Zd (Zv.2 (by omega)) ⟨(w',i + 1,e'),⟨hF,by show i + 1≤w';omega⟩,by show (w' - (i + 1)).succ≤w' - i;omega,rfl⟩
 refine Zd (ZD.2 ⟨by show (0:Int)≤(i:Int);omega,by show (i:Int) < T.length;omega⟩) (Zd i01 (Zc (fun q=>?_) fun q=>Zd (ZD.2 ⟨by show (0:Int)≤(i:Int);omega,by show (i:Int) < T.length;omega⟩) (Zd i01 (Zc (fun q'=>?_) fun q'=>?_))))
 ·refine step fun h=>?_
  subst h
  have q:(!ieq (T.getD i t0).line (T.getD i t0).line)=true:=q
  rw [Zp] at q
  cases q
 ·refine step fun h=>?_
  subst h
  have q:(!ieq (T.getD i t0).col (T.getD i t0).col)=true:=q'
  rw [Zp] at q
  cases q
 ·have q1:(T.getD i t0).line=(T.getD w' t0).line:=by
   have q:(!ieq (T.getD i t0).line (T.getD w' t0).line)=false:=q
   rw [Bool.not_eq_false'] at q
   exact ZC.1 q
  have q2:(T.getD i t0).col=(T.getD w' t0).col:=by
   have q:(!ieq (T.getD i t0).col (T.getD w' t0).col)=false:=q'
   rw [Bool.not_eq_false'] at q
   exact ZC.1 q
  have hiw:i=w':=by
   by_cases c:i < w'
   ·exact absurd ⟨q1,q2⟩ (pw_at hpw c hw)
   ·omega
  subst hiw
  have e1:((i:Int) + 1).toNat=i + 1:=by omega
  simp only [e1]
  rw [Zmh T U (show i + 1≤T.length by omega),Zi1 T (show i≤T.length by omega),fst_ext hF]
  refine Zc (fun z=>absurd (ZC.1 z) (by show ¬ (i:Int)=T.length;omega)) fun _=>Zd (Zv.2 (by show -9223372036854775808≤(i:Int) + 1∧(i:Int) + 1≤9223372036854775807;omega)) (Zd (YA.2 ⟨by show (0:Int)≤(i:Int) + 1;omega,by show (i:Int) + 1≤T.length;omega⟩) (Zd ?_ (Zd ?_ (Zd (good_app T U) ⟨tkF_app T U (by omega),⟨⟨_,rfl,rfl,rfl,rfl⟩,by show 1≤1000000;decide⟩,Zd (YA.2 ⟨by show (0:Int)≤(i:Int);omega,by show (i:Int)≤T.length;omega⟩) ⟨tkF_take T (by show i≤100000;omega),?_⟩⟩))))
  ·rw [Bool.and_eq_true];exact ⟨XT fun _ _=>rfl,decide_eq_true (by omega)⟩
  ·rw [Bool.and_eq_true];exact ⟨XT fun _ _=>rfl,decide_eq_true (by omega)⟩
  ·rcases Zmv hF with z | z
   ·rw [z];exact Zc (fun _=>trivial) fun h=>absurd rfl (Zu.1 h)
   ·rw [z]
    exact Zc (fun _=>trivial) fun _=>Zc (fun _=>Zd (ZD.2 ⟨Int.le_refl 0,(by show (0:Int) < ((1:Nat):Int);decide)⟩) (Zc (fun _=>trivial) fun h=>absurd h (by decide))) fun h=>absurd rfl (Zu.1 h)
theorem runFirst2:∀ (b c:List UInt8),(cRun (cxFi b) 200).call 3 [.bv b,.bv c] (mkH glT) 4 (ResM Tryd.prog false (.bool true)) :=
 Eq.mpr (by kernel_rfl) Zgy
noncomputable def eL13:Tr AObj→List AV→Option Ct:=fun H args=>match args with
 | [.bv b,.bv c]=>cond (globB H) (some (.need True (.ret (.bool true)))) none
 | _=>none
theorem okFirst3:EntOK Tryd.prog 3 eL13:=by
 refine WA (gl:=glT) (ng:=4) JE fun H args ct hct=>?_
 unfold eL13 at hct
 split at hct
 ·rename_i b c
  cases hg:globB H with
  | false=>rw [hg] at hct;cases hct
  | true =>
   rw [hg] at hct
   injection hct with hct
   exact ⟨Us hg,_,_,hct.symm,fun hp=>⟨⟨rfl,rfl,trivial⟩,cxFi b,200,rfl,fol,tbFi_ok,runFirst2 b c⟩⟩
 ·cases hct
end Go.Proofs.YtlmmbanfhjaioaaDoor
