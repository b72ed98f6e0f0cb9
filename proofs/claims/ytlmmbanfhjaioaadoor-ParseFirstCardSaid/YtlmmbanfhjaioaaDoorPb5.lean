/- Laid by program out of its parts: PbX, PbY. -/
import Derived.Test.YtlmmbanfhjaioaaDoorPb4
import Derived.Test.YtlmmbanfhjaioaaDoorMh
set_option linter.unusedVariables false
set_option linter.unusedSimpArgs false
section
set_option maxRecDepth 100000
set_option maxHeartbeats 2000000
open Go Go.Ev
namespace Go.Proofs.YtlmmbanfhjaioaaDoor
def rs0:RS:=⟨0,0,0,0⟩
noncomputable def tokP (n:Nat):List TK→PF:=progM (declM (lv n).b)
noncomputable def tokM (L:List TK):PT×RS:=barr (tokP 100001 L rs0)
noncomputable def tokW (t:PT×RS):List LT:=if t.2.err=0 then flat t.1 else []
noncomputable def tokD (L:List TK) (t:RS):List Dg:=if t.err=0 then [] else [⟨lnAt L t,clAt L t,t.err⟩]
noncomputable def tokAV (L:List TK) (t:PT×RS):AV:=.tup [.agg [vW (barr (tokW t))],dgsAV (barr (tokD L t.2))]
structure TkF (n:Nat) (f:Nat→List AV):Prop where
 len:n≤100000
 f:∀ i,i < n→f i=(dTK (f i)).row
noncomputable def eTok:Tr AObj→List AV→Option Ct:=fun H args=>match args with
 | [.vec 5 n f]=>cond (globB H) (some (.need (TkF n f) (.ret (tokAV (rowKs n f) (tokM (rowKs n f)))))) none
 | _=>none
structure OkTk (L:List TK) (n:Nat) (F:List TK→PF):Prop where
 f:HEntOK Tryd.prog 18 (mF L n F)
noncomputable def htTok (L:List TK) (n:Nat) (F:List TK→PF):HTbl:=[(18,mF L n F),(17,eFl0)]
theorem htTok_ok {L:List TK} {n:Nat} {F:List TK→PF} (h:OkTk L n F):HtOK Tryd.prog (htTok L n F):=ZI h.f (ZI okFl0 (Zer _))
noncomputable def cxTok (L:List TK) (n:Nat) (F:List TK→PF) (h:OkTk L n F):Ctx:={ P:=Tryd.prog,tb:=[],ht:=htTok L n F,hok:=htTok_ok h,lp:=fun _ _=>none,cut:=fun _ _=>none }
noncomputable def qaZ (a:PT×RS) (b:Nat):=List.getD (barr (tokW a)) b LT.none
noncomputable def qbV (a:List LT) (b:Nat):=List.getD a b LT.none
noncomputable def qcA (a:List TK) (b:RS):=AV.agg [AV.int .i64 (lnAt a b),AV.int .i64 (clAt a b),AV.int .i64 (RS.err b)]
theorem runTok_r:∀ (L:List TK) (n:Nat) (F:List TK→PF),OkTk L n F→∀ (t:PT×RS),Nat.le L.length 100000→Nat.le (Nat.succ L.length) n→Nat.le (sz t.1) 1000000→t=F L rs0→(PreC L (vK L) (0:Int) fun (s:RS)=>Pre L n s)∧∀ (y:PT×RS),y=F L (stP L (vK L) (0:Int))→qh y.2 (FlP0 (pvX y.1)∧∀ (y_1:List LT),y_1=flat (ptR (pvX y.1))→sdA (bif bif bif Nat.ble (y_1.length * 6) (y_1.length * 6) then goodR 6 y_1.length (rowT y_1) else false then true else false then true else false) (((true=true∧y_1.length=List.length (barr (tokW t))∧AllI fun (i:Nat)=>qN i y_1.length→(true=true∧LT.kind (qbV y_1 i)=LT.kind (qaZ t i))∧LT.text (qbV y_1 i)=LT.text (qaZ t i)∧(true=true∧LT.n (qbV y_1 i)=LT.n (qaZ t i))∧(true=true∧LT.line (qbV y_1 i)=LT.line (qaZ t i))∧(true=true∧LT.col (qbV y_1 i)=LT.col (qaZ t i))∧(true=true∧List.length (LT.kids (qbV y_1 i))=List.length (LT.kids (qaZ t i))∧AllI fun (i_1:Nat)=>qN i_1 (List.length (LT.kids (qbV y_1 i)))→(true=true∧List.getD (LT.kids (qbV y_1 i)) i_1 (0:Int)=List.getD (LT.kids (qaZ t i)) i_1 (0:Int))∧True)∧True)∧True)∧List.length (barr (tokD L t.2))=0∧True)) ((ql∧ql∧((qcA L y.2=qcA L y.2∧True)∧True)∧True)∧(List.length (barr (tokW t))=0∧True)∧(true=true∧1=List.length (barr (tokD L t.2))∧AllI fun (i:Nat)=>qN i 1→(true=true∧lnAt L y.2=Dg.line (List.getD (barr (tokD L t.2)) i d0))∧(true=true∧clAt L y.2=Dg.col (List.getD (barr (tokD L t.2)) i d0))∧(true=true∧RS.err y.2=Dg.err (List.getD (barr (tokD L t.2)) i d0))∧True)∧True)
:= by
 delta qh ql qN qaZ qbV qcA
 intro L n F hok t hl hn hz ht
 simp only [Zi,Zs,true_and,and_true,eq_self,implies_true,Nat.le_eq,ZA,Zz,ZK,Int.toNat_natCast,Int.ofNat_eq_natCast,Nat.ble_eq,Nat.ble_self_eq_true,Bool.true_and,Bool.and_true,Bool.and_self,Option.some.injEq,AV.int.injEq,Zo,Zj,Nat.mul_one,Nat.beq_refl,Zn,cond_true,cond_false,Zp,Bool.not_true,Bool.not_false,decide_true,ZY,Ya,ZZ,Zf,List.nil_append]
 have hR:R0 L rs0:=⟨⟨hl,Int.le_refl 0,Int.natCast_nonneg _,Int.le_refl 0,by decide⟩,rfl,rfl⟩
 have hz:sz t.1≤1000000:=hz
 refine ⟨preC hR ⟨hR.ok,by decide,by show (L.length:Int) - 0 < n;have:L.length < n:=hn;omega⟩,fun y hy=>?_⟩
 have hy:y=t:=by rw [hy,ht];exact congrArg (F L) (WT hR)
 subst hy
 refine Zc (fun e=>⟨⟨⟨_,rfl⟩,by rw [Qk];exact hz⟩,fun W hW=>?_⟩) fun e=>?_
 ·have e:=ZC.1 e
  rw [Qk] at hW
  have hw:tokW y=W:=by rw [hW];unfold tokW;rw [if_pos e]
  have hd:tokD L y.2=[]:=by unfold tokD;rw [if_pos e]
  refine Zd (XT fun i _=>rfl) ⟨⟨by rw [hw],?_⟩,by rw [hd];rfl⟩
  rw [hw]
  exact ⟨fun i _=>⟨rfl,rfl,rfl,rfl,rfl,rfl,⟨fun j _=>rfl⟩⟩⟩
 ·have e:=Zu.1 e
  have hw:tokW y=[]:=by unfold tokW;rw [if_neg e]
  have hd:tokD L y.2=[⟨lnAt L y.2,clAt L y.2,y.2.err⟩]:=by unfold tokD;rw [if_neg e]
  rw [hw,hd]
  refine ⟨rfl,rfl,⟨fun i hi=>?_⟩⟩
  obtain rfl:i=0:=by omega
  exact ⟨rfl,rfl,rfl⟩
theorem runTok:∀ (L:List TK) (n:Nat) (F:List TK→PF) (hok:OkTk L n F) (t:PT×RS),L.length≤100000→L.length < n→sz t.1≤1000000→t=F L rs0→(cRun (cxTok L n F hok) 60).call 7 [vK L] (mkH glT) 4 (ResM Tryd.prog false (tokAV L t)) :=
 Eq.mpr (by kernel_rfl) runTok_r
theorem decl34 (n:Nat):GF n 3 4 (declM (lv n).b):=Zmy (Zfv n).b
theorem KH (L:List TK):tokM L=tokP 100001 L rs0:=by unfold tokM;rw [Zi]
theorem Ziu {L:List TK} (hl:L.length≤100000):R0 L rs0:=⟨⟨hl,Int.le_refl 0,Int.natCast_nonneg _,Int.le_refl 0,by decide⟩,rfl,rfl⟩
theorem tok_post {L:List TK} (hl:L.length≤100000) (n:Nat) (hn:L.length < n):PostL L 0 4 rs0 (progX (declM (lv n).b) L rs0) :=
 Zcs (decl34 n) (fun _=>⟨(Ziu hl).ok,by decide,by show (L.length:Int) - 0 < n;omega⟩) _ _ _ (XX (Ziu hl).ok (by decide))
theorem tok_sz {L:List TK} (hl:L.length≤100000) (n:Nat) (hn:L.length < n):sz (tokP n L rs0).1≤1000000:=by
 have h:=(tok_post hl n hn).bnd (Ziu hl).ok (by decide)
 show sz (nd 1 [] 0 tk11 (progX (declM (lv n).b) L rs0).1)≤_
 rw [QP]
 omega
theorem okDeclL (L:List TK) (n:Nat):HEntOK Tryd.prog 22 (mF L n (declM (lv n).b)):=okDeclP ⟨(lvP_ok L n).b⟩ ⟨(Zfv n).b,(Zed L n).b⟩
theorem okProgL (L:List TK) (n:Nat):HEntOK Tryd.prog 18 (mF L n (tokP n)):=okProgP ⟨okDeclL L n⟩ ⟨decl34 n,kp_decl (Zed L n).b⟩
theorem va_rowK {n:Nat} {f:Nat→List AV} (h:∀ i,i < n→f i=(dTK (f i)).row):VA (.vec 5 n f) (vK (rowKs n f)):=fun ρ v hv=>by
 have hl:n=(rowKs n f).length:=by simp [rowKs]
 refine va_vecE hl (fun i hi=>?_) ρ v hv
 show f i=((rowKs n f).getD i TK.zero).row
 rw [h i hi]
 congr 1
 unfold rowKs
 rw [List.getD_eq_getElem?_getD,List.getElem?_map,List.getElem?_range hi]
 show _=dTK (f i)
 rw [h i hi]
theorem okTok:EntOK Tryd.prog 7 eTok:=by
 refine Zkx (gl:=glT) (ng:=4) JE fun H args ct hct=>?_
 unfold eTok at hct
 split at hct
 ·rename_i n f
  cases hg:globB H with
  | false=>rw [hg] at hct;cases hct
  | true =>
   rw [hg] at hct
   injection hct with hct
   refine ⟨Zai H hg,_,_,hct.symm,fun hp=>⟨[vK (rowKs n f)],Zh9 (va_rowK hp.f) Zkv,⟨Zk1 [] (rowKs n f) rs0,trivial⟩,?_⟩⟩
   have hl:(rowKs n f).length≤100000:=by rw [show (rowKs n f).length=n by simp [rowKs]];exact hp.len
   refine ⟨cxTok (rowKs n f) 100001 (tokP 100001) ⟨okProgL _ _⟩,60,rfl,fol,ZN,?_⟩
   rw [KH]
   exact runTok _ _ _ _ _ hl (Nat.lt_succ_of_le hl) (tok_sz hl _ (Nat.lt_succ_of_le hl)) rfl
 ·cases hct
end Go.Proofs.YtlmmbanfhjaioaaDoor
end
section
set_option maxRecDepth 100000
set_option maxHeartbeats 2000000
open Go Go.Ev
namespace Go.Proofs.YtlmmbanfhjaioaaDoor
def tkOf (t:Tok):TK:=⟨t.kind,t.text,t.num,t.line,t.col⟩
noncomputable def tkL (l:List UInt8):List TK:=barr ((scanR l).1.map tkOf)
noncomputable def parW (l:List UInt8):List LT:=if (scanR l).2.length=0 then tokW (tokM (tkL l)) else []
noncomputable def parD (l:List UInt8):List Dg:=if (scanR l).2.length=0 then tokD (tkL l) (tokM (tkL l)).2 else (scanR l).2
noncomputable def parAV (l:List UInt8):AV:=.tup [.agg [vW (barr (parW l))],dgsAV (barr (parD l))]
noncomputable def ePar:Tr AObj→List AV→Option Ct:=fun H args=>match args with
 | [.bv l]=>cond (globB H) (some (.need (l.length≤100000) (.ret (parAV l)))) none
 | _=>none
noncomputable def tbPar:Tbl:=(19,e9) :: (7,eTok) :: []
noncomputable def cxPar:Ctx:={ P:=Tryd.prog,tb:=tbPar,lp:=fun _ _=>none,cut:=fun _ _=>none }
theorem Zdu (T:List Tok):rowKs T.length (fun k=>tokRow (T.getD k t0))=T.map tkOf:=by
 apply List.ext_getElem
 ·simp [rowKs]
 ·intro i h1 h2
  have hi:i < T.length:=by simpa using h2
  simp only [rowKs,List.getElem_map,List.getElem_range]
  rw [List.getD_eq_getElem?_getD,List.getElem?_eq_getElem hi]
  rfl
theorem tkL_eq (l:List UInt8):tkL l=(scanR l).1.map tkOf:=by unfold tkL;rw [Zi]
theorem Zkt (T:List Tok) (h:T.length≤100000):TkF T.length (fun k=>tokRow (T.getD k t0)):=⟨h,fun i _=>rfl⟩
theorem tbPar_ok:TbOK Tryd.prog tbPar:=ZT ok9 (ZT okTok ZN)
noncomputable def qe (a:List UInt8):=(rowKs (List.length (Prod.fst (scanR a))) fun (v1:Nat)=>tokRow (List.getD (Prod.fst (scanR a)) v1 t0))
noncomputable def qT (a:List UInt8):=barr (tokD (qe a) (Prod.snd (tokM (qe a))))
noncomputable def qao (a:List UInt8) (b:Nat):=List.getD (barr (tokW (tokM (qe a)))) b LT.none
noncomputable def qa2 (a:List UInt8) (b:Nat):=List.getD (barr (parW a)) b LT.none
noncomputable def qbG (a:List UInt8) (b:Nat):=List.getD (barr (parD a)) b d0
theorem runPar_r:∀ (l:List UInt8),Nat.le l.length 100000→qak l∧brP (ilt (0:Int) (Int.ofNat (qbD l))) ((List.length (barr (parW l))=0∧True)∧(true=true∧qbD l=List.length (barr (parD l))∧AllI fun (i:Nat)=>qN i (qbD l)→(true=true∧Dg.line (qbE l i)=Dg.line (qbG l i))∧(true=true∧Dg.col (qbE l i)=Dg.col (qbG l i))∧(true=true∧Dg.err (qbE l i)=Dg.err (qbG l i))∧True)∧True) ((TkF (qci l) fun (k:Nat)=>tokRow (qa6 l k))∧((true=true∧List.length (barr (tokW (tokM (qe l))))=List.length (barr (parW l))∧AllI fun (i:Nat)=>qN i (List.length (barr (tokW (tokM (qe l)))))→(true=true∧LT.kind (qao l i)=LT.kind (qa2 l i))∧LT.text (qao l i)=LT.text (qa2 l i)∧(true=true∧LT.n (qao l i)=LT.n (qa2 l i))∧(true=true∧LT.line (qao l i)=LT.line (qa2 l i))∧(true=true∧LT.col (qao l i)=LT.col (qa2 l i))∧(true=true∧List.length (LT.kids (qao l i))=List.length (LT.kids (qa2 l i))∧AllI fun (i_1:Nat)=>qN i_1 (List.length (LT.kids (qao l i)))→(true=true∧List.getD (LT.kids (qao l i)) i_1 (0:Int)=List.getD (LT.kids (qa2 l i)) i_1 (0:Int))∧True)∧True)∧True)∧(true=true∧List.length (qT l)=List.length (barr (parD l))∧AllI fun (i:Nat)=>qN i (List.length (qT l))→(true=true∧Dg.line (List.getD (qT l) i d0)=Dg.line (qbG l i))∧(true=true∧Dg.col (List.getD (qT l) i d0)=Dg.col (qbG l i))∧(true=true∧Dg.err (List.getD (qT l) i d0)=Dg.err (qbG l i))∧True)∧True)
:= by
 delta qe qN qT qae qak qao qaE qa2 qa6 qbD qbE qbG qci
 intro l hl
 simp only [Zi,Zs,true_and,and_true,eq_self,implies_true,Nat.le_eq,ZA,Zz,ZK,Int.toNat_natCast,Int.ofNat_eq_natCast,Nat.ble_eq,Nat.ble_self_eq_true,Bool.true_and,Bool.and_true,Bool.and_self,Option.some.injEq,AV.int.injEq,Zo,Zj,Nat.mul_one,Nat.beq_refl,Zn,cond_true,cond_false,Zp,Bool.not_true,Bool.not_false,decide_true,ZY,Ya,ZZ,Zf,List.nil_append]
 have hl:l.length≤100000:=hl
 have hs:=KY l
 rw [Zdu,← tkL_eq]
 refine ⟨by omega,Zc (fun c=>?_) fun c=>⟨Zkt _ (by omega),?_⟩⟩
 ·have c:(scanR l).2.length≠0:=by have:=ZR.1 c;omega
  have e1:parW l=[]:=by unfold parW;rw [if_neg c]
  have e2:parD l=(scanR l).2:=by unfold parD;rw [if_neg c]
  rw [e1,e2]
  exact ⟨rfl,rfl,⟨fun i _=>⟨rfl,rfl,rfl⟩⟩⟩
 ·have c:(scanR l).2.length=0:=by have:=ZF.1 c;omega
  have e1:parW l=tokW (tokM (tkL l)):=by unfold parW;rw [if_pos c]
  have e2:parD l=tokD (tkL l) (tokM (tkL l)).2:=by unfold parD;rw [if_pos c]
  rw [e1,e2]
  exact ⟨⟨rfl,⟨fun i _=>⟨rfl,rfl,rfl,rfl,rfl,rfl,⟨fun j _=>rfl⟩⟩⟩⟩,rfl,⟨fun i _=>⟨rfl,rfl,rfl⟩⟩⟩
theorem runPar:∀ (l:List UInt8),l.length≤100000→(cRun cxPar 60).call 9 [.bv l] (mkH glT) 4 (ResM Tryd.prog false (parAV l)) :=
 Eq.mpr (by kernel_rfl) runPar_r
theorem okPar:EntOK Tryd.prog 9 ePar:=by
 refine WA (gl:=glT) (ng:=4) JE fun H args ct hct=>?_
 unfold ePar at hct
 split at hct
 ·rename_i l
  cases hg:globB H with
  | false=>rw [hg] at hct;cases hct
  | true =>
   rw [hg] at hct
   injection hct with hct
   exact ⟨Us hg,_,_,hct.symm,fun hp=>⟨⟨rfl,trivial⟩,cxPar,60,rfl,fol,tbPar_ok,runPar l hp⟩⟩
 ·cases hct
end Go.Proofs.YtlmmbanfhjaioaaDoor
end
