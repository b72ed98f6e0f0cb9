/- Laid by program out of its parts: TyP. -/
import Derived.Test.YthallodoidghoaaGreatTyO
set_option linter.unusedVariables false
set_option linter.unusedSimpArgs false
set_option maxRecDepth 100000
set_option maxHeartbeats 2000000
open Go Go.Ev
namespace Go.Proofs.YthallodoidghoaaGreat
def term5 (L:List LT) (M:List (Int×Int)) (C G X:List Int) (H R:List Bool) (i:Nat):Int×Bool :=
 let k:=(L.getD i LT.none).kind
 let m:=M.getD i (0,0)
 let l:=(L.getD i LT.none).kids
 if k=26∨k=28 then (1,true)
 else if k=27 then (0,true)
 else if k=36 then (2,true)
 else if k=33 then (-1 - m.2,true)
 else if k=29 then (if m.1=1 then (ofT L M m.2,true) else if m.1=2 then (ofT L M (G.getD m.2.toNat 0),true) else if m.1=3 then (2,true) else (0,true))
 else if R.getD i false=false then (0,false)
 else if (∃ j,j < l.length∧H.getD (l.getD j 0).toNat false=false) then (0,false)
 else if k=34 then (5,true)
 else if k=30 then ((memT L M C (X.getD (kidN L i 0) 0) (L.getD i LT.none).text).2,true)
 else (1,true)
def term5c (cs:List AV) (i:Nat):Int×Bool:=term5 (cL cs) (cM cs) (cC cs) (cG cs) (cX cs) (cH cs) (cR cs) i
structure T5OK (L:List LT) (x:LN):Prop where
 g:∀ j,j < L.length→(x.M.getD j (0,0)).1=2→(x.M.getD j (0,0)).2 < x.G.length
structure TkI (L:List LT) (H:List Bool) (i j:Nat):Prop where
 le:j≤(L.getD i LT.none).kids.length
 al:∀ k,k < j→H.getD ((L.getD i LT.none).kids.getD k 0).toNat false=true
noncomputable def STk (L:List LT) (H:List Bool) (i:Nat):Stn:=thin Nat [0,1,4,5,6] (fun j=>[(8,.int .i64 j)]) (fun _ j=>TkI L H i j) fun j=>(L.getD i LT.none).kids.length - j
noncomputable def cxT5 (L:List LT) (H:List Bool) (i:Nat):Ctx:={ P:=Tryz.prog,tb:=[(30,eOf1),(70,eMem)],lp:=fun f r=>cond (Nat.beq f 52) (cond (Nat.beq r 25) (some (STk L H i)) none) none,cut:=fun _ _=>none }
theorem vm_pv (L:List LT) (x:LN) (X:List Int) (H R:List Bool):vmP [] (.pv (pvR L x X H R)) (.pv (pvR L x X H R)):=⟨⟨rfl,rfl,⟨fun _ _=>vm_LT _⟩⟩,⟨rfl,rfl,⟨fun _ _=>vm_rM [] _⟩⟩,⟨rfl,rfl,⟨fun _ _=>vm_rI' [] _ _⟩⟩,⟨rfl,rfl,⟨fun _ _=>vm_rI' [] _ _⟩⟩,⟨rfl,rfl,⟨fun _ _=>vm_rI' [] _ _⟩⟩,⟨rfl,rfl,⟨fun _ _=>vm_rI' [] _ _⟩⟩,⟨rfl,rfl,⟨fun _ _=>vm_rI' [] _ _⟩⟩,⟨rfl,rfl,⟨fun _ _=>vm_rI' [] _ _⟩⟩,⟨rfl,rfl,⟨fun _ _=>⟨⟨rfl,rfl⟩,⟨rfl,rfl⟩,rfl,⟨rfl,rfl,⟨fun _ _=>vm_rI' [] _ _⟩⟩,trivial⟩⟩⟩,⟨rfl,rfl⟩,⟨rfl,rfl,⟨fun _ _=>vm_rI' [] _ _⟩⟩,⟨rfl,rfl,⟨fun _ _=>vm_rB _ _⟩⟩,⟨rfl,rfl,⟨fun _ _=>vm_rB _ _⟩⟩,trivial⟩
theorem okFits5:EntOK Tryz.prog 71 eFits5:=by
 refine ent_of2 (gl:=[]) (ng:=0) gl0 fun H args ct hct=>?_
 unfold eFits5 at hct
 split at hct
 ·rename_i a b
  injection hct with hct;subst hct
  refine ⟨gl0,_,_,rfl,?_⟩
  intro _
  exact ⟨⟨⟨rfl,rfl⟩,⟨rfl,rfl⟩,trivial⟩,cxN0,60,rfl,fol,tb_nil,runFits5 a b⟩
 ·cases hct
theorem okFitsR:EntOK Tryz.prog 67 eFitsR:=by
 refine ent_of2 (gl:=[]) (ng:=0) gl0 fun H args ct hct=>?_
 unfold eFitsR at hct
 split at hct
 ·rename_i cs i to
  injection hct with hct;subst hct
  refine ⟨gl0,_,_,rfl,?_⟩
  rintro ⟨L,x,X,B,R,rfl,hR,h1,h2⟩
  rw [cX_pv,cH_pv]
  exact ⟨⟨vm_pv L x X B R,⟨rfl,rfl⟩,⟨rfl,rfl⟩,trivial⟩,cxF5,60,rfl,fol,tb_cons okFits5 tb_nil,runFitsR L x X B R i to hR h1 h2⟩
 ·cases hct
theorem okFree:EntOK Tryz.prog 68 eFree:=by
 refine ent_of2 (gl:=[]) (ng:=0) gl0 fun H args ct hct=>?_
 unfold eFree at hct
 split at hct
 ·rename_i cs i
  injection hct with hct;subst hct
  refine ⟨gl0,_,_,rfl,?_⟩
  rintro ⟨L,x,X,B,R,rfl,hR,h1,h2⟩
  rw [cM_pv]
  exact ⟨⟨vm_pv L x X B R,⟨rfl,rfl⟩,trivial⟩,cxN0,60,rfl,fol,tb_nil,runFree L x X B R i hR h1 h2⟩
 ·cases hct
theorem okRight5:EntOK Tryz.prog 51 eRight5:=by
 refine ent_of2 (gl:=[]) (ng:=0) gl0 fun H args ct hct=>?_
 unfold eRight5 at hct
 split at hct
 ·rename_i cs i
  injection hct with hct;subst hct
  refine ⟨gl0,_,_,rfl,?_⟩
  rintro ⟨L,x,X,B,R,rfl,hR,h1,h2⟩
  obtain ⟨j,rfl⟩:∃ j:Nat,i=j:=⟨i.toNat,by omega⟩
  rw [right5c,cL_pv,cM_pv,cC_pv,cX_pv,cH_pv,Int.toNat_natCast]
  exact ⟨⟨vm_pv L x X B R,⟨rfl,rfl⟩,trivial⟩,cxR5,60,rfl,fol,tb_cons okOf51 (tb_cons okFits5 (tb_cons okFitsR (tb_cons okFree (tb_cons okMem5 tb_nil)))),runRight5 L x X B R j hR (by omega)⟩
 ·cases hct
theorem term5_late {L:List LT} {M:List (Int×Int)} {C G X:List Int} {H R:List Bool} {i:Nat} (h1:(L.getD i LT.none).kind≠26) (h2:(L.getD i LT.none).kind≠28) (h3:(L.getD i LT.none).kind≠27) (h4:(L.getD i LT.none).kind≠36) (h5:(L.getD i LT.none).kind≠33) (h6:(L.getD i LT.none).kind≠29) :
  term5 L M C G X H R i=if R.getD i false=false then (0,false) else if (∃ j,j < (L.getD i LT.none).kids.length∧H.getD ((L.getD i LT.none).kids.getD j 0).toNat false=false) then (0,false)
   else if (L.getD i LT.none).kind=34 then (5,true) else if (L.getD i LT.none).kind=30 then ((memT L M C (X.getD (kidN L i 0) 0) (L.getD i LT.none).text).2,true) else (1,true):=by
 unfold term5
 dsimp only
 rw [if_neg (by rintro (h | h) <;> contradiction),if_neg h3,if_neg h4,if_neg h5,if_neg h6]
theorem term5_use {L:List LT} {M:List (Int×Int)} {C G X:List Int} {H R:List Bool} {i:Nat} (h:(L.getD i LT.none).kind=29) :
  term5 L M C G X H R i=if (M.getD i (0,0)).1=1 then (ofT L M (M.getD i (0,0)).2,true) else if (M.getD i (0,0)).1=2 then (ofT L M (G.getD (M.getD i (0,0)).2.toNat 0),true) else if (M.getD i (0,0)).1=3 then (2,true) else (0,true):=by
 unfold term5
 dsimp only
 rw [h,if_neg (by decide),if_neg (by decide),if_neg (by decide),if_neg (by decide),if_pos rfl]
@[reducible] def TyP_runTerm5_k0:List LT→Nat→Prop:=fun (L:List LT) (i:Nat)=>(true=true∧true=true∧true=true∧true=true∧(((((True∧true=true∧LT.kind (List.getD L (Int.toNat (↑i:Int)) LT.none)=LT.kind (List.getD L (Int.toNat (↑i:Int)) LT.none))∧LT.text (List.getD L (Int.toNat (↑i:Int)) LT.none)=LT.text (List.getD L (Int.toNat (↑i:Int)) LT.none))∧true=true∧LT.n (List.getD L (Int.toNat (↑i:Int)) LT.none)=LT.n (List.getD L (Int.toNat (↑i:Int)) LT.none))∧true=true∧LT.line (List.getD L (Int.toNat (↑i:Int)) LT.none)=LT.line (List.getD L (Int.toNat (↑i:Int)) LT.none))∧true=true∧LT.col (List.getD L (Int.toNat (↑i:Int)) LT.none)=LT.col (List.getD L (Int.toNat (↑i:Int)) LT.none))∧true=true∧List.length (LT.kids (List.getD L (Int.toNat (↑i:Int)) LT.none))=List.length (LT.kids (List.getD L (Int.toNat (↑i:Int)) LT.none))∧AllI fun (i_1:Nat)=>Nat.le (Nat.succ i_1) (List.length (LT.kids (List.getD L (Int.toNat (↑i:Int)) LT.none)))→(true=true∧List.getD (LT.kids (List.getD L (Int.toNat (↑i:Int)) LT.none)) i_1 (0:Int)=List.getD (LT.kids (List.getD L (Int.toNat (↑i:Int)) LT.none)) i_1 (0:Int))∧True)∧True
@[reducible] def TyP_runTerm5_k1:List LT→LN→List Int→List Bool→List Bool→Nat→Prop:=fun (L:List LT) (x:LN) (X:List Int) (H R:List Bool) (i:Nat)=>((true=true∧L.length=L.length∧AllI fun (i:Nat)=>Nat.le (Nat.succ i) L.length→(true=true∧LT.kind (List.getD L i LT.none)=LT.kind (List.getD L i LT.none))∧LT.text (List.getD L i LT.none)=LT.text (List.getD L i LT.none)∧(true=true∧LT.n (List.getD L i LT.none)=LT.n (List.getD L i LT.none))∧(true=true∧LT.line (List.getD L i LT.none)=LT.line (List.getD L i LT.none))∧(true=true∧LT.col (List.getD L i LT.none)=LT.col (List.getD L i LT.none))∧(true=true∧List.length (LT.kids (List.getD L i LT.none))=List.length (LT.kids (List.getD L i LT.none))∧AllI fun (i_1:Nat)=>Nat.le (Nat.succ i_1) (List.length (LT.kids (List.getD L i LT.none)))→(true=true∧List.getD (LT.kids (List.getD L i LT.none)) i_1 (0:Int)=List.getD (LT.kids (List.getD L i LT.none)) i_1 (0:Int))∧True)∧True)∧(true=true∧x.M.length=x.M.length∧AllI fun (i:Nat)=>Nat.le (Nat.succ i) x.M.length→(true=true∧Prod.fst (List.getD x.M i ((0:Int),(0:Int)))=Prod.fst (List.getD x.M i ((0:Int),(0:Int))))∧(true=true∧Prod.snd (List.getD x.M i ((0:Int),(0:Int)))=Prod.snd (List.getD x.M i ((0:Int),(0:Int))))∧True)∧(true=true∧x.O.length=x.O.length∧AllI fun (i:Nat)=>Nat.le (Nat.succ i) x.O.length→(true=true∧List.getD x.O i (0:Int)=List.getD x.O i (0:Int))∧True)∧(true=true∧x.Lo.length=x.Lo.length∧AllI fun (i:Nat)=>Nat.le (Nat.succ i) x.Lo.length→(true=true∧List.getD x.Lo i (0:Int)=List.getD x.Lo i (0:Int))∧True)∧(true=true∧x.C.length=x.C.length∧AllI fun (i:Nat)=>Nat.le (Nat.succ i) x.C.length→(true=true∧List.getD x.C i (0:Int)=List.getD x.C i (0:Int))∧True)∧(true=true∧x.G.length=x.G.length∧AllI fun (i:Nat)=>Nat.le (Nat.succ i) x.G.length→(true=true∧List.getD x.G i (0:Int)=List.getD x.G i (0:Int))∧True)∧(true=true∧x.Co.length=x.Co.length∧AllI fun (i:Nat)=>Nat.le (Nat.succ i) x.Co.length→(true=true∧List.getD x.Co i (0:Int)=List.getD x.Co i (0:Int))∧True)∧(true=true∧x.E.length=x.E.length∧AllI fun (i:Nat)=>Nat.le (Nat.succ i) x.E.length→(true=true∧List.getD x.E i (0:Int)=List.getD x.E i (0:Int))∧True)∧(true=true∧x.Fs.length=x.Fs.length∧AllI fun (i:Nat)=>Nat.le (Nat.succ i) x.Fs.length→(true=true∧LFn.twig (List.getD x.Fs i LFn.none)=LFn.twig (List.getD x.Fs i LFn.none))∧(true=true∧LFn.up (List.getD x.Fs i LFn.none)=LFn.up (List.getD x.Fs i LFn.none))∧LFn.name (List.getD x.Fs i LFn.none)=LFn.name (List.getD x.Fs i LFn.none)∧(true=true∧List.length (LFn.caps (List.getD x.Fs i LFn.none))=List.length (LFn.caps (List.getD x.Fs i LFn.none))∧AllI fun (i_1:Nat)=>Nat.le (Nat.succ i_1) (List.length (LFn.caps (List.getD x.Fs i LFn.none)))→(true=true∧List.getD (LFn.caps (List.getD x.Fs i LFn.none)) i_1 (0:Int)=List.getD (LFn.caps (List.getD x.Fs i LFn.none)) i_1 (0:Int))∧True)∧True)∧(true=true∧x.main=x.main)∧(true=true∧X.length=X.length∧AllI fun (i:Nat)=>Nat.le (Nat.succ i) X.length→(true=true∧List.getD X i (0:Int)=List.getD X i (0:Int))∧True)∧(true=true∧H.length=H.length∧AllI fun (i:Nat)=>Nat.le (Nat.succ i) H.length→List.getD H i false=List.getD H i false∧True)∧(true=true∧R.length=R.length∧AllI fun (i:Nat)=>Nat.le (Nat.succ i) R.length→List.getD R i false=List.getD R i false∧True)∧True)∧(true=true∧(↑i:Int)=(↑i:Int))∧(true=true∧(0:Int)=(0:Int))∧false=false∧(some 0=some 0∧true=true)∧True
@[reducible] def TyP_runTerm5_k2:List LT→LN→List Int→List Bool→List Bool→List LT→LN→Prop:=fun (L:List LT) (x:LN) (X:List Int) (H R:List Bool) (a:List LT) (a_1:LN)=>L.length=a.length∧rowT L=rowT a∧x.M.length=a_1.M.length∧rM x.M=rM a_1.M∧List.take._f 8 ⟨List.take._f 7 ⟨List.take._f 6 ⟨List.take._f 5 ⟨List.take._f 4 ⟨List.take._f 3 ⟨List.take._f 2 ⟨List.take._f 1 ⟨List.take._f 0 PUnit.unit,PUnit.unit⟩,List.take._f 0 PUnit.unit,PUnit.unit⟩,List.take._f 1 ⟨List.take._f 0 PUnit.unit,PUnit.unit⟩,List.take._f 0 PUnit.unit,PUnit.unit⟩,List.take._f 2 ⟨List.take._f 1 ⟨List.take._f 0 PUnit.unit,PUnit.unit⟩,List.take._f 0 PUnit.unit,PUnit.unit⟩,List.take._f 1 ⟨List.take._f 0 PUnit.unit,PUnit.unit⟩,List.take._f 0 PUnit.unit,PUnit.unit⟩,List.take._f 3 ⟨List.take._f 2 ⟨List.take._f 1 ⟨List.take._f 0 PUnit.unit,PUnit.unit⟩,List.take._f 0 PUnit.unit,PUnit.unit⟩,List.take._f 1 ⟨List.take._f 0 PUnit.unit,PUnit.unit⟩,List.take._f 0 PUnit.unit,PUnit.unit⟩,List.take._f 2 ⟨List.take._f 1 ⟨List.take._f 0 PUnit.unit,PUnit.unit⟩,List.take._f 0 PUnit.unit,PUnit.unit⟩,List.take._f 1 ⟨List.take._f 0 PUnit.unit,PUnit.unit⟩,List.take._f 0 PUnit.unit,PUnit.unit⟩,List.take._f 4 ⟨List.take._f 3 ⟨List.take._f 2 ⟨List.take._f 1 ⟨List.take._f 0 PUnit.unit,PUnit.unit⟩,List.take._f 0 PUnit.unit,PUnit.unit⟩,List.take._f 1 ⟨List.take._f 0 PUnit.unit,PUnit.unit⟩,List.take._f 0 PUnit.unit,PUnit.unit⟩,List.take._f 2 ⟨List.take._f 1 ⟨List.take._f 0 PUnit.unit,PUnit.unit⟩,List.take._f 0 PUnit.unit,PUnit.unit⟩,List.take._f 1 ⟨List.take._f 0 PUnit.unit,PUnit.unit⟩,List.take._f 0 PUnit.unit,PUnit.unit⟩,List.take._f 3 ⟨List.take._f 2 ⟨List.take._f 1 ⟨List.take._f 0 PUnit.unit,PUnit.unit⟩,List.take._f 0 PUnit.unit,PUnit.unit⟩,List.take._f 1 ⟨List.take._f 0 PUnit.unit,PUnit.unit⟩,List.take._f 0 PUnit.unit,PUnit.unit⟩,List.take._f 2 ⟨List.take._f 1 ⟨List.take._f 0 PUnit.unit,PUnit.unit⟩,List.take._f 0 PUnit.unit,PUnit.unit⟩,List.take._f 1 ⟨List.take._f 0 PUnit.unit,PUnit.unit⟩,List.take._f 0 PUnit.unit,PUnit.unit⟩,List.take._f 5 ⟨List.take._f 4 ⟨List.take._f 3 ⟨List.take._f 2 ⟨List.take._f 1 ⟨List.take._f 0 PUnit.unit,PUnit.unit⟩,List.take._f 0 PUnit.unit,PUnit.unit⟩,List.take._f 1 ⟨List.take._f 0 PUnit.unit,PUnit.unit⟩,List.take._f 0 PUnit.unit,PUnit.unit⟩,List.take._f 2 ⟨List.take._f 1 ⟨List.take._f 0 PUnit.unit,PUnit.unit⟩,List.take._f 0 PUnit.unit,PUnit.unit⟩,List.take._f 1 ⟨List.take._f 0 PUnit.unit,PUnit.unit⟩,List.take._f 0 PUnit.unit,PUnit.unit⟩,List.take._f 3 ⟨List.take._f 2 ⟨List.take._f 1 ⟨List.take._f 0 PUnit.unit,PUnit.unit⟩,List.take._f 0 PUnit.unit,PUnit.unit⟩,List.take._f 1 ⟨List.take._f 0 PUnit.unit,PUnit.unit⟩,List.take._f 0 PUnit.unit,PUnit.unit⟩,List.take._f 2 ⟨List.take._f 1 ⟨List.take._f 0 PUnit.unit,PUnit.unit⟩,List.take._f 0 PUnit.unit,PUnit.unit⟩,List.take._f 1 ⟨List.take._f 0 PUnit.unit,PUnit.unit⟩,List.take._f 0 PUnit.unit,PUnit.unit⟩,List.take._f 4 ⟨List.take._f 3 ⟨List.take._f 2 ⟨List.take._f 1 ⟨List.take._f 0 PUnit.unit,PUnit.unit⟩,List.take._f 0 PUnit.unit,PUnit.unit⟩,List.take._f 1 ⟨List.take._f 0 PUnit.unit,PUnit.unit⟩,List.take._f 0 PUnit.unit,PUnit.unit⟩,List.take._f 2 ⟨List.take._f 1 ⟨List.take._f 0 PUnit.unit,PUnit.unit⟩,List.take._f 0 PUnit.unit,PUnit.unit⟩,List.take._f 1 ⟨List.take._f 0 PUnit.unit,PUnit.unit⟩,List.take._f 0 PUnit.unit,PUnit.unit⟩,List.take._f 3 ⟨List.take._f 2 ⟨List.take._f 1 ⟨List.take._f 0 PUnit.unit,PUnit.unit⟩,List.take._f 0 PUnit.unit,PUnit.unit⟩,List.take._f 1 ⟨List.take._f 0 PUnit.unit,PUnit.unit⟩,List.take._f 0 PUnit.unit,PUnit.unit⟩,List.take._f 2 ⟨List.take._f 1 ⟨List.take._f 0 PUnit.unit,PUnit.unit⟩,List.take._f 0 PUnit.unit,PUnit.unit⟩,List.take._f 1 ⟨List.take._f 0 PUnit.unit,PUnit.unit⟩,List.take._f 0 PUnit.unit,PUnit.unit⟩,List.take._f 6 ⟨List.take._f 5 ⟨List.take._f 4 ⟨List.take._f 3 ⟨List.take._f 2 ⟨List.take._f 1 ⟨List.take._f 0 PUnit.unit,PUnit.unit⟩,List.take._f 0 PUnit.unit,PUnit.unit⟩,List.take._f 1 ⟨List.take._f 0 PUnit.unit,PUnit.unit⟩,List.take._f 0 PUnit.unit,PUnit.unit⟩,List.take._f 2 ⟨List.take._f 1 ⟨List.take._f 0 PUnit.unit,PUnit.unit⟩,List.take._f 0 PUnit.unit,PUnit.unit⟩,List.take._f 1 ⟨List.take._f 0 PUnit.unit,PUnit.unit⟩,List.take._f 0 PUnit.unit,PUnit.unit⟩,List.take._f 3 ⟨List.take._f 2 ⟨List.take._f 1 ⟨List.take._f 0 PUnit.unit,PUnit.unit⟩,List.take._f 0 PUnit.unit,PUnit.unit⟩,List.take._f 1 ⟨List.take._f 0 PUnit.unit,PUnit.unit⟩,List.take._f 0 PUnit.unit,PUnit.unit⟩,List.take._f 2 ⟨List.take._f 1 ⟨List.take._f 0 PUnit.unit,PUnit.unit⟩,List.take._f 0 PUnit.unit,PUnit.unit⟩,List.take._f 1 ⟨List.take._f 0 PUnit.unit,PUnit.unit⟩,List.take._f 0 PUnit.unit,PUnit.unit⟩,List.take._f 4 ⟨List.take._f 3 ⟨List.take._f 2 ⟨List.take._f 1 ⟨List.take._f 0 PUnit.unit,PUnit.unit⟩,List.take._f 0 PUnit.unit,PUnit.unit⟩,List.take._f 1 ⟨List.take._f 0 PUnit.unit,PUnit.unit⟩,List.take._f 0 PUnit.unit,PUnit.unit⟩,List.take._f 2 ⟨List.take._f 1 ⟨List.take._f 0 PUnit.unit,PUnit.unit⟩,List.take._f 0 PUnit.unit,PUnit.unit⟩,List.take._f 1 ⟨List.take._f 0 PUnit.unit,PUnit.unit⟩,List.take._f 0 PUnit.unit,PUnit.unit⟩,List.take._f 3 ⟨List.take._f 2 ⟨List.take._f 1 ⟨List.take._f 0 PUnit.unit,PUnit.unit⟩,List.take._f 0 PUnit.unit,PUnit.unit⟩,List.take._f 1 ⟨List.take._f 0 PUnit.unit,PUnit.unit⟩,List.take._f 0 PUnit.unit,PUnit.unit⟩,List.take._f 2 ⟨List.take._f 1 ⟨List.take._f 0 PUnit.unit,PUnit.unit⟩,List.take._f 0 PUnit.unit,PUnit.unit⟩,List.take._f 1 ⟨List.take._f 0 PUnit.unit,PUnit.unit⟩,List.take._f 0 PUnit.unit,PUnit.unit⟩,List.take._f 5 ⟨List.take._f 4 ⟨List.take._f 3 ⟨List.take._f 2 ⟨List.take._f 1 ⟨List.take._f 0 PUnit.unit,PUnit.unit⟩,List.take._f 0 PUnit.unit,PUnit.unit⟩,List.take._f 1 ⟨List.take._f 0 PUnit.unit,PUnit.unit⟩,List.take._f 0 PUnit.unit,PUnit.unit⟩,List.take._f 2 ⟨List.take._f 1 ⟨List.take._f 0 PUnit.unit,PUnit.unit⟩,List.take._f 0 PUnit.unit,PUnit.unit⟩,List.take._f 1 ⟨List.take._f 0 PUnit.unit,PUnit.unit⟩,List.take._f 0 PUnit.unit,PUnit.unit⟩,List.take._f 3 ⟨List.take._f 2 ⟨List.take._f 1 ⟨List.take._f 0 PUnit.unit,PUnit.unit⟩,List.take._f 0 PUnit.unit,PUnit.unit⟩,List.take._f 1 ⟨List.take._f 0 PUnit.unit,PUnit.unit⟩,List.take._f 0 PUnit.unit,PUnit.unit⟩,List.take._f 2 ⟨List.take._f 1 ⟨List.take._f 0 PUnit.unit,PUnit.unit⟩,List.take._f 0 PUnit.unit,PUnit.unit⟩,List.take._f 1 ⟨List.take._f 0 PUnit.unit,PUnit.unit⟩,List.take._f 0 PUnit.unit,PUnit.unit⟩,List.take._f 4 ⟨List.take._f 3 ⟨List.take._f 2 ⟨List.take._f 1 ⟨List.take._f 0 PUnit.unit,PUnit.unit⟩,List.take._f 0 PUnit.unit,PUnit.unit⟩,List.take._f 1 ⟨List.take._f 0 PUnit.unit,PUnit.unit⟩,List.take._f 0 PUnit.unit,PUnit.unit⟩,List.take._f 2 ⟨List.take._f 1 ⟨List.take._f 0 PUnit.unit,PUnit.unit⟩,List.take._f 0 PUnit.unit,PUnit.unit⟩,List.take._f 1 ⟨List.take._f 0 PUnit.unit,PUnit.unit⟩,List.take._f 0 PUnit.unit,PUnit.unit⟩,List.take._f 3 ⟨List.take._f 2 ⟨List.take._f 1 ⟨List.take._f 0 PUnit.unit,PUnit.unit⟩,List.take._f 0 PUnit.unit,PUnit.unit⟩,List.take._f 1 ⟨List.take._f 0 PUnit.unit,PUnit.unit⟩,List.take._f 0 PUnit.unit,PUnit.unit⟩,List.take._f 2 ⟨List.take._f 1 ⟨List.take._f 0 PUnit.unit,PUnit.unit⟩,List.take._f 0 PUnit.unit,PUnit.unit⟩,List.take._f 1 ⟨List.take._f 0 PUnit.unit,PUnit.unit⟩,List.take._f 0 PUnit.unit,PUnit.unit⟩ [vI x.O,vI x.Lo,vI x.C,vI x.G,vI x.Co,vI x.E,AV.vec 4 x.Fs.length (rFn x.Fs),AV.int .i64 x.main,vI X,vB H,vB R]=LN.rest a_1∧MOK a a_1.M∧Good a
theorem runTerm5_r:∀ (L:List LT) (x:LN) (X:List Int) (H R:List Bool) (i:Nat),R5OK L x X H R→T5OK L x→Nat.le (Nat.succ i) L.length→sdA (inB (↑i:Int) L.length) (brP (ieq (LT.kind (List.getD L (Int.toNat (↑i:Int)) LT.none)) (26:Int)) ((true=true∧(1:Int)=barr (Prod.fst (term5 L x.M x.C x.G X H R i)))∧true=bar (Prod.snd (term5 L x.M x.C x.G X H R i))∧True) (brP (ieq (LT.kind (List.getD L (Int.toNat (↑i:Int)) LT.none)) (28:Int)) ((true=true∧(1:Int)=barr (Prod.fst (term5 L x.M x.C x.G X H R i)))∧true=bar (Prod.snd (term5 L x.M x.C x.G X H R i))∧True) (brP (ieq (LT.kind (List.getD L (Int.toNat (↑i:Int)) LT.none)) (27:Int)) ((true=true∧(0:Int)=barr (Prod.fst (term5 L x.M x.C x.G X H R i)))∧true=bar (Prod.snd (term5 L x.M x.C x.G X H R i))∧True) (brP (ieq (LT.kind (List.getD L (Int.toNat (↑i:Int)) LT.none)) (36:Int)) ((true=true∧(2:Int)=barr (Prod.fst (term5 L x.M x.C x.G X H R i)))∧true=bar (Prod.snd (term5 L x.M x.C x.G X H R i))∧True) (brP (ieq (LT.kind (List.getD L (Int.toNat (↑i:Int)) LT.none)) (33:Int)) (sdA (inB (↑i:Int) x.M.length) (sdA (inR .i64 (Int.negSucc 0 - Prod.snd (List.getD x.M (Int.toNat (↑i:Int)) ((0:Int),(0:Int))))) ((true=true∧Int.negSucc 0 - Prod.snd (List.getD x.M (Int.toNat (↑i:Int)) ((0:Int),(0:Int)))=barr (Prod.fst (term5 L x.M x.C x.G X H R i)))∧true=bar (Prod.snd (term5 L x.M x.C x.G X H R i))∧True))) (brP (ieq (LT.kind (List.getD L (Int.toNat (↑i:Int)) LT.none)) (29:Int)) (sdA (inB (↑i:Int) x.M.length) (brP (ieq (Prod.fst (List.getD x.M (Int.toNat (↑i:Int)) ((0:Int),(0:Int)))) (1:Int)) ((∃ (L_1:List LT),∃ (x_1:LN),TyP_runTerm5_k2 L x X H R L_1 x_1)∧(((True∧True∧True∧True)∧True)∧((True∧True∧True∧True)∧True)∧True)∧(true=true∧barr (ofT (rowTs L.length (rowT L)) (rowMs x.M.length (rM x.M)) (Prod.snd (List.getD x.M (Int.toNat (↑i:Int)) ((0:Int),(0:Int)))))=barr (Prod.fst (term5 L x.M x.C x.G X H R i)))∧true=bar (Prod.snd (term5 L x.M x.C x.G X H R i))∧True) (brP (ieq (Prod.fst (List.getD x.M (Int.toNat (↑i:Int)) ((0:Int),(0:Int)))) (2:Int)) (sdA (inB (Prod.snd (List.getD x.M (Int.toNat (↑i:Int)) ((0:Int),(0:Int)))) x.G.length) ((∃ (L_1:List LT),∃ (x_1:LN),TyP_runTerm5_k2 L x X H R L_1 x_1)∧(((True∧True∧True∧True∧True∧True)∧True)∧((True∧True∧True∧True∧True∧True)∧True)∧True)∧(true=true∧barr (ofT (rowTs L.length (rowT L)) (rowMs x.M.length (rM x.M)) (List.getD x.G (Int.toNat (Prod.snd (List.getD x.M (Int.toNat (↑i:Int)) ((0:Int),(0:Int))))) (0:Int)))=barr (Prod.fst (term5 L x.M x.C x.G X H R i)))∧true=bar (Prod.snd (term5 L x.M x.C x.G X H R i))∧True)) (brP (ieq (Prod.fst (List.getD x.M (Int.toNat (↑i:Int)) ((0:Int),(0:Int)))) (3:Int)) ((true=true∧(2:Int)=barr (Prod.fst (term5 L x.M x.C x.G X H R i)))∧true=bar (Prod.snd (term5 L x.M x.C x.G X H R i))∧True) ((true=true∧(0:Int)=barr (Prod.fst (term5 L x.M x.C x.G X H R i)))∧true=bar (Prod.snd (term5 L x.M x.C x.G X H R i))∧True))))) (sdA (inB (↑i:Int) R.length) (brP (!List.getD R (Int.toNat (↑i:Int)) false) ((true=true∧(0:Int)=barr (Prod.fst (term5 L x.M x.C x.G X H R i)))∧false=bar (Prod.snd (term5 L x.M x.C x.G X H R i))∧True) ((∃ (x0:Nat),TkI L H i x0∧true=true∧((true=true∧(0:Int)=(↑x0:Int))∧TyP_runTerm5_k1 L x X H R i)∧TyP_runTerm5_k0 L i)∧∀ (x_1:Nat),TkI L H i x_1→brP (ilt (↑x_1:Int) (Int.ofNat (List.length (LT.kids (List.getD L (Int.toNat (↑i:Int)) LT.none))))) (sdA (inB (↑x_1:Int) (List.length (LT.kids (List.getD L (Int.toNat (↑i:Int)) LT.none)))) (sdA (inB (List.getD (LT.kids (List.getD L (Int.toNat (↑i:Int)) LT.none)) (Int.toNat (↑x_1:Int)) (0:Int)) H.length) ((((True∧True∧True∧True∧True)∧True)∧True)∧brP (!List.getD H (Int.toNat (List.getD (LT.kids (List.getD L (Int.toNat (↑i:Int)) LT.none)) (Int.toNat (↑x_1:Int)) (0:Int))) false) ((true=true∧(0:Int)=barr (Prod.fst (term5 L x.M x.C x.G X H R i)))∧false=bar (Prod.snd (term5 L x.M x.C x.G X H R i))∧True) (sdA (inR .i64 ((↑x_1:Int) + 1)) (∃ (x':Nat),TkI L H i x'∧Nat.le (Nat.succ (List.length (LT.kids (List.getD L i LT.none)) - x')) (List.length (LT.kids (List.getD L i LT.none)) - x_1)∧true=true∧((true=true∧(↑x_1:Int) + 1=(↑x':Int))∧TyP_runTerm5_k1 L x X H R i)∧TyP_runTerm5_k0 L i))))) (brP (ieq (LT.kind (List.getD L (Int.toNat (↑i:Int)) LT.none)) (34:Int)) ((true=true∧(5:Int)=barr (Prod.fst (term5 L x.M x.C x.G X H R i)))∧true=bar (Prod.snd (term5 L x.M x.C x.G X H R i))∧True) (brP (ieq (LT.kind (List.getD L (Int.toNat (↑i:Int)) LT.none)) (30:Int)) (sdA (inB (0:Int) (List.length (LT.kids (List.getD L (Int.toNat (↑i:Int)) LT.none)))) (sdA (inB (List.getD (LT.kids (List.getD L (Int.toNat (↑i:Int)) LT.none)) 0 (0:Int)) X.length) ((∃ (L_1:List LT),∃ (x_2:LN),L.length=L_1.length∧rowT L=rowT L_1∧x.M.length=x_2.M.length∧rM x.M=rM x_2.M∧vI x.O=vI x_2.O∧vI x.Lo=vI x_2.Lo∧x.C.length=x_2.C.length∧rI x.C=rI x_2.C∧List.take._f 5 ⟨List.take._f 4 ⟨List.take._f 3 ⟨List.take._f 2 ⟨List.take._f 1 ⟨List.take._f 0 PUnit.unit,PUnit.unit⟩,List.take._f 0 PUnit.unit,PUnit.unit⟩,List.take._f 1 ⟨List.take._f 0 PUnit.unit,PUnit.unit⟩,List.take._f 0 PUnit.unit,PUnit.unit⟩,List.take._f 2 ⟨List.take._f 1 ⟨List.take._f 0 PUnit.unit,PUnit.unit⟩,List.take._f 0 PUnit.unit,PUnit.unit⟩,List.take._f 1 ⟨List.take._f 0 PUnit.unit,PUnit.unit⟩,List.take._f 0 PUnit.unit,PUnit.unit⟩,List.take._f 3 ⟨List.take._f 2 ⟨List.take._f 1 ⟨List.take._f 0 PUnit.unit,PUnit.unit⟩,List.take._f 0 PUnit.unit,PUnit.unit⟩,List.take._f 1 ⟨List.take._f 0 PUnit.unit,PUnit.unit⟩,List.take._f 0 PUnit.unit,PUnit.unit⟩,List.take._f 2 ⟨List.take._f 1 ⟨List.take._f 0 PUnit.unit,PUnit.unit⟩,List.take._f 0 PUnit.unit,PUnit.unit⟩,List.take._f 1 ⟨List.take._f 0 PUnit.unit,PUnit.unit⟩,List.take._f 0 PUnit.unit,PUnit.unit⟩ [vI x.G,vI x.Co,vI x.E,AV.vec 4 x.Fs.length (rFn x.Fs),AV.int .i64 x.main,vI X,vB H,vB R]=LN.rest2 x_2∧MOK L_1 x_2.M∧Good L_1∧(∀ (c:Int),List.Mem c x_2.C→Int.NonNeg (c - 0)∧Int.NonNeg ((↑L_1.length:Int) - (c + 1)))∧Int.NonNeg (List.getD X (Int.toNat (List.getD (LT.kids (List.getD L (Int.toNat (↑i:Int)) LT.none)) 0 (0:Int))) (0:Int) - Int.negSucc 999999999)∧Int.NonNeg ((9223372036854775807:Int) - List.getD X (Int.toNat (List.getD (LT.kids (List.getD L (Int.toNat (↑i:Int)) LT.none)) 0 (0:Int))) (0:Int)))∧(((True∧True∧True∧True∧True∧True∧True∧True)∧True)∧((True∧True∧True∧True∧True∧True∧True∧True)∧True)∧True)∧(true=true∧barr (Prod.snd (memT (rowTs L.length (rowT L)) (rowMs x.M.length (rM x.M)) (rowL x.C.length (rI x.C)) (List.getD X (Int.toNat (List.getD (LT.kids (List.getD L (Int.toNat (↑i:Int)) LT.none)) 0 (0:Int))) (0:Int)) (LT.text (List.getD L (Int.toNat (↑i:Int)) LT.none))))=barr (Prod.fst (term5 L x.M x.C x.G X H R i)))∧true=bar (Prod.snd (term5 L x.M x.C x.G X H R i))∧True))) ((true=true∧(1:Int)=barr (Prod.fst (term5 L x.M x.C x.G X H R i)))∧true=bar (Prod.snd (term5 L x.M x.C x.G X H R i))∧True))))))))))))
:= by
 intro L x X H R i hR hT h2
 have hi:i < L.length:=h2
 have hTg:=hT.g
 have hx:=hR.xl
 have hh:=hR.hl
 have hr:=hR.rl
 have hm:=hR.m.mlen
 have hlen:=hR.m.len
 have hn:=hR.m.n i hi
 have hG:=hR.good
 have hkl:=hG.klen i hi
 simp only [barr_eq,bar_eq,true_and,and_true,eq_self,implies_true,Nat.le_eq,cond_tf,cond_cf,nif_tf,Int.toNat_natCast,Int.ofNat_eq_natCast,Nat.ble_eq,Nat.ble_self_eq_true,Bool.true_and,Bool.and_true,Bool.and_self,Option.some.injEq,AV.int.injEq,rowB_self,allBR_self,Nat.mul_one,Nat.beq_refl,allI_true,cond_true,cond_false,ieq_self,Bool.not_true,Bool.not_false,decide_true,brP_f,brP_t,sdA_t,bytesL_packL,List.nil_append,TyP_runTerm5_k0,TyP_runTerm5_k1,TyP_runTerm5_k2]
 simp only [rowTs_rowT,rowMs_rM,rowL_rI]
 have val:∀ a b,term5 L x.M x.C x.G X H R i=(a,b)→a=(term5 L x.M x.C x.G X H R i).1∧b=(term5 L x.M x.C x.G X H R i).2:=fun a b h=>by rw [h];exact ⟨rfl,rfl⟩
 have oM:∃ L_1 x_1,L.length=List.length L_1∧rowT L=rowT L_1∧x.M.length=x_1.M.length∧rM x.M=rM x_1.M∧x.rest=LN.rest x_1∧MOK L_1 x_1.M∧Good L_1:=⟨L,x,rfl,rfl,rfl,rfl,rfl,hR.m,hG⟩
 refine sdA_of (inB_iff.2 (by omega)) (brP_of (fun h=>val _ _ ?_) fun h26=>brP_of (fun h=>val _ _ ?_) fun h28=>brP_of (fun h=>val _ _ ?_) fun h27=>brP_of (fun h=>val _ _ ?_) fun h36=>brP_of (fun h=>sdA_of (inB_iff.2 (by omega)) (sdA_of (inR_i64.2 (by omega)) (val _ _ ?_))) fun h33=>brP_of (fun h=>sdA_of (inB_iff.2 (by omega)) (brP_of (fun g=>⟨oM,val _ _ ?_⟩) fun g1=>brP_of (fun g=>sdA_of (inB_iff.2 ?_) ⟨oM,val _ _ ?_⟩) fun g2=>brP_of (fun g=>val _ _ ?_) fun g3=>val _ _ ?_)) fun h29=>sdA_of (inB_iff.2 (by omega)) (brP_of (fun g=>val _ _ ?_) fun g=>⟨⟨0,⟨Nat.zero_le _,fun k hk=>by omega⟩,rfl⟩,fun j hj=>?_⟩))
 ·rw [ieq_iff] at h;unfold term5;simp only [h,true_or,if_true]
 ·rw [ieq_iff] at h;unfold term5;simp only [h,or_true,if_true]
 ·rw [ieq_iff] at h;unfold term5;dsimp only;rw [h,if_neg (by decide),if_pos rfl]
 ·rw [ieq_iff] at h;unfold term5;dsimp only;rw [h,if_neg (by decide),if_neg (by decide),if_pos rfl]
 ·rw [ieq_iff] at h;unfold term5;dsimp only;rw [h,if_neg (by decide),if_neg (by decide),if_neg (by decide),if_pos rfl];rfl
 ·rw [ieq_iff] at h g;rw [term5_use h,if_pos g]
 ·rw [ieq_iff] at h g
  have:=hTg i hi g
  omega
 ·rw [ieq_iff] at h g;rw [ieq_iffn] at g1;rw [term5_use h,if_neg g1,if_pos g]
 ·rw [ieq_iff] at h g;rw [ieq_iffn] at g1 g2;rw [term5_use h,if_neg g1,if_neg g2,if_pos g]
 ·rw [ieq_iff] at h;rw [ieq_iffn] at g1 g2 g3;rw [term5_use h,if_neg g1,if_neg g2,if_neg g3]
 ·rw [ieq_iffn] at h26 h28 h27 h36 h33 h29
  rw [Bool.not_eq_true'] at g
  rw [term5_late h26 h28 h27 h36 h33 h29,if_pos g]
 ·rw [ieq_iffn] at h26 h28 h27 h36 h33 h29
  rw [Bool.not_eq_false'] at g
  have late:=term5_late (M:=x.M) (C:=x.C) (G:=x.G) (X:=X) (H:=H) (R:=R) h26 h28 h27 h36 h33 h29
  rw [if_neg (by rw [g];decide)] at late
  refine brP_of (fun q=>?_) fun q=>?_
  ·rw [ilt_iff] at q
   have q':j < (L.getD i LT.none).kids.length:=by omega
   obtain ⟨k1,k2⟩:=kid_in hG hi q'
   refine sdA_of (inB_iff.2 (by omega)) (sdA_of (inB_iff.2 (by omega)) (brP_of (fun p=>val _ _ ?_) fun p=>sdA_of (inR_i64.2 (by omega)) ⟨j + 1,⟨q',fun k hk=>?_⟩,by omega,by omega⟩))
   ·rw [Bool.not_eq_true'] at p
    rw [late,if_pos ⟨j,q',p⟩]
   ·rw [Bool.not_eq_false'] at p
    rcases Nat.lt_or_ge k j with h | h
    ·exact hj.al k h
    ·obtain rfl:k=j:=by omega
     exact p
  ·rw [ilt_iffn] at q
   have hjl:=hj.le
   rw [if_neg (by
    rintro ⟨k,hk1,hk2⟩
    rw [hj.al k (by omega)] at hk2;cases hk2)] at late
   refine brP_of (fun h=>val _ _ ?_) fun h34=>brP_of (fun h=>?_) fun h30=>val _ _ ?_
   ·rw [ieq_iff] at h;rw [late,if_pos h]
   ·rw [ieq_iff] at h
    rw [ieq_iffn] at h34
    have hp:=kids1 hG hi (by omega)
    obtain ⟨k1,k2⟩:=kid_in hG hi hp
    have hb:=hR.b ((L.getD i LT.none).kids.getD 0 0).toNat
    refine sdA_of (inB_iff.2 (by omega)) (sdA_of (inB_iff.2 (by omega)) ⟨⟨L,x,rfl,rfl,rfl,rfl,rfl,rfl,rfl,rfl,rfl,hR.m,hG,hR.c,hb.1,Int.le_trans hb.2 (by decide)⟩,val _ _ ?_⟩)
    rw [late,if_neg h34,if_pos h]
    rfl
   ·rw [ieq_iffn] at h34 h30
    rw [late,if_neg h34,if_neg h30]
theorem runTerm5:∀ (L:List LT) (x:LN) (X:List Int) (H R:List Bool) (i:Nat),R5OK L x X H R→T5OK L x→i < L.length→(cRun (cxT5 L H i) 60).call 52 [.pv (pvR L x X H R),.int .i64 i] .leaf 0 (ResM Tryz.prog false (.tup [.int .i64 (barr (term5 L x.M x.C x.G X H R i).1),.bool (bar (term5 L x.M x.C x.G X H R i).2)])) :=
 Eq.mpr (by kernel_rfl) runTerm5_r
end Go.Proofs.YthallodoidghoaaGreat
