/- Laid by program out of its parts: JrB. -/
import Derived.Test.YtedpjdkikbgojaaGreatDoorJrA
set_option linter.unusedVariables false
set_option linter.unusedSimpArgs false
set_option maxRecDepth 100000
open Go Go.Ev
namespace Go.Proofs.YtedpjdkikbgojaaGreatDoor
def rB (L:List (List UInt8)):Nat→List AV:=fun i=>[.bs (L.getD i [])]
structure LC where
 name:List UInt8
 names:List (List UInt8)
 fields:List Int
def LC.row (x:LC):List AV:=[.bs x.name,.vec 1 x.names.length (rB x.names),.vec 1 x.fields.length (rI x.fields)]
def rLC (l:List LC):Nat→List AV:=fun i=>LC.row (l.getD i ⟨[],[],[]⟩)
structure LG where
 name:List UInt8
 type:Int
def rLG (l:List LG):Nat→List AV:=fun i=>[.bs (l.getD i ⟨[],0⟩).name,.int .i64 (l.getD i ⟨[],0⟩).type]
def rLF (l:List LF):Nat→List AV:=fun i=>LF.row (l.getD i ⟨[],0,0,[]⟩)
structure LM where
 name:List UInt8
 looper:Int
 f0:Int
 f1:Int
 f2:Int
 f3:Int
def LM.row (x:LM):List AV:=[.bs x.name,.int .i64 x.looper,.int .i64 x.f0,.int .i64 x.f1,.int .i64 x.f2,.int .i64 x.f3]
def rLM (l:List LM):Nat→List AV:=fun i=>LM.row (l.getD i ⟨[],0,0,0,0,0⟩)
structure LE where
 name:List UInt8
 looper:Int
 on:Bool
 func:Int
def LE.row (x:LE):List AV:=[.bs x.name,.int .i64 x.looper,.bool x.on,.int .i64 x.func]
def rLE (l:List LE):Nat→List AV:=fun i=>LE.row (l.getD i ⟨[],0,false,0⟩)
structure LS where
 func:Int
 at_:Int
def rLS (l:List LS):Nat→List AV:=fun i=>[.int .i64 (l.getD i ⟨0,0⟩).func,.int .i64 (l.getD i ⟨0,0⟩).at_]
structure LP where
 loopers:List (List UInt8)
 classes:List LC
 globals:List LG
 funcs:List LF
 comps:List LM
 events:List LE
 main:Int
 sites:List LS
def LP.row (p:LP):List AV:=[.vec 1 p.loopers.length (rB p.loopers),.vec 3 p.classes.length (rLC p.classes),.vec 2 p.globals.length (rLG p.globals),.vec 4 p.funcs.length (rLF p.funcs),.vec 6 p.comps.length (rLM p.comps),.vec 4 p.events.length (rLE p.events),.int .i64 p.main,.vec 2 p.sites.length (rLS p.sites)]
def isRoot (p:LP) (f:Int):Bool:=decide (0≤f) && (decide (f < p.funcs.length) && decide ((p.funcs.getD f.toNat ⟨[],0,0,[]⟩).cap=0))
def inb (n m:Int):Bool:=decide (0≤n) && decide (n < m)
noncomputable def eB2:Tr AObj→List AV→Option Ct:=fun _ args=>match args with
 | [.int .i64 n,.int .i64 m]=>some (.need True (.ret (.bool (bar (inb n m)))))
 | _=>none
structure RegOK (f:LF) (x:LI):Prop where
 r0:0 < named x.op→inb x.a f.regs=true
 r1:1 < named x.op→inb x.b f.regs=true
 r2:2 < named x.op→inb x.c f.regs=true
structure LOK (f:LF) (x:LI) (k:Nat):Prop where
 le:k≤x.l.length
 al:∀ j,j < k→x.op=21∧inb (x.l.getD j 0) f.regs=true
def nameB (p:LP) (f:LF) (x:LI):Bool :=
 if x.op=9 then inb x.n p.globals.length else if x.op=10 then inb x.n p.globals.length else if x.op=14 then inb x.n p.classes.length
 else if x.op=21 then inb x.n p.funcs.length && decide ((p.funcs.getD x.n.toNat ⟨[],0,0,[]⟩).cap=x.l.length)
 else if x.op=23 then inb x.c p.loopers.length && inb x.n 1000001 else if x.op=24 then inb x.c p.loopers.length
 else if x.op=26 then inb x.n p.events.length else if x.op=27 then inb x.n p.events.length
 else if x.op=31 then inb x.n f.code.length else if x.op=32 then inb x.n f.code.length else true
def regsB (f:LF) (x:LI):Bool:=(x.l.all fun r=>decide (x.op=21) && inb r f.regs) &&
 (inb x.a f.regs || !decide (0 < named x.op)) && (inb x.b f.regs || !decide (1 < named x.op)) && (inb x.c f.regs || !decide (2 < named x.op))
def instrB (p:LP) (f:LF) (x:LI):Bool:=(decide (1≤x.op) && decide (x.op≤33)) && (regsB f x && nameB p f x)
noncomputable def SI1 (f:LF) (x:LI):Stn:=thin Unit [3,4,5] (fun _=>[]) (fun _ _=>RegOK f x) fun _=>0
noncomputable def SI2 (f:LF) (x:LI):Stn:=thin Nat [3,4,5] (fun k=>[(9,.int .i64 k)]) (fun _=>LOK f x) fun k=>x.l.length - k
noncomputable def cxI (f:LF) (x:LI):Ctx:={ P:=Tryz.prog,tb:=[(33,eNamed),(32,eB2)],lp:=fun g r=>cond (cond (Nat.beq g 9) (Nat.beq r 10) false) (some (SI2 f x)) none,cut:=fun g r=>cond (cond (Nat.beq g 9) (Nat.beq r 9) false) (some (SI1 f x)) none }
theorem runRootR_r:∀ (p:LP) (f:Int),brP (!ilt f (0:Int)) (brP (ilt f (Int.ofNat (List.length (LP.funcs p)))) (sdA (inB f (List.length (LP.funcs p))) (ieq (LF.cap (List.getD (LP.funcs p) (Int.toNat f) (LF.mk [] (0:Int) (0:Int) []))) (0:Int)=isRoot p f)) (false=isRoot p f)) (false=isRoot p f)
:= by
 intro p f
 simp only [barr_eq,bar_eq,true_and,and_true,eq_self,implies_true,Nat.le_eq,cond_tf,cond_cf,nif_tf,Int.toNat_natCast,Int.ofNat_eq_natCast,Nat.ble_eq,Nat.ble_self_eq_true,Bool.true_and,Bool.and_true,Bool.and_self,Option.some.injEq,AV.int.injEq,rowB_self,allBR_self,Nat.mul_one,Nat.beq_refl,allI_true,cond_true,cond_false,ieq_self,Bool.not_true,Bool.not_false,decide_true,brP_f,brP_t,sdA_t,bytesL_packL,List.nil_append]
 unfold isRoot
 refine brP_of (fun h1=>brP_of (fun h2=>?_) (fun h2=>?_)) (fun h1=>?_)
 ·have h3:=ilt_iffn.1 (show ilt f 0=false by simpa using h1)
  have h4:=ilt_iff.1 h2
  refine sdA_of (inB_iff.2 ⟨h3,h4⟩) ?_
  rw [decide_eq_true h3,decide_eq_true h4,Bool.true_and,Bool.true_and,ieq_eq]
  rfl
 ·rw [decide_eq_false (show ¬ f < p.funcs.length by have:=ilt_iffn.1 h2;omega)]
  simp
 ·rw [decide_eq_false (show ¬ 0≤f by have:=ilt_iff.1 (show ilt f 0=true by simpa using h1);omega)]
  simp
theorem runRootR:∀ (p:LP) (f:Int),(cRun cx0 60).call 31 [.agg (LP.row p),.int .i64 f] .leaf 0 (ResM Tryz.prog false (.bool (isRoot p f))) :=
 Eq.mpr (by kernel_rfl) runRootR_r
theorem runB2_r:∀ (n m:Int),brP (!ilt n (0:Int)) (ilt n m=inb n m) (false=inb n m)
:= by
 intro n m
 unfold inb
 refine brP_of (fun h=>?_) (fun h=>?_)
 ·have h3:=ilt_iffn.1 (show ilt n 0=false by simpa using h)
  rw [decide_eq_true h3,Bool.true_and,ilt_eq]
 ·rw [decide_eq_false (show ¬ 0≤n by have:=ilt_iff.1 (show ilt n 0=true by simpa using h);omega)]
  simp
theorem runB2:∀ n m:Int,(cRun cx0 60).call 32 [.int .i64 n,.int .i64 m] .leaf 0 (ResM Tryz.prog false (.bool (inb n m))) :=
 Eq.mpr (by kernel_rfl) runB2_r
theorem okB2:EntOK Tryz.prog 32 eB2:=by
 refine ent_of (gl:=[]) (ng:=0) gl0 fun H args ct hct=>?_
 unfold eB2 at hct
 split at hct
 ·rename_i n m
  injection hct with hct;subst hct
  exact ⟨gl0,⟨⟨rfl,rfl⟩,⟨rfl,rfl⟩,trivial⟩,_,_,rfl,fun _=>⟨cx0,60,rfl,fol,tb_nil,by rw [bar_eq];exact runB2 n m⟩⟩
 ·cases hct
theorem named_le (o:Int):named o≤3:=by
 unfold named
 repeat' split
 all_goals omega
theorem instr_miss {p:LP} {f:LF} {x:LI} (h:regsB f x=false):instrB p f x=false:=by
 unfold instrB;rw [h];simp
theorem regs_l {f:LF} {x:LI} {k:Nat} (hk:k < x.l.length) (h:¬ (x.op=21∧inb (x.l.getD k 0) f.regs=true)):regsB f x=false:=by
 have:(x.l.all fun r=>decide (x.op=21) && inb r f.regs)=false:=by
  rw [List.all_eq_false]
  rw [List.getD_eq_getElem?_getD,List.getElem?_eq_getElem hk] at h
  refine ⟨x.l[k],List.getElem_mem hk,?_⟩
  simpa using h
 unfold regsB;rw [this];rfl
theorem regs_all {f:LF} {x:LI} {k:Nat} (hr:RegOK f x) (h:LOK f x k) (hk:k=x.l.length):regsB f x=true:=by
 have h1:(x.l.all fun r=>decide (x.op=21) && inb r f.regs)=true:=by
  rw [List.all_eq_true]
  intro r hx
  obtain ⟨j,hj,rfl⟩:=List.getElem_of_mem hx
  have:=h.al j (by omega)
  rw [List.getD_eq_getElem?_getD,List.getElem?_eq_getElem hj] at this
  simpa using this
 unfold regsB
 rw [h1]
 have h2:(inb x.a f.regs || !decide (0 < named x.op))=true:=by
  by_cases h:0 < named x.op
  ·rw [hr.r0 h];rfl
  ·simp [h]
 have h3:(inb x.b f.regs || !decide (1 < named x.op))=true:=by
  by_cases h:1 < named x.op
  ·rw [hr.r1 h];rfl
  ·simp [h]
 have h4:(inb x.c f.regs || !decide (2 < named x.op))=true:=by
  by_cases h:2 < named x.op
  ·rw [hr.r2 h];rfl
  ·simp [h]
 rw [h2,h3,h4];rfl
@[reducible] def JrB_runInstrR_k0:LP→LF→LI→Prop:=fun (p:LP) (f:LF) (x:LI)=>(true=true∧true=true∧true=true∧true=true∧(((((((True∧true=true∧List.length (LP.loopers p)=List.length (LP.loopers p)∧AllI fun (i:Nat)=>Nat.le (Nat.succ i) (List.length (LP.loopers p))→List.getD (LP.loopers p) i []=List.getD (LP.loopers p) i []∧True)∧true=true∧List.length (LP.classes p)=List.length (LP.classes p)∧AllI fun (i:Nat)=>Nat.le (Nat.succ i) (List.length (LP.classes p))→LC.name (List.getD (LP.classes p) i (LC.mk [] [] []))=LC.name (List.getD (LP.classes p) i (LC.mk [] [] []))∧(true=true∧List.length (LC.names (List.getD (LP.classes p) i (LC.mk [] [] [])))=List.length (LC.names (List.getD (LP.classes p) i (LC.mk [] [] [])))∧AllI fun (i_1:Nat)=>Nat.le (Nat.succ i_1) (List.length (LC.names (List.getD (LP.classes p) i (LC.mk [] [] []))))→List.getD (LC.names (List.getD (LP.classes p) i (LC.mk [] [] []))) i_1 []=List.getD (LC.names (List.getD (LP.classes p) i (LC.mk [] [] []))) i_1 []∧True)∧(true=true∧List.length (LC.fields (List.getD (LP.classes p) i (LC.mk [] [] [])))=List.length (LC.fields (List.getD (LP.classes p) i (LC.mk [] [] [])))∧AllI fun (i_1:Nat)=>Nat.le (Nat.succ i_1) (List.length (LC.fields (List.getD (LP.classes p) i (LC.mk [] [] []))))→(true=true∧List.getD (LC.fields (List.getD (LP.classes p) i (LC.mk [] [] []))) i_1 (0:Int)=List.getD (LC.fields (List.getD (LP.classes p) i (LC.mk [] [] []))) i_1 (0:Int))∧True)∧True)∧true=true∧List.length (LP.globals p)=List.length (LP.globals p)∧AllI fun (i:Nat)=>Nat.le (Nat.succ i) (List.length (LP.globals p))→LG.name (List.getD (LP.globals p) i (LG.mk [] (0:Int)))=LG.name (List.getD (LP.globals p) i (LG.mk [] (0:Int)))∧(true=true∧LG.type (List.getD (LP.globals p) i (LG.mk [] (0:Int)))=LG.type (List.getD (LP.globals p) i (LG.mk [] (0:Int))))∧True)∧true=true∧List.length (LP.funcs p)=List.length (LP.funcs p)∧AllI fun (i:Nat)=>Nat.le (Nat.succ i) (List.length (LP.funcs p))→LF.name (List.getD (LP.funcs p) i (LF.mk [] (0:Int) (0:Int) []))=LF.name (List.getD (LP.funcs p) i (LF.mk [] (0:Int) (0:Int) []))∧(true=true∧LF.cap (List.getD (LP.funcs p) i (LF.mk [] (0:Int) (0:Int) []))=LF.cap (List.getD (LP.funcs p) i (LF.mk [] (0:Int) (0:Int) [])))∧(true=true∧LF.regs (List.getD (LP.funcs p) i (LF.mk [] (0:Int) (0:Int) []))=LF.regs (List.getD (LP.funcs p) i (LF.mk [] (0:Int) (0:Int) [])))∧(true=true∧List.length (LF.code (List.getD (LP.funcs p) i (LF.mk [] (0:Int) (0:Int) [])))=List.length (LF.code (List.getD (LP.funcs p) i (LF.mk [] (0:Int) (0:Int) [])))∧AllI fun (i_1:Nat)=>Nat.le (Nat.succ i_1) (List.length (LF.code (List.getD (LP.funcs p) i (LF.mk [] (0:Int) (0:Int) []))))→(true=true∧LI.op (List.getD (LF.code (List.getD (LP.funcs p) i (LF.mk [] (0:Int) (0:Int) []))) i_1 LI.none)=LI.op (List.getD (LF.code (List.getD (LP.funcs p) i (LF.mk [] (0:Int) (0:Int) []))) i_1 LI.none))∧(true=true∧LI.a (List.getD (LF.code (List.getD (LP.funcs p) i (LF.mk [] (0:Int) (0:Int) []))) i_1 LI.none)=LI.a (List.getD (LF.code (List.getD (LP.funcs p) i (LF.mk [] (0:Int) (0:Int) []))) i_1 LI.none))∧(true=true∧LI.b (List.getD (LF.code (List.getD (LP.funcs p) i (LF.mk [] (0:Int) (0:Int) []))) i_1 LI.none)=LI.b (List.getD (LF.code (List.getD (LP.funcs p) i (LF.mk [] (0:Int) (0:Int) []))) i_1 LI.none))∧(true=true∧LI.c (List.getD (LF.code (List.getD (LP.funcs p) i (LF.mk [] (0:Int) (0:Int) []))) i_1 LI.none)=LI.c (List.getD (LF.code (List.getD (LP.funcs p) i (LF.mk [] (0:Int) (0:Int) []))) i_1 LI.none))∧(true=true∧LI.n (List.getD (LF.code (List.getD (LP.funcs p) i (LF.mk [] (0:Int) (0:Int) []))) i_1 LI.none)=LI.n (List.getD (LF.code (List.getD (LP.funcs p) i (LF.mk [] (0:Int) (0:Int) []))) i_1 LI.none))∧(true=true∧List.length (LI.l (List.getD (LF.code (List.getD (LP.funcs p) i (LF.mk [] (0:Int) (0:Int) []))) i_1 LI.none))=List.length (LI.l (List.getD (LF.code (List.getD (LP.funcs p) i (LF.mk [] (0:Int) (0:Int) []))) i_1 LI.none))∧AllI fun (i_2:Nat)=>Nat.le (Nat.succ i_2) (List.length (LI.l (List.getD (LF.code (List.getD (LP.funcs p) i (LF.mk [] (0:Int) (0:Int) []))) i_1 LI.none)))→(true=true∧List.getD (LI.l (List.getD (LF.code (List.getD (LP.funcs p) i (LF.mk [] (0:Int) (0:Int) []))) i_1 LI.none)) i_2 (0:Int)=List.getD (LI.l (List.getD (LF.code (List.getD (LP.funcs p) i (LF.mk [] (0:Int) (0:Int) []))) i_1 LI.none)) i_2 (0:Int))∧True)∧(true=true∧LI.site (List.getD (LF.code (List.getD (LP.funcs p) i (LF.mk [] (0:Int) (0:Int) []))) i_1 LI.none)=LI.site (List.getD (LF.code (List.getD (LP.funcs p) i (LF.mk [] (0:Int) (0:Int) []))) i_1 LI.none))∧(true=true∧LI.line (List.getD (LF.code (List.getD (LP.funcs p) i (LF.mk [] (0:Int) (0:Int) []))) i_1 LI.none)=LI.line (List.getD (LF.code (List.getD (LP.funcs p) i (LF.mk [] (0:Int) (0:Int) []))) i_1 LI.none))∧True)∧True)∧true=true∧List.length (LP.comps p)=List.length (LP.comps p)∧AllI fun (i:Nat)=>Nat.le (Nat.succ i) (List.length (LP.comps p))→LM.name (List.getD (LP.comps p) i (LM.mk [] (0:Int) (0:Int) (0:Int) (0:Int) (0:Int)))=LM.name (List.getD (LP.comps p) i (LM.mk [] (0:Int) (0:Int) (0:Int) (0:Int) (0:Int)))∧(true=true∧LM.looper (List.getD (LP.comps p) i (LM.mk [] (0:Int) (0:Int) (0:Int) (0:Int) (0:Int)))=LM.looper (List.getD (LP.comps p) i (LM.mk [] (0:Int) (0:Int) (0:Int) (0:Int) (0:Int))))∧(true=true∧LM.f0 (List.getD (LP.comps p) i (LM.mk [] (0:Int) (0:Int) (0:Int) (0:Int) (0:Int)))=LM.f0 (List.getD (LP.comps p) i (LM.mk [] (0:Int) (0:Int) (0:Int) (0:Int) (0:Int))))∧(true=true∧LM.f1 (List.getD (LP.comps p) i (LM.mk [] (0:Int) (0:Int) (0:Int) (0:Int) (0:Int)))=LM.f1 (List.getD (LP.comps p) i (LM.mk [] (0:Int) (0:Int) (0:Int) (0:Int) (0:Int))))∧(true=true∧LM.f2 (List.getD (LP.comps p) i (LM.mk [] (0:Int) (0:Int) (0:Int) (0:Int) (0:Int)))=LM.f2 (List.getD (LP.comps p) i (LM.mk [] (0:Int) (0:Int) (0:Int) (0:Int) (0:Int))))∧(true=true∧LM.f3 (List.getD (LP.comps p) i (LM.mk [] (0:Int) (0:Int) (0:Int) (0:Int) (0:Int)))=LM.f3 (List.getD (LP.comps p) i (LM.mk [] (0:Int) (0:Int) (0:Int) (0:Int) (0:Int))))∧True)∧true=true∧List.length (LP.events p)=List.length (LP.events p)∧AllI fun (i:Nat)=>Nat.le (Nat.succ i) (List.length (LP.events p))→LE.name (List.getD (LP.events p) i (LE.mk [] (0:Int) false (0:Int)))=LE.name (List.getD (LP.events p) i (LE.mk [] (0:Int) false (0:Int)))∧(true=true∧LE.looper (List.getD (LP.events p) i (LE.mk [] (0:Int) false (0:Int)))=LE.looper (List.getD (LP.events p) i (LE.mk [] (0:Int) false (0:Int))))∧LE.on (List.getD (LP.events p) i (LE.mk [] (0:Int) false (0:Int)))=LE.on (List.getD (LP.events p) i (LE.mk [] (0:Int) false (0:Int)))∧(true=true∧LE.func (List.getD (LP.events p) i (LE.mk [] (0:Int) false (0:Int)))=LE.func (List.getD (LP.events p) i (LE.mk [] (0:Int) false (0:Int))))∧True)∧true=true∧LP.main p=LP.main p)∧true=true∧List.length (LP.sites p)=List.length (LP.sites p)∧AllI fun (i:Nat)=>Nat.le (Nat.succ i) (List.length (LP.sites p))→(true=true∧LS.func (List.getD (LP.sites p) i (LS.mk (0:Int) (0:Int)))=LS.func (List.getD (LP.sites p) i (LS.mk (0:Int) (0:Int))))∧(true=true∧LS.at_ (List.getD (LP.sites p) i (LS.mk (0:Int) (0:Int)))=LS.at_ (List.getD (LP.sites p) i (LS.mk (0:Int) (0:Int))))∧True)∧(true=true∧true=true∧true=true∧true=true∧(((True∧LF.name f=LF.name f)∧true=true∧LF.cap f=LF.cap f)∧true=true∧LF.regs f=LF.regs f)∧true=true∧List.length (LF.code f)=List.length (LF.code f)∧AllI fun (i:Nat)=>Nat.le (Nat.succ i) (List.length (LF.code f))→(true=true∧LI.op (List.getD (LF.code f) i LI.none)=LI.op (List.getD (LF.code f) i LI.none))∧(true=true∧LI.a (List.getD (LF.code f) i LI.none)=LI.a (List.getD (LF.code f) i LI.none))∧(true=true∧LI.b (List.getD (LF.code f) i LI.none)=LI.b (List.getD (LF.code f) i LI.none))∧(true=true∧LI.c (List.getD (LF.code f) i LI.none)=LI.c (List.getD (LF.code f) i LI.none))∧(true=true∧LI.n (List.getD (LF.code f) i LI.none)=LI.n (List.getD (LF.code f) i LI.none))∧(true=true∧List.length (LI.l (List.getD (LF.code f) i LI.none))=List.length (LI.l (List.getD (LF.code f) i LI.none))∧AllI fun (i_1:Nat)=>Nat.le (Nat.succ i_1) (List.length (LI.l (List.getD (LF.code f) i LI.none)))→(true=true∧List.getD (LI.l (List.getD (LF.code f) i LI.none)) i_1 (0:Int)=List.getD (LI.l (List.getD (LF.code f) i LI.none)) i_1 (0:Int))∧True)∧(true=true∧LI.site (List.getD (LF.code f) i LI.none)=LI.site (List.getD (LF.code f) i LI.none))∧(true=true∧LI.line (List.getD (LF.code f) i LI.none)=LI.line (List.getD (LF.code f) i LI.none))∧True)∧(true=true∧true=true∧true=true∧true=true∧(((((((True∧true=true∧LI.op x=LI.op x)∧true=true∧LI.a x=LI.a x)∧true=true∧LI.b x=LI.b x)∧true=true∧LI.c x=LI.c x)∧true=true∧LI.n x=LI.n x)∧true=true∧List.length (LI.l x)=List.length (LI.l x)∧AllI fun (i:Nat)=>Nat.le (Nat.succ i) (List.length (LI.l x))→(true=true∧List.getD (LI.l x) i (0:Int)=List.getD (LI.l x) i (0:Int))∧True)∧true=true∧LI.site x=LI.site x)∧true=true∧LI.line x=LI.line x)∧(true=true∧True)∧True
@[reducible] def JrB_runInstrR_k1:LP→LF→LI→Prop:=fun (p:LP) (f:LF) (x:LI)=>RegOK f x∧true=true∧((some 0=some 0∧true=true)∧(some 1=some 1∧true=true)∧(some 2=some 2∧true=true)∧True)∧JrB_runInstrR_k0 p f x
theorem runInstrR_r:∀ (p:LP) (f:LF) (x:LI),Nat.le (List.length (LI.l x)) 2000000→brP (ilt (LI.op x) (1:Int)) (false=instrB p f x) (brP (ilt (33:Int) (LI.op x)) (false=instrB p f x) ((True∧brP (ilt (0:Int) (barr (named (LI.op x)))) (True∧(((True∧True∧True)∧True)∧((True∧True∧True)∧True)∧True)∧brP (!bar (inb (LI.a x) (LF.regs f))) (false=instrB p f x) (True∧brP (ilt (1:Int) (barr (named (LI.op x)))) (True∧(((True∧True∧True)∧True)∧((True∧True∧True)∧True)∧True)∧brP (!bar (inb (LI.b x) (LF.regs f))) (false=instrB p f x) (True∧brP (ilt (2:Int) (barr (named (LI.op x)))) (True∧(((True∧True∧True)∧True)∧((True∧True∧True)∧True)∧True)∧brP (!bar (inb (LI.c x) (LF.regs f))) (false=instrB p f x) (True∧brP (ilt (3:Int) (barr (named (LI.op x)))) False (∃ (x_1:Unit),JrB_runInstrR_k1 p f x))) (∃ (x_1:Unit),JrB_runInstrR_k1 p f x))) (∃ (x_1:Unit),JrB_runInstrR_k1 p f x))) (∃ (x_1:Unit),JrB_runInstrR_k1 p f x))∧∀ (x_1:Unit),RegOK f x→(∃ (x0:Nat),LOK f x x0∧true=true∧((true=true∧(0:Int)=(↑x0:Int))∧(some 0=some 0∧true=true)∧(some 1=some 1∧true=true)∧(some 2=some 2∧true=true)∧True)∧JrB_runInstrR_k0 p f x)∧∀ (x_2:Nat),LOK f x x_2→brP (ilt (↑x_2:Int) (Int.ofNat (List.length (LI.l x)))) (brP (!ieq (LI.op x) (21:Int)) ((((True∧True)∧True)∧True)∧false=instrB p f x) (sdA (inB (↑x_2:Int) (List.length (LI.l x))) (True∧(((True∧True∧True∧True∧True)∧True)∧((True∧True∧True∧True∧True)∧True)∧True)∧brP (!bar (inb (List.getD (LI.l x) (Int.toNat (↑x_2:Int)) (0:Int)) (LF.regs f))) (false=instrB p f x) (sdA (inR IntKind.i64 ((↑x_2:Int) + (1:Int))) (∃ (x':Nat),LOK f x x'∧Nat.le (Nat.succ (List.length (LI.l x) - x')) (List.length (LI.l x) - x_2)∧true=true∧((true=true∧(↑x_2:Int) + (1:Int)=(↑x':Int))∧(some 0=some 0∧true=true)∧(some 1=some 1∧true=true)∧(some 2=some 2∧true=true)∧True)∧JrB_runInstrR_k0 p f x))))) (brP (ieq (LI.op x) (9:Int)) (True∧bar (inb (LI.n x) (Int.ofNat (List.length (LP.globals p))))=instrB p f x) (brP (ieq (LI.op x) (10:Int)) (True∧bar (inb (LI.n x) (Int.ofNat (List.length (LP.globals p))))=instrB p f x) (brP (ieq (LI.op x) (14:Int)) (True∧bar (inb (LI.n x) (Int.ofNat (List.length (LP.classes p))))=instrB p f x) (brP (ieq (LI.op x) (21:Int)) (True∧brP (bar (inb (LI.n x) (Int.ofNat (List.length (LP.funcs p))))) (sdA (inB (LI.n x) (List.length (LP.funcs p))) ((((True∧True∧True∧True∧True∧True∧True∧True∧True)∧True)∧((True∧True∧True∧True∧True∧True∧True∧True∧True)∧True)∧True)∧ieq (LF.cap (List.getD (LP.funcs p) (Int.toNat (LI.n x)) (LF.mk [] (0:Int) (0:Int) []))) (Int.ofNat (List.length (LI.l x)))=instrB p f x)) ((((True∧True∧True∧True)∧True)∧((True∧True∧True∧True)∧True)∧True)∧false=instrB p f x)) (brP (ieq (LI.op x) (23:Int)) (True∧brP (bar (inb (LI.c x) (Int.ofNat (List.length (LP.loopers p))))) (True∧bar (inb (LI.n x) (1000001:Int))=instrB p f x) (false=instrB p f x)) (brP (ieq (LI.op x) (24:Int)) (True∧bar (inb (LI.c x) (Int.ofNat (List.length (LP.loopers p))))=instrB p f x) (brP (ieq (LI.op x) (26:Int)) (True∧bar (inb (LI.n x) (Int.ofNat (List.length (LP.events p))))=instrB p f x) (brP (ieq (LI.op x) (27:Int)) (True∧bar (inb (LI.n x) (Int.ofNat (List.length (LP.events p))))=instrB p f x) (brP (ieq (LI.op x) (31:Int)) (True∧bar (inb (LI.n x) (Int.ofNat (List.length (LF.code f))))=instrB p f x) (brP (ieq (LI.op x) (32:Int)) (True∧bar (inb (LI.n x) (Int.ofNat (List.length (LF.code f))))=instrB p f x) (true=instrB p f x)))))))))))))
:= by
 intro p f x hl
 simp only [barr_eq,bar_eq,true_and,and_true,eq_self,implies_true,Nat.le_eq,cond_tf,cond_cf,nif_tf,Int.toNat_natCast,Int.ofNat_eq_natCast,Nat.ble_eq,Nat.ble_self_eq_true,Bool.true_and,Bool.and_true,Bool.and_self,Option.some.injEq,AV.int.injEq,rowB_self,allBR_self,Nat.mul_one,Nat.beq_refl,allI_true,cond_true,cond_false,ieq_self,Bool.not_true,Bool.not_false,decide_true,brP_f,brP_t,sdA_t,bytesL_packL,List.nil_append,JrB_runInstrR_k0,JrB_runInstrR_k1]
 have hl:x.l.length≤2000000:=hl
 refine brP_of (fun h=>?_) (fun h=>brP_of (fun h'=>?_) (fun h'=>⟨?_,fun _ hr=>⟨⟨0,⟨Nat.zero_le _,fun _ h=>absurd h (Nat.not_lt_zero _)⟩,rfl⟩,fun k hk=>brP_of (fun h1=>?_) (fun h1=>?_)⟩⟩))
 ·unfold instrB;rw [decide_eq_false (show ¬ 1≤x.op by have:=ilt_iff.1 h;omega)];rfl
 ·unfold instrB;rw [decide_eq_false (show ¬ x.op≤33 by have:=ilt_iff.1 h';omega)];simp
 ·have hn:=named_le x.op
  refine brP_of (fun a1=>brP_of (fun a2=>?_) (fun a2=>brP_of (fun b1=>brP_of (fun b2=>?_) (fun b2=>brP_of (fun c1=>brP_of (fun c2=>?_) (fun c2=>brP_of (fun d1=>?_) (fun d1=>?_))) (fun c1=>?_))) (fun b1=>?_))) (fun a1=>?_)
  all_goals simp only [ilt_iff,ilt_iffn,Bool.not_eq_true',Bool.not_eq_false'] at *
  ·rw [instr_miss];unfold regsB;simp [a2,a1]
  ·rw [instr_miss];unfold regsB;simp [b2,b1]
  ·rw [instr_miss];unfold regsB;simp [c2,c1]
  ·omega
  ·exact ⟨(),⟨fun _=>a2,fun _=>b2,fun _=>c2⟩⟩
  ·exact ⟨(),⟨fun _=>a2,fun _=>b2,fun _=>by omega⟩⟩
  ·exact ⟨(),⟨fun _=>a2,fun _=>by omega,fun _=>by omega⟩⟩
  ·exact ⟨(),⟨fun _=>by omega,fun _=>by omega,fun _=>by omega⟩⟩
 ·have hk':k < x.l.length:=by have:=ilt_iff.1 h1;omega
  refine brP_of (fun a1=>?_) (fun a1=>sdA_of (inB_iff.2 ⟨by omega,by omega⟩) (brP_of (fun a2=>?_) (fun a2=>?_)))
  all_goals simp only [ieq_iff,ieq_iffn,Bool.not_eq_true',Bool.not_eq_false'] at a1
  ·rw [instr_miss (regs_l hk' (fun h=>a1 h.1))]
  ·rw [instr_miss (regs_l hk' (fun h=>by rw [h.2] at a2;cases a2))]
  ·refine sdA_of (inR_i64.2 ⟨by omega,by omega⟩) ⟨k + 1,⟨hk',fun j hj=>?_⟩,by omega,by simp⟩
   rcases Nat.lt_succ_iff_lt_or_eq.1 hj with h3 | rfl
   ·exact hk.al j h3
   ·exact ⟨a1,by simpa using a2⟩
 ·have hk':=ilt_iffn.1 h1
  have hi:instrB p f x=nameB p f x:=by
   unfold instrB
   rw [regs_all hr hk (by have:=hk.le;omega),decide_eq_true (show 1≤x.op by have:=ilt_iffn.1 h;omega),decide_eq_true (show x.op≤33 by have:=ilt_iffn.1 h';omega)]
   rfl
  rw [hi]
  unfold nameB
  refine brP_of (fun g=>by rw [if_pos (ieq_iff.1 g)]) (fun g=>?_)
  rw [if_neg (ieq_iffn.1 g)]
  refine brP_of (fun g=>by rw [if_pos (ieq_iff.1 g)]) (fun g=>?_)
  rw [if_neg (ieq_iffn.1 g)]
  refine brP_of (fun g=>by rw [if_pos (ieq_iff.1 g)]) (fun g=>?_)
  rw [if_neg (ieq_iffn.1 g)]
  refine brP_of (fun g=>?_) (fun g=>?_)
  ·rw [if_pos (ieq_iff.1 g)]
   refine brP_of (fun g2=>?_) (fun g2=>by rw [g2];rfl)
   have g3:0≤x.n∧x.n < p.funcs.length:=by simpa [inb] using g2
   exact sdA_of (inB_iff.2 g3) (by rw [g2,ieq_eq];rfl)
  rw [if_neg (ieq_iffn.1 g)]
  refine brP_of (fun g=>?_) (fun g=>?_)
  ·rw [if_pos (ieq_iff.1 g)]
   exact brP_of (fun g2=>by rw [g2];rfl) (fun g2=>by rw [g2];rfl)
  rw [if_neg (ieq_iffn.1 g)]
  refine brP_of (fun g=>by rw [if_pos (ieq_iff.1 g)]) (fun g=>?_)
  rw [if_neg (ieq_iffn.1 g)]
  refine brP_of (fun g=>by rw [if_pos (ieq_iff.1 g)]) (fun g=>?_)
  rw [if_neg (ieq_iffn.1 g)]
  refine brP_of (fun g=>by rw [if_pos (ieq_iff.1 g)]) (fun g=>?_)
  rw [if_neg (ieq_iffn.1 g)]
  refine brP_of (fun g=>by rw [if_pos (ieq_iff.1 g)]) (fun g=>?_)
  rw [if_neg (ieq_iffn.1 g)]
  refine brP_of (fun g=>by rw [if_pos (ieq_iff.1 g)]) (fun g=>?_)
  rw [if_neg (ieq_iffn.1 g)]
theorem runInstrR:∀ (p:LP) (f:LF) (x:LI),x.l.length≤2000000→(cRun (cxI f x) 100).call 9 [.agg (LP.row p),.agg (LF.row f),.agg (LI.row x)] .leaf 0 (ResM Tryz.prog false (.bool (instrB p f x))) :=
 Eq.mpr (by kernel_rfl) runInstrR_r
end Go.Proofs.YtedpjdkikbgojaaGreatDoor
section
set_option linter.unusedVariables false
set_option linter.unusedSimpArgs false
set_option maxRecDepth 100000
open Go Go.Ev
namespace Go.Proofs.YtedpjdkikbgojaaGreatDoor
def decR {α:Type} (d:List AV→α) (n:Nat) (h:Nat→List AV):List α:=(List.range n).map fun i=>d (h i)
theorem decR_eq {α:Type} {d:List AV→α} {row:α→List AV} (z:α) (hd:∀ x,d (row x)=x) (l:List α):decR d l.length (fun i=>row (l.getD i z))=l:=by
 apply List.ext_getElem
 ·simp [decR]
 ·intro i h1 h2
  simp [decR,hd,List.getD_eq_getElem?_getD,List.getElem?_eq_getElem h2]
def dB (l:List AV):List UInt8:=match l with
 | [.bs b]=>b
 | _=>[]
def dLI (l:List AV):LI:=match l with
 | [.int _ o,.int _ a,.int _ b,.int _ c,.int _ n,.vec _ m f,.int _ s,.int _ t]=>⟨o,a,b,c,n,rowL m f,s,t⟩
 | _=>LI.none
def dLF (l:List AV):LF:=match l with
 | [.bs nm,.int _ c,.int _ r,.vec _ n h]=>⟨nm,c,r,decR dLI n h⟩
 | _=>⟨[],0,0,[]⟩
def dLC (l:List AV):LC:=match l with
 | [.bs nm,.vec _ n h,.vec _ m g]=>⟨nm,decR dB n h,rowL m g⟩
 | _=>⟨[],[],[]⟩
def dLG (l:List AV):LG:=match l with
 | [.bs nm,.int _ t]=>⟨nm,t⟩
 | _=>⟨[],0⟩
def dLM (l:List AV):LM:=match l with
 | [.bs nm,.int _ a,.int _ b,.int _ c,.int _ d,.int _ e]=>⟨nm,a,b,c,d,e⟩
 | _=>⟨[],0,0,0,0,0⟩
def dLE (l:List AV):LE:=match l with
 | [.bs nm,.int _ a,.bool b,.int _ c]=>⟨nm,a,b,c⟩
 | _=>⟨[],0,false,0⟩
def dLS (l:List AV):LS:=match l with
 | [.int _ a,.int _ b]=>⟨a,b⟩
 | _=>⟨0,0⟩
def dLP (l:List AV):LP:=match l with
 | [.vec _ n1 h1,.vec _ n2 h2,.vec _ n3 h3,.vec _ n4 h4,.vec _ n5 h5,.vec _ n6 h6,.int _ m,.vec _ n7 h7]=>⟨decR dB n1 h1,decR dLC n2 h2,decR dLG n3 h3,decR dLF n4 h4,decR dLM n5 h5,decR dLE n6 h6,m,decR dLS n7 h7⟩
 | _=>⟨[],[],[],[],[],[],0,[]⟩
theorem dLI_row (x:LI):dLI (LI.row x)=x:=by
 cases x;simp only [LI.row,dLI,rowL_rI]
theorem dLF_row (x:LF):dLF (LF.row x)=x:=by
 cases x with | mk nm c r code=>exact congrArg (LF.mk nm c r) (decR_eq LI.none dLI_row code)
theorem dB_rows (l:List (List UInt8)):decR dB l.length (rB l)=l:=decR_eq (row:=fun b=>[.bs b]) [] (fun _=>rfl) l
theorem dLC_row (x:LC):dLC (LC.row x)=x:=by
 cases x;simp only [LC.row,dLC,rowL_rI,dB_rows]
theorem dLG_rows (l:List LG):decR dLG l.length (rLG l)=l:=decR_eq (row:=fun x:LG=>[.bs x.name,.int .i64 x.type]) ⟨[],0⟩ (fun _=>rfl) l
theorem dLS_rows (l:List LS):decR dLS l.length (rLS l)=l:=decR_eq (row:=fun x:LS=>[.int .i64 x.func,.int .i64 x.at_]) ⟨0,0⟩ (fun _=>rfl) l
theorem dLP_row (x:LP):dLP (LP.row x)=x:=by
 cases x with
 | mk a b c d e f m s =>
  have h1:=dB_rows a
  have h2:decR dLC b.length (rLC b)=b:=decR_eq (row:=LC.row) ⟨[],[],[]⟩ dLC_row b
  have h3:=dLG_rows c
  have h4:decR dLF d.length (rLF d)=d:=decR_eq (row:=LF.row) ⟨[],0,0,[]⟩ dLF_row d
  have h5:decR dLM e.length (rLM e)=e:=decR_eq (row:=LM.row) ⟨[],0,0,0,0,0⟩ (fun _=>rfl) e
  have h6:decR dLE f.length (rLE f)=f:=decR_eq (row:=LE.row) ⟨[],0,false,0⟩ (fun _=>rfl) f
  have h7:=dLS_rows s
  simp only [LP.row,dLP,h1,h2,h3,h4,h5,h6,h7]
theorem vm_rB (l:List (List UInt8)) (i:Nat):vmL [] (rB l i) (rB l i):=⟨rfl,trivial⟩
theorem vm_LF (x:LF):vmL [] (LF.row x) (LF.row x):=⟨rfl,⟨rfl,rfl⟩,⟨rfl,rfl⟩,⟨rfl,rfl,⟨fun i _=>vm_LI _ i⟩⟩,trivial⟩
theorem vm_LC (x:LC):vmL [] (LC.row x) (LC.row x):=⟨rfl,⟨rfl,rfl,⟨fun i _=>vm_rB _ i⟩⟩,⟨rfl,rfl,⟨fun i _=>vm_rI _ i⟩⟩,trivial⟩
theorem vm_LIr (x:LI):vmL [] (LI.row x) (LI.row x):=vm_LI [x] 0
theorem vm_LP (p:LP):vmL [] (LP.row p) (LP.row p) :=
 ⟨⟨rfl,rfl,⟨fun i _=>vm_rB _ i⟩⟩,⟨rfl,rfl,⟨fun i _=>vm_LC _⟩⟩,⟨rfl,rfl,⟨fun i _=>⟨rfl,⟨rfl,rfl⟩,trivial⟩⟩⟩,⟨rfl,rfl,⟨fun i _=>vm_LF _⟩⟩,
  ⟨rfl,rfl,⟨fun i _=>⟨rfl,⟨rfl,rfl⟩,⟨rfl,rfl⟩,⟨rfl,rfl⟩,⟨rfl,rfl⟩,⟨rfl,rfl⟩,trivial⟩⟩⟩,⟨rfl,rfl,⟨fun i _=>⟨rfl,⟨rfl,rfl⟩,rfl,⟨rfl,rfl⟩,trivial⟩⟩⟩,⟨rfl,rfl⟩,
  ⟨rfl,rfl,⟨fun i _=>⟨⟨rfl,rfl⟩,⟨rfl,rfl⟩,trivial⟩⟩⟩,trivial⟩
noncomputable def eRoot:Tr AObj→List AV→Option Ct:=fun _ args=>match args with
 | [.agg l,.int .i64 f]=>some (.need (∃ p,l=LP.row p) (.ret (.bool (bar (isRoot (dLP l) f)))))
 | _=>none
noncomputable def eInstr:Tr AObj→List AV→Option Ct:=fun _ args=>match args with
 | [.agg l,.agg m,.agg n]=>some (.need (∃ p f x,l=LP.row p∧m=LF.row f∧n=LI.row x∧x.l.length≤2000000) (.ret (.bool (bar (instrB (dLP l) (dLF m) (dLI n))))))
 | _=>none
theorem okRootR:EntOK Tryz.prog 31 eRoot:=by
 refine ent_of2 (gl:=[]) (ng:=0) gl0 fun H args ct hct=>?_
 unfold eRoot at hct
 split at hct
 ·rename_i l f
  injection hct with hct;subst hct
  refine ⟨gl0,_,_,rfl,?_⟩
  rintro ⟨p,rfl⟩
  rw [dLP_row,bar_eq]
  exact ⟨⟨vm_LP p,⟨rfl,rfl⟩,trivial⟩,cx0,60,rfl,fol,tb_nil,runRootR p f⟩
 ·cases hct
theorem okInstrR:EntOK Tryz.prog 9 eInstr:=by
 refine ent_of2 (gl:=[]) (ng:=0) gl0 fun H args ct hct=>?_
 unfold eInstr at hct
 split at hct
 ·rename_i l m n
  injection hct with hct;subst hct
  refine ⟨gl0,_,_,rfl,?_⟩
  rintro ⟨p,f,x,rfl,rfl,rfl,hl⟩
  rw [dLP_row,dLF_row,dLI_row,bar_eq]
  exact ⟨⟨vm_LP p,vm_LF f,vm_LIr x,trivial⟩,cxI f x,100,rfl,fol,tb_cons okNamed (tb_cons okB2 tb_nil),runInstrR p f x hl⟩
 ·cases hct
end Go.Proofs.YtedpjdkikbgojaaGreatDoor
end
