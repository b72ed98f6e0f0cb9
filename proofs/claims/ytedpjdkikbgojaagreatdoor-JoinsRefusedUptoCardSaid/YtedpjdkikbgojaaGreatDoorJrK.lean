/- Laid by program out of its parts: JrK. -/
import Derived.Test.YtedpjdkikbgojaaGreatDoorJrJ
import Derived.Test.YtedpjdkikbgojaaGreatDoorMi
import Derived.Test.YtedpjdkikbgojaaGreatDoorMn
import Derived.ChangeSlices
import Derived.OpenShut
set_option linter.unusedVariables false
set_option linter.unusedSimpArgs false
set_option maxRecDepth 100000
open Go Go.Ev
namespace Go.Proofs.YtedpjdkikbgojaaGreatDoor
noncomputable def eK (gz:Go.EvC.GZ):Tr AObj→List AV→Option Ct:=fun H args=>match args with
 | []=>cond (selG gz H) (some (.need True (.ret (.bool true)))) none
 | _=>none
def gz0:Go.EvC.GZ:=[(0,.u8,[0,1,56,2,57,49,28,3,61,58,42,50,38,29,17,4,62,47,59,36,45,43,51,22,53,39,33,30,24,18,12,5,63,55,48,27,60,41,37,16,46,35,44,21,52,32,23,11,54,26,40,15,34,20,31,10,25,14,19,9,13,8,7,6])]
noncomputable def eNew:Tr AObj→List AV→Option Ct:=fun _ args=>match args with
 | [.agg l]=>some (.need (∃ p,l=LP.row p∧LP.Small p∧mayB p=false) (.ret (.tup [.ptr0,.int .i64 2])))
 | _=>none
noncomputable def tbZ (gz:Go.EvC.GZ):Tbl:=[(6,eK gz),(4,eMuch),(5,eMayR),(35,eNew)]
noncomputable def cxZ (gz:Go.EvC.GZ):Ctx:={ P:=Tryz.prog,tb:=tbZ gz,lp:=fun _ _=>none,cut:=fun _ _=>none }
theorem okNoCopy:EntOK Tryz.prog 63 eNo:=by
 intro H args ct hct p v hout
 injection hct with hct;subst hct
 obtain ⟨h,_,_⟩:=ctOut_need hout
 exact h.elim
theorem okNew:EntOK Tryz.prog 35 eNew:=by
 refine ent_of2 (gl:=[]) (ng:=0) gl0 fun H args ct hct=>?_
 unfold eNew at hct
 split at hct
 ·rename_i l
  injection hct with hct;subst hct
  refine ⟨gl0,_,_,rfl,?_⟩
  rintro ⟨p,rfl,hs,hm⟩
  exact ⟨⟨vm_LP p,trivial⟩,cxN p,100,rfl,fol,tb_cons okBelow (tb_cons (okSite runSiteS) (tb_cons okReg (tb_cons okNoCopy tb_nil))),runNew p hs hm⟩
 ·cases hct
theorem runLaw_r:∀ (p:LP),LP.Small p→Nat.le (muchN p) 2000000→(∃ (p_1:LP),[AV.vec 1 (List.length (LP.loopers p)) (rB (LP.loopers p)),AV.vec 3 (List.length (LP.classes p)) (rLC (LP.classes p)),AV.vec 2 (List.length (LP.globals p)) (rLG (LP.globals p)),AV.vec 4 (List.length (LP.funcs p)) (rLF (LP.funcs p)),AV.vec 6 (List.length (LP.comps p)) (rLM (LP.comps p)),AV.vec 4 (List.length (LP.events p)) (rLE (LP.events p)),AV.int IntKind.i64 (LP.main p),AV.vec 2 (List.length (LP.sites p)) (rLS (LP.sites p))]=LP.row p_1∧Nat.le (muchN p_1) 2000000)∧brP (bar (decide (3000 < muchN (dLP [AV.vec 1 (List.length (LP.loopers p)) (rB (LP.loopers p)),AV.vec 3 (List.length (LP.classes p)) (rLC (LP.classes p)),AV.vec 2 (List.length (LP.globals p)) (rLG (LP.globals p)),AV.vec 4 (List.length (LP.funcs p)) (rLF (LP.funcs p)),AV.vec 6 (List.length (LP.comps p)) (rLM (LP.comps p)),AV.vec 4 (List.length (LP.events p)) (rLE (LP.events p)),AV.int IntKind.i64 (LP.main p),AV.vec 2 (List.length (LP.sites p)) (rLS (LP.sites p))])))) (True∧true=true) ((∃ (p_1:LP),[AV.vec 1 (List.length (LP.loopers p)) (rB (LP.loopers p)),AV.vec 3 (List.length (LP.classes p)) (rLC (LP.classes p)),AV.vec 2 (List.length (LP.globals p)) (rLG (LP.globals p)),AV.vec 4 (List.length (LP.funcs p)) (rLF (LP.funcs p)),AV.vec 6 (List.length (LP.comps p)) (rLM (LP.comps p)),AV.vec 4 (List.length (LP.events p)) (rLE (LP.events p)),AV.int IntKind.i64 (LP.main p),AV.vec 2 (List.length (LP.sites p)) (rLS (LP.sites p))]=LP.row p_1∧LP.Small p_1)∧brP (bar (mayB (dLP [AV.vec 1 (List.length (LP.loopers p)) (rB (LP.loopers p)),AV.vec 3 (List.length (LP.classes p)) (rLC (LP.classes p)),AV.vec 2 (List.length (LP.globals p)) (rLG (LP.globals p)),AV.vec 4 (List.length (LP.funcs p)) (rLF (LP.funcs p)),AV.vec 6 (List.length (LP.comps p)) (rLM (LP.comps p)),AV.vec 4 (List.length (LP.events p)) (rLE (LP.events p)),AV.int IntKind.i64 (LP.main p),AV.vec 2 (List.length (LP.sites p)) (rLS (LP.sites p))]))) (True∧true=true) ((∃ (p_1:LP),[AV.vec 1 (List.length (LP.loopers p)) (rB (LP.loopers p)),AV.vec 3 (List.length (LP.classes p)) (rLC (LP.classes p)),AV.vec 2 (List.length (LP.globals p)) (rLG (LP.globals p)),AV.vec 4 (List.length (LP.funcs p)) (rLF (LP.funcs p)),AV.vec 6 (List.length (LP.comps p)) (rLM (LP.comps p)),AV.vec 4 (List.length (LP.events p)) (rLE (LP.events p)),AV.int IntKind.i64 (LP.main p),AV.vec 2 (List.length (LP.sites p)) (rLS (LP.sites p))]=LP.row p_1∧LP.Small p_1∧mayB p_1=false)∧True∧true=true))
:= by
 intro p hs hm
 simp only [barr_eq,bar_eq,true_and,and_true,eq_self,implies_true,Nat.le_eq,cond_tf,cond_cf,nif_tf,Int.toNat_natCast,Int.ofNat_eq_natCast,Nat.ble_eq,Nat.ble_self_eq_true,Bool.true_and,Bool.and_true,Bool.and_self,Option.some.injEq,AV.int.injEq,rowB_self,allBR_self,Nat.mul_one,Nat.beq_refl,allI_true,cond_true,cond_false,ieq_self,Bool.not_true,Bool.not_false,decide_true,brP_f,brP_t,sdA_t,bytesL_packL,List.nil_append]
 have hd:dLP [AV.vec 1 p.loopers.length (rB p.loopers),AV.vec 3 p.classes.length (rLC p.classes),AV.vec 2 p.globals.length (rLG p.globals),AV.vec 4 p.funcs.length (rLF p.funcs),AV.vec 6 p.comps.length (rLM p.comps),AV.vec 4 p.events.length (rLE p.events),AV.int IntKind.i64 p.main,AV.vec 2 p.sites.length (rLS p.sites)]=p:=dLP_row p
 simp only [hd]
 exact ⟨⟨p,rfl,hm⟩,brP_of (fun _=>trivial) fun _=>⟨⟨p,rfl,hs⟩,brP_of (fun _=>trivial) fun h=>⟨p,rfl,hs,h⟩⟩⟩
theorem runLaw:∀ (p:LP),LP.Small p→muchN p≤2000000→(cRun (cxZ gz0) 100).call 3 [.agg (LP.row p)] (mkH (gzT gz0)) 1 (ResM Tryz.prog false (.bool true)) :=
 Eq.mpr (by kernel_rfl) runLaw_r
theorem okLaw (hk:EntOK Tryz.prog 6 (eK gz0)):EntOK Tryz.prog 3 (fun H args=>match args with
  | [.agg l]=>cond (selG gz0 H) (some (.need (∃ p,l=LP.row p∧LP.Small p∧muchN p≤2000000) (.ret (.bool true)))) none
  | _=>none):=by
 refine ent_of2 (gl:=gzT gz0) (ng:=1) (gzT_gl gz0) fun H args ct hct=>?_
 split at hct
 ·rename_i l
  cases hs:selG gz0 H with
  | false=>rw [hs] at hct;cases hct
  | true =>
   rw [hs] at hct
   injection hct with hct;subst hct
   refine ⟨selG_gl hs,_,_,rfl,?_⟩
   rintro ⟨p,rfl,h1,h2⟩
   exact ⟨⟨vm_LP p,trivial⟩,cxZ gz0,100,rfl,fol,tb_cons hk (tb_cons okMuch (tb_cons okMayR (tb_cons okNew tb_nil))),runLaw p h1 h2⟩
 ·cases hct
end Go.Proofs.YtedpjdkikbgojaaGreatDoor
section
set_option linter.unusedVariables false
set_option linter.unusedSimpArgs false
set_option maxRecDepth 100000
open Go Go.Ev Go.RowKit Go.ChangeShapes
namespace Go.Proofs.YtedpjdkikbgojaaGreatDoor
def szO {α:Type} (_:α):Nat:=1
def szI (x:LI):Nat:=x.l.length + 1
def szF (f:LF):Nat:=sm szI f.code + 1
def szC (c:LC):Nat:=1
def szP (p:LP):Nat:=sm szO p.loopers + sm szC p.classes + sm szO p.globals + sm szF p.funcs + sm szO p.comps + sm szO p.events + sm szO p.sites
theorem int_arg {H:Type} {enc:TypeId×Value→H} {μ:DataW H→Nat} {t:TypeId} (ht:Tryz.prog.underlying t=some (.int .i64)) (hμ:Meas μ) {w:World} (cs:List Value) (m:Nat) (x:DataW H×List MemPlace)
  (h:DataW.trod enc Tryz.prog w 0 (fun _=>true) true m t cs=some x):∃ a:Int,VRL (wRen w) (intRow .i64 a) cs∧szO a≤μ x.1:=by
 obtain ⟨z,rfl,_,_⟩:=DataW.trod_int ht h
 exact ⟨z,.cons _ _ _ _ (.int _ _) .nil,hμ.one _⟩
theorem str_arg {H:Type} {enc:TypeId×Value→H} {μ:DataW H→Nat} {t:TypeId} (ht:Tryz.prog.underlying t=some .string) (hμ:Meas μ) {w:World} (cs:List Value) (m:Nat) (x:DataW H×List MemPlace)
  (h:DataW.trod enc Tryz.prog w 0 (fun _=>true) true m t cs=some x):∃ a:List UInt8,VRL (wRen w) [AV.bs a] cs∧szO a≤μ x.1:=by
 obtain ⟨s,rfl,_,_⟩:=DataW.trod_string ht h
 obtain ⟨z,rfl⟩:∃ l:List UInt8,s=⟨l.toArray⟩:=⟨s.data.toList,by simp⟩
 exact ⟨z,.cons _ _ _ _ (.bs _) .nil,hμ.one _⟩
theorem four_arg {H:Type} {enc:TypeId×Value→H} {w:World} {cs:List Value} {m:Nat} {x:DataW H×List MemPlace} (h:DataW.trod enc Tryz.prog w 0 (fun _=>true) true m 78 cs=some x) :
  ∃ a b c d:Int,cs=[.int .i64 a,.int .i64 b,.int .i64 c,.int .i64 d]:=by
 obtain ⟨xs,n,_,hx,hlen,hn,hel⟩:=DataW.trod_array (n:=4) (e:=3) (by kernel_rfl) h
 have hlc:cs.length=4:=hlen.trans (by kernel_rfl)
 have c:Tryz.prog.cellsOf 3=1:=by kernel_rfl
 match xs,hn with
 | [y0,y1,y2,y3],_ =>
 match cs,hlc with
 | [v0,v1,v2,v3],_ =>
 have h0:DataW.trod enc Tryz.prog w 0 (fun _=>true) true n 3 [v0]=some y0:=by simpa [c] using hel 0 (by decide)
 have h1:DataW.trod enc Tryz.prog w 0 (fun _=>true) true n 3 [v1]=some y1:=by simpa [c] using hel 1 (by decide)
 have h2:DataW.trod enc Tryz.prog w 0 (fun _=>true) true n 3 [v2]=some y2:=by simpa [c] using hel 2 (by decide)
 have h3:DataW.trod enc Tryz.prog w 0 (fun _=>true) true n 3 [v3]=some y3:=by simpa [c] using hel 3 (by decide)
 obtain ⟨z0,e0,_,_⟩:=DataW.trod_int (k:=.i64) (by kernel_rfl) h0
 obtain ⟨z1,e1,_,_⟩:=DataW.trod_int (k:=.i64) (by kernel_rfl) h1
 obtain ⟨z2,e2,_,_⟩:=DataW.trod_int (k:=.i64) (by kernel_rfl) h2
 obtain ⟨z3,e3,_,_⟩:=DataW.trod_int (k:=.i64) (by kernel_rfl) h3
 injection e0 with e0 _;injection e1 with e1 _;injection e2 with e2 _;injection e3 with e3 _
 subst e0;subst e1;subst e2;subst e3
 exact ⟨z0,z1,z2,z3,rfl⟩
theorem szO_len {α:Type} (l:List α):l.length≤sm szO l:=sm_len (fun _=>Nat.le_refl _) l
theorem li_arg {H:Type} {enc:TypeId×Value→H} {μ:DataW H→Nat} (hμ:Meas μ) {w:World} (cs:List Value) (m:Nat) (x:DataW H×List MemPlace)
  (h:DataW.trod enc Tryz.prog w 0 (fun _=>true) true m 43 cs=some x):∃ a:LI,VRL (wRen w) (LI.row a) cs∧szI a≤μ x.1:=by
 obtain ⟨xs,n,_,rfl,hl,hlen,hf⟩:=DataW.trod_struct Tryz.underlying43 h
 have hlc:cs.length=8:=hl.trans (by kernel_rfl)
 clear h
 match xs,hlen with
 | [y0,y1,y2,y3,y4,y5,y6,y7],_ =>
 match cs,hlc with
 | [v0,v1,v2,v3,v4,v5,v6,v7],_ =>
 have h0:DataW.trod enc Tryz.prog w 0 (fun _=>true) true n 40 [v0]=some y0:=by
  have c:Tryz.prog.cellsOf 40=1:=by kernel_rfl
  simpa [c] using hf 0 _ rfl
 obtain ⟨z0,e0,_,_⟩:=DataW.trod_int (k:=.i64) (by kernel_rfl) h0
 injection e0 with e0 _
 subst e0
 have h1:DataW.trod enc Tryz.prog w 0 (fun _=>true) true n 3 [v1]=some y1:=by
  have c:Tryz.prog.cellsOf 3=1:=by kernel_rfl
  simpa [c] using hf 1 _ rfl
 obtain ⟨z1,e1,_,_⟩:=DataW.trod_int (k:=.i64) (by kernel_rfl) h1
 injection e1 with e1 _
 subst e1
 have h2:DataW.trod enc Tryz.prog w 0 (fun _=>true) true n 3 [v2]=some y2:=by
  have c:Tryz.prog.cellsOf 3=1:=by kernel_rfl
  simpa [c] using hf 2 _ rfl
 obtain ⟨z2,e2,_,_⟩:=DataW.trod_int (k:=.i64) (by kernel_rfl) h2
 injection e2 with e2 _
 subst e2
 have h3:DataW.trod enc Tryz.prog w 0 (fun _=>true) true n 3 [v3]=some y3:=by
  have c:Tryz.prog.cellsOf 3=1:=by kernel_rfl
  simpa [c] using hf 3 _ rfl
 obtain ⟨z3,e3,_,_⟩:=DataW.trod_int (k:=.i64) (by kernel_rfl) h3
 injection e3 with e3 _
 subst e3
 have h4:DataW.trod enc Tryz.prog w 0 (fun _=>true) true n 2 [v4]=some y4:=by
  have c:Tryz.prog.cellsOf 2=1:=by kernel_rfl
  simpa [c] using hf 4 _ rfl
 obtain ⟨z4,e4,_,_⟩:=DataW.trod_int (k:=.i64) (by kernel_rfl) h4
 injection e4 with e4 _
 subst e4
 have h5:DataW.trod enc Tryz.prog w 0 (fun _=>true) true n 41 [v5]=some y5:=by
  have c:Tryz.prog.cellsOf 41=1:=by kernel_rfl
  simpa [c] using hf 5 _ rfl
 obtain ⟨z5,r5,g5⟩:=vec_argM (row:=intRow .i64) (sz:=szO) (d:=0) (esz:=1) (e:=3) (by decide) hμ (by kernel_rfl) (by kernel_rfl) (fun cs m x h=>int_arg (t:=3) (by kernel_rfl) hμ cs m x h) h5
 have h6:DataW.trod enc Tryz.prog w 0 (fun _=>true) true n 3 [v6]=some y6:=by
  have c:Tryz.prog.cellsOf 3=1:=by kernel_rfl
  simpa [c] using hf 6 _ rfl
 obtain ⟨z6,e6,_,_⟩:=DataW.trod_int (k:=.i64) (by kernel_rfl) h6
 injection e6 with e6 _
 subst e6
 have h7:DataW.trod enc Tryz.prog w 0 (fun _=>true) true n 3 [v7]=some y7:=by
  have c:Tryz.prog.cellsOf 3=1:=by kernel_rfl
  simpa [c] using hf 7 _ rfl
 obtain ⟨z7,e7,_,_⟩:=DataW.trod_int (k:=.i64) (by kernel_rfl) h7
 injection e7 with e7 _
 subst e7
 have hag:=hμ.ag [y0.1,y1.1,y2.1,y3.1,y4.1,y5.1,y6.1,y7.1]
 refine ⟨⟨z0,z1,z2,z3,z4,z5,z6,z7⟩,(.cons _ _ _ _ (.int _ _) (.cons _ _ _ _ (.int _ _) (.cons _ _ _ _ (.int _ _) (.cons _ _ _ _ (.int _ _) (.cons _ _ _ _ (.int _ _) (.cons _ _ _ _ r5 (.cons _ _ _ _ (.int _ _) (.cons _ _ _ _ (.int _ _) .nil)))))))),?_⟩
 show _≤μ (.agg [y0.1,y1.1,y2.1,y3.1,y4.1,y5.1,y6.1,y7.1])
 simp only [sm] at hag
 have o0:=hμ.one y0.1
 have o1:=hμ.one y1.1
 have o2:=hμ.one y2.1
 have o3:=hμ.one y3.1
 have o4:=hμ.one y4.1
 have o5:=hμ.one y5.1
 have o6:=hμ.one y6.1
 have o7:=hμ.one y7.1
 have hz:=szO_len z5
 try simp only [szI,szF,szC,szP,szO] at *
 omega
theorem lf_arg {H:Type} {enc:TypeId×Value→H} {μ:DataW H→Nat} (hμ:Meas μ) {w:World} (cs:List Value) (m:Nat) (x:DataW H×List MemPlace)
  (h:DataW.trod enc Tryz.prog w 0 (fun _=>true) true m 39 cs=some x):∃ a:LF,VRL (wRen w) (LF.row a) cs∧szF a≤μ x.1:=by
 obtain ⟨xs,n,_,rfl,hl,hlen,hf⟩:=DataW.trod_struct Tryz.underlying39 h
 have hlc:cs.length=4:=hl.trans (by kernel_rfl)
 clear h
 match xs,hlen with
 | [y0,y1,y2,y3],_ =>
 match cs,hlc with
 | [v0,v1,v2,v3],_ =>
 have h0:DataW.trod enc Tryz.prog w 0 (fun _=>true) true n 9 [v0]=some y0:=by
  have c:Tryz.prog.cellsOf 9=1:=by kernel_rfl
  simpa [c] using hf 0 _ rfl
 obtain ⟨s0,e0,_,_⟩:=DataW.trod_string (by kernel_rfl) h0
 injection e0 with e0 _
 subst e0
 obtain ⟨z0,rfl⟩:∃ l:List UInt8,s0=⟨l.toArray⟩:=⟨s0.data.toList,by simp⟩
 have h1:DataW.trod enc Tryz.prog w 0 (fun _=>true) true n 3 [v1]=some y1:=by
  have c:Tryz.prog.cellsOf 3=1:=by kernel_rfl
  simpa [c] using hf 1 _ rfl
 obtain ⟨z1,e1,_,_⟩:=DataW.trod_int (k:=.i64) (by kernel_rfl) h1
 injection e1 with e1 _
 subst e1
 have h2:DataW.trod enc Tryz.prog w 0 (fun _=>true) true n 3 [v2]=some y2:=by
  have c:Tryz.prog.cellsOf 3=1:=by kernel_rfl
  simpa [c] using hf 2 _ rfl
 obtain ⟨z2,e2,_,_⟩:=DataW.trod_int (k:=.i64) (by kernel_rfl) h2
 injection e2 with e2 _
 subst e2
 have h3:DataW.trod enc Tryz.prog w 0 (fun _=>true) true n 37 [v3]=some y3:=by
  have c:Tryz.prog.cellsOf 37=1:=by kernel_rfl
  simpa [c] using hf 3 _ rfl
 obtain ⟨z3,r3,g3⟩:=vec_argM (row:=LI.row) (sz:=szI) (d:=LI.none) (esz:=8) (e:=43) (by decide) hμ (by kernel_rfl) (by kernel_rfl) (fun cs m x h=>li_arg hμ cs m x h) h3
 have hag:=hμ.ag [y0.1,y1.1,y2.1,y3.1]
 refine ⟨⟨z0,z1,z2,z3⟩,(.cons _ _ _ _ (.bs _) (.cons _ _ _ _ (.int _ _) (.cons _ _ _ _ (.int _ _) (.cons _ _ _ _ r3 .nil)))),?_⟩
 show _≤μ (.agg [y0.1,y1.1,y2.1,y3.1])
 simp only [sm] at hag
 have o0:=hμ.one y0.1
 have o1:=hμ.one y1.1
 have o2:=hμ.one y2.1
 have o3:=hμ.one y3.1
 try simp only [szI,szF,szC,szP,szO] at *
 omega
theorem lc_arg {H:Type} {enc:TypeId×Value→H} {μ:DataW H→Nat} (hμ:Meas μ) {w:World} (cs:List Value) (m:Nat) (x:DataW H×List MemPlace)
  (h:DataW.trod enc Tryz.prog w 0 (fun _=>true) true m 77 cs=some x):∃ a:LC,VRL (wRen w) (LC.row a) cs∧szC a≤μ x.1:=by
 obtain ⟨xs,n,_,rfl,hl,hlen,hf⟩:=DataW.trod_struct Tryz.underlying77 h
 have hlc:cs.length=3:=hl.trans (by kernel_rfl)
 clear h
 match xs,hlen with
 | [y0,y1,y2],_ =>
 match cs,hlc with
 | [v0,v1,v2],_ =>
 have h0:DataW.trod enc Tryz.prog w 0 (fun _=>true) true n 9 [v0]=some y0:=by
  have c:Tryz.prog.cellsOf 9=1:=by kernel_rfl
  simpa [c] using hf 0 _ rfl
 obtain ⟨s0,e0,_,_⟩:=DataW.trod_string (by kernel_rfl) h0
 injection e0 with e0 _
 subst e0
 obtain ⟨z0,rfl⟩:∃ l:List UInt8,s0=⟨l.toArray⟩:=⟨s0.data.toList,by simp⟩
 have h1:DataW.trod enc Tryz.prog w 0 (fun _=>true) true n 22 [v1]=some y1:=by
  have c:Tryz.prog.cellsOf 22=1:=by kernel_rfl
  simpa [c] using hf 1 _ rfl
 obtain ⟨z1,r1,g1⟩:=vec_argM (row:=fun b=>[AV.bs b]) (sz:=szO) (d:=[]) (esz:=1) (e:=9) (by decide) hμ (by kernel_rfl) (by kernel_rfl) (fun cs m x h=>str_arg (t:=9) (by kernel_rfl) hμ cs m x h) h1
 have h2:DataW.trod enc Tryz.prog w 0 (fun _=>true) true n 75 [v2]=some y2:=by
  have c:Tryz.prog.cellsOf 75=1:=by kernel_rfl
  simpa [c] using hf 2 _ rfl
 obtain ⟨z2,r2,g2⟩:=vec_argM (row:=intRow .i64) (sz:=szO) (d:=0) (esz:=1) (e:=208) (by decide) hμ (by kernel_rfl) (by kernel_rfl) (fun cs m x h=>int_arg (t:=208) (by kernel_rfl) hμ cs m x h) h2
 have hag:=hμ.ag [y0.1,y1.1,y2.1]
 refine ⟨⟨z0,z1,z2⟩,(.cons _ _ _ _ (.bs _) (.cons _ _ _ _ r1 (.cons _ _ _ _ r2 .nil))),?_⟩
 show _≤μ (.agg [y0.1,y1.1,y2.1])
 simp only [sm] at hag
 have o0:=hμ.one y0.1
 have o1:=hμ.one y1.1
 have o2:=hμ.one y2.1
 try simp only [szI,szF,szC,szP,szO] at *
 omega
theorem lg_arg {H:Type} {enc:TypeId×Value→H} {μ:DataW H→Nat} (hμ:Meas μ) {w:World} (cs:List Value) (m:Nat) (x:DataW H×List MemPlace)
  (h:DataW.trod enc Tryz.prog w 0 (fun _=>true) true m 222 cs=some x):∃ a:LG,VRL (wRen w) ((fun x:LG=>[AV.bs x.name,AV.int .i64 x.type]) a) cs∧szO a≤μ x.1:=by
 obtain ⟨xs,n,_,rfl,hl,hlen,hf⟩:=DataW.trod_struct Tryz.underlying222 h
 have hlc:cs.length=2:=hl.trans (by kernel_rfl)
 clear h
 match xs,hlen with
 | [y0,y1],_ =>
 match cs,hlc with
 | [v0,v1],_ =>
 have h0:DataW.trod enc Tryz.prog w 0 (fun _=>true) true n 9 [v0]=some y0:=by
  have c:Tryz.prog.cellsOf 9=1:=by kernel_rfl
  simpa [c] using hf 0 _ rfl
 obtain ⟨s0,e0,_,_⟩:=DataW.trod_string (by kernel_rfl) h0
 injection e0 with e0 _
 subst e0
 obtain ⟨z0,rfl⟩:∃ l:List UInt8,s0=⟨l.toArray⟩:=⟨s0.data.toList,by simp⟩
 have h1:DataW.trod enc Tryz.prog w 0 (fun _=>true) true n 208 [v1]=some y1:=by
  have c:Tryz.prog.cellsOf 208=1:=by kernel_rfl
  simpa [c] using hf 1 _ rfl
 obtain ⟨z1,e1,_,_⟩:=DataW.trod_int (k:=.i64) (by kernel_rfl) h1
 injection e1 with e1 _
 subst e1
 have hag:=hμ.ag [y0.1,y1.1]
 refine ⟨⟨z0,z1⟩,(.cons _ _ _ _ (.bs _) (.cons _ _ _ _ (.int _ _) .nil)),?_⟩
 show _≤μ (.agg [y0.1,y1.1])
 simp only [sm] at hag
 have o0:=hμ.one y0.1
 have o1:=hμ.one y1.1
 try simp only [szI,szF,szC,szP,szO] at *
 omega
theorem lm_arg {H:Type} {enc:TypeId×Value→H} {μ:DataW H→Nat} (hμ:Meas μ) {w:World} (cs:List Value) (m:Nat) (x:DataW H×List MemPlace)
  (h:DataW.trod enc Tryz.prog w 0 (fun _=>true) true m 80 cs=some x):∃ a:LM,VRL (wRen w) (LM.row a) cs∧szO a≤μ x.1:=by
 obtain ⟨xs,n,_,rfl,hl,hlen,hf⟩:=DataW.trod_struct Tryz.underlying80 h
 have hlc:cs.length=6:=hl.trans (by kernel_rfl)
 clear h
 match xs,hlen with
 | [y0,y1,y2],_ =>
 match cs,hlc with
 | [v0,v1,v2,v3,v4,v5],_ =>
 have h0:DataW.trod enc Tryz.prog w 0 (fun _=>true) true n 9 [v0]=some y0:=by
  have c:Tryz.prog.cellsOf 9=1:=by kernel_rfl
  simpa [c] using hf 0 _ rfl
 obtain ⟨s0,e0,_,_⟩:=DataW.trod_string (by kernel_rfl) h0
 injection e0 with e0 _
 subst e0
 obtain ⟨z0,rfl⟩:∃ l:List UInt8,s0=⟨l.toArray⟩:=⟨s0.data.toList,by simp⟩
 have h1:DataW.trod enc Tryz.prog w 0 (fun _=>true) true n 3 [v1]=some y1:=by
  have c:Tryz.prog.cellsOf 3=1:=by kernel_rfl
  simpa [c] using hf 1 _ rfl
 obtain ⟨z1,e1,_,_⟩:=DataW.trod_int (k:=.i64) (by kernel_rfl) h1
 injection e1 with e1 _
 subst e1
 have h2:DataW.trod enc Tryz.prog w 0 (fun _=>true) true n 78 [v2,v3,v4,v5]=some y2:=by
  have c:Tryz.prog.cellsOf 78=4:=by kernel_rfl
  simpa [c] using hf 2 _ rfl
 obtain ⟨q0,q1,q2,q3,e2⟩:=four_arg h2
 injection e2 with e0 e1;injection e1 with e1 e2;injection e2 with e2 e3;injection e3 with e3 _
 subst e0;subst e1;subst e2;subst e3
 have hag:=hμ.ag [y0.1,y1.1,y2.1]
 refine ⟨⟨z0,z1,q0,q1,q2,q3⟩,(.cons _ _ _ _ (.bs _) (.cons _ _ _ _ (.int _ _) (.cons _ _ _ _ (.int _ _) (.cons _ _ _ _ (.int _ _) (.cons _ _ _ _ (.int _ _) (.cons _ _ _ _ (.int _ _) .nil)))))),?_⟩
 show _≤μ (.agg [y0.1,y1.1,y2.1])
 simp only [sm] at hag
 have o0:=hμ.one y0.1
 have o1:=hμ.one y1.1
 have o2:=hμ.one y2.1
 try simp only [szI,szF,szC,szP,szO] at *
 omega
theorem le_arg {H:Type} {enc:TypeId×Value→H} {μ:DataW H→Nat} (hμ:Meas μ) {w:World} (cs:List Value) (m:Nat) (x:DataW H×List MemPlace)
  (h:DataW.trod enc Tryz.prog w 0 (fun _=>true) true m 83 cs=some x):∃ a:LE,VRL (wRen w) (LE.row a) cs∧szO a≤μ x.1:=by
 obtain ⟨xs,n,_,rfl,hl,hlen,hf⟩:=DataW.trod_struct Tryz.underlying83 h
 have hlc:cs.length=4:=hl.trans (by kernel_rfl)
 clear h
 match xs,hlen with
 | [y0,y1,y2,y3],_ =>
 match cs,hlc with
 | [v0,v1,v2,v3],_ =>
 have h0:DataW.trod enc Tryz.prog w 0 (fun _=>true) true n 9 [v0]=some y0:=by
  have c:Tryz.prog.cellsOf 9=1:=by kernel_rfl
  simpa [c] using hf 0 _ rfl
 obtain ⟨s0,e0,_,_⟩:=DataW.trod_string (by kernel_rfl) h0
 injection e0 with e0 _
 subst e0
 obtain ⟨z0,rfl⟩:∃ l:List UInt8,s0=⟨l.toArray⟩:=⟨s0.data.toList,by simp⟩
 have h1:DataW.trod enc Tryz.prog w 0 (fun _=>true) true n 3 [v1]=some y1:=by
  have c:Tryz.prog.cellsOf 3=1:=by kernel_rfl
  simpa [c] using hf 1 _ rfl
 obtain ⟨z1,e1,_,_⟩:=DataW.trod_int (k:=.i64) (by kernel_rfl) h1
 injection e1 with e1 _
 subst e1
 have h2:DataW.trod enc Tryz.prog w 0 (fun _=>true) true n 4 [v2]=some y2:=by
  have c:Tryz.prog.cellsOf 4=1:=by kernel_rfl
  simpa [c] using hf 2 _ rfl
 obtain ⟨z2,e2,_⟩:=DataW.trod_bool (by kernel_rfl) h2
 injection e2 with e2 _
 subst e2
 have h3:DataW.trod enc Tryz.prog w 0 (fun _=>true) true n 3 [v3]=some y3:=by
  have c:Tryz.prog.cellsOf 3=1:=by kernel_rfl
  simpa [c] using hf 3 _ rfl
 obtain ⟨z3,e3,_,_⟩:=DataW.trod_int (k:=.i64) (by kernel_rfl) h3
 injection e3 with e3 _
 subst e3
 have hag:=hμ.ag [y0.1,y1.1,y2.1,y3.1]
 refine ⟨⟨z0,z1,z2,z3⟩,(.cons _ _ _ _ (.bs _) (.cons _ _ _ _ (.int _ _) (.cons _ _ _ _ (.bool _) (.cons _ _ _ _ (.int _ _) .nil)))),?_⟩
 show _≤μ (.agg [y0.1,y1.1,y2.1,y3.1])
 simp only [sm] at hag
 have o0:=hμ.one y0.1
 have o1:=hμ.one y1.1
 have o2:=hμ.one y2.1
 have o3:=hμ.one y3.1
 try simp only [szI,szF,szC,szP,szO] at *
 omega
theorem ls_arg {H:Type} {enc:TypeId×Value→H} {μ:DataW H→Nat} (hμ:Meas μ) {w:World} (cs:List Value) (m:Nat) (x:DataW H×List MemPlace)
  (h:DataW.trod enc Tryz.prog w 0 (fun _=>true) true m 47 cs=some x):∃ a:LS,VRL (wRen w) ((fun x:LS=>[AV.int .i64 x.func,AV.int .i64 x.at_]) a) cs∧szO a≤μ x.1:=by
 obtain ⟨xs,n,_,rfl,hl,hlen,hf⟩:=DataW.trod_struct Tryz.underlying47 h
 have hlc:cs.length=2:=hl.trans (by kernel_rfl)
 clear h
 match xs,hlen with
 | [y0,y1],_ =>
 match cs,hlc with
 | [v0,v1],_ =>
 have h0:DataW.trod enc Tryz.prog w 0 (fun _=>true) true n 3 [v0]=some y0:=by
  have c:Tryz.prog.cellsOf 3=1:=by kernel_rfl
  simpa [c] using hf 0 _ rfl
 obtain ⟨z0,e0,_,_⟩:=DataW.trod_int (k:=.i64) (by kernel_rfl) h0
 injection e0 with e0 _
 subst e0
 have h1:DataW.trod enc Tryz.prog w 0 (fun _=>true) true n 3 [v1]=some y1:=by
  have c:Tryz.prog.cellsOf 3=1:=by kernel_rfl
  simpa [c] using hf 1 _ rfl
 obtain ⟨z1,e1,_,_⟩:=DataW.trod_int (k:=.i64) (by kernel_rfl) h1
 injection e1 with e1 _
 subst e1
 have hag:=hμ.ag [y0.1,y1.1]
 refine ⟨⟨z0,z1⟩,(.cons _ _ _ _ (.int _ _) (.cons _ _ _ _ (.int _ _) .nil)),?_⟩
 show _≤μ (.agg [y0.1,y1.1])
 simp only [sm] at hag
 have o0:=hμ.one y0.1
 have o1:=hμ.one y1.1
 try simp only [szI,szF,szC,szP,szO] at *
 omega
theorem lp_arg {H:Type} {enc:TypeId×Value→H} {μ:DataW H→Nat} (hμ:Meas μ) {w:World} (cs:List Value) (m:Nat) (x:DataW H×List MemPlace)
  (h:DataW.trod enc Tryz.prog w 0 (fun _=>true) true m 30 cs=some x):∃ a:LP,VRL (wRen w) (LP.row a) cs∧szP a≤μ x.1:=by
 obtain ⟨xs,n,_,rfl,hl,hlen,hf⟩:=DataW.trod_struct Tryz.underlying30 h
 have hlc:cs.length=8:=hl.trans (by kernel_rfl)
 clear h
 match xs,hlen with
 | [y0,y1,y2,y3,y4,y5,y6,y7],_ =>
 match cs,hlc with
 | [v0,v1,v2,v3,v4,v5,v6,v7],_ =>
 have h0:DataW.trod enc Tryz.prog w 0 (fun _=>true) true n 22 [v0]=some y0:=by
  have c:Tryz.prog.cellsOf 22=1:=by kernel_rfl
  simpa [c] using hf 0 _ rfl
 obtain ⟨z0,r0,g0⟩:=vec_argM (row:=fun b=>[AV.bs b]) (sz:=szO) (d:=[]) (esz:=1) (e:=9) (by decide) hμ (by kernel_rfl) (by kernel_rfl) (fun cs m x h=>str_arg (t:=9) (by kernel_rfl) hμ cs m x h) h0
 have h1:DataW.trod enc Tryz.prog w 0 (fun _=>true) true n 23 [v1]=some y1:=by
  have c:Tryz.prog.cellsOf 23=1:=by kernel_rfl
  simpa [c] using hf 1 _ rfl
 obtain ⟨z1,r1,g1⟩:=vec_argM (row:=LC.row) (sz:=szC) (d:=⟨[],[],[]⟩) (esz:=3) (e:=77) (by decide) hμ (by kernel_rfl) (by kernel_rfl) (fun cs m x h=>lc_arg hμ cs m x h) h1
 have h2:DataW.trod enc Tryz.prog w 0 (fun _=>true) true n 24 [v2]=some y2:=by
  have c:Tryz.prog.cellsOf 24=1:=by kernel_rfl
  simpa [c] using hf 2 _ rfl
 obtain ⟨z2,r2,g2⟩:=vec_argM (row:=fun x:LG=>[AV.bs x.name,AV.int .i64 x.type]) (sz:=szO) (d:=⟨[],0⟩) (esz:=2) (e:=222) (by decide) hμ (by kernel_rfl) (by kernel_rfl) (fun cs m x h=>lg_arg hμ cs m x h) h2
 have h3:DataW.trod enc Tryz.prog w 0 (fun _=>true) true n 25 [v3]=some y3:=by
  have c:Tryz.prog.cellsOf 25=1:=by kernel_rfl
  simpa [c] using hf 3 _ rfl
 obtain ⟨z3,r3,g3⟩:=vec_argM (row:=LF.row) (sz:=szF) (d:=⟨[],0,0,[]⟩) (esz:=4) (e:=39) (by decide) hμ (by kernel_rfl) (by kernel_rfl) (fun cs m x h=>lf_arg hμ cs m x h) h3
 have h4:DataW.trod enc Tryz.prog w 0 (fun _=>true) true n 26 [v4]=some y4:=by
  have c:Tryz.prog.cellsOf 26=1:=by kernel_rfl
  simpa [c] using hf 4 _ rfl
 obtain ⟨z4,r4,g4⟩:=vec_argM (row:=LM.row) (sz:=szO) (d:=⟨[],0,0,0,0,0⟩) (esz:=6) (e:=80) (by decide) hμ (by kernel_rfl) (by kernel_rfl) (fun cs m x h=>lm_arg hμ cs m x h) h4
 have h5:DataW.trod enc Tryz.prog w 0 (fun _=>true) true n 27 [v5]=some y5:=by
  have c:Tryz.prog.cellsOf 27=1:=by kernel_rfl
  simpa [c] using hf 5 _ rfl
 obtain ⟨z5,r5,g5⟩:=vec_argM (row:=LE.row) (sz:=szO) (d:=⟨[],0,false,0⟩) (esz:=4) (e:=83) (by decide) hμ (by kernel_rfl) (by kernel_rfl) (fun cs m x h=>le_arg hμ cs m x h) h5
 have h6:DataW.trod enc Tryz.prog w 0 (fun _=>true) true n 3 [v6]=some y6:=by
  have c:Tryz.prog.cellsOf 3=1:=by kernel_rfl
  simpa [c] using hf 6 _ rfl
 obtain ⟨z6,e6,_,_⟩:=DataW.trod_int (k:=.i64) (by kernel_rfl) h6
 injection e6 with e6 _
 subst e6
 have h7:DataW.trod enc Tryz.prog w 0 (fun _=>true) true n 28 [v7]=some y7:=by
  have c:Tryz.prog.cellsOf 28=1:=by kernel_rfl
  simpa [c] using hf 7 _ rfl
 obtain ⟨z7,r7,g7⟩:=vec_argM (row:=fun x:LS=>[AV.int .i64 x.func,AV.int .i64 x.at_]) (sz:=szO) (d:=⟨0,0⟩) (esz:=2) (e:=47) (by decide) hμ (by kernel_rfl) (by kernel_rfl) (fun cs m x h=>ls_arg hμ cs m x h) h7
 have hag:=hμ.ag [y0.1,y1.1,y2.1,y3.1,y4.1,y5.1,y6.1,y7.1]
 refine ⟨⟨z0,z1,z2,z3,z4,z5,z6,z7⟩,(.cons _ _ _ _ r0 (.cons _ _ _ _ r1 (.cons _ _ _ _ r2 (.cons _ _ _ _ r3 (.cons _ _ _ _ r4 (.cons _ _ _ _ r5 (.cons _ _ _ _ (.int _ _) (.cons _ _ _ _ r7 .nil)))))))),?_⟩
 show _≤μ (.agg [y0.1,y1.1,y2.1,y3.1,y4.1,y5.1,y6.1,y7.1])
 simp only [sm] at hag
 have o0:=hμ.one y0.1
 have o1:=hμ.one y1.1
 have o2:=hμ.one y2.1
 have o3:=hμ.one y3.1
 have o4:=hμ.one y4.1
 have o5:=hμ.one y5.1
 have o6:=hμ.one y6.1
 have o7:=hμ.one y7.1
 try simp only [szI,szF,szC,szP,szO] at *
 omega
theorem getD_szF {l:List LF} (i:Nat):szF (l.getD i LF.none)≤sm szF l + 1:=by
 by_cases h:i < l.length
 ·rw [List.getD_eq_getElem?_getD,List.getElem?_eq_getElem h]
  exact Nat.le_succ_of_le (sm_mem (List.getElem_mem h))
 ·rw [List.getD_eq_getElem?_getD,List.getElem?_eq_none (by omega)]
  exact Nat.succ_le_succ (Nat.zero_le _)
theorem getD_szI {l:List LI} (i:Nat):szI (l.getD i LI.none)≤sm szI l + 1:=by
 by_cases h:i < l.length
 ·rw [List.getD_eq_getElem?_getD,List.getElem?_eq_getElem h]
  exact Nat.le_succ_of_le (sm_mem (List.getElem_mem h))
 ·rw [List.getD_eq_getElem?_getD,List.getElem?_eq_none (by omega)]
  exact Nat.succ_le_succ (Nat.zero_le _)
theorem small_of {p:LP} (h:szP p≤1048576):LP.Small p:=by
 have h1:=szO_len p.sites
 unfold szP at h
 have hF:∀ f,szF f=sm szI f.code + 1:=fun _=>rfl
 have hI:∀ x,szI x=x.l.length + 1:=fun _=>rfl
 refine ⟨by omega,fun i=>?_,fun i k=>?_⟩
 ·have h2:=getD_szF (l:=p.funcs) i
  have h3:=sm_len (f:=szI) (fun _=>Nat.succ_le_succ (Nat.zero_le _)) (p.funcs.getD i LF.none).code
  rw [hF] at h2
  omega
 ·have h2:=getD_szF (l:=p.funcs) i
  have h3:=getD_szI (l:=(p.funcs.getD i LF.none).code) k
  rw [hF] at h2
  rw [hI] at h3
  omega
theorem sm_app {α:Type} {f:α→Nat}:∀ (a b:List α),sm f (a ++ b)=sm f a + sm f b
 | [],b=>(Nat.zero_add _).symm
 | x :: a,b=>by
  show f x + sm f (a ++ b)=f x + sm f a + sm f b
  rw [sm_app a b,Nat.add_assoc]
theorem sm_take_L (code:List LI):∀ k,k≤code.length→sumL code k + k≤sm szI (code.take k)
 | 0,_=>Nat.le_refl _
 | k + 1,h=>by
  have ih:=sm_take_L code k (by omega)
  have e:code.take (k + 1)=code.take k ++ [code.getD k LI.none]:=by
   rw [List.take_add_one,List.getD_eq_getElem?_getD,List.getElem?_eq_getElem (by omega)];rfl
  rw [e,sm_app,sumL]
  show sumL code k + _ + (k + 1)≤sm szI (code.take k) + (szI (code.getD k LI.none) + 0)
  have hI:∀ x,szI x=x.l.length + 1:=fun _=>rfl
  rw [hI]
  omega
theorem sm_take_F (p:LP):∀ i,i≤p.funcs.length→sumF p i + i≤sm szF (p.funcs.take i)
 | 0,_=>Nat.le_refl _
 | i + 1,h=>by
  have ih:=sm_take_F p i (by omega)
  have e:p.funcs.take (i + 1)=p.funcs.take i ++ [p.funcs.getD i LF.none]:=by
   rw [List.take_add_one,List.getD_eq_getElem?_getD,List.getElem?_eq_getElem (by omega)];rfl
  rw [e,sm_app,sumF]
  generalize p.funcs.getD i LF.none=f
  show sumF p i + (f.code.length + sumL f.code (min f.code.length 3000)) + (i + 1)≤sm szF (p.funcs.take i) + (szF f + 0)
  have h1:=sumL_mono f.code (min f.code.length 3000) f.code.length (Nat.min_le_left _ _)
  have h2:=sm_take_L f.code f.code.length (Nat.le_refl _)
  rw [List.take_length] at h2
  have hF:∀ f,szF f=sm szI f.code + 1:=fun _=>rfl
  rw [hF]
  omega
theorem much_of {p:LP} (h:szP p≤1048576):muchN p≤2000000:=by
 unfold szP at h
 have h1:=szO_len p.loopers
 have h2:=sm_len (f:=szC) (fun _=>Nat.le_refl _) p.classes
 have h3:=szO_len p.globals
 have h4:=sm_len (f:=szF) (fun _=>Nat.succ_le_succ (Nat.zero_le _)) p.funcs
 have h5:=szO_len p.comps
 have h6:=szO_len p.events
 have h7:=szO_len p.sites
 have h8:=sumF_mono p (min p.funcs.length 200) p.funcs.length (Nat.min_le_left _ _)
 have h9:=sm_take_F p p.funcs.length (Nat.le_refl _)
 rw [List.take_length] at h9
 unfold muchN baseN
 omega
end Go.Proofs.YtedpjdkikbgojaaGreatDoor
end
