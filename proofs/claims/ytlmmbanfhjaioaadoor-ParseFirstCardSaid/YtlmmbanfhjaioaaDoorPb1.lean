/- Laid by program out of its parts: PbE, PbF, PbG, PbH, PbI. -/
import Derived.Test.YtlmmbanfhjaioaaDoorPb0
set_option linter.unusedVariables false
set_option linter.unusedSimpArgs false
section
set_option maxRecDepth 100000
set_option maxHeartbeats 2000000
open Go Go.Ev
namespace Go.Proofs.YtlmmbanfhjaioaaDoor
def leafO (k:Int) (s:List UInt8) (n l c:Int) (ks:AV):AObj:=.cells 66 .leaf (.per [.int .i64 k,.bs s,.int .i64 n,.int .i64 l,.int .i64 c,.sl0,ks]) 7 false
def rowP (l:List AV):AObj:=.cells 58 .leaf (.per l) l.length false
structure SelfA (a:AV):Prop where
 vm:∀ σ,vmP σ a a
 cl:clF 4 a
 rn:∀ τ,rnF τ 4 a=a
structure SelfL (l:List AV):Prop where
 h:∀ a∈l,SelfA a
noncomputable def hMd (k:Int) (t:TK) (l:List AV) (ks:AV):HSpec :=
 { X:=Unit,gl:=[],sel:=fun _=>true,ng:=0,k:=1,args:=fun _=>[.int .i64 k,.agg t.row,ks],objs:=fun _=>[rowP l],pre:=fun _=>SelfL l,out:=fun _=>.ret (.ptr 1 0) [rowP l,leafO k [] 0 t.line t.col ks] 1,fz:=0,find:=fun _ _=>none }
noncomputable def hMd0 (k:Int) (t:TK):HSpec :=
 { X:=Unit,gl:=[],sel:=fun _=>true,ng:=0,k:=0,args:=fun _=>[.int .i64 k,.agg t.row,.sl0],objs:=fun _=>[],pre:=fun _=>True,out:=fun _=>.ret (.ptr 0 0) [leafO k [] 0 t.line t.col .sl0] 1,fz:=0,find:=fun _ _=>none }
noncomputable def hTx (k:Int) (s0:List UInt8) (n a c:Int) (s:List UInt8) (l:List AV) (ks:AV):HSpec :=
 { X:=Unit,gl:=[],sel:=fun _=>true,ng:=0,k:=2,args:=fun _=>[.ptr 0 0,.bs s],objs:=fun _=>[leafO k s0 n a c ks,rowP l],pre:=fun _=>SelfL l,out:=fun _=>.ret (.ptr 0 0) [leafO k s n a c ks,rowP l] 0,fz:=0,find:=fun _ _=>none }
noncomputable def hTx0 (k:Int) (s0:List UInt8) (n a c:Int) (s:List UInt8):HSpec :=
 { X:=Unit,gl:=[],sel:=fun _=>true,ng:=0,k:=1,args:=fun _=>[.ptr 0 0,.bs s],objs:=fun _=>[leafO k s0 n a c .sl0],pre:=fun _=>True,out:=fun _=>.ret (.ptr 0 0) [leafO k s n a c .sl0] 0,fz:=0,find:=fun _ _=>none }
noncomputable def pvs (l:List AV):Option (List AV):=match l with
 | [.pv a]=>some [.pv a]
 | [.pv a,.pv b]=>some [.pv a,.pv b]
 | _=>none
noncomputable def rowIn (H:Tr AObj) (r m m' nx:Nat):Option (List AV):=ob (H.get r) fun o=>match o with
 | .cells el c z N op=>cond (cond (Nat.beq el 58) (cond op false (cond (Nat.beq N m) (cond (Nat.beq m m') (Nat.blt r nx) false) false)) false) (ob (readL c z N 0) pvs) none
 | _=>none
noncomputable def eMade:HEnt:=fun H nx args=>match args with
 | [.int .i64 k,.agg [.int .i64 a,b,.int .i64 c,.int .i64 d,.int .i64 e],.sl0]=>ob (strW b) fun _=>some (.ret (.ptr nx 0) [(nx,leafO k [] 0 d e .sl0)] (nx + 1))
 | [.int .i64 k,.agg [.int .i64 a,b,.int .i64 c,.int .i64 d,.int .i64 e],.sl r 0 m m']=>ob (strW b) fun _=>ob (rowIn H r m m' nx) fun l=>some (.need (SelfL l) (.ret (.ptr nx 0) [(r,rowP l),(nx,leafO k [] 0 d e (.sl r 0 m m'))] (nx + 1)))
 | _=>none
noncomputable def leafIn (H:Tr AObj) (id nx:Nat):Option (((((Int×List UInt8)×Int)×Int)×Int)×AV):=ob (H.get id) fun o=>match o with
 | .cells el c z N op=>cond (cond (Nat.beq el 66) (cond op false (cond (Nat.beq N 7) (Nat.blt id nx) false)) false) (ob (readL c z 7 0) fun l=>match l with
  | [.int .i64 k,.bs s,.int .i64 n,.int .i64 a,.int .i64 b,.sl0,w]=>some (((((k,s),n),a),b),w)
  | _=>none) none
 | _=>none
noncomputable def eText:HEnt:=fun H nx args=>match args with
 | [.ptr id 0,x]=>ob (strW x) fun s=>ob (leafIn H id nx) fun q=>match q.2 with
  | .sl0=>some (.ret (.ptr id 0) [(id,leafO q.1.1.1.1.1 s q.1.1.1.2 q.1.1.2 q.1.2 .sl0)] nx)
  | .sl r 0 m m'=>ob (rowIn H r m m' nx) fun l=>cond (Nat.beq id r) none (some (.need (SelfL l) (.ret (.ptr id 0) [(id,leafO q.1.1.1.1.1 s q.1.1.1.2 q.1.1.2 q.1.2 (.sl r 0 m m')),(r,rowP l)] nx)))
  | _=>none
 | _=>none
noncomputable def cxM:Ctx:={ P:=Tryd.prog,tb:=[],lp:=fun _ _=>none,cut:=fun _ _=>none }
noncomputable def qaj (a:Int) (b:TK):=((((((True∧true=true∧a=a)∧([]:List UInt8)=[])∧true=true∧(0:Int)=(0:Int))∧true=true∧TK.line b=TK.line b)∧true=true∧TK.col b=TK.col b)∧True)
theorem runMd0_r:∀ (k:Int) (t:TK),true=true∧((some 1=some 1∧true=true)∧True)∧(true=true∧true=true∧true=true∧true=true∧(qaj k t)∧True)∧True
:= by
 delta qaj
 intro k t
 simp only [Zi,Zs,true_and,and_true,eq_self,implies_true,Nat.le_eq,ZA,Zz,ZK,Int.toNat_natCast,Int.ofNat_eq_natCast,Nat.ble_eq,Nat.ble_self_eq_true,Bool.true_and,Bool.and_true,Bool.and_self,Option.some.injEq,AV.int.injEq,Zo,Zj,Nat.mul_one,Nat.beq_refl,Zn,cond_true,cond_false,Zp,Bool.not_true,Bool.not_false,decide_true,ZY,Ya,ZZ,Zf,List.nil_append]
theorem runMd0:∀ (k:Int) (t:TK),(cRun cxM 60).call 21 [.int .i64 k,.agg t.row,.sl0] .leaf 0 (ResO Tryd.prog 0 0 0 (.ret (.ptr 0 0) [leafO k [] 0 t.line t.col .sl0] 1)) :=
 Eq.mpr (by kernel_rfl) runMd0_r
theorem runMd1_r:∀ (k:Int) (t:TK) (a:List AV),SelfL [AV.pv a]→true=true∧(qcX∧True)∧(true=true∧true=true∧true=true∧true=true∧True∧vmL [(1,2),(0,0)] a a)∧(true=true∧true=true∧true=true∧true=true∧(qaj k t)∧some 0=some 0∧0=0∧1=1∧1=1)∧True
:= by
 delta qaj qcX
 intro k t a h
 simp only [Zi,Zs,true_and,and_true,eq_self,implies_true,Nat.le_eq,ZA,Zz,ZK,Int.toNat_natCast,Int.ofNat_eq_natCast,Nat.ble_eq,Nat.ble_self_eq_true,Bool.true_and,Bool.and_true,Bool.and_self,Option.some.injEq,AV.int.injEq,Zo,Zj,Nat.mul_one,Nat.beq_refl,Zn,cond_true,cond_false,Zp,Bool.not_true,Bool.not_false,decide_true,ZY,Ya,ZZ,Zf,List.nil_append]
 exact (h.h _ (List.mem_cons_self ..)).vm _
theorem runMd1:∀ (k:Int) (t:TK) (a:List AV),SelfL [.pv a]→(cRun cxM 60).call 21 [.int .i64 k,.agg t.row,.sl 0 0 1 1] (mkH (numL [rowP [.pv a]] 0)) 1 (ResO Tryd.prog 0 0 1 (.ret (.ptr 1 0) [rowP [.pv a],leafO k [] 0 t.line t.col (.sl 0 0 1 1)] 1)) :=
 Eq.mpr (by kernel_rfl) runMd1_r
theorem runMd2_r:∀ (k:Int) (t:TK) (a b:List AV),SelfL [AV.pv a,AV.pv b]→true=true∧(qcX∧True)∧(true=true∧true=true∧true=true∧true=true∧(True∧vmL [(1,2),(0,0)] a a)∧vmL [(1,2),(0,0)] b b)∧(true=true∧true=true∧true=true∧true=true∧(qaj k t)∧some 0=some 0∧0=0∧2=2∧2=2)∧True
:= by
 delta qaj qcX
 intro k t a b h
 simp only [Zi,Zs,true_and,and_true,eq_self,implies_true,Nat.le_eq,ZA,Zz,ZK,Int.toNat_natCast,Int.ofNat_eq_natCast,Nat.ble_eq,Nat.ble_self_eq_true,Bool.true_and,Bool.and_true,Bool.and_self,Option.some.injEq,AV.int.injEq,Zo,Zj,Nat.mul_one,Nat.beq_refl,Zn,cond_true,cond_false,Zp,Bool.not_true,Bool.not_false,decide_true,ZY,Ya,ZZ,Zf,List.nil_append]
 exact ⟨(h.h _ (List.mem_cons_self ..)).vm _,(h.h _ (List.mem_cons_of_mem _ (List.mem_singleton.2 rfl))).vm _⟩
theorem runMd2:∀ (k:Int) (t:TK) (a b:List AV),SelfL [.pv a,.pv b]→(cRun cxM 60).call 21 [.int .i64 k,.agg t.row,.sl 0 0 2 2] (mkH (numL [rowP [.pv a,.pv b]] 0)) 1 (ResO Tryd.prog 0 0 1 (.ret (.ptr 1 0) [rowP [.pv a,.pv b],leafO k [] 0 t.line t.col (.sl 0 0 2 2)] 1)) :=
 Eq.mpr (by kernel_rfl) runMd2_r
noncomputable def qah (a:Int) (b:List UInt8) (c:Int) (d:Int) (e:Int):=((((((True∧true=true∧a=a)∧b=b)∧true=true∧c=c)∧true=true∧d=d)∧true=true∧e=e)∧True)
noncomputable def qba:=(some 0=some 0∧true=true)
theorem runTx0_r:∀ (k:Int) (s0:List UInt8) (n a c:Int) (s:List UInt8),true=true∧(qba∧True)∧(true=true∧true=true∧true=true∧true=true∧(qah k s n a c)∧True)∧True
:= by
 delta qah qba
 intro k s0 n a c s
 simp only [Zi,Zs,true_and,and_true,eq_self,implies_true,Nat.le_eq,ZA,Zz,ZK,Int.toNat_natCast,Int.ofNat_eq_natCast,Nat.ble_eq,Nat.ble_self_eq_true,Bool.true_and,Bool.and_true,Bool.and_self,Option.some.injEq,AV.int.injEq,Zo,Zj,Nat.mul_one,Nat.beq_refl,Zn,cond_true,cond_false,Zp,Bool.not_true,Bool.not_false,decide_true,ZY,Ya,ZZ,Zf,List.nil_append]
theorem runTx0:∀ (k:Int) (s0:List UInt8) (n a c:Int) (s:List UInt8),(cRun cxM 60).call 33 [.ptr 0 0,.bs s] (mkH (numL [leafO k s0 n a c .sl0] 0)) 1 (ResO Tryd.prog 0 0 1 (.ret (.ptr 0 0) [leafO k s n a c .sl0] 0)) :=
 Eq.mpr (by kernel_rfl) runTx0_r
theorem runTx1_r:∀ (k:Int) (s0:List UInt8) (n a c:Int) (s:List UInt8) (x:List AV),SelfL [AV.pv x]→true=true∧(qba∧True)∧(true=true∧true=true∧true=true∧true=true∧(qah k s n a c)∧some 1=some 1∧0=0∧1=1∧1=1)∧(true=true∧true=true∧true=true∧true=true∧True∧vmL [(0,0),(1,1)] x x)∧True
:= by
 delta qah qba
 intro k s0 n a c s x h
 simp only [Zi,Zs,true_and,and_true,eq_self,implies_true,Nat.le_eq,ZA,Zz,ZK,Int.toNat_natCast,Int.ofNat_eq_natCast,Nat.ble_eq,Nat.ble_self_eq_true,Bool.true_and,Bool.and_true,Bool.and_self,Option.some.injEq,AV.int.injEq,Zo,Zj,Nat.mul_one,Nat.beq_refl,Zn,cond_true,cond_false,Zp,Bool.not_true,Bool.not_false,decide_true,ZY,Ya,ZZ,Zf,List.nil_append]
 exact (h.h _ (List.mem_cons_self ..)).vm _
theorem runTx1:∀ (k:Int) (s0:List UInt8) (n a c:Int) (s:List UInt8) (x:List AV),SelfL [.pv x]→(cRun cxM 60).call 33 [.ptr 0 0,.bs s] (mkH (numL [leafO k s0 n a c (.sl 1 0 1 1),rowP [.pv x]] 0)) 2 (ResO Tryd.prog 0 0 2 (.ret (.ptr 0 0) [leafO k s n a c (.sl 1 0 1 1),rowP [.pv x]] 0)) :=
 Eq.mpr (by kernel_rfl) runTx1_r
theorem runTx2_r:∀ (k:Int) (s0:List UInt8) (n a c:Int) (s:List UInt8) (x y:List AV),SelfL [AV.pv x,AV.pv y]→true=true∧(qba∧True)∧(true=true∧true=true∧true=true∧true=true∧(qah k s n a c)∧some 1=some 1∧0=0∧2=2∧2=2)∧(true=true∧true=true∧true=true∧true=true∧(True∧vmL [(0,0),(1,1)] x x)∧vmL [(0,0),(1,1)] y y)∧True
:= by
 delta qah qba
 intro k s0 n a c s x y h
 simp only [Zi,Zs,true_and,and_true,eq_self,implies_true,Nat.le_eq,ZA,Zz,ZK,Int.toNat_natCast,Int.ofNat_eq_natCast,Nat.ble_eq,Nat.ble_self_eq_true,Bool.true_and,Bool.and_true,Bool.and_self,Option.some.injEq,AV.int.injEq,Zo,Zj,Nat.mul_one,Nat.beq_refl,Zn,cond_true,cond_false,Zp,Bool.not_true,Bool.not_false,decide_true,ZY,Ya,ZZ,Zf,List.nil_append]
 exact ⟨(h.h _ (List.mem_cons_self ..)).vm _,(h.h _ (List.mem_cons_of_mem _ (List.mem_singleton.2 rfl))).vm _⟩
theorem runTx2:∀ (k:Int) (s0:List UInt8) (n a c:Int) (s:List UInt8) (x y:List AV),SelfL [.pv x,.pv y]→(cRun cxM 60).call 33 [.ptr 0 0,.bs s] (mkH (numL [leafO k s0 n a c (.sl 1 0 2 2),rowP [.pv x,.pv y]] 0)) 2 (ResO Tryd.prog 0 0 2 (.ret (.ptr 0 0) [leafO k s n a c (.sl 1 0 2 2),rowP [.pv x,.pv y]] 0)) :=
 Eq.mpr (by kernel_rfl) runTx2_r
theorem JB {H:Tr AObj} {r m m' nx:Nat} {l:List AV} (h:rowIn H r m m' nx=some l):m'=m∧r < nx∧Desc H r (rowP l)∧((∃ a,l=[.pv a]∧m=1)∨∃ a b,l=[.pv a,.pv b]∧m=2):=by
 obtain ⟨o,ho,h⟩:=Za.1 h
 split at h
 ·rename_i el c z N op
  obtain ⟨h1,h2⟩:=Vg h
  clear h
  obtain ⟨l',hl,h3⟩:=Za.1 h2
  clear h2
  obtain ⟨e1,h1⟩:=Ze h1
  cases hop:op with
  | true=>rw [hop] at h1;cases h1
  | false =>
  rw [hop] at h1
  obtain ⟨e2,h1⟩:=Ze (show cond (Nat.beq N m) (cond (Nat.beq m m') (Nat.blt r nx) false) false=true from h1)
  obtain ⟨e3,e4⟩:=Ze h1
  rw [Nat.beq_eq] at e1 e2 e3;rw [Nat.blt_eq] at e4
  subst e1;subst e2;subst e3;subst hop
  have hln:=(Wf c z N 0 l' hl).1
  unfold pvs at h3
  split at h3
  ·injection h3 with h;subst h
   have hN:N=1:=hln.symm
   subst hN
   exact ⟨rfl,e4,⟨⟨_,ho,fun ρ b x hx=>Gs hl hx⟩,rfl⟩,.inl ⟨_,rfl,rfl⟩⟩
  ·injection h3 with h;subst h
   have hN:N=2:=hln.symm
   subst hN
   exact ⟨rfl,e4,⟨⟨_,ho,fun ρ b x hx=>Gs hl hx⟩,rfl⟩,.inr ⟨_,_,rfl,rfl⟩⟩
  ·cases h3
 ·cases h
theorem Gz {H:Tr AObj} {id nx:Nat} {k:Int} {s:List UInt8} {n a b:Int} {w:AV} (h:leafIn H id nx=some (((((k,s),n),a),b),w)):id < nx∧Desc H id (leafO k s n a b w):=by
 obtain ⟨o,ho,h⟩:=Za.1 h
 split at h
 ·rename_i el c z N op
  obtain ⟨h1,h2⟩:=Vg h
  clear h
  obtain ⟨l',hl,h3⟩:=Za.1 h2
  clear h2
  obtain ⟨e1,h1⟩:=Ze h1
  cases hop:op with
  | true=>rw [hop] at h1;cases h1
  | false =>
  rw [hop] at h1
  obtain ⟨e2,e4⟩:=Ze (show cond (Nat.beq N 7) (Nat.blt id nx) false=true from h1)
  rw [Nat.beq_eq] at e1 e2;rw [Nat.blt_eq] at e4
  subst e1;subst e2;subst hop
  split at h3
  ·injection h3 with h;injection h with h h2;injection h with h h3;injection h with h h4;injection h with h h5;injection h with h h6
   subst h;subst h2;subst h3;subst h4;subst h5;subst h6
   exact ⟨e4,⟨⟨_,ho,fun ρ b x hx=>Gs hl hx⟩,rfl⟩⟩
  ·cases h3
 ·cases h
theorem Up {v:AV} {up:List (Nat×AObj)} {n:Nat} {p:Bool} {v':AV} {up':List (Nat×AObj)} {n':Nat} (h:hOut (.ret v up n)=some (p,v',up',n')):p=false∧v'=v∧up'=up∧n'=n:=by
 injection h with h;injection h with h1 h;injection h with h2 h;injection h with h3 h4
 exact ⟨h1.symm,h2.symm,h3.symm,h4.symm⟩
theorem clRow {l:List AV} (h:SelfL l):clO (rowP l):=fun a ha=>(h.h a ha).cl
theorem rnRow {l:List AV} (h:SelfL l) (τ:Nat→Nat):rnO τ (rowP l)=rowP l:=by
 have:l.map (rnF τ 4)=l:=by
  have:∀ m:List AV,(∀ a∈m,rnF τ 4 a=a)→m.map (rnF τ 4)=m:=fun m=>by
   induction m with
   | nil=>intro _;rfl
   | cons a m ih=>intro h;rw [List.map_cons,h a (List.mem_cons_self ..),ih fun b hb=>h b (List.mem_cons_of_mem _ hb)]
  exact this l fun a ha=>(h.h a ha).rn τ
 show AObj.cells _ _ (.per (l.map (rnF τ 4))) _ _=_
 rw [this];rfl
theorem clLeaf (k:Int) (s:List UInt8) (n a c:Int) {w:AV} (hw:clF 4 w):clO (leafO k s n a c w):=fun x hx=>by
 simp only [List.mem_cons,List.not_mem_nil,or_false] at hx
 rcases hx with rfl | rfl | rfl | rfl | rfl | rfl | rfl
 ·exact ⟨rfl,rfl⟩
 ·exact rfl
 ·exact ⟨rfl,rfl⟩
 ·exact ⟨rfl,rfl⟩
 ·exact ⟨rfl,rfl⟩
 ·exact trivial
 ·exact hw
theorem Zj9 (σ:List (Nat×Nat)) {l:List AV} {m:Nat} (h:SelfL l) (hf:(∃ a,l=[.pv a]∧m=1)∨∃ a b,l=[.pv a,.pv b]∧m=2):omP σ (rowP l) (rowP l):=by
 rcases hf with ⟨a,rfl,_⟩ | ⟨a,b,rfl,_⟩
 ·exact ⟨rfl,rfl,rfl,trivial,(h.h _ (List.mem_cons_self ..)).vm _⟩
 ·exact ⟨rfl,rfl,rfl,⟨trivial,(h.h _ (List.mem_cons_self ..)).vm _⟩,(h.h _ (List.mem_cons_of_mem _ (List.mem_singleton.2 rfl))).vm _⟩
theorem JD {α:Type} {p:α→Prop} {o q:α} (h:p o) (h2:p q):∀ x∈[o,q],p x:=fun x hx=>by
 rcases List.mem_cons.1 hx with rfl | hx
 ·exact h
 ·rw [List.mem_singleton.1 hx];exact h2
theorem Zlc {ρ:Ren} {k a c d e:Int} {b:AV} {b':List UInt8} {w:AV} {vs:List Value} (hb:strW b=some b') (h:VRL ρ [.int .i64 k,.agg [.int .i64 a,b,.int .i64 c,.int .i64 d,.int .i64 e],w] vs):VRL ρ [.int .i64 k,.agg (TK.row ⟨a,b',c,d,e⟩),w] vs:=by
 cases h with
 | cons _ _ _ _ h1 h2 =>
  cases h2 with
  | cons _ _ _ _ h2 h3 =>
   cases h2 with
   | agg l us h4 =>
    cases h4 with
    | cons _ _ _ _ h5 h6 =>
     cases h6 with
     | cons _ _ _ _ h7 h8=>exact .cons _ _ _ _ h1 (.cons _ _ _ _ (.agg _ _ (.cons _ _ _ _ h5 (.cons _ _ _ _ (Zam hb ρ _ h7) h8))) h3)
theorem okMade:HEntOK Tryd.prog 21 eMade:=by
 intro H nx args hc he
 unfold eMade at he
 split at he
 ·rename_i k a b0 c d e
  obtain ⟨b,hb,he⟩:=Za.1 he
  injection he with he;subst he
  intro p v up nx' hout E F ρ w0 r
  obtain ⟨rfl,rfl,rfl,rfl⟩:=Up hout
  have hS:HEntOK Tryd.prog 21 ((hMd0 k ⟨a,b,c,d,e⟩).at () []).ent:=Xv _ (fun p hp=>by cases hp) (fun H _ p hp=>by cases hp) (fun x=>rfl) (fun x o ho=>by cases ho) (fun x hp=>⟨trivial,rfl,XM (clLeaf _ _ _ _ _ trivial)⟩) fun x hp=>⟨(cRun cxM 60).call,Xr fol ZN 60,runMd0 k ⟨a,b,c,d,e⟩⟩
  exact YV (S:=hMd0 k ⟨a,b,c,d,e⟩) (x:=()) (ids:=[]) (os:=[]) (args':=[.int .i64 k,.agg (TK.row ⟨a,b,c,d,e⟩),.sl0]) hS trivial rfl rfl rfl rfl rfl (fun q hq=>by cases hq) ⟨⟨rfl,rfl⟩,⟨⟨rfl,rfl⟩,rfl,⟨rfl,rfl⟩,⟨rfl,rfl⟩,⟨rfl,rfl⟩,trivial⟩,trivial,trivial⟩ trivial (by
   show hOut (fN1 (nx + 1) fun n=>(fun ts=>HCt.ret (rnF (tauN 0 ts) 4 (.ptr 0 0)) (ts.zip ([leafO k [] 0 d e .sl0].map (rnO (tauN 0 ts)))) n) ([] ++ List.range' nx 1))=_
   rw [YG];rfl) (fun i hi=>by cases hi) r fun vs h=>Zlc hb h
 ·rename_i k a b0 c d e r0 m m'
  obtain ⟨b,hb,he⟩:=Za.1 he
  obtain ⟨l,hl,he⟩:=Za.1 he
  injection he with he;subst he
  intro p v up nx' hout E F ρ w0 r
  obtain ⟨hself,hout⟩:=Xn hout
  obtain ⟨rfl,rfl,rfl,rfl⟩:=Up hout
  obtain ⟨rfl,hlt,hd,hform⟩:=JB hl
  have hS:HEntOK Tryd.prog 21 ((hMd k ⟨a,b,c,d,e⟩ l (.sl 0 0 m' m')).at () [r0]).ent:=Xv _ (fun p hp=>by cases hp) (fun H _ p hp=>by cases hp) (fun x=>rfl) (fun x o ho=>by rw [List.mem_singleton.1 ho];rfl) (fun x hp=>⟨trivial,rfl,Jr (clRow hp) (clLeaf _ _ _ _ _ trivial)⟩) fun x hp=>by
   refine ⟨(cRun cxM 60).call,Xr fol ZN 60,?_⟩
   rcases hform with ⟨p,rfl,rfl⟩ | ⟨p,q,rfl,rfl⟩
   ·exact runMd1 k ⟨a,b,c,d,e⟩ p hp
   ·exact runMd2 k ⟨a,b,c,d,e⟩ p q hp
  refine YV (S:=hMd k ⟨a,b,c,d,e⟩ l (.sl 0 0 m' m')) (x:=()) (ids:=[r0]) (os:=[rowP l]) (args':=[.int .i64 k,.agg (TK.row ⟨a,b,c,d,e⟩),.sl r0 0 m' m']) hS hself rfl rfl rfl ?_ rfl (fun q hq=>by rw [List.mem_singleton.1 hq];exact hd) ⟨⟨rfl,rfl⟩,⟨⟨rfl,rfl⟩,rfl,⟨rfl,rfl⟩,⟨rfl,rfl⟩,⟨rfl,rfl⟩,trivial⟩,⟨rfl,rfl,rfl,rfl⟩,trivial⟩ ⟨?_,trivial⟩ ?_ (fun i hi=>⟨_,List.mem_cons_self ..,(List.mem_singleton.1 hi).symm⟩) r fun vs h=>Zlc hb h
  ·show (List.all [r0] fun j=>Nat.blt j nx)=true
   simp [Nat.blt_eq,hlt]
  ·show (match (H.set r0 (rowP l)).get r0 with
    | none=>False
    | some o=>omP [(0,r0)] (rowP l) o)
   rw [Tr.get_set_same]
   exact Zj9 _ hself hform
  ·show hOut (fN1 (nx + 1) fun n=>(fun ts=>HCt.ret (rnF (tauN 0 ts) 4 (.ptr 1 0)) (ts.zip ([rowP l,leafO k [] 0 d e (.sl 0 0 m' m')].map (rnO (tauN 0 ts)))) n) ([r0] ++ List.range' nx 1))=_
   rw [YG]
   show some (false,AV.ptr nx 0,[(r0,rnO (tauN 0 [r0,nx]) (rowP l)),(nx,leafO k [] 0 d e (.sl r0 0 m' m'))],nx + 1)=_
   rw [rnRow hself]
 ·cases he
theorem okText:HEntOK Tryd.prog 33 eText:=by
 intro H nx args hc he
 unfold eText at he
 split at he
 case h_2=>cases he
 rename_i id x
 obtain ⟨s,hs,he⟩:=Za.1 he
 obtain ⟨⟨⟨⟨⟨⟨k,s0⟩,n⟩,a⟩,b⟩,w⟩,hq,he⟩:=Za.1 he
 obtain ⟨hlt,hd⟩:=Gz hq
 have hv0:∀ ρ vs,VRL ρ [.ptr id 0,x] vs→VRL ρ [.ptr id 0,.bs s] vs:=fun ρ vs h=>by
  cases h with
  | cons _ _ _ vs h1 h2=>cases h2 with
  | cons _ _ _ vs h2 h3=>exact .cons _ _ _ _ h1 (.cons _ _ _ _ (Zam hs ρ _ h2) h3)
 simp only at he
 split at he
 ·injection he with he;subst he
  intro p v up nx' hout E F ρ w0 r
  obtain ⟨rfl,rfl,rfl,rfl⟩:=Up hout
  have hS:HEntOK Tryd.prog 33 ((hTx0 k s0 n a b s).at () [id]).ent:=Xv _ (fun p hp=>by cases hp) (fun H _ p hp=>by cases hp) (fun x=>rfl) (fun x o ho=>by rw [List.mem_singleton.1 ho];rfl) (fun x hp=>⟨trivial,rfl,XM (clLeaf _ _ _ _ _ trivial)⟩) fun x hp=>⟨(cRun cxM 60).call,Xr fol ZN 60,runTx0 k s0 n a b s⟩
  refine YV (S:=hTx0 k s0 n a b s) (x:=()) (ids:=[id]) (os:=[leafO k s0 n a b .sl0]) (args':=[.ptr id 0,.bs s]) hS trivial rfl rfl rfl ?_ rfl (fun q hq=>by rw [List.mem_singleton.1 hq];exact hd) ⟨⟨rfl,rfl⟩,rfl,trivial⟩ ⟨?_,trivial⟩ ?_ (fun i hi=>⟨_,List.mem_cons_self ..,(List.mem_singleton.1 hi).symm⟩) r fun vs h=>hv0 ρ vs h
  ·show (List.all [id] fun j=>Nat.blt j _)=true
   simp [Nat.blt_eq,hlt]
  ·show (match (H.set id (leafO k s0 n a b .sl0)).get id with
    | none=>False
    | some o=>omP [(0,id)] (leafO k s0 n a b .sl0) o)
   rw [Tr.get_set_same]
   exact ⟨rfl,rfl,rfl,⟨⟨⟨⟨⟨⟨trivial,rfl,rfl⟩,rfl⟩,rfl,rfl⟩,rfl,rfl⟩,rfl,rfl⟩,trivial⟩,trivial⟩
  ·show hOut (fN1 (_ + 0) fun n'=>(fun ts=>HCt.ret (rnF (tauN 0 ts) 4 (.ptr 0 0)) (ts.zip ([leafO k s n a b .sl0].map (rnO (tauN 0 ts)))) n') ([id] ++ List.range' _ 0))=_
   rw [YG];rfl
 ·rename_i r0 m m'
  obtain ⟨l,hl,he⟩:=Za.1 he
  cases hne:Nat.beq id r0 with
  | true=>rw [hne] at he;cases he
  | false =>
  rw [hne] at he
  injection he with he;subst he
  intro p v up nx' hout E F ρ w0 r
  obtain ⟨hself,hout⟩:=Xn hout
  obtain ⟨rfl,rfl,rfl,rfl⟩:=Up hout
  obtain ⟨rfl,hlt2,hd2,hform⟩:=JB hl
  have hne':id≠r0:=fun e=>by rw [e,Nat.beq_refl] at hne;cases hne
  have hS:HEntOK Tryd.prog 33 ((hTx k s0 n a b s l (.sl 1 0 m' m')).at () [id,r0]).ent:=Xv _ (fun p hp=>by cases hp) (fun H _ p hp=>by cases hp) (fun x=>rfl) (fun x=>JD rfl rfl) (fun x hp=>⟨trivial,rfl,Jr (clLeaf _ _ _ _ _ trivial) (clRow hp)⟩) fun x hp=>by
   refine ⟨(cRun cxM 60).call,Xr fol ZN 60,?_⟩
   rcases hform with ⟨p,rfl,rfl⟩ | ⟨p,q,rfl,rfl⟩
   ·exact runTx1 k s0 n a b s p hp
   ·exact runTx2 k s0 n a b s p q hp
  refine YV (S:=hTx k s0 n a b s l (.sl 1 0 m' m')) (x:=()) (ids:=[id,r0]) (os:=[leafO k s0 n a b (.sl r0 0 m' m'),rowP l]) (args':=[.ptr id 0,.bs s]) hS hself rfl rfl ?_ ?_ rfl ?_ ⟨⟨rfl,rfl⟩,rfl,trivial⟩ ⟨?_,?_,trivial⟩ ?_ ?_ r fun vs h=>hv0 ρ vs h
  ·show cond (List.any [r0] (Nat.beq id)) false true=true
   simp only [List.any_cons,List.any_nil,hne,Bool.or_false,cond_false]
  ·show (List.all [id,r0] fun j=>Nat.blt j _)=true
   simp [Nat.blt_eq,hlt,hlt2]
  ·exact JD (p:=fun q:Nat×AObj=>Desc H q.1 q.2) hd hd2
  ·show (match ((H.set r0 (rowP l)).set id (leafO k s0 n a b (.sl r0 0 m' m'))).get id with
    | none=>False
    | some o=>omP [(0,id),(1,r0)] (leafO k s0 n a b (.sl 1 0 m' m')) o)
   rw [Tr.get_set_same]
   exact ⟨rfl,rfl,rfl,⟨⟨⟨⟨⟨⟨trivial,rfl,rfl⟩,rfl⟩,rfl,rfl⟩,rfl,rfl⟩,rfl,rfl⟩,trivial⟩,⟨rfl,rfl,rfl,rfl⟩⟩
  ·show (match ((H.set r0 (rowP l)).set id (leafO k s0 n a b (.sl r0 0 m' m'))).get r0 with
    | none=>False
    | some o=>omP [(0,id),(1,r0)] (rowP l) o)
   rw [Tr.get_set_ne _ hne',Tr.get_set_same]
   exact Zj9 _ hself hform
  ·show hOut (fN1 (_ + 0) fun n'=>(fun ts=>HCt.ret (rnF (tauN 0 ts) 4 (.ptr 0 0)) (ts.zip ([leafO k s n a b (.sl 1 0 m' m'),rowP l].map (rnO (tauN 0 ts)))) n') ([id,r0] ++ List.range' _ 0))=_
   rw [YG]
   show some (false,AV.ptr id 0,[(id,leafO k s n a b (.sl r0 0 m' m')),(r0,rnO (tauN 0 [id,r0]) (rowP l))],_)=_
   rw [rnRow hself];rfl
  ·exact JD (p:=fun i:Nat=>∃ q∈[(id,leafO k s n a b (.sl r0 0 m' m')),(r0,rowP l)],q.1=i) ⟨_,List.mem_cons_self ..,rfl⟩ ⟨_,List.mem_cons_of_mem _ (List.mem_singleton.2 rfl),rfl⟩
 ·cases he
end Go.Proofs.YtlmmbanfhjaioaaDoor
end
section
set_option maxRecDepth 100000
set_option maxHeartbeats 2000000
open Go Go.Ev
namespace Go.Proofs.YtlmmbanfhjaioaaDoor
noncomputable def oF (L:List TK) (F:List TK→PF) (s:RS):HO:=.gen (F L s) fun y=>.br (ieq y.2.err 0) (.ret (pvX y.1) [objP L y.2] 0) (.pan (stopV L y.2) [objN] 0)
noncomputable def mF (L:List TK) (n:Nat) (F:List TK→PF):HEnt:=mP L Unit rd0 (fun s _=>Pre L n s) (fun s _=>oF L F s)
noncomputable def mG (L:List TK) (F:List TK→PF):HEnt:=mP L Unit rd0 (fun _ _=>True) (fun s _=>oF L F s)
structure VmE (x:PT) (v:AV):Prop where
 h:∀ σ,vmP σ (pvX x) v
structure EqR (L:List TK) (c:AV) (m:Int) (v:AV) (t:PT×RS):Prop where
 e:t.2.err=0
 c:c=cP L t.2
 m:m=t.2.nest
 v:VmE t.1 v
structure EqN (L:List TK) (v:AV) (t:RS):Prop where
 e:t.err≠0
 v:v=stopV L t
noncomputable def ResP (L:List TK) (t:PT×RS):KC:=fun r=>match r with
 | .mk v H _=>okP (findP H (.ptr 4 0)) fun q=>okP (frz Tryd.prog H v) fun f=>sdA f.1 (EqR L q.1.1 q.1.2 f.2.1 t∧sdA (f.2.2.2.all fun i=>not (Nat.beq i 4)) True)
 | .pan v H _=>okP (H.get 4) fun o=>match o with
  | .cells ty c z n op=>sdA (cond (Nat.beq ty 55) (cond (Nat.beq n 2) (not op) false) false) (EqN L v t.2)
  | _=>False
 | _=>False
noncomputable def htE (L:List TK):HTbl:=(21,eMade) :: (33,eText) :: (32,mName L) :: htD L
theorem htE_ok (L:List TK):HtOK Tryd.prog (htE L):=ZI okMade (ZI okText (ZI (okNameP L) (htD_ok L)))
noncomputable def cxE (L:List TK):Ctx:=cxP (htE L) (htE_ok L)
mutual
theorem vm_pvT (σ:List (Nat×Nat)):∀ x:PT,vmP σ (pvT x) (pvT x)
 | .mk k s n l c ks=>by
  unfold pvT
  exact ⟨⟨rfl,rfl⟩,rfl,⟨rfl,rfl⟩,⟨rfl,rfl⟩,⟨rfl,rfl⟩,trivial,⟨rfl,rfl,⟨fun i _=>VZ σ ks i⟩⟩,trivial⟩
theorem VZ (σ:List (Nat×Nat)):∀ (ks:List PT) (i:Nat),vmL σ ((pvL ks).getD i []) ((pvL ks).getD i [])
 | [],i=>by unfold pvL;exact trivial
 | y :: ys,0=>by unfold pvL;exact ⟨vm_pvT σ y,trivial⟩
 | y :: ys,i + 1=>by unfold pvL;exact VZ σ ys i
end
theorem Qt (σ:List (Nat×Nat)) (x:PT):vmP σ (pvX x) (pvX x):=by rw [← Zft];exact vm_pvT σ x
theorem Ku (x:PT):VmE x (pvX x):=⟨fun σ=>Qt σ x⟩
theorem Yk:∀ (ks:List PT) (i:Nat) (h:i < ks.length),(pvL ks).getD i []=[pvX ks[i]]
 | [],i,h=>by simp at h
 | x :: xs,0,h=>by unfold pvL;rw [Zft];rfl
 | x :: xs,i + 1,h=>by
  unfold pvL
  have:=Yk xs i (by simpa using h)
  simpa using this
theorem Gg {k n:Int} {x:List UInt8} {tk:TK} {ks:List PT} {w:AV} (hw:∀ σ,vmP σ (.vec 1 ks.length fun i=>(pvL ks).getD i []) w):VmE (nd k x n tk ks) (.pv [.int .i64 k,.bs x,.int .i64 n,.int .i64 tk.line,.int .i64 tk.col,.sl0,w]) :=
 ⟨fun σ=>⟨⟨rfl,rfl⟩,rfl,⟨rfl,rfl⟩,⟨rfl,rfl⟩,⟨rfl,rfl⟩,trivial,hw σ,trivial⟩⟩
theorem kids0 (σ:List (Nat×Nat)):vmP σ (.vec 1 ([]:List PT).length fun i=>(pvL []).getD i []) .sl0:=rfl
theorem kidsN {σ:List (Nat×Nat)} {ks:List PT} {m:Nat} {g:Nat→List AV} (hm:m=ks.length) (hg:∀ i,(h:i < ks.length)→g i=[pvX ks[i]]):vmP σ (.vec 1 ks.length fun i=>(pvL ks).getD i []) (.vec 1 m g):=by
 refine ⟨rfl,hm,⟨fun i hi=>?_⟩⟩
 have hi':i < ks.length:=by omega
 show vmL σ ((pvL ks).getD i []) (g i)
 rw [Yk ks i hi',hg i hi']
 exact ⟨Qt σ _,trivial⟩
def wsB (ws:List (List UInt8)):Bool:=(ws.all fun w=>isWordT w == decide (kindS w=2)) && decide (ws.length≤1000)
theorem Xf {ws:List (List UInt8)} (h:wsB ws=true):WsP ws:=by
 unfold wsB at h
 rw [Bool.and_eq_true,List.all_eq_true,decide_eq_true_eq] at h
 exact ⟨fun w hw=>by have:=h.1 w hw;simpa using this,h.2⟩
theorem Zbv {L:List TK} {y t:RS} (h:Kp y t) (he:y.err≠0):EqN L (stopV L y) t:=by
 obtain ⟨h1,h2⟩:=h.e he
 refine ⟨by rw [h1];exact he,?_⟩
 unfold stopV lnAt clAt
 rw [h1,h2]
theorem Xu {L:List TK} {k n:Int} {x:List UInt8} {tk:TK} {s:RS} {t:PT×RS} (h:t=(nd k x n tk [],s)) (he:s.err=0):EqR L (cP L s) s.nest (.pv [.int .i64 k,.bs x,.int .i64 n,.int .i64 tk.line,.int .i64 tk.col,.sl0,.sl0]) t:=by
 subst h
 exact ⟨he,rfl,rfl,Gg kids0⟩
theorem Xy {L:List TK} {y t:PT×RS} (h:t=y) (he:y.2.err=0):EqR L (cP L y.2) y.2.nest (pvX y.1) t:=by
 subst h
 exact ⟨he,rfl,rfl,Ku _⟩
theorem sub_ok {L:List TK} {t:RS} {c:Tr AV} {z:CB} {σ:List (Nat×Nat)}:subC .leaf (.per [cP L t,.int .i64 t.nest]) c z 2 σ=σ:=by
 have step:∀ (x:AV) (k:Nat) (σ:List (Nat×Nat)),(∀ b,subA x b σ=σ)→(match cellOf c z k with
   | none=>σ
   | some b=>subA x b σ)=σ:=fun x k σ hx=>by
  split
  ·rfl
  ·exact hx _
 have s0:subC .leaf (.per [cP L t,.int .i64 t.nest]) c z 1 σ=σ:=step (cP L t) 0 _ fun b=>rfl
 exact (step (.int .i64 t.nest) 1 _ fun b=>rfl).trans s0
theorem subN_ok {c:Tr AV} {z:CB} {σ:List (Nat×Nat)}:subC .leaf (.per []) c z 2 σ=σ:=rfl
theorem Zm5 {H:Tr AObj} {c:AV} {m:Int} {id i:Nat} (h:findP H (.ptr id 0)=some ((c,m),i)):i=id∧∃ cc z,H.get id=some (.cells 55 cc z 2 false)∧cellOf cc z 0=some c∧cellOf cc z 1=some (.int .i64 m):=by
 obtain ⟨o,ho,h⟩:=Za.1 h
 split at h
 ·rename_i ty cc z n op
  obtain ⟨h1,h2⟩:=Vg h
  clear h
  obtain ⟨cs,hcs,h⟩:=Za.1 h2
  clear h2
  split at h
  ·rename_i c' m'
   injection h with h;injection h with h h2;injection h with h3 h4
   subst h2;subst h3;subst h4
   obtain ⟨e1,h1⟩:=Ze h1
   obtain ⟨e2,e3⟩:=Ze h1
   rw [Nat.beq_eq] at e1 e2
   have e3:op=false:=by cases op <;> simp_all
   subst e1;subst e2;subst e3
   have hr:=(Wf cc z 2 0 _ hcs).2
   exact ⟨rfl,cc,z,ho,hr 0 _ rfl,hr 1 _ rfl⟩
  ·cases h
 ·cases h
theorem resP_res {L:List TK} {F:List TK→PF} {s:RS} {r:CR} (h:ResP L (F L s) r):ResO Tryd.prog 1 4 (4 + 1) (oF L F s) r:=by
 show brP (ieq (F L s).2.err 0) (ResO Tryd.prog 1 4 (4 + 1) (.ret (pvX (F L s).1) [objP L (F L s).2] 0) r) (ResO Tryd.prog 1 4 (4 + 1) (.pan (stopV L (F L s).2) [objN] 0) r)
 generalize F L s=t at h
 unfold ResP at h
 split at h
 ·rename_i v H n
  obtain ⟨⟨⟨c,m⟩,i⟩,hq,h⟩:=Zg h
  obtain ⟨⟨f1,v',fz,ids⟩,hf,h⟩:=Zg h
  obtain ⟨h1,h2,h3⟩:=ZM.1 h
  simp only at h1 h2 h3
  subst h1
  obtain ⟨h3,_⟩:=ZM.1 h3
  obtain ⟨e,hc,hm,hv⟩:=h2
  obtain ⟨rfl,cc,z,hg,g0,g1⟩:=Zm5 hq
  refine Zc (fun _=>?_) fun e2=>by rw [Zu] at e2;exact absurd e e2
  have hdel:(delL H ids).get 4=some (.cells 55 cc z 2 false):=by
   have:∀ l:List Nat,(l.all fun i=>not (Nat.beq i 4))=true→(delL H l).get 4=H.get 4:=fun l=>by
    induction l with
    | nil=>intro _;rfl
    | cons a l ih =>
     intro h
     rw [List.all_cons,Bool.and_eq_true] at h
     show ((delL H l).del a).get 4=_
     rw [Tr.get_del,if_neg (fun e=>by rw [e,Nat.beq_refl] at h;cases h.1)]
     exact ih h.2
   rw [this ids h3,hg]
  show okP (frz Tryd.prog H v) _
  rw [hf]
  refine Zd rfl ?_
  have e1:subH (delL H ids) [(4,objP L t.2)] (idS (4 + 1))=idS (4 + 1):=by
   show fL (Option.rec (motive:=fun _=>List (Nat×Nat)) (idS (4 + 1)) (fun o=>subOb (objP L t.2) o (idS (4 + 1))) ((delL H ids).get 4)) (fun σ=>σ)=_
   rw [hdel,Zek];exact sub_ok
  show fL (subH (delL H ids) [(4,objP L t.2)] (idS (4 + 1))) (fun σ=>cond (Nat.beq 1 1) (cond (Nat.ble (4 + 1) (4 + 1)) (sgWF (4 + 1) (4 + 1) [4] σ) false) false=true∧tP σ (Tr.leaf.set 0 v') [(0,pvX t.1)]∧Go.Ev.hP (4 + 1) σ (delL H ids) [(4,objP L t.2)])
  rw [e1,Zek]
  refine ⟨rfl,⟨hv.h _,trivial⟩,⟨rfl,?_⟩,trivial⟩
  show (match (delL H ids).get 4 with
   | none=>False
   | some o=>omP (idS (4 + 1)) (objP L t.2) o)
  rw [hdel]
  have pp:∀ (x y:AV) (k:Nat),cellOf cc z k=some y→vmP (idS (4 + 1)) x y→(match cellOf cc z k with
    | none=>False
    | some b=>vmP (idS (4 + 1)) x b):=fun x y k h1 h2=>by rw [h1];exact h2
  exact ⟨rfl,rfl,rfl,⟨trivial,pp _ _ 0 g0 (by rw [hc];exact Zk1 _ L t.2)⟩,pp _ _ 1 g1 (by rw [hm];exact ⟨rfl,rfl⟩)⟩
 ·rename_i v H n
  obtain ⟨o,ho,h⟩:=Zg h
  split at h
  ·rename_i ty cc z m op
   obtain ⟨h1,h⟩:=ZM.1 h
   obtain ⟨e,hv⟩:=h
   obtain ⟨e1,h1⟩:=Ze h1
   obtain ⟨e2,e3⟩:=Ze h1
   rw [Nat.beq_eq] at e1 e2
   have e3:op=false:=by cases op <;> simp_all
   subst e1;subst e2;subst e3;subst hv
   refine Zc (fun e2=>by rw [ZC] at e2;exact absurd e2 e) fun _=>?_
   show leafK Tryd.prog 1 (4 + 1) (stopV L t.2) [objN] 0 4 (stopV L t.2) H n
   unfold leafK
   rw [show fzV 1 Tryd.prog H (stopV L t.2)=some (true,stopV L t.2,[],[]) from rfl]
   refine Zd rfl ?_
   have e1:subH H [(4,objN)] (idS (4 + 1))=idS (4 + 1):=by
    show fL (Option.rec (motive:=fun _=>List (Nat×Nat)) (idS (4 + 1)) (fun o=>subOb objN o (idS (4 + 1))) (H.get 4)) (fun σ=>σ)=_
    rw [ho,Zek];exact subN_ok (c:=cc) (z:=z)
   show fL (subH H [(4,objN)] (idS (4 + 1))) (fun σ=>cond (Nat.beq 1 1) (cond (Nat.ble (4 + 1) (4 + 1)) (sgWF (4 + 1) (4 + 1) [4] σ) false) false=true∧tP σ (Tr.leaf.set 0 (stopV L t.2)) [(0,stopV L t.2)]∧Go.Ev.hP (4 + 1) σ H [(4,objN)])
   rw [e1,Zek]
   refine ⟨rfl,⟨⟨rfl,⟨⟨rfl,rfl⟩,⟨rfl,rfl⟩,⟨rfl,rfl⟩,trivial⟩⟩,trivial⟩,⟨rfl,?_⟩,trivial⟩
   show (match H.get 4 with
    | none=>False
    | some o=>omP (idS (4 + 1)) objN o)
   rw [ho]
   exact ⟨rfl,rfl,rfl,⟨trivial,trivial⟩,trivial⟩
  ·exact h.elim
 ·exact h.elim
noncomputable def qt (a:List TK) (b:RS):=EqR a (cP a b) (RS.nest b)
noncomputable def qy (a:TK):=AV.int .i64 (TK.line a)
noncomputable def qA (a:List TK) (b:RS):=EqN a (stopV a b)
noncomputable def qB:=AV.int .i64 (0:Int)
noncomputable def qI (a:TK):=AV.int .i64 (TK.col a)
noncomputable def qP (a:TK):=AV.bs (TK.text a)
theorem Zm1:∀ (L:List TK) (s:RS) (t:PT×RS),R0 L s→t=useM L s→(qd L s fun (s:RS)=>(1:Int)≠(0:Int))∧∀ (y:TK×RS),y=qbf L s→qh y.2 ((((qP y.1=qP y.1∧True∧True)∧True)∧qs∧qs∧True)∧qt L y.2 (AV.pv [AV.int .i64 (29:Int),qP y.1,qB,qy y.1,qI y.1,AV.sl0,AV.sl0]) t∧True) (qA L y.2 t.2)
:= by
 delta qb qd qh qs qt qy qA qB qI qP qbf
 intro L s t hs ht
 simp only [Zi,Zs,true_and,and_true,eq_self,implies_true,Nat.le_eq,ZA,Zz,ZK,Int.toNat_natCast,Int.ofNat_eq_natCast,Nat.ble_eq,Nat.ble_self_eq_true,Bool.true_and,Bool.and_true,Bool.and_self,Option.some.injEq,AV.int.injEq,Zo,Zj,Nat.mul_one,Nat.beq_refl,Zn,cond_true,cond_false,Zp,Bool.not_true,Bool.not_false,decide_true,ZY,Ya,ZZ,Zf,List.nil_append]
 refine ⟨preC hs (by decide),fun y hy=>?_⟩
 rw [WT hs] at hy
 have ht:t=(nd 29 y.1.text 0 y.1 [],y.2):=by rw [ht,hy];rfl
 exact Zc (fun e=>Xu ht (ZC.1 e)) fun e=>Zbv (by rw [ht];exact Zy _) (Zu.1 e)
theorem runUseP:∀ (L:List TK) (s:RS) (t:PT×RS),R0 L s→t=useM L s→(cRun (cxE L) 60).call 37 [.ptr 4 0] (mkH (glT ++ numL [objP L s] 4)) (4 + 1) (ResP L t) :=
 Eq.mpr (by kernel_rfl) Zm1
@[reducible] def Vi:List TK→PT×RS→TK×RS→Prop:=fun (L:List TK) (t:PT×RS) (a:TK×RS)=>(((AV.bs (TK.text a.1)=AV.bs (TK.text a.1)∧True∧True)∧True)∧((True∧True∧True)∧True)∧((True∧True∧True)∧True)∧True)∧EqR L (cP L a.2) (RS.nest a.2) (AV.pv [AV.int .i64 (5:Int),AV.bs (TK.text a.1),AV.int .i64 (0:Int),AV.int .i64 (TK.line a.1),AV.int .i64 (TK.col a.1),AV.sl0,AV.sl0]) t∧True
@[reducible] def Vo:List TK→RS→PT×RS→Prop:=fun (L:List TK) (s:RS) (t:PT×RS)=>(True∧PreC L (cP L s) (RS.nest s) fun (s:RS)=>WsP [[(105:UInt8),(110:UInt8),(116:UInt8)],[(102:UInt8),(110:UInt8)],[(116:UInt8),(111:UInt8),(107:UInt8)],[(104:UInt8),(97:UInt8),(110:UInt8),(100:UInt8)],[(97:UInt8),(114:UInt8),(114:UInt8)]])∧∀ (y:TK×RS),y=oneR L (stP L (cP L s) (RS.nest s)) [[(105:UInt8),(110:UInt8),(116:UInt8)],[(102:UInt8),(110:UInt8)],[(116:UInt8),(111:UInt8),(107:UInt8)],[(104:UInt8),(97:UInt8),(110:UInt8),(100:UInt8)],[(97:UInt8),(114:UInt8),(114:UInt8)]]→brP (ieq (RS.err y.2) (0:Int)) (Vi L t y) (EqN L (stopV L y.2) t.2)
theorem Zmp:∀ (L:List TK) (s:RS) (t:PT×RS),R0 L s→t=typM L s→qcg s L (qa1 s L (brP (ieq (TK.kind (qL s L)) (1:Int)) ((qn L s)∧∀ (y:TK×RS),y=(qC L s)→Vi L t y) (Vo L s t))) (Vo L s t)
:= by
 delta qb qd qg qn qC qL qab qa1 qcg
 intro L s t hs ht
 simp only [Zi,Zs,true_and,and_true,eq_self,implies_true,Nat.le_eq,ZA,Zz,ZK,Int.toNat_natCast,Int.ofNat_eq_natCast,Nat.ble_eq,Nat.ble_self_eq_true,Bool.true_and,Bool.and_true,Bool.and_self,Option.some.injEq,AV.int.injEq,Zo,Zj,Nat.mul_one,Nat.beq_refl,Zn,cond_true,cond_false,Zp,Bool.not_true,Bool.not_false,decide_true,ZY,Ya,ZZ,Zf,List.nil_append,Vi,Vo]
 have hd:=dropL hs
 have h0:=hs.ok.a0
 rw [WT hs]
 have alt:(ahd L s).kind≠1→(PreC L (cP L s) s.nest fun _=>WsP ws5)∧∀ y:TK×RS,y=oneR L s ws5→brP (ieq y.2.err 0) (EqR L (cP L y.2) y.2.nest (.pv [.int .i64 5,.bs y.1.text,.int .i64 0,.int .i64 y.1.line,.int .i64 y.1.col,.sl0,.sl0]) t) (EqN L (stopV L y.2) t.2):=fun hk =>
  ⟨preC hs (Xf rfl),fun y hy=>by
   have ht:t=(nd 5 y.1.text 0 y.1 [],y.2):=by rw [ht,hy];unfold typM;rw [if_neg hk]
   exact Zc (fun e=>Xu ht (ZC.1 e)) fun e=>Zbv (by rw [ht];exact Zy _) (Zu.1 e)⟩
 refine Zc (fun c=>?_) fun c=>?_
 ·rw [ZR] at c
  have hl:s.at_ < L.length:=by omega
  rw [KM hs hl]
  refine Zd (ZD.2 (by omega)) (Zc (fun c1=>?_) fun c1=>alt (Zu.1 c1))
  rw [ZC] at c1
  refine ⟨preC hs hl,fun y hy=>?_⟩
  exact Xu (by rw [ht,hy];unfold typM;rw [if_pos c1]) (by rw [hy];exact hs.e)
 ·rw [ZF] at c
  exact alt (by rw [Jg (by omega)];decide)
theorem runTypP:∀ (L:List TK) (s:RS) (t:PT×RS),R0 L s→t=typM L s→(cRun (cxE L) 60).call 34 [.ptr 4 0] (mkH (glT ++ numL [objP L s] 4)) (4 + 1) (ResP L t) :=
 Eq.mpr (by kernel_rfl) Zmp
theorem clV (x:PT):clF 4 (pvX x):=Qt [] x
theorem Xa {g:FuncId} {L:List TK} {pre:RS→Prop} {F:List TK→PF} (hrun:∀ s,R0 L s→pre s→∃ (cx:Ctx) (fuel:Nat),cx.P=Tryd.prog∧cx.P.follows .mixedOrders=true∧TbOK cx.P cx.tb∧∀ t,t=F L s→(cRun cx fuel).call g [.ptr 4 0] (mkH (glT ++ numL [objP L s] 4)) (4 + 1) (ResP L t)):HEntOK Tryd.prog g (mP L Unit rd0 (fun s _=>pre s) (fun s _=>oF L F s)) :=
 Zhu (ar:=fun _=>[]) (fz:=1) (fun s a _ _=>⟨fun _=>⟨clV _,rfl,XM (clP L _)⟩,fun _=>⟨clStop L _,rfl,XM clN⟩⟩) (fun s a _ _=>⟨⟨rfl,fun _=>rfl,XM fun _=>rfl⟩,⟨rfl,fun _=>rfl,XM fun _=>rfl⟩⟩) (fun σ a=>trivial) Zj2 fun s a h1 h2=>by
  obtain ⟨cx,fuel,e1,e2,e3,e4⟩:=hrun s h1 h2
  exact ⟨cx,fuel,ResP L (F L s),e1,e2,e3,fun r h=>resP_res h,e4 _ rfl⟩
theorem okUseP (L:List TK):HEntOK Tryd.prog 37 (mG L useM):=Xa fun s h _=>⟨cxE L,60,rfl,fol,ZN,fun t ht=>runUseP L s t h ht⟩
theorem okTypP (L:List TK):HEntOK Tryd.prog 34 (mG L typM):=Xa fun s h _=>⟨cxE L,60,rfl,fol,ZN,fun t ht=>runTypP L s t h ht⟩
noncomputable def htF' (L:List TK):HTbl:=(37,mG L useM) :: (34,mG L typM) :: htE L
theorem htF'_ok (L:List TK):HtOK Tryd.prog (htF' L):=ZI (okUseP L) (ZI (okTypP L) (htE_ok L))
end Go.Proofs.YtlmmbanfhjaioaaDoor
end
section
set_option maxRecDepth 100000
set_option maxHeartbeats 2000000
open Go Go.Ev
namespace Go.Proofs.YtlmmbanfhjaioaaDoor
structure FG (L:List TK) (n:Nat) (F:List TK→PF):Prop where
 g:GF n 1 2 F
 k:KF (F L)
noncomputable def htG (L:List TK) (n:Nat) (T B:List TK→PF):HTbl:=(70,mF L n T) :: (31,mF L n B) :: htF' L
structure OkG (L:List TK) (n:Nat) (T B:List TK→PF):Prop where
 t:HEntOK Tryd.prog 70 (mF L n T)
 b:HEntOK Tryd.prog 31 (mF L n B)
theorem htG_ok {L:List TK} {n:Nat} {T B:List TK→PF} (h:OkG L n T B):HtOK Tryd.prog (htG L n T B):=ZI h.t (ZI h.b (htF'_ok L))
noncomputable def cxG (L:List TK) (n:Nat) (T B:List TK→PF) (h:OkG L n T B):Ctx:=cxP (htG L n T B) (htG_ok h)
theorem ZS {L:List TK} {E C:Int} {s:RS} {r:PT×RS} (h:R0 L s) (hp:Post L E C s r) (hk:Kp s r.2) (e:r.2.err=0):R0 L r.2:=⟨hp.ok,e,by rw [hk.o e,h.w]⟩
theorem Xs {L:List TK} {s r:RS} (h:R0 L s) (hp:Stp L s r) (hk:Kp s r) (e:r.err=0):R0 L r:=⟨hp.ok,e,by rw [hk.o e,h.w]⟩
theorem YS {L:List TK} {s:RS} (h:R0 L s) (hl:s.at_ < L.length):R0 L (at1 s):=⟨XP h.ok hl,h.e,h.w⟩
theorem Yj {L:List TK} {s:RS} {ws:List (List UInt8)} {G:RS→Prop} (h:R0 L s) (hw:wsB ws=true) (hG:G s):(PreC L (cP L s) s.nest fun _=>WsP ws)∧∀ y,y=stP L (cP L s) s.nest→G y :=
 ⟨preC h (Xf hw),fun y hy=>by rw [hy,WT h];exact hG⟩
theorem YN {L:List TK} {s:RS} {G:TK×RS→Prop} (h:R0 L s) (hl:s.at_ < L.length) (hG:G (ahd L s,at1 s)):(PreC L (cP L s) s.nest fun s=>s.at_ < L.length)∧∀ y,y=(ahd L (stP L (cP L s) s.nest),at1 (stP L (cP L s) s.nest))→G y :=
 ⟨preC h hl,fun y hy=>by rw [hy,WT h];exact hG⟩
theorem Zbw {L:List TK} {s r:RS} {e:Int} (h:R0 L s) (he:e≠0) (hk:Kp (wrongR s e) r):(PreC L (cP L s) s.nest fun _=>e≠0)∧EqN L (stopV L (wrongR (stP L (cP L s) s.nest) e)) r :=
 ⟨preC h he,by rw [WT h];exact Zbv hk (Un s he).1⟩
theorem ZG {L:List TK} {s r:RS} {p:RS→Prop} {α:Type} {f:RS→α×RS} {K:α×RS→Prop} (h:R0 L s) (hp:p s) (hk:Kp (f s).2 r) (hK:(f s).2.err=0→K (f s)):PreC L (cP L s) s.nest p∧∀ y,y=f (stP L (cP L s) s.nest)→brP (ieq y.2.err 0) (K y) (EqN L (stopV L y.2) r) :=
 ⟨preC h hp,fun y hy=>by rw [hy,WT h];exact Zc (fun e=>hK (ZC.1 e)) fun e=>Zbv hk (Zu.1 e)⟩
def up1 (s:RS):RS:={ s with nest:=s.nest + 1 }
theorem Zlr {L:List TK} {s:RS} (h:R0 L s) (hn:s.nest≤900):R0 L (up1 s):=⟨⟨h.ok.len,h.ok.a0,h.ok.a1,by have:=h.ok.n0;show 0≤s.nest + 1;omega,by show s.nest + 1≤1000;omega⟩,h.e,h.w⟩
theorem r0_down {L:List TK} {s:RS} (h:R0 L s) (hn:1≤s.nest):R0 L (down s):=⟨Je h.ok hn,h.e,h.w⟩
theorem Zhn {L:List TK} {s:RS} {w v:List UInt8} (h:¬ (isS L s w=true∧64≤s.nest)):isS L (deepR L s w) v=isS L s v:=by
 unfold deepR
 rw [if_neg h];rfl
theorem Kg {L:List TK} {s:RS} {w:List UInt8} (h:isS L s w=true) (hn:s.nest < 64):openR L s w=(ahd L s,up1 (at1 s)):=by
 have hd:¬ (isS L s w=true∧64≤s.nest):=by rintro ⟨_,e⟩;omega
 unfold openR signR takeR
 rw [Zhn hd,if_pos h]
 unfold deepR
 rw [if_neg hd];rfl
theorem kp_open4 {L:List TK} {s:RS} {w:List UInt8} (hs:R0 L s) (h:isS L s w=false):Kp (wrongR s 4) (openR L s w).2:=by
 have hd:¬ (isS L s w=true∧64≤s.nest):=by rw [h];rintro ⟨e,_⟩;cases e
 unfold openR signR takeR
 rw [Zhn hd,if_neg (nb h)]
 unfold deepR wrongR
 rw [if_neg hd,if_pos hs.e,if_pos hs.e]
 exact ⟨fun _=>⟨rfl,rfl⟩,fun _=>rfl⟩
theorem Kj {L:List TK} {s:RS} {w:List UInt8} (hs:R0 L s) (h:isS L s w=true) (hn:s.nest=64):Kp (wrongR s 5) (openR L s w).2:=by
 refine Kp.tr ?_ (ZB L (deepR L s w) w)
 unfold deepR
 rw [if_pos ⟨h,by omega⟩]
 exact ⟨fun _=>⟨rfl,rfl⟩,fun _=>rfl⟩
theorem Yr (L:List TK) (s:RS) (w:List UInt8):signR L s w=oneR L s [w]:=by unfold signR oneR;rw [any1 rfl]
theorem vmA (x:PT):SelfA (pvX x):=⟨fun σ=>Qt σ x,clV x,fun _=>rfl⟩
theorem self1 (x:PT):SelfL [pvX x]:=⟨fun a ha=>by rw [List.mem_singleton.1 ha];exact vmA x⟩
theorem self2 (x y:PT):SelfL [pvX x,pvX y]:=⟨JD (vmA x) (vmA y)⟩
theorem WY {L:List TK} {k n:Int} {x:List UInt8} {tk:TK} {s:RS} {t:PT×RS} {y:PT} {g:Nat→List AV} (h:t=(nd k x n tk [y],s)) (he:s.err=0) (hg:g 0=[pvX y]):SelfL [pvX y]∧EqR L (cP L s) s.nest (.pv [.int .i64 k,.bs x,.int .i64 n,.int .i64 tk.line,.int .i64 tk.col,.sl0,.vec 1 1 g]) t:=by
 subst h
 refine ⟨self1 y,he,rfl,rfl,Gg fun σ=>kidsN rfl fun i hi=>?_⟩
 obtain rfl:i=0:=by simp at hi;omega
 exact hg
theorem VJ {L:List TK} {k n:Int} {x:List UInt8} {tk:TK} {s:RS} {t:PT×RS} {y z:PT} {g:Nat→List AV} (h:t=(nd k x n tk [y,z],s)) (he:s.err=0) (hg:g 0=[pvX y]) (hg1:g 1=[pvX z]):SelfL [pvX y,pvX z]∧EqR L (cP L s) s.nest (.pv [.int .i64 k,.bs x,.int .i64 n,.int .i64 tk.line,.int .i64 tk.col,.sl0,.vec 1 2 g]) t:=by
 subst h
 refine ⟨self2 y z,he,rfl,rfl,Gg fun σ=>kidsN rfl fun i hi=>?_⟩
 rcases (show i=0∨i=1 by simp at hi;omega) with rfl | rfl
 ·exact hg
 ·exact hg1
noncomputable def qa (a:PT):=AV.pv [AV.int .i64 (PT.kind a),AV.bs (PT.text a),AV.int .i64 (PT.num a),AV.int .i64 (PT.line a),AV.int .i64 (PT.col a),AV.sl0,AV.vec 1 (List.length (PT.ks a)) fun (v1:Nat)=>List.getD (pvL (PT.ks a)) v1 []]
noncomputable def qf (a:TK):=AV.agg [AV.int .i64 (TK.kind a),AV.bs (TK.text a),AV.int .i64 (TK.num a),AV.int .i64 (TK.line a),AV.int .i64 (TK.col a)]
noncomputable def qS (a:List TK) (b:RS) (c:RS):=((qd a b fun (v1:RS)=>(4:Int)≠(0:Int))∧EqN a (stopV a (wrongR (qb a b) (4:Int))) c)
noncomputable def qU (a:RS) (b:List TK) (c:RS):=brP (ieq (RS.nest a) (64:Int)) ((qd b a fun (v1:RS)=>(5:Int)≠(0:Int))∧EqN b (stopV b (wrongR (qb b a) (5:Int))) c)
noncomputable def qag (a:List TK) (b:RS) (c:Nat):=(qd a b fun (v1:RS)=>Pre a c v1)
noncomputable def qaN (a:PT):=SelfL [qa a]
noncomputable def qaV (a:List TK) (b:RS):=(qd a b fun (v1:RS)=>True)
noncomputable def qbc:=((AV.ptr 4 0=AV.ptr 4 0∧True∧True)∧True)
noncomputable def qbw (a:List TK) (b:RS) (c:Nat):=(PreC a (cP a b) (RS.nest b + 1) fun (v1:RS)=>Pre a c v1)
noncomputable def qbL (a:RS):=sdA (inR .i64 (RS.nest a - 1))
noncomputable def qbM (a:RS):=sdA (inR .i64 (RS.nest a + 1))
noncomputable def qcB (a:List TK) (b:RS):=stP a (cP a b) (RS.nest b + 1)
noncomputable def qcC (a:List TK) (b:RS):=oneR a (qb a b)
noncomputable def qcE (a:List TK) (b:RS):=EqR a (cP a b) (RS.nest b - 1)
noncomputable def qcI:=[[(110:UInt8),(117:UInt8),(108:UInt8),(108:UInt8)]]
noncomputable def qcP:=[(102:UInt8),(110:UInt8)]
noncomputable def qcR (a:RS) (b:List TK) (c:PT) (d:PT×RS) (e:RS):=qh a (qt b a (qa c) d∧True) (qA b a e)
theorem Zgw:∀ (L:List TK) (n:Nat) (T B:List TK→PF),OkG L n T B→∀ (s:RS) (t:PT×RS),R0 L s→Pre L (n + 1) s→FG L n T→FG L n B→t=firstM T B L s→brP (ieq (Int.ofNat (qab s L)) (0:Int)) (qS L s t.2) (qa1 s L (brP (ieq (TK.kind (qL s L)) (3:Int)) ((qn L s)∧∀ (y:TK×RS),y=(qC L s)→qt L y.2 (AV.pv [AV.int .i64 (26:Int),AV.bs [],AV.int .i64 (TK.num y.1),qy y.1,qI y.1,AV.sl0,AV.sl0]) t∧True) ((True∧qd L s fun (s:RS)=>WsP qcI)∧∀ (y:RS),y=qb L s→brP (bar (List.any qcI (isS L y))) ((qn L y)∧∀ (y_1:TK×RS),y_1=(qC L y)→qt L y_1.2 (AV.pv [AV.int .i64 (27:Int),AV.bs [],qB,qy y_1.1,qI y_1.1,AV.sl0,AV.sl0]) t∧True) ((True∧qd L y fun (s:RS)=>WsP [[(105:UInt8),(116:UInt8)]])∧∀ (y_1:RS),y_1=qb L y→brP (bar (List.any [[(105:UInt8),(116:UInt8)]] (isS L y_1))) ((qn L y_1)∧∀ (y:TK×RS),y=(qC L y_1)→qt L y.2 (AV.pv [AV.int .i64 (28:Int),AV.bs [],qB,qy y.1,qI y.1,AV.sl0,AV.sl0]) t∧True) ((True∧qd L y_1 fun (s:RS)=>WsP [[(110:UInt8),(101:UInt8),(119:UInt8)]])∧∀ (y:RS),y=qb L y_1→brP (bar (List.any [[(110:UInt8),(101:UInt8),(119:UInt8)]] (isS L y))) ((qn L y)∧∀ (y_2:TK×RS),y_2=(qC L y)→(qaV L y_2.2)∧∀ (y:TK×RS),y=qbf L y_2.2→qh y.2 ((qbc∧qs∧qs∧qs∧True)∧qt L y.2 (AV.pv [AV.int .i64 (33:Int),qP y.1,qB,qy y_2.1,qI y_2.1,AV.sl0,AV.sl0]) t∧True) ((qbc∧qs∧True)∧qA L y.2 t.2)) ((True∧qd L y fun (s:RS)=>WsP [qcP])∧∀ (y_2:RS),y_2=qb L y→brP (bar (List.any [qcP] (isS L y_2))) ((qn L y_2)∧∀ (y:TK×RS),y=(qC L y_2)→(qag L y.2 n)∧∀ (y_3:PT×RS),y_3=B L (qb L y.2)→qh y_3.2 (qaN y_3.1∧(qs∧qs∧((True∧qf y.1=qf y.1∧True)∧True)∧True)∧qt L y_3.2 (AV.pv [AV.int .i64 (36:Int),AV.bs [],qB,qy y.1,qI y.1,AV.sl0,AV.vec 1 1 fun (x:Nat)=>[qa y_3.1]]) t∧True) ((qs∧True)∧qA L y_3.2 t.2)) ((True∧qd L y_2 fun (s:RS)=>WsP [[(40:UInt8)]])∧∀ (y:RS),y=qb L y_2→brP (bar (List.any [[(40:UInt8)]] (isS L y))) ((True∧qd L y fun (s:RS)=>WsP [[(40:UInt8)]])∧∀ (y_3:RS),y_3=qb L y→brP (!bar (List.any [[(40:UInt8)]] (isS L y_3))) (qS L y_3 t.2) (qU y_3 L t.2 ((qn L y_3)∧∀ (y:TK×RS),y=(qC L y_3)→qbM y.2 ((qbw L y.2 n)∧∀ (y_4:PT×RS),y_4=T L (qcB L y.2)→qh y_4.2 ((True∧qd L y_4.2 fun (s:RS)=>WsP [[(41:UInt8)]])∧∀ (y:TK×RS),y=qcC L y_4.2 [[(41:UInt8)]]→qh y.2 (qbL y.2 (qcE L y.2 (qa y_4.1) t∧True)) (qA L y.2 t.2)) (qA L y_4.2 t.2))))) ((qaV L y)∧∀ (y_3:PT×RS),y_3=useM L (qb L y)→qcR y_3.2 L y_3.1 t t.2))))))))
:= by
 delta qa qb qd qf qg qh qn qs qt qy qA qB qC qI qL qP qS qU qab qag qaN qaV qa1 qbc qbf qbw qbL qbM qcB qcC qcE qcI qcP qcR
 intro L n T B hok s t hs hp hT hB ht
 simp only [Zi,Zs,true_and,and_true,eq_self,implies_true,Nat.le_eq,ZA,Zz,ZK,Int.toNat_natCast,Int.ofNat_eq_natCast,Nat.ble_eq,Nat.ble_self_eq_true,Bool.true_and,Bool.and_true,Bool.and_self,Option.some.injEq,AV.int.injEq,Zo,Zj,Nat.mul_one,Nat.beq_refl,Zn,cond_true,cond_false,Zp,Bool.not_true,Bool.not_false,decide_true,ZY,Ya,ZZ,Zf,List.nil_append]
 simp only [List.any_cons,List.any_nil,Bool.or_false]
 have hd:=dropL hs
 have hok:=hs.ok
 have h0:=hok.a0
 have hns:=hp.ns
 have hlf:=hp.lf
 have hn0:=hok.n0
 unfold firstM at ht
 refine Zc (fun c=>?_) fun c=>?_
 ·rw [ZC] at c
  have ho:=Jg (L:=L) (s:=s) (by omega)
  have hi:∀ w,isS L s w=false:=fun w=>Bool.eq_false_iff.2 fun e=>by have:=Zl e;omega
  rw [if_neg (by rw [ho];decide),if_neg (nb (hi _)),if_neg (nb (hi _)),if_neg (nb (hi _)),if_neg (nb (hi _)),if_neg (nb (hi _))] at ht
  refine Zbw hs (by decide) ?_
  rw [ht]
  obtain ⟨h1,_⟩:=Zaf (L:=L) (b:=decide ((ahd L s).kind=1)) hs (by rw [ho];decide)
  show Kp (wrongR s 4) (kindR L s 1).2
  rw [show (kindR L s 1).2=wrongR s 4 from h1]
  exact Zy _
 rw [Zu] at c
 have hl:s.at_ < L.length:=by have:=hok.a1;omega
 rw [KM hs hl]
 have ra:=YS hs hl
 refine Zd (ZD.2 (by omega)) (Zc (fun c1=>?_) fun c1=>Yj hs rfl (Zc (fun c2=>?_) fun c2=>Yj hs rfl (Zc (fun c3=>?_) fun c3=>Yj hs rfl (Zc (fun c4=>?_) fun c4=>Yj hs rfl (Zc (fun c5=>?_) fun c5=>Yj hs rfl (Zc (fun c6=>?_) fun c6=>?_))))))
 ·rw [ZC] at c1
  rw [if_pos c1] at ht
  exact YN hs hl (Xu ht hs.e)
 ·rw [if_neg (Zu.1 c1),if_pos (show isS L s wNull=true from c2)] at ht
  exact YN hs hl (Xu ht hs.e)
 ·rw [if_neg (Zu.1 c1),if_neg (nb (show isS L s wNull=false from c2)),if_pos (show isS L s wIt=true from c3)] at ht
  exact YN hs hl (Xu ht hs.e)
 ·rw [if_neg (Zu.1 c1),if_neg (nb (show isS L s wNull=false from c2)),if_neg (nb (show isS L s wIt=false from c3)),if_pos (show isS L s wNew=true from c4)] at ht
  exact YN hs hl (ZG (f:=fun s=>kindR L s 1) ra trivial (by rw [ht];exact Zy _) fun e=>Xu ht e)
 ·rw [if_neg (Zu.1 c1),if_neg (nb (show isS L s wNull=false from c2)),if_neg (nb (show isS L s wIt=false from c3)),if_neg (nb (show isS L s wNew=false from c4)),if_pos (show isS L s wFn=true from c5)] at ht
  have hif:ifE B L (at1 s)=B L (at1 s):=by unfold ifE;rw [if_neg (fun e=>e ra.e)]
  rw [hif] at ht
  have pa:Pre L n (at1 s):=⟨ra.ok,hns,by show (L.length:Int) - (s.at_ + 1) < n;omega⟩
  exact YN hs hl (ZG (f:=B L) ra pa (by rw [ht];exact Zy _) fun e=>WY ht e rfl)
 ·rw [if_neg (Zu.1 c1),if_neg (nb (show isS L s wNull=false from c2)),if_neg (nb (show isS L s wIt=false from c3)),if_neg (nb (show isS L s wNew=false from c4)),if_neg (nb (show isS L s wFn=false from c5)),if_pos (show isS L s wPar=true from c6)] at ht
  have rest:Kp (openR L s wPar).2 t.2:=by rw [ht];exact (JC hT.k _).tr ((ZB L _ wRap).tr (Xe _))
  refine Yj hs rfl (Zc (fun c7=>?_) fun _=>Zc (fun c8=>?_) fun c8=>?_)
  ·rw [show isS L s [40]=true from c6] at c7;cases c7
  ·rw [ZC] at c8
   exact Zbw hs (by decide) ((Kj hs c6 c8).tr rest)
  ·rw [Zu] at c8
   have ho:=Kg (L:=L) (s:=s) (w:=wPar) c6 (by omega)
   have ru:=Zlr ra (show s.nest≤900 by omega)
   have pu:Pre L n (up1 (at1 s)):=⟨ru.ok,by show s.nest + 1≤64;omega,by show (L.length:Int) - (s.at_ + 1) < n;omega⟩
   have hif:ifE T L (up1 (at1 s))=T L (up1 (at1 s)):=by unfold ifE;rw [if_neg (fun e=>e ru.e)]
   rw [ho] at ht
   simp only at ht
   rw [hif] at ht
   have g:=hT.g L _ pu
   refine YN hs hl (Zd (Zv.2 ⟨by show -9223372036854775808≤s.nest + 1;omega,by show s.nest + 1≤9223372036854775807;omega⟩) (ZG (s:=up1 (at1 s)) (f:=T L) ru pu (by rw [ht];exact (ZB L _ wRap).tr (Xe _)) fun e=>?_))
   have r4:=ZS ru g (hT.k _) e
   have g5:(T L (up1 (at1 s))).2.nest=s.nest + 1:=g.ns
   refine ZG (f:=fun s=>oneR L s [[41]]) r4 (Xf rfl) (by rw [ht,Yr];exact Xe _) fun e2=>?_
   have f5:=(Xc (ws:=[[41]]) r4.ok).ns
   exact Zd (Zv.2 (by omega)) (Xy (y:=((T L (up1 (at1 s))).1,down (oneR L (T L (up1 (at1 s))).2 [[41]]).2)) (by rw [ht,Yr];rfl) e2)
 ·rw [if_neg (Zu.1 c1),if_neg (nb (show isS L s wNull=false from c2)),if_neg (nb (show isS L s wIt=false from c3)),if_neg (nb (show isS L s wNew=false from c4)),if_neg (nb (show isS L s wFn=false from c5)),if_neg (nb (show isS L s wPar=false from c6))] at ht
  exact ZG (f:=useM L) hs trivial (by rw [ht];exact Zy _) fun e=>Xy ht e
theorem runFirstP:∀ (L:List TK) (n:Nat) (T B:List TK→PF) (hok:OkG L n T B) (s:RS) (t:PT×RS),R0 L s→Pre L (n + 1) s→FG L n T→FG L n B→t=firstM T B L s→(cRun (cxG L n T B hok) 60).call 84 [.ptr 4 0] (mkH (glT ++ numL [objP L s] 4)) (4 + 1) (ResP L t) :=
 Eq.mpr (by kernel_rfl) Zgw
theorem okFirstP {L:List TK} {n:Nat} {T B:List TK→PF} (h:OkG L n T B) (hT:FG L n T) (hB:FG L n B):HEntOK Tryd.prog 84 (mF L (n + 1) (firstM T B)) :=
 Xa fun s h1 h2=>⟨cxG L n T B h,60,rfl,fol,ZN,fun t ht=>runFirstP L n T B h s t h1 h2 hT hB ht⟩
end Go.Proofs.YtlmmbanfhjaioaaDoor
end
section
set_option maxRecDepth 100000
set_option maxHeartbeats 2000000
open Go Go.Ev
namespace Go.Proofs.YtlmmbanfhjaioaaDoor
structure LpP (L:List TK) (f:Nat→PT→RS→PT×RS) (t:PT×RS) (s0:RS) (x:PT×RS):Prop where
 k:∃ k,meas L x.2 < k∧f k x.1 x.2=t
 p:Post L 1 2 s0 x
 r:R0 L x.2
noncomputable def stnX (L:List TK) (f:Nat→PT→RS→PT×RS) (t:PT×RS) (s0:RS) (ks:List Nat) (slot:Nat):Stn :=
 { X:=PT×RS,T:=fun s _ x=>(slot,pvX x.1) :: keepT s ks,H:=fun s n0 x=>(4,objP L x.2) :: keepX s [4],nx:=fun s _=>s.nx,I:=fun s x=>LpP L f t s0 x,m:=fun x=>meas L x.2 }
noncomputable def htH (L:List TK) (n:Nat) (T Fi:List TK→PF):HTbl:=(70,mF L n T) :: (84,mF L (n + 1) Fi) :: htF' L
structure OkH (L:List TK) (n:Nat) (T Fi:List TK→PF):Prop where
 t:HEntOK Tryd.prog 70 (mF L n T)
 f:HEntOK Tryd.prog 84 (mF L (n + 1) Fi)
theorem htH_ok {L:List TK} {n:Nat} {T Fi:List TK→PF} (h:OkH L n T Fi):HtOK Tryd.prog (htH L n T Fi):=ZI h.t (ZI h.f (htF'_ok L))
noncomputable def cxH (L:List TK) (n:Nat) (T Fi:List TK→PF) (h:OkH L n T Fi) (t:PT×RS) (s0:RS):Ctx :=
 { P:=Tryd.prog,tb:=[],ht:=htH L n T Fi,hok:=htH_ok h,lp:=fun f r=>cond (Nat.beq f 79) (cond (Nat.beq r 2) (some (stnX L (tightL T L) t s0 [0,1] 3)) none) none,cut:=fun _ _=>none,fl:=fun f r=>cond (Nat.beq f 79) (cond (Nat.beq r 2) [3] []) [] }
theorem Zkm {σ:List (Nat×Nat)} {x y:PT} (h:x=y):x.kind=y.kind∧x.text=y.text∧x.num=y.num∧x.line=y.line∧x.col=y.col∧x.ks.length=y.ks.length∧AllI fun i=>i.succ≤x.ks.length→vmL σ ((pvL y.ks).getD i []) ((pvL x.ks).getD i []):=by
 subst h
 exact ⟨rfl,rfl,rfl,rfl,rfl,rfl,⟨fun i _=>VZ σ _ i⟩⟩
theorem leafS {σ:List (Nat×Nat)} {k n:Int} {w:List UInt8} {tk:TK} {ks:List PT} {x:PT} {m:Nat} {g:Nat→List AV} (h:x=nd k w n tk ks) (hm:m=ks.length) (hg:∀ i,(hi:i < ks.length)→g i=[pvX ks[i]]):k=x.kind∧w=x.text∧n=x.num∧tk.line=x.line∧tk.col=x.col∧m=x.ks.length∧AllI fun i=>i.succ≤m→vmL σ ((pvL x.ks).getD i []) (g i):=by
 subst h
 refine ⟨rfl,rfl,rfl,rfl,rfl,hm,⟨fun i hi=>?_⟩⟩
 have hi':i < ks.length:=by omega
 show vmL σ ((pvL ks).getD i []) (g i)
 rw [Yk ks i hi',hg i hi']
 exact ⟨Qt σ _,trivial⟩
theorem leafS1 {σ:List (Nat×Nat)} {k n:Int} {w:List UInt8} {tk:TK} {y:PT} {x:PT} {g:Nat→List AV} (h:x=nd k w n tk [y]) (hg:g 0=[pvX y]):k=x.kind∧w=x.text∧n=x.num∧tk.line=x.line∧tk.col=x.col∧1=x.ks.length∧AllI fun i=>i.succ≤1→vmL σ ((pvL x.ks).getD i []) (g i) :=
 leafS h rfl fun i hi=>by
  obtain rfl:i=0:=by simp at hi;omega
  exact hg
theorem leafS2 {σ:List (Nat×Nat)} {k n:Int} {w:List UInt8} {tk:TK} {y z:PT} {x:PT} {g:Nat→List AV} (h:x=nd k w n tk [y,z]) (hg:g 0=[pvX y]) (hg1:g 1=[pvX z]):k=x.kind∧w=x.text∧n=x.num∧tk.line=x.line∧tk.col=x.col∧2=x.ks.length∧AllI fun i=>i.succ≤2→vmL σ ((pvL x.ks).getD i []) (g i) :=
 leafS h rfl fun i hi=>by
  rcases (show i=0∨i=1 by simp at hi;omega) with rfl | rfl
  ·exact hg
  ·exact hg1
@[reducible] def Wa:List TK→TK×RS→PT×RS→Prop:=fun (L:List TK) (a:TK×RS) (a_1:PT×RS)=>True∧true=true∧List.length (List.drop (Int.toNat (RS.at_ a.2)) L)=List.length (List.drop (Int.toNat (RS.at_ a_1.2)) L)∧AllI fun (i:Nat)=>Nat.le (Nat.succ i) (List.length (List.drop (Int.toNat (RS.at_ a.2)) L))→(true=true∧TK.kind (List.getD (List.drop (Int.toNat (RS.at_ a.2)) L) i TK.zero)=TK.kind (List.getD (List.drop (Int.toNat (RS.at_ a_1.2)) L) i TK.zero))∧TK.text (List.getD (List.drop (Int.toNat (RS.at_ a.2)) L) i TK.zero)=TK.text (List.getD (List.drop (Int.toNat (RS.at_ a_1.2)) L) i TK.zero)∧(true=true∧TK.num (List.getD (List.drop (Int.toNat (RS.at_ a.2)) L) i TK.zero)=TK.num (List.getD (List.drop (Int.toNat (RS.at_ a_1.2)) L) i TK.zero))∧(true=true∧TK.line (List.getD (List.drop (Int.toNat (RS.at_ a.2)) L) i TK.zero)=TK.line (List.getD (List.drop (Int.toNat (RS.at_ a_1.2)) L) i TK.zero))∧(true=true∧TK.col (List.getD (List.drop (Int.toNat (RS.at_ a.2)) L) i TK.zero)=TK.col (List.getD (List.drop (Int.toNat (RS.at_ a_1.2)) L) i TK.zero))∧True
noncomputable def qc (a:RS) (b:List TK) (c:RS):=(True∧true=true∧List.length (List.drop (Int.toNat (RS.at_ a)) b)=List.length (List.drop (Int.toNat (RS.at_ c)) b)∧AllI fun (v1:Nat)=>Nat.le (Nat.succ v1) (List.length (List.drop (Int.toNat (RS.at_ a)) b))→(true=true∧TK.kind (List.getD (List.drop (Int.toNat (RS.at_ a)) b) v1 TK.zero)=TK.kind (List.getD (List.drop (Int.toNat (RS.at_ c)) b) v1 TK.zero))∧TK.text (List.getD (List.drop (Int.toNat (RS.at_ a)) b) v1 TK.zero)=TK.text (List.getD (List.drop (Int.toNat (RS.at_ c)) b) v1 TK.zero)∧(true=true∧TK.num (List.getD (List.drop (Int.toNat (RS.at_ a)) b) v1 TK.zero)=TK.num (List.getD (List.drop (Int.toNat (RS.at_ c)) b) v1 TK.zero))∧(true=true∧TK.line (List.getD (List.drop (Int.toNat (RS.at_ a)) b) v1 TK.zero)=TK.line (List.getD (List.drop (Int.toNat (RS.at_ c)) b) v1 TK.zero))∧(true=true∧TK.col (List.getD (List.drop (Int.toNat (RS.at_ a)) b) v1 TK.zero)=TK.col (List.getD (List.drop (Int.toNat (RS.at_ c)) b) v1 TK.zero))∧True)
noncomputable def qz (a:PT):=List.length (PT.ks a)
noncomputable def qQ:=(some 4=some 4∧true=true)
noncomputable def qW:=((True∧True∧True∧True)∧True)
noncomputable def qX (a:Nat) (b:PT) (c:PT):=List.take 1 (List.drop (a * 1) [qa b,qa c])
noncomputable def q8 (a:List TK) (b:RS) (c:Nat):=(qd a b fun (v1:RS)=>Pre a (c + 1) v1)
noncomputable def qaw:=(true=true∧asciiTab=asciiTab)
noncomputable def qay (a:RS) (b:List TK) (c:RS):=(true=true∧true=true∧true=true∧true=true∧(qc a b c)∧true=true∧RS.nest a=RS.nest c)
noncomputable def qaX:=(true=true∧true=true∧true=true∧true=true∧True∧some 4=some 4∧true=true)
noncomputable def qa7 (a:List TK) (b:RS) (c:RS):=Nat.le (Nat.succ (meas a b)) (meas a c)
noncomputable def qa9:=(some 5=some 5∧true=true)
noncomputable def qbk (a:PT) (b:Nat):=vmL [(5,5),(0,0),(1,1),(2,2),(3,3),(4,4)] (List.getD (pvL (PT.ks a)) b [])
theorem Zgt:∀ (L:List TK) (n:Nat) (T Fi:List TK→PF),OkH L n T Fi→∀ (s:RS) (t:PT×RS),R0 L s→Pre L (n + 1) s→FG L n T→FG L (n + 1) Fi→t=tightM T Fi L s→(q8 L s n)∧∀ (y:PT×RS),y=Fi L (qb L s)→qh y.2 ((∃ (x0:PT×RS),LpP L (tightL T L) t s x0∧true=true∧(((true=true∧PT.kind y.1=PT.kind x0.1)∧PT.text y.1=PT.text x0.1∧(true=true∧PT.num y.1=PT.num x0.1)∧(true=true∧PT.line y.1=PT.line x0.1)∧(true=true∧PT.col y.1=PT.col x0.1)∧True∧(true=true∧qz y.1=qz x0.1∧AllI fun (i:Nat)=>qN i (qz y.1)→qbk x0.1 i (List.getD (pvL (PT.ks y.1)) i []))∧True)∧qQ∧qa9∧True)∧(qay y.2 L x0.2)∧qaw∧qaX∧True)∧∀ (x:PT×RS),LpP L (tightL T L) t s x→(True∧qd L x.2 fun (s:RS)=>WsP [[(46:UInt8)],[(91:UInt8)]])∧∀ (y:RS),y=qb L x.2→brP (bar (List.any [[(46:UInt8)],[(91:UInt8)]] (isS L y))) ((True∧qd L y fun (s:RS)=>WsP [[(46:UInt8)]])∧∀ (y_1:RS),y_1=qb L y→brP (bar (List.any [[(46:UInt8)]] (isS L y_1))) ((qn L y_1)∧∀ (y:TK×RS),y=(qC L y_1)→qaN x.1∧(qaV L y.2)∧∀ (y_2:TK×RS),y_2=qbf L y.2→qh y_2.2 (qaN x.1∧(qbc∧qs∧qs∧qs∧True)∧∃ (x':PT×RS),LpP L (tightL T L) t s x'∧qa7 L x'.2 x.2∧true=true∧(((true=true∧(30:Int)=PT.kind x'.1)∧TK.text y_2.1=PT.text x'.1∧(true=true∧(0:Int)=PT.num x'.1)∧(true=true∧TK.line y.1=PT.line x'.1)∧(true=true∧TK.col y.1=PT.col x'.1)∧True∧(true=true∧1=qz x'.1∧AllI fun (i:Nat)=>qN i 1→qbk x'.1 i [qa x.1])∧True)∧qQ∧qa9∧True)∧(true=true∧true=true∧true=true∧true=true∧Wa L y_2 x'∧true=true∧RS.nest y_2.2=RS.nest x'.2)∧qaw∧qaX∧True) ((qbc∧qs∧True)∧qA L y_2.2 t.2)) ((True∧qd L y_1 fun (s:RS)=>WsP [[(91:UInt8)]])∧∀ (y:RS),y=qb L y_1→brP (!bar (List.any [[(91:UInt8)]] (isS L y))) (qS L y t.2) (qU y L t.2 ((qn L y)∧∀ (y_2:TK×RS),y_2=(qC L y)→qbM y_2.2 ((qbw L y_2.2 n)∧∀ (y:PT×RS),y=T L (qcB L y_2.2)→qh y.2 (SelfL [qa x.1,qa y.1]∧(qW∧qW∧((True∧pvX x.1=pvX x.1∧qf y_2.1=qf y_2.1∧True)∧True)∧True)∧(True∧qd L y.2 fun (s:RS)=>WsP [[(93:UInt8)]])∧∀ (y_3:TK×RS),y_3=qcC L y.2 [[(93:UInt8)]]→qh y_3.2 (qbL y_3.2 (∃ (x':PT×RS),LpP L (tightL T L) t s x'∧qa7 L x'.2 x.2∧true=true∧(((true=true∧(31:Int)=PT.kind x'.1)∧[]=PT.text x'.1∧(true=true∧(0:Int)=PT.num x'.1)∧(true=true∧TK.line y_2.1=PT.line x'.1)∧(true=true∧TK.col y_2.1=PT.col x'.1)∧True∧(true=true∧2=qz x'.1∧AllI fun (i:Nat)=>qN i 2→qbk x'.1 i (qX i x.1 y.1))∧True)∧qQ∧qa9∧True)∧(true=true∧true=true∧true=true∧true=true∧Wa L y_3 x'∧true=true∧RS.nest y_3.2 - 1=RS.nest x'.2)∧qaw∧qaX∧True)) (qA L y_3.2 t.2)) ((qW∧True)∧qA L y.2 t.2)))))) (qt L y (qa x.1) t∧True)) (qA L y.2 t.2)
:= by
 delta qa qb qc qd qf qh qn qs qt qz qA qC qN qQ qS qU qW qX q8 qaw qay qaN qaV qaX qa7 qa9 qbc qbf qbk qbw qbL qbM qcB qcC
 intro L n T Fi hok s t hs hp hT hF ht
 simp only [Zi,Zs,true_and,and_true,eq_self,implies_true,Nat.le_eq,ZA,Zz,ZK,Int.toNat_natCast,Int.ofNat_eq_natCast,Nat.ble_eq,Nat.ble_self_eq_true,Bool.true_and,Bool.and_true,Bool.and_self,Option.some.injEq,AV.int.injEq,Zo,Zj,Nat.mul_one,Nat.beq_refl,Zn,cond_true,cond_false,Zp,Bool.not_true,Bool.not_false,decide_true,ZY,Ya,ZZ,Zf,List.nil_append,Wa]
 simp only [List.any_cons,List.any_nil,Bool.or_false]
 have hns:=hp.ns
 have hlf:=hp.lf
 have g0:=hF.g L s hp
 have kT:∀ (k:Nat) (x:PT) (s:RS),Kp s (tightL T L k x s).2:=Jb hT.k
 refine ZG (f:=Fi L) hs hp (by rw [ht];exact kT _ _ _) fun e0=>?_
 have r0:=ZS hs g0 (hF.k _) e0
 refine ⟨⟨Fi L s,⟨⟨fuelN L,XZ g0.ok,ht.symm⟩,g0,r0⟩,Zkm rfl,Yd rfl⟩,fun x hx=>?_⟩
 obtain ⟨⟨k,hk,hkt⟩,px,rx⟩:=hx
 have h0:=rx.ok.a0
 have hn0:=rx.ok.n0
 have e5:=px.ns
 have hok:=hs.ok
 cases k with
 | zero=>omega
 | succ k =>
 unfold tightL at hkt
 refine Yj rx rfl (Zc (fun c0=>Yj rx rfl (Zc (fun c1=>?_) fun c1=>?_)) fun c0=>?_)
 ·rw [if_pos (show isS L x.2 wDot=true from c1)] at hkt
  obtain ⟨d1,d2⟩:=Zhm px c1
  have hl:=Zl c1
  have ra:=YS rx hl
  refine YN rx hl ⟨self1 x.1,ZG (s:=at1 x.2) (f:=fun s=>kindR L s 1) ra trivial (by rw [← hkt];exact kT _ _ _) fun e=>⟨self1 x.1,dotM L x.1 x.2,⟨⟨k,by omega,hkt⟩,d1,Xs ra (Yi ra.ok (by decide)) (Yt L _ 1) e⟩,d2,leafS1 rfl rfl,Yd rfl⟩⟩
 ·have c2:isS L x.2 wSq=true:=by rw [c1,Bool.false_or] at c0;exact c0
  rw [if_neg (nb (show isS L x.2 wDot=false from c1)),if_pos c2] at hkt
  obtain ⟨d0,d1,d2⟩:=Zhk hT.g px hns (by omega) c2
  have hl:=Zl c2
  have ra:=YS rx hl
  have rest:Kp (openR L x.2 wSq).2 t.2:=by rw [← hkt];exact (JC hT.k _).tr ((ZB L _ wQs).tr ((Xe _).tr (kT _ _ _)))
  refine Yj rx rfl (Zc (fun c7=>?_) fun _=>Zc (fun c8=>?_) fun c8=>?_)
  ·rw [show isS L x.2 [91]=true from c2] at c7;cases c7
  ·rw [ZC] at c8
   exact Zbw rx (by decide) ((Kj rx c2 c8).tr rest)
  ·rw [Zu] at c8
   have ho:=Kg (L:=L) (s:=x.2) (w:=wSq) c2 (by omega)
   have ru:=Zlr ra (show x.2.nest≤900 by omega)
   have pu:Pre L n (up1 (at1 x.2)):=by have:=d0.pe;rw [ho] at this;exact this ru.e
   have hif:ifE T L (up1 (at1 x.2))=T L (up1 (at1 x.2)):=by unfold ifE;rw [if_neg (fun e=>e ru.e)]
   have hM:idxM T L x.1 x.2=(nd 31 [] 0 (ahd L x.2) [x.1,(T L (up1 (at1 x.2))).1],down (oneR L (T L (up1 (at1 x.2))).2 [wQs]).2):=by unfold idxM;rw [ho];simp only;rw [hif,Yr]
   rw [hM] at hkt d1 d2
   have g:=hT.g L _ pu
   refine YN rx hl (Zd (Zv.2 ⟨by show -9223372036854775808≤x.2.nest + 1;omega,by show x.2.nest + 1≤9223372036854775807;omega⟩) (ZG (s:=up1 (at1 x.2)) (f:=T L) ru pu (by rw [← hkt];exact (YI L _ [wQs]).tr ((Xe _).tr (kT _ _ _))) fun e=>⟨self2 _ _,?_⟩))
   have r4:=ZS ru g (hT.k _) e
   have g5:(T L (up1 (at1 x.2))).2.nest=x.2.nest + 1:=g.ns
   refine ZG (f:=fun s=>oneR L s [[93]]) r4 (Xf rfl) (by rw [← hkt];exact (Xe _).tr (kT _ _ _)) fun e2=>?_
   have s5:=Xc (L:=L) (ws:=[[93]]) r4.ok
   have f5:=s5.ns
   have r5:=Xs r4 s5 (YI L _ _) e2
   exact Zd (Zv.2 (by omega)) ⟨_,⟨⟨k,by omega,hkt⟩,d1,r0_down r5 (by show 1≤(oneR L (T L (up1 (at1 x.2))).2 [[93]]).2.nest;omega)⟩,d2,leafS2 rfl rfl rfl,Yd (s:=down (oneR L (T L (up1 (at1 x.2))).2 [[93]]).2) rfl⟩
 ·rw [Bool.or_eq_false_iff] at c0
  rw [if_neg (nb (show isS L x.2 wDot=false from c0.1)),if_neg (nb (show isS L x.2 wSq=false from c0.2))] at hkt
  exact Xy (y:=x) hkt.symm rx.e
theorem runTightP:∀ (L:List TK) (n:Nat) (T Fi:List TK→PF) (hok:OkH L n T Fi) (s:RS) (t:PT×RS),R0 L s→Pre L (n + 1) s→FG L n T→FG L (n + 1) Fi→t=tightM T Fi L s→(cRun (cxH L n T Fi hok t s) 60).call 79 [.ptr 4 0] (mkH (glT ++ numL [objP L s] 4)) (4 + 1) (ResP L t) :=
 Eq.mpr (by kernel_rfl) Zgt
theorem okTightP {L:List TK} {n:Nat} {T Fi:List TK→PF} (h:OkH L n T Fi) (hT:FG L n T) (hF:FG L (n + 1) Fi):HEntOK Tryd.prog 79 (mF L (n + 1) (tightM T Fi)) :=
 Xa fun s h1 h2=>⟨cxH L n T Fi h (tightM T Fi L s) s,60,rfl,fol,ZN,fun t ht=>by subst ht;exact runTightP L n T Fi h s _ h1 h2 hT hF rfl⟩
end Go.Proofs.YtlmmbanfhjaioaaDoor
end
section
set_option maxRecDepth 100000
set_option maxHeartbeats 2000000
open Go Go.Ev
namespace Go.Proofs.YtlmmbanfhjaioaaDoor
structure OkI (g:FuncId) (L:List TK) (n:Nat) (F:List TK→PF):Prop where
 f:HEntOK Tryd.prog g (mF L n F)
noncomputable def htI (g:FuncId) (L:List TK) (n:Nat) (F:List TK→PF):HTbl:=(g,mF L n F) :: htF' L
theorem Zcq {g:FuncId} {L:List TK} {n:Nat} {F:List TK→PF} (h:OkI g L n F):HtOK Tryd.prog (htI g L n F):=ZI h.f (htF'_ok L)
noncomputable def cxI (g:FuncId) (L:List TK) (n:Nat) (F:List TK→PF) (h:OkI g L n F):Ctx:=cxP (htI g L n F) (Zcq h)
noncomputable def stnR (L:List TK) (f:Nat→PT→RS→PT×RS) (t:PT×RS) (s0:RS) (ws:List (List UInt8)):Stn :=
 { X:=PT×RS,T:=fun s _ x=>(7,pvX x.1) :: keepT s [0,1,2],H:=fun s n0 x=>(4,objP L x.2) :: (4 + 1,rowsS ws) :: keepX s [4,4 + 1],nx:=fun s _=>s.nx,I:=fun s x=>LpP L f t s0 x,m:=fun x=>meas L x.2 }
noncomputable def cxR (g:FuncId) (L:List TK) (n:Nat) (F:List TK→PF) (ws:List (List UInt8)) (h:OkI g L n F) (t:PT×RS) (s0:RS):Ctx :=
 { P:=Tryd.prog,tb:=[],ht:=htI g L n F,hok:=Zcq h,lp:=fun f r=>cond (Nat.beq f 82) (cond (Nat.beq r 2) (some (stnR L (opL F ws L) t s0 ws)) none) none,cut:=fun _ _=>none,fl:=fun f r=>cond (Nat.beq f 82) (cond (Nat.beq r 2) [7] []) [] }
theorem Zjg {L:List TK} {n:Nat} {F:List TK→PF} {s0:RS} {x t:PT×RS} {ws:List (List UInt8)} {G:TK×RS→PT×RS→Prop} (hF:FG L n F) (hp:Pre L n s0) (px:Post L 1 2 s0 x) (rx:R0 L x.2) (hd:ws.any (isS L x.2)=true) (rest:Kp (opM F L x.1 x.2).2 t.2) (hG:R0 L (F L (at1 x.2)).2→G (ahd L x.2,at1 x.2) (F L (at1 x.2))) :
  (PreC L (cP L x.2) x.2.nest fun s=>s.at_ < L.length)∧∀ y,y=(ahd L (stP L (cP L x.2) x.2.nest),at1 (stP L (cP L x.2) x.2.nest))→(PreC L (cP L y.2) y.2.nest fun s=>Pre L n s)∧∀ z,z=F L (stP L (cP L y.2) y.2.nest)→brP (ieq z.2.err 0) (SelfL [pvX x.1,pvX z.1]∧SelfL [pvX x.1,pvX z.1]∧G y z) (EqN L (stopV L z.2) t.2):=by
 obtain ⟨d0,d1,d2⟩:=Zaa hF.g (x:=x.1) (s:=x.2) px hp hd
 obtain ⟨w,_,hw⟩:=List.any_eq_true.1 hd
 have hl:=Zl hw
 have ra:=YS rx hl
 exact YN rx hl (ZG (f:=F L) ra d0 rest fun e=>⟨self2 _ _,self2 _ _,hG (ZS ra (hF.g L _ d0) (hF.k _) e)⟩)
theorem Zhb {L:List TK} {n:Nat} {F:List TK→PF} {s0:RS} {x t:PT×RS} {ws:List (List UInt8)} (hF:FG L n F) (hp:Pre L n s0) (h:LpP L (opL F ws L) t s0 x) (hd:ws.any (isS L x.2)=true):Kp (opM F L x.1 x.2).2 t.2∧(R0 L (F L (at1 x.2)).2→LpP L (opL F ws L) t s0 (opM F L x.1 x.2))∧meas L (opM F L x.1 x.2).2 < meas L x.2:=by
 obtain ⟨⟨k,hk,hkt⟩,px,rx⟩:=h
 obtain ⟨d0,d1,d2⟩:=Zaa hF.g (x:=x.1) (s:=x.2) px hp hd
 cases k with
 | zero=>omega
 | succ k =>
 unfold opL at hkt
 rw [if_pos hd] at hkt
 exact ⟨by rw [← hkt];exact Zbq hF.k _ _ _,fun r=>⟨⟨k,by omega,hkt⟩,d1,r⟩,d2⟩
theorem Zl2 {L:List TK} {F:List TK→PF} {s0:RS} {x t:PT×RS} {ws:List (List UInt8)} (h:LpP L (opL F ws L) t s0 x) (hd:ws.any (isS L x.2)=false):t=x:=by
 obtain ⟨⟨k,hk,hkt⟩,px,rx⟩:=h
 cases k with
 | zero=>omega
 | succ k =>
 unfold opL at hkt
 rw [if_neg (nb hd)] at hkt
 exact hkt.symm
theorem kp_var' {F:List TK→PF} {L:List TK} (s:RS):Kp (F L s).2 (varM F L s).2:=Yh (P:=fun r:RS=>Kp (F L s).2 r) (fun _=>QU _ (by decide)) fun _=>Zy _
theorem Zks {L:List TK} {n:Nat} {F:List TK→PF} {s:RS} {t:PT×RS} {ws:List (List UInt8)} (hF:FG L n F) (hp:Pre L n s) (hs:R0 L s) (ht:t=rowM F ws L s) (e:(F L s).2.err=0):LpP L (opL F ws L) t s (F L s):=by
 have g:=hF.g L s hp
 exact ⟨⟨fuelN L,XZ g.ok,ht.symm⟩,g,ZS hs g (hF.k _) e⟩
@[reducible] def XI:List TK→PT×RS→PT×RS→Prop:=fun (L:List TK) (a a_1:PT×RS)=>true=true∧true=true∧true=true∧true=true∧(True∧true=true∧List.length (List.drop (Int.toNat (RS.at_ a.2)) L)=List.length (List.drop (Int.toNat (RS.at_ a_1.2)) L)∧AllI fun (i:Nat)=>Nat.le (Nat.succ i) (List.length (List.drop (Int.toNat (RS.at_ a.2)) L))→(true=true∧TK.kind (List.getD (List.drop (Int.toNat (RS.at_ a.2)) L) i TK.zero)=TK.kind (List.getD (List.drop (Int.toNat (RS.at_ a_1.2)) L) i TK.zero))∧TK.text (List.getD (List.drop (Int.toNat (RS.at_ a.2)) L) i TK.zero)=TK.text (List.getD (List.drop (Int.toNat (RS.at_ a_1.2)) L) i TK.zero)∧(true=true∧TK.num (List.getD (List.drop (Int.toNat (RS.at_ a.2)) L) i TK.zero)=TK.num (List.getD (List.drop (Int.toNat (RS.at_ a_1.2)) L) i TK.zero))∧(true=true∧TK.line (List.getD (List.drop (Int.toNat (RS.at_ a.2)) L) i TK.zero)=TK.line (List.getD (List.drop (Int.toNat (RS.at_ a_1.2)) L) i TK.zero))∧(true=true∧TK.col (List.getD (List.drop (Int.toNat (RS.at_ a.2)) L) i TK.zero)=TK.col (List.getD (List.drop (Int.toNat (RS.at_ a_1.2)) L) i TK.zero))∧True)∧true=true∧RS.nest a.2=RS.nest a_1.2
noncomputable def qY (a:PT) (b:PT):=((true=true∧PT.kind a=PT.kind b)∧PT.text a=PT.text b∧(true=true∧PT.num a=PT.num b)∧(true=true∧PT.line a=PT.line b)∧(true=true∧PT.col a=PT.col b)∧True∧(true=true∧qz a=qz b∧AllI fun (v1:Nat)=>qN v1 (qz a)→vmL [(0,0),(1,1),(2,2),(3,3),(4,4),(5,5),(6,6)] (List.getD (pvL (PT.ks b)) v1 []) (List.getD (pvL (PT.ks a)) v1 []))∧True)
noncomputable def q9 (a:PT) (b:TK) (c:PT) (d:PT):=((true=true∧(32:Int)=PT.kind a)∧TK.text b=PT.text a∧(true=true∧(0:Int)=PT.num a)∧(true=true∧TK.line b=PT.line a)∧(true=true∧TK.col b=PT.col a)∧True∧(true=true∧2=qz a∧AllI fun (v1:Nat)=>qN v1 2→vmL [(0,0),(1,1),(2,2),(3,3),(4,4),(5,5),(6,6)] (List.getD (pvL (PT.ks a)) v1 []) (qX v1 c d))∧True)
noncomputable def qaB (a:TK):=(((qP a=qP a∧True∧True)∧True)∧qs∧qs∧((qP a=qP a∧qf a=qf a∧True)∧True)∧True)
noncomputable def qbo:=[[(42:UInt8)]]
noncomputable def qby (a:Nat):=Nat.le (Nat.succ (a * 1))
noncomputable def qbU:=(true=true∧(qQ∧True)∧True)
theorem Zdd:∀ (L:List TK) (n:Nat) (F:List TK→PF),OkI (86:FuncId) L n F→∀ (s:RS) (t:PT×RS),R0 L s→Pre L n s→FG L n F→t=rowM F qbo L s→(qag L s n)∧∀ (y:PT×RS),y=F L (qb L s)→qh y.2 ((∃ (x0:PT×RS),LpP L (opL F qbo L) t s x0∧true=true∧((qY y.1 x0.1)∧qQ∧qbU∧(some 5=some 5∧0=0∧1=1∧1=1)∧True)∧XI L y x0∧(true=true∧true=true∧true=true∧1=1∧True∧[(42:UInt8)]=[(42:UInt8)])∧qaw∧True)∧∀ (x:PT×RS),LpP L (opL F qbo L) t s x→(True∧qd L x.2 fun (s:RS)=>WsP qbo)∧∀ (y:RS),y=qb L x.2→brP (bar (List.any qbo (isS L y))) ((qn L y)∧∀ (y_1:TK×RS),y_1=(qC L y)→(qag L y_1.2 n)∧∀ (y:PT×RS),y=F L (qb L y_1.2)→qh y.2 (SelfL [qa x.1,qa y.1]∧SelfL [qa x.1,qa y.1]∧(qaB y_1.1)∧∃ (x':PT×RS),LpP L (opL F qbo L) t s x'∧qa7 L x'.2 x.2∧true=true∧((q9 x'.1 y_1.1 x.1 y.1)∧qQ∧qbU∧(some 5=some 5∧0=0∧1=1∧1=1)∧True)∧XI L y x'∧(true=true∧true=true∧true=true∧true=true∧List.length qbo=1∧AllI fun (i:Nat)=>qby i (List.length qbo)→List.getD qbo i []=List.getD qbo i []∧True)∧qaw∧True) ((qs∧True)∧qA L y.2 t.2)) (qt L y (qa x.1) t∧True)) (qA L y.2 t.2)
:= by
 delta qa qb qd qf qh qn qs qt qz qA qC qN qP qQ qX qY q9 qag qaw qaB qa7 qbo qby qbU
 intro L n F hok s t hs hp hF ht
 simp only [Zi,Zs,true_and,and_true,eq_self,implies_true,Nat.le_eq,ZA,Zz,ZK,Int.toNat_natCast,Int.ofNat_eq_natCast,Nat.ble_eq,Nat.ble_self_eq_true,Bool.true_and,Bool.and_true,Bool.and_self,Option.some.injEq,AV.int.injEq,Zo,Zj,Nat.mul_one,Nat.beq_refl,Zn,cond_true,cond_false,Zp,Bool.not_true,Bool.not_false,decide_true,ZY,Ya,ZZ,Zf,List.nil_append,XI]
 refine ZG (f:=F L) hs hp (by rw [ht];exact Zbq hF.k _ _ _) fun e0=>?_
 refine ⟨⟨F L s,Zks hF hp hs ht e0,Zkm rfl,Yd rfl⟩,fun x hx=>Yj hx.r rfl (Zc (fun c=>?_) fun c=>Xy (Zl2 hx c) hx.r.e)⟩
 obtain ⟨d1,d2,d3⟩:=Zhb hF hp hx c
 exact Zjg hF hp hx.p hx.r c d1 fun r=>⟨opM F L x.1 x.2,d2 r,d3,leafS2 rfl rfl rfl,Yd (s:=(F L (at1 x.2)).2) rfl,rfl⟩
theorem runProductP:∀ (L:List TK) (n:Nat) (F:List TK→PF) (hok:OkI 86 L n F) (s:RS) (t:PT×RS),R0 L s→Pre L n s→FG L n F→t=rowM F [wMul] L s→(cRun (cxR 86 L n F [wMul] hok t s) 60).call 83 [.ptr 4 0] (mkH (glT ++ numL [objP L s] 4)) (4 + 1) (ResP L t) :=
 Eq.mpr (by kernel_rfl) Zdd
@[reducible] def Vk:List TK→PT×RS→PT×RS→Prop:=fun (L:List TK) (a a_1:PT×RS)=>true=true∧true=true∧true=true∧true=true∧(True∧true=true∧List.length (List.drop (Int.toNat (RS.at_ a.2)) L)=List.length (List.drop (Int.toNat (RS.at_ a_1.2)) L)∧AllI fun (i:Nat)=>Nat.le (Nat.succ i) (List.length (List.drop (Int.toNat (RS.at_ a.2)) L))→(true=true∧TK.kind (List.getD (List.drop (Int.toNat (RS.at_ a.2)) L) i TK.zero)=TK.kind (List.getD (List.drop (Int.toNat (RS.at_ a_1.2)) L) i TK.zero))∧TK.text (List.getD (List.drop (Int.toNat (RS.at_ a.2)) L) i TK.zero)=TK.text (List.getD (List.drop (Int.toNat (RS.at_ a_1.2)) L) i TK.zero)∧(true=true∧TK.num (List.getD (List.drop (Int.toNat (RS.at_ a.2)) L) i TK.zero)=TK.num (List.getD (List.drop (Int.toNat (RS.at_ a_1.2)) L) i TK.zero))∧(true=true∧TK.line (List.getD (List.drop (Int.toNat (RS.at_ a.2)) L) i TK.zero)=TK.line (List.getD (List.drop (Int.toNat (RS.at_ a_1.2)) L) i TK.zero))∧(true=true∧TK.col (List.getD (List.drop (Int.toNat (RS.at_ a.2)) L) i TK.zero)=TK.col (List.getD (List.drop (Int.toNat (RS.at_ a_1.2)) L) i TK.zero))∧True)∧true=true∧RS.nest a.2=RS.nest a_1.2
noncomputable def qaz:=[[(43:UInt8)],[(45:UInt8)]]
theorem Zmn:∀ (L:List TK) (n:Nat) (F:List TK→PF),OkI (83:FuncId) L n F→∀ (s:RS) (t:PT×RS),R0 L s→Pre L n s→FG L n F→t=rowM F qaz L s→(qag L s n)∧∀ (y:PT×RS),y=F L (qb L s)→qh y.2 ((∃ (x0:PT×RS),LpP L (opL F qaz L) t s x0∧true=true∧((qY y.1 x0.1)∧qQ∧qbU∧(some 5=some 5∧0=0∧2=2∧2=2)∧True)∧Vk L y x0∧(true=true∧true=true∧true=true∧2=2∧(True∧[(43:UInt8)]=[(43:UInt8)])∧[(45:UInt8)]=[(45:UInt8)])∧qaw∧True)∧∀ (x:PT×RS),LpP L (opL F qaz L) t s x→(True∧qd L x.2 fun (s:RS)=>WsP qaz)∧∀ (y:RS),y=qb L x.2→brP (bar (List.any qaz (isS L y))) ((qn L y)∧∀ (y_1:TK×RS),y_1=(qC L y)→(qag L y_1.2 n)∧∀ (y:PT×RS),y=F L (qb L y_1.2)→qh y.2 (SelfL [qa x.1,qa y.1]∧SelfL [qa x.1,qa y.1]∧(qaB y_1.1)∧∃ (x':PT×RS),LpP L (opL F qaz L) t s x'∧qa7 L x'.2 x.2∧true=true∧((q9 x'.1 y_1.1 x.1 y.1)∧qQ∧qbU∧(some 5=some 5∧0=0∧2=2∧2=2)∧True)∧Vk L y x'∧(true=true∧true=true∧true=true∧true=true∧List.length qaz=2∧AllI fun (i:Nat)=>qby i (List.length qaz)→List.getD qaz i []=List.getD qaz i []∧True)∧qaw∧True) ((qs∧True)∧qA L y.2 t.2)) (qt L y (qa x.1) t∧True)) (qA L y.2 t.2)
:= by
 delta qa qb qd qf qh qn qs qt qz qA qC qN qP qQ qX qY q9 qag qaw qaz qaB qa7 qby qbU
 intro L n F hok s t hs hp hF ht
 simp only [Zi,Zs,true_and,and_true,eq_self,implies_true,Nat.le_eq,ZA,Zz,ZK,Int.toNat_natCast,Int.ofNat_eq_natCast,Nat.ble_eq,Nat.ble_self_eq_true,Bool.true_and,Bool.and_true,Bool.and_self,Option.some.injEq,AV.int.injEq,Zo,Zj,Nat.mul_one,Nat.beq_refl,Zn,cond_true,cond_false,Zp,Bool.not_true,Bool.not_false,decide_true,ZY,Ya,ZZ,Zf,List.nil_append,Vk]
 refine ZG (f:=F L) hs hp (by rw [ht];exact Zbq hF.k _ _ _) fun e0=>?_
 refine ⟨⟨F L s,Zks hF hp hs ht e0,Zkm rfl,Yd rfl⟩,fun x hx=>Yj hx.r rfl (Zc (fun c=>?_) fun c=>Xy (Zl2 hx c) hx.r.e)⟩
 obtain ⟨d1,d2,d3⟩:=Zhb hF hp hx c
 exact Zjg hF hp hx.p hx.r c d1 fun r=>⟨opM F L x.1 x.2,d2 r,d3,leafS2 rfl rfl rfl,Yd (s:=(F L (at1 x.2)).2) rfl,rfl⟩
theorem runSumP:∀ (L:List TK) (n:Nat) (F:List TK→PF) (hok:OkI 83 L n F) (s:RS) (t:PT×RS),R0 L s→Pre L n s→FG L n F→t=rowM F [wAdd,wSub] L s→(cRun (cxR 83 L n F [wAdd,wSub] hok t s) 60).call 78 [.ptr 4 0] (mkH (glT ++ numL [objP L s] 4)) (4 + 1) (ResP L t) :=
 Eq.mpr (by kernel_rfl) Zmn
theorem Zju:∀ (L:List TK) (n:Nat) (F:List TK→PF),OkI (78:FuncId) L n F→∀ (s:RS) (t:PT×RS),R0 L s→Pre L n s→FG L n F→t=termM F L s→(qag L s n)∧∀ (y:PT×RS),y=F L (qb L s)→qh y.2 ((True∧qd L y.2 fun (s:RS)=>WsP [[(60:UInt8)],[(61:UInt8),(61:UInt8)]])∧∀ (y_1:RS),y_1=qb L y.2→brP (bar (List.any [[(60:UInt8)],[(61:UInt8),(61:UInt8)]] (isS L y_1))) ((qn L y_1)∧∀ (y_2:TK×RS),y_2=(qC L y_1)→(qag L y_2.2 n)∧∀ (y_3:PT×RS),y_3=F L (qb L y_2.2)→qh y_3.2 (SelfL [qa y.1,qa y_3.1]∧SelfL [qa y.1,qa y_3.1]∧(qaB y_2.1)∧qt L y_3.2 (AV.pv [AV.int .i64 (32:Int),qP y_2.1,qB,qy y_2.1,qI y_2.1,AV.sl0,AV.vec 1 2 fun (i:Nat)=>qX i y.1 y_3.1]) t∧True) ((qs∧True)∧qA L y_3.2 t.2)) (qt L y_1 (qa y.1) t∧True)) (qA L y.2 t.2)
:= by
 delta qa qb qd qf qh qn qs qt qy qA qB qC qI qP qX qag qaB
 intro L n F hok s t hs hp hF ht
 simp only [Zi,Zs,true_and,and_true,eq_self,implies_true,Nat.le_eq,ZA,Zz,ZK,Int.toNat_natCast,Int.ofNat_eq_natCast,Nat.ble_eq,Nat.ble_self_eq_true,Bool.true_and,Bool.and_true,Bool.and_self,Option.some.injEq,AV.int.injEq,Zo,Zj,Nat.mul_one,Nat.beq_refl,Zn,cond_true,cond_false,Zp,Bool.not_true,Bool.not_false,decide_true,ZY,Ya,ZZ,Zf,List.nil_append]
 refine ZG (f:=F L) hs hp (by rw [ht];exact Yh (P:=fun r:PT×RS=>Kp (F L s).2 r.2) (fun _=>kp_op hF.k _ _) fun _=>Zy _) fun e0=>?_
 have g:=hF.g L s hp
 have r0:=ZS hs g (hF.k _) e0
 have key:∀ c,[wLess,wEq].any (isS L (F L s).2)=c→t=if c=true then opM F L (F L s).1 (F L s).2 else F L s:=fun c hc=>by rw [ht];unfold termM;rw [hc]
 refine Yj r0 rfl (Zc (fun c=>?_) fun c=>Xy (key false c) r0.e)
 have k1:=key true c
 rw [if_pos rfl] at k1
 exact Zjg hF hp g r0 c (by rw [k1];exact Zy _) fun r=>(VJ (t:=t) k1 r.e rfl rfl).2
theorem runTermP:∀ (L:List TK) (n:Nat) (F:List TK→PF) (hok:OkI 78 L n F) (s:RS) (t:PT×RS),R0 L s→Pre L n s→FG L n F→t=termM F L s→(cRun (cxI 78 L n F hok) 60).call 70 [.ptr 4 0] (mkH (glT ++ numL [objP L s] 4)) (4 + 1) (ResP L t) :=
 Eq.mpr (by kernel_rfl) Zju
@[reducible] def XS:List TK→PT×RS→PT×RS→Prop:=fun (L:List TK) (t a:PT×RS)=>EqR L (cP L a.2) (RS.nest a.2) (AV.pv [AV.int .i64 (PT.kind a.1),AV.bs (PT.text a.1),AV.int .i64 (PT.num a.1),AV.int .i64 (PT.line a.1),AV.int .i64 (PT.col a.1),AV.sl0,AV.vec 1 (List.length (PT.ks a.1)) fun (i:Nat)=>List.getD (pvL (PT.ks a.1)) i []]) t∧True
theorem Zme:∀ (L:List TK) (n:Nat) (F:List TK→PF),OkI (79:FuncId) L n F→∀ (s:RS) (t:PT×RS),R0 L s→Pre L n s→FG L n F→t=varM F L s→(qag L s n)∧∀ (y:PT×RS),y=F L (qb L s)→qh y.2 (brP (ieq (PT.kind y.1) (29:Int)) (XS L t y) (brP (ieq (PT.kind y.1) (30:Int)) (XS L t y) (brP (ieq (PT.kind y.1) (31:Int)) (XS L t y) (qS L y.2 t.2)))) (qA L y.2 t.2)
:= by
 delta qb qd qh qA qS qag
 intro L n F hok s t hs hp hF ht
 simp only [Zi,Zs,true_and,and_true,eq_self,implies_true,Nat.le_eq,ZA,Zz,ZK,Int.toNat_natCast,Int.ofNat_eq_natCast,Nat.ble_eq,Nat.ble_self_eq_true,Bool.true_and,Bool.and_true,Bool.and_self,Option.some.injEq,AV.int.injEq,Zo,Zj,Nat.mul_one,Nat.beq_refl,Zn,cond_true,cond_false,Zp,Bool.not_true,Bool.not_false,decide_true,ZY,Ya,ZZ,Zf,List.nil_append,XS]
 refine ZG (f:=F L) hs hp (by rw [ht];exact kp_var' _) fun e0=>?_
 have g:=hF.g L s hp
 have r0:=ZS hs g (hF.k _) e0
 have ht:t=((F L s).1,if (F L s).2.err=0∧(F L s).1.kind≠29∧(F L s).1.kind≠30∧(F L s).1.kind≠31 then wrongR (F L s).2 4 else (F L s).2):=ht
 refine Zc (fun e2=>?_) fun e2=>Zc (fun e3=>?_) fun e3=>Zc (fun e4=>?_) fun e4=>?_
 ·rw [ZC] at e2
  rw [if_neg (by rintro ⟨_,h,_⟩;exact h e2)] at ht
  exact Xy ht e0
 ·rw [ZC] at e3
  rw [if_neg (by rintro ⟨_,_,h,_⟩;exact h e3)] at ht
  exact Xy ht e0
 ·rw [ZC] at e4
  rw [if_neg (by rintro ⟨_,_,_,h⟩;exact h e4)] at ht
  exact Xy ht e0
 ·rw [Zu] at e2 e3 e4
  rw [if_pos ⟨e0,e2,e3,e4⟩] at ht
  exact Zbw r0 (by decide) (by rw [ht];exact Zy _)
theorem runVarP:∀ (L:List TK) (n:Nat) (F:List TK→PF) (hok:OkI 79 L n F) (s:RS) (t:PT×RS),R0 L s→Pre L n s→FG L n F→t=varM F L s→(cRun (cxI 79 L n F hok) 60).call 74 [.ptr 4 0] (mkH (glT ++ numL [objP L s] 4)) (4 + 1) (ResP L t) :=
 Eq.mpr (by kernel_rfl) Zme
theorem okProductP {L:List TK} {n:Nat} {F:List TK→PF} (h:OkI 86 L n F) (hF:FG L n F):HEntOK Tryd.prog 83 (mF L n (rowM F [wMul])) :=
 Xa fun s h1 h2=>⟨cxR 86 L n F [wMul] h (rowM F [wMul] L s) s,60,rfl,fol,ZN,fun t ht=>by subst ht;exact runProductP L n F h s _ h1 h2 hF rfl⟩
theorem okSumP {L:List TK} {n:Nat} {F:List TK→PF} (h:OkI 83 L n F) (hF:FG L n F):HEntOK Tryd.prog 78 (mF L n (rowM F [wAdd,wSub])) :=
 Xa fun s h1 h2=>⟨cxR 83 L n F [wAdd,wSub] h (rowM F [wAdd,wSub] L s) s,60,rfl,fol,ZN,fun t ht=>by subst ht;exact runSumP L n F h s _ h1 h2 hF rfl⟩
theorem okTermP {L:List TK} {n:Nat} {F:List TK→PF} (h:OkI 78 L n F) (hF:FG L n F):HEntOK Tryd.prog 70 (mF L n (termM F)) :=
 Xa fun s h1 h2=>⟨cxI 78 L n F h,60,rfl,fol,ZN,fun t ht=>runTermP L n F h s t h1 h2 hF ht⟩
theorem okVarP {L:List TK} {n:Nat} {F:List TK→PF} (h:OkI 79 L n F) (hF:FG L n F):HEntOK Tryd.prog 74 (mF L n (varM F)) :=
 Xa fun s h1 h2=>⟨cxI 79 L n F h,60,rfl,fol,ZN,fun t ht=>runVarP L n F h s t h1 h2 hF ht⟩
end Go.Proofs.YtlmmbanfhjaioaaDoor
end
