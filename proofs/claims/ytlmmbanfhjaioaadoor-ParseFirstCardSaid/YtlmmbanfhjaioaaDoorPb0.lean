/- Laid by program out of its parts: PbW, PbA, PbB, PbC, PbD. -/
import Derived.Test.YtlmmbanfhjaioaaDoorPa3
import Derived.Test.YtlmmbanfhjaioaaDoorTk3
import Derived.Test.YtlmmbanfhjaioaaDoorMh
set_option linter.unusedVariables false
set_option linter.unusedSimpArgs false
section
set_option maxRecDepth 100000
set_option maxHeartbeats 2000000
open Go Go.Ev
namespace Go.Proofs.YtlmmbanfhjaioaaDoor
noncomputable def eIW:Tr AObj→List AV→Option Ct:=fun H args=>match args with
 | [x]=>ob (strW x) fun w=>cond (globB H) (some (.need True (.ret (.bool (bar (isWordT w)))))) none
 | _=>none
theorem Zmb {H:Tr AObj} (h:globB H=true):H.get 0=some (.glob asciiTab):=by
 unfold globB at h
 split at h
 ·rename_i l hl
  rw [hl,WE _ _ h]
 ·cases h
theorem runIW_r:∀ (w:List UInt8),True∧bar (wHas (SKey.str w))=bar (isWordT w)
:= by
 intro w
 simp only [Zi,Zs,true_and,and_true,eq_self,implies_true,Nat.le_eq,ZA,Zz,ZK,Int.toNat_natCast,Int.ofNat_eq_natCast,Nat.ble_eq,Nat.ble_self_eq_true,Bool.true_and,Bool.and_true,Bool.and_self,Option.some.injEq,AV.int.injEq,Zo,Zj,Nat.mul_one,Nat.beq_refl,Zn,cond_true,cond_false,Zp,Bool.not_true,Bool.not_false,decide_true,ZY,Ya,ZZ,Zf,List.nil_append]
 rfl
theorem runIW:∀ (w:List UInt8),(cRun (cxA tbD) 60).call 67 [.bs w] (mkH glT) 4 (ResM Tryd.prog false (.bool (bar (isWordT w)))) :=
 Eq.mpr (by kernel_rfl) runIW_r
theorem okIW:EntOK Tryd.prog 67 eIW:=by
 refine Zkx (gl:=glT) (ng:=4) JE fun H args ct hct=>?_
 unfold eIW at hct
 split at hct
 ·rename_i x
  obtain ⟨w,hw,hct⟩:=Za.1 hct
  cases hg:globB H with
  | false=>rw [hg] at hct;cases hct
  | true =>
   rw [hg] at hct
   injection hct with hct
   exact ⟨Us hg,_,_,hct.symm,fun _=>⟨[.bs w],Zh9 (Zam hw) Zkv,⟨rfl,trivial⟩,cxA tbD,60,rfl,fol,Zka,runIW w⟩⟩
 ·cases hct
end Go.Proofs.YtlmmbanfhjaioaaDoor
end
section
set_option maxRecDepth 100000
set_option maxHeartbeats 2000000
open Go Go.Ev
namespace Go.Proofs.YtlmmbanfhjaioaaDoor
def cP (L:List TK) (s:RS):AV:=vK (L.drop s.at_.toNat)
def objX (c:AV) (m:Int):AObj:=.cells 55 .leaf (.per [c,.int .i64 m]) 2 false
def objP (L:List TK) (s:RS):AObj:=objX (cP L s) s.nest
def objN:AObj:=.cells 55 .leaf (.per []) 2 false
def vlen (c:AV):Nat:=match c with
 | .vec _ n _=>n
 | _=>0
def stP (L:List TK) (c:AV) (m:Int):RS:=⟨(L.length:Int) - (vlen c:Int),m,0,0⟩
structure R0 (L:List TK) (s:RS):Prop where
 ok:RSOK L s
 e:s.err=0
 w:s.whr=0
def lnAt (L:List TK) (s:RS):Int:=if s.whr < L.length then (L.getD s.whr.toNat TK.zero).line else 0
def clAt (L:List TK) (s:RS):Int:=if s.whr < L.length then (L.getD s.whr.toNat TK.zero).col else 0
def stopV (L:List TK) (s:RS):AV:=.iface 52 (.agg [.int .i64 (lnAt L s),.int .i64 (clAt L s),.int .i64 s.err])
def rowsS (ws:List (List UInt8)):AObj:=.cells 9 .leaf (.rows 1 fun i=>[.bs (ws.getD i [])]) ws.length false
structure PreC (L:List TK) (c:AV) (m:Int) (p:RS→Prop):Prop where
 s:∃ s,c=cP L s∧m=s.nest∧R0 L s∧p s
noncomputable def findP (H:Tr AObj) (p:AV):Option ((AV×Int)×Nat):=match p with
 | .ptr id 0=>ob (H.get id) fun o=>match o with
  | .cells ty c z n op=>cond (cond (Nat.beq ty 55) (cond (Nat.beq n 2) (not op) false) false) (ob (readL c z 2 0) fun cs=>match cs with
   | [c,.int .i64 m]=>some ((c,m),id)
   | _=>none) none
  | _=>none
 | _=>none
noncomputable def txX (l:List AV):List UInt8:=match l with
 | [.bs t]=>t
 | _=>[]
noncomputable def wsF (m:Nat) (f:Nat→List AV):List (List UInt8):=barr ((List.range m).map fun i=>txX (f i))
structure WsF (m N:Nat) (f:Nat→List AV):Prop where
 f:∀ i,i < m→f i=[.bs (txX (f i))]
 n:N=m
noncomputable def wordsIn (H:Tr AObj) (w:AV):Option ((List (List UInt8)×Nat)×Prop):=match w with
 | .sl r 0 m m'=>ob (H.get r) fun o=>match o with
  | .cells el c z N op=>cond (cond (Nat.beq el 9) (cond op false (cond (Nat.beq N m') (Nat.beq m m') false)) false) (ob (readL c z m 0) fun l=>ob (txW l) fun ws=>some ((ws,r),True)) none
  | _=>none
 | .slg r m 1=>ob (H.get r) fun o=>match o with
  | .cells el c z N op=>match c,z with
   | .leaf,.rows e f=>cond (cond (Nat.beq el 9) (cond op false (Nat.beq e 1)) false) (some ((wsF m f,r),WsF m N f)) none
   | _,_=>none
  | _=>none
 | _=>none
noncomputable def hP (L:List TK) (A:Type) (ar:A→List AV) (pre:RS→A→Prop) (out:RS→A→HO) (fz:Nat):HSpec :=
 { X:=RS×A,gl:=glT,sel:=globB,ng:=4,k:=1,args:=fun x=>.ptr 4 0 :: ar x.2,objs:=fun x=>[objP L x.1],pre:=fun x=>R0 L x.1∧pre x.1 x.2,out:=fun x=>out x.1 x.2,fz:=fz,find:=fun _ _=>none }
noncomputable def mP (L:List TK) (A:Type) (rd:List AV→Option A) (pre:RS→A→Prop) (out:RS→A→HO):HEnt:=fun H nx args=>cond (globB H) (List.casesOn args none fun p l=>ob (findP H p) fun q=>ob (rd l) fun a =>
 cond (Nat.blt q.2 nx) (some (.need (PreC L q.1.1 q.1.2 fun s=>pre s a) (instC [q.2] nx (out (stP L q.1.1 q.1.2) a)))) none) none
noncomputable def hW (L:List TK) (pre:RS→List (List UInt8)→Prop) (out:RS→List (List UInt8)→HO):HSpec :=
 { X:=RS×List (List UInt8),gl:=glT,sel:=globB,ng:=4,k:=2,args:=fun x=>[.ptr 4 0,.slg (4 + 1) x.2.length 1],objs:=fun x=>[objP L x.1,rowsS x.2],pre:=fun x=>R0 L x.1∧pre x.1 x.2,out:=fun x=>out x.1 x.2,fz:=0,find:=fun _ _=>none }
noncomputable def mW (L:List TK) (pre:RS→List (List UInt8)→Prop) (out:RS→List (List UInt8)→HO):HEnt:=fun H nx args=>cond (globB H) (match args with
 | [p,w]=>ob (findP H p) fun q=>ob (wordsIn H w) fun v=>cond (cond (Nat.blt q.2 nx) (cond (Nat.blt v.1.2 nx) (not (Nat.beq q.2 v.1.2)) false) false) (some (.need (v.2∧PreC L q.1.1 q.1.2 fun s=>pre s v.1.1) (instC [q.2,v.1.2] nx (out (stP L q.1.1 q.1.2) v.1.1)))) none
 | _=>none) none
noncomputable def cxW:Ctx:={ P:=Tryd.prog,tb:=[(67,eIW)],lp:=fun _ _=>none,cut:=fun _ _=>none }
theorem WT {L:List TK} {s:RS} (h:R0 L s):stP L (cP L s) s.nest=s:=by
 have h0:=h.ok.a0;have h1:=h.ok.a1;have he:=h.e;have hw:=h.w
 cases s with
 | mk a n e w =>
 simp only at h0 h1 he hw
 subst he;subst hw
 unfold stP
 have:(L.length:Int) - ((vlen (cP L ⟨a,n,0,0⟩):Nat):Int)=a:=by
  show (L.length:Int) - (((L.drop a.toNat).length:Nat):Int)=a
  rw [List.length_drop];omega
 rw [this]
theorem Gs {ρ:Ren} {b:Blk} {el n:Nat} {c:Tr AV} {z:CB} {op:Bool} {l:List AV} {x:Obj} (hl:readL c z n 0=some l) (h:OR ρ b (.cells el c z n op) x):OR ρ b (.cells el .leaf (.per l) n op) x:=by
 obtain ⟨h1,h2⟩:=Wf c z n 0 l hl
 cases h with
 | cells _ _ _ _ _ cs fz hsize hn hop hfz hcell =>
  refine .cells _ _ _ _ _ cs fz hsize hn hop hfz fun k a hk ha=>hcell k a hk ?_
  rw [Zx] at ha
  have ha:l[k % l.length]? = some a:=ha
  rw [Nat.mod_eq_of_lt (by omega)] at ha
  have:=h2 k a ha
  rwa [Nat.zero_add] at this
theorem Vg {α:Type} {b:Bool} {x:Option α} {y:α} (h:cond b x none=some y):b=true∧x=some y:=by
 cases b with
 | true=>exact ⟨rfl,h⟩
 | false=>cases h
theorem Jy.{u} {α:Type u} {b:Bool} {x:Option α} {y:α} (h:cond b x none=some y):b=true∧x=some y:=by
 cases b with
 | true=>exact ⟨rfl,h⟩
 | false=>cases h
theorem Xg {α:Type 1} {b:Bool} {x:Option α} {y:α} (h:cond b x none=some y):b=true∧x=some y:=by
 cases b with
 | true=>exact ⟨rfl,h⟩
 | false=>cases h
theorem JK {H:Tr AObj} {p:AV} {c:AV} {m:Int} {id:Nat} (h:findP H p=some ((c,m),id)):p = .ptr id 0∧Desc H id (objX c m)∧∃ ty c z n op,H.get id=some (.cells ty c z n op):=by
 unfold findP at h
 split at h
 ·rename_i i
  obtain ⟨o,ho,h⟩:=Za.1 h
  split at h
  ·rename_i ty cc z n op
   obtain ⟨h1,h⟩:=Vg h
   obtain ⟨cs,hcs,h⟩:=Za.1 h
   split at h
   ·rename_i c' m'
    injection h with h;injection h with h h2;injection h with h3 h4
    subst h2;subst h3;subst h4
    obtain ⟨e1,h1⟩:=Ze h1
    obtain ⟨e2,e3⟩:=Ze h1
    rw [Nat.beq_eq] at e1 e2
    have e3:op=false:=by cases op <;> simp_all
    subst e1;subst e2;subst e3
    exact ⟨rfl,⟨⟨_,ho,fun ρ b x hx=>Gs hcs hx⟩,rfl⟩,_,_,_,_,_,ho⟩
   ·cases h
  ·cases h
 ·cases h
theorem Zk8:∀ {l:List AV} {ws:List (List UInt8)},txW l=some ws→ws.length=l.length∧∀ k a,l[k]? = some a→VA a (.bs (ws.getD k []))
 | [],ws,h=>by
  injection h with h;subst h
  exact ⟨rfl,fun k a h=>by simp at h⟩
 | x :: l,ws,h=>by
  obtain ⟨w,hw,h⟩:=Za.1 (show (ob (strW x) fun w=>ob (txW l) fun ws=>some (w :: ws))=some ws from h)
  obtain ⟨ws',hws,h⟩:=Za.1 h
  injection h with h;subst h
  obtain ⟨h1,h2⟩:=Zk8 hws
  refine ⟨by simp [h1],fun k a hk=>?_⟩
  cases k with
  | zero=>injection hk with hk;subst hk;exact Zam hw
  | succ k=>exact h2 k a hk
theorem Zf7 {H:Tr AObj} {w:AV} {ws:List (List UInt8)} {r:Nat} {q:Prop} (h:wordsIn H w=some ((ws,r),q)) (hq:q):Desc H r (rowsS ws)∧(∃ ty c z n op,H.get r=some (.cells ty c z n op))∧∀ E F nx ρ w',Rel E F nx ρ H.get w'→∀ u,VR ρ w u→VR ρ (.slg r ws.length 1) u:=by
 unfold wordsIn at h
 split at h
 ·rename_i i m m'
  obtain ⟨o,ho,h⟩:=Za.1 h
  split at h
  ·rename_i ty cc z N op
   obtain ⟨h1,h⟩:=Jy h
   obtain ⟨l,hl,h⟩:=Za.1 h
   obtain ⟨ws',hws,h⟩:=Za.1 h
   injection h with h;injection h with h _;injection h with h h2
   subst h;subst h2
   obtain ⟨e1,h1⟩:=Ze h1
   cases hop:op with
   | true=>rw [hop] at h1;cases h1
   | false =>
   rw [hop] at h1
   obtain ⟨e2,e3⟩:=Ze (show cond (Nat.beq N m') (Nat.beq m m') false=true from h1)
   rw [Nat.beq_eq] at e1 e2 e3
   subst e1;subst e2;subst hop;subst e3
   obtain ⟨q1,q2⟩:=Wf cc z m 0 l hl
   obtain ⟨t1,t2⟩:=Zk8 hws
   refine ⟨⟨⟨_,ho,fun ρ b x hx=>?_⟩,rfl⟩,⟨_,_,_,_,_,ho⟩,fun E F nx ρ w' r0 u hu=>?_⟩
   ·cases hx with
    | cells _ _ _ _ _ cs fz hsize hn hop hfz hcell =>
     refine .cells _ _ _ _ _ cs fz hsize (by omega) (fun _=>by have:=hop rfl;omega) hfz fun k a hk ha=>?_
     have hk':k < l.length:=by omega
     have hc:=q2 k l[k] (List.getElem?_eq_getElem hk')
     rw [Nat.zero_add] at hc
     obtain ⟨v,h1,h2⟩:=hcell k l[k] (by omega) hc
     rw [Zx] at ha
     have ha:([AV.bs (ws'.getD (k / 1) [])]:List AV)[k % 1]? = some a:=ha
     rw [Nat.div_one,Nat.mod_one] at ha
     injection ha with ha;subst ha
     exact ⟨v,h1,t2 k l[k] (List.getElem?_eq_getElem hk') ρ v h2⟩
   ·cases hu with
    | sl _ _ _ _ b hb =>
     obtain ⟨x,hx1,hx2⟩:=r0.ob _ _ b ho hb
     cases hx2 with
     | cells _ _ _ _ _ cs fz hsize hn hop hfz hcell =>
     have hN:=hop rfl
     have:=VR.slg (ρ:=ρ) i ws'.length 1 b hb (by decide) (by omega)
     rw [Nat.div_one,← hN,show ws'.length=m by omega] at this
     rw [show ws'.length=m by omega]
     exact this
  ·cases h
 ·rename_i i m
  obtain ⟨o,ho,h⟩:=Za.1 h
  split at h
  ·rename_i ty cc z N op
   split at h
   ·rename_i e f
    obtain ⟨h1,h⟩:=Jy h
    injection h with h;injection h with h h3;injection h with h h2
    subst h;subst h2;subst h3
    obtain ⟨e1,h1⟩:=Ze h1
    cases hop:op with
    | true=>rw [hop] at h1;cases h1
    | false =>
    rw [hop] at h1
    have e2:Nat.beq e 1=true:=h1
    rw [Nat.beq_eq] at e1 e2
    subst e1;subst e2;subst hop
    have hlen:(wsF m f).length=m:=by unfold wsF;rw [Zi];simp
    have hn1:=hq.n
    refine ⟨⟨⟨_,ho,fun ρ b x hx=>?_⟩,rfl⟩,⟨_,_,_,_,_,ho⟩,fun E F nx ρ w' r0 u hu=>by rw [hlen];exact hu⟩
    cases hx with
    | cells _ _ _ _ _ cs fz hsize hn hop hfz hcell =>
     refine .cells _ _ _ _ _ cs fz hsize (by omega) (fun _=>by have:=hop rfl;omega) hfz fun k a hk ha=>hcell k a (by omega) ?_
     rw [Zx] at ha ⊢
     have ha:([AV.bs ((wsF m f).getD (k / 1) [])]:List AV)[k % 1]? = some a:=ha
     show (f (k / 1))[k % 1]? = some a
     rw [Nat.div_one,Nat.mod_one] at ha ⊢
     have hk':k < m:=by omega
     have hg:(wsF m f).getD k []=txX (f k):=by
      unfold wsF
      rw [Zi,List.getD_eq_getElem?_getD,List.getElem?_map,List.getElem?_range hk'];rfl
     rw [hg,← hq.f k hk'] at ha
     exact ha
   ·cases h
  ·cases h
 ·cases h
theorem wsF_rows (ws:List (List UInt8)):WsF ws.length ws.length (fun i=>[.bs (ws.getD i [])])∧wsF ws.length (fun i=>[.bs (ws.getD i [])])=ws:=by
 refine ⟨⟨fun i _=>rfl,rfl⟩,?_⟩
 unfold wsF
 rw [Zi]
 apply List.ext_getElem
 ·simp
 ·intro i h1 h2
  simp [txX,List.getD_eq_getElem?_getD,List.getElem?_eq_getElem h2]
theorem Zk1 (σ:List (Nat×Nat)) (L:List TK) (s:RS):vmP σ (cP L s) (cP L s):=⟨rfl,rfl,⟨fun i _=>⟨⟨rfl,rfl⟩,rfl,⟨rfl,rfl⟩,⟨rfl,rfl⟩,⟨rfl,rfl⟩,trivial⟩⟩⟩
theorem om_P (σ:List (Nat×Nat)) (L:List TK) (s:RS):omP σ (objP L s) (objP L s):=⟨rfl,rfl,rfl,⟨trivial,Zk1 σ L s⟩,rfl,rfl⟩
theorem om_S (σ:List (Nat×Nat)) (ws:List (List UInt8)):omP σ (rowsS ws) (rowsS ws):=⟨rfl,rfl,rfl,rfl,⟨fun i _=>⟨rfl,trivial⟩⟩⟩
theorem Zb4 {H:Tr AObj} {l:List (Nat×AObj)} (hg:globB H=true) (h:∀ p∈l,∃ ty c z n op,H.get p.1=some (.cells ty c z n op)):globB (setL l H)=true:=by
 unfold globB at hg ⊢
 have:(setL l H).get 0=H.get 0:=WD fun p hp e=>by
  obtain ⟨ty,c,z,n,op,h1⟩:=h p hp
  rw [e] at h1
  rw [h1] at hg
  cases hg
 rw [this];exact hg
theorem Zai (H:Tr AObj) (h:globB H=true):∀ p∈glT,H.get p.1=some p.2:=fun p hp=>by
 rw [List.mem_singleton.1 hp]
 exact Zmb h
theorem Ze7:∀ p∈glT,isGl p.2=true∧p.1 < 4:=fun p hp=>by
 rw [List.mem_singleton.1 hp];exact ⟨rfl,by decide⟩
theorem clP (L:List TK) (s:RS):clO (objP L s):=by
 intro a ha
 rcases List.mem_cons.1 ha with rfl | ha
 ·exact Zk1 [] L s
 ·rw [List.mem_singleton.1 ha];exact ⟨rfl,rfl⟩
theorem clN:clO objN:=fun a ha=>by cases ha
theorem clS (ws:List (List UInt8)):clO (rowsS ws):=fun i _=>⟨rfl,trivial⟩
def rnI:HO→Prop
 | .ret v os m=>m=0∧(∀ τ,rnF τ 4 v=v)∧∀ o∈os,∀ τ,rnO τ o=o
 | .pan v os m=>m=0∧(∀ τ,rnF τ 4 v=v)∧∀ o∈os,∀ τ,rnO τ o=o
 | .br _ t e=>rnI t∧rnI e
 | .gen a f=>rnI (f a)
theorem Zlh {os:List AObj} (h:∀ o∈os,∀ τ,rnO τ o=o) (τ:Nat→Nat):os.map (rnO τ)=os:=by
 induction os with
 | nil=>rfl
 | cons a l ih=>rw [List.map_cons,h a (List.mem_cons_self ..),ih fun o ho=>h o (List.mem_cons_of_mem _ ho)]
theorem UA {ng nx:Nat} {ids:List Nat}:∀ {o:HO},rnI o→hOut (instC ids nx o)=hOut (instH ng ids nx o)
 | .ret v os m,h=>by
  obtain ⟨rfl,h1,h2⟩:=h
  show hOut (fN1 (nx + 0) fun n=>HCt.ret v ((ids ++ List.range' nx 0).zip os) n)=hOut (fN1 (nx + 0) fun n=>(fun ts=>HCt.ret (rnF (tauN ng ts) 4 v) (ts.zip (os.map (rnO (tauN ng ts)))) n) (ids ++ List.range' nx 0))
  rw [YG,YG]
  show some (false,v,(ids ++ List.range' nx 0).zip os,nx + 0)=some (false,rnF (tauN ng (ids ++ List.range' nx 0)) 4 v,(ids ++ List.range' nx 0).zip (os.map (rnO (tauN ng (ids ++ List.range' nx 0)))),nx + 0)
  rw [h1,Zlh h2]
 | .pan v os m,h=>by
  obtain ⟨rfl,h1,h2⟩:=h
  show hOut (fN1 (nx + 0) fun n=>HCt.pan v ((ids ++ List.range' nx 0).zip os) n)=hOut (fN1 (nx + 0) fun n=>(fun ts=>HCt.pan (rnF (tauN ng ts) 4 v) (ts.zip (os.map (rnO (tauN ng ts)))) n) (ids ++ List.range' nx 0))
  rw [YG,YG]
  show some (true,v,(ids ++ List.range' nx 0).zip os,nx + 0)=some (true,rnF (tauN ng (ids ++ List.range' nx 0)) 4 v,(ids ++ List.range' nx 0).zip (os.map (rnO (tauN ng (ids ++ List.range' nx 0)))),nx + 0)
  rw [h1,Zlh h2]
 | .br b t e,h=>by
  show cond b (hOut (instC ids nx t)) (hOut (instC ids nx e))=cond b (hOut (instH ng ids nx t)) (hOut (instH ng ids nx e))
  rw [UA h.1,UA h.2]
 | .gen a f,h=>UA (o:=f a) h
theorem Qn {nx:Nat} {ids:List Nat}:∀ {o:HO} {p:Bool} {v:AV} {up:List (Nat×AObj)} {nx':Nat},rnI o→clHO ids.length o→hOut (instC ids nx o)=some (p,v,up,nx')→up.map (·.1)=ids
 | .ret v os m,p,v',up,nx',h,hc,ho=>by
  obtain ⟨rfl,_,_⟩:=h
  have h1:hOut (fN1 (nx + 0) fun n=>HCt.ret v ((ids ++ List.range' nx 0).zip os) n)=some (p,v',up,nx'):=ho
  rw [YG] at h1
  injection h1 with h1;injection h1 with _ h1;injection h1 with _ h1;injection h1 with h1 _
  subst h1
  rw [List.range'_zero,List.append_nil]
  exact List.map_fst_zip (by have:=hc.2.1;omega)
 | .pan v os m,p,v',up,nx',h,hc,ho=>by
  obtain ⟨rfl,_,_⟩:=h
  have h1:hOut (fN1 (nx + 0) fun n=>HCt.pan v ((ids ++ List.range' nx 0).zip os) n)=some (p,v',up,nx'):=ho
  rw [YG] at h1
  injection h1 with h1;injection h1 with _ h1;injection h1 with _ h1;injection h1 with h1 _
  subst h1
  rw [List.range'_zero,List.append_nil]
  exact List.map_fst_zip (by have:=hc.2.1;omega)
 | .br b t e,p,v,up,nx',h,hc,ho=>by
  have ho:cond b (hOut (instC ids nx t)) (hOut (instC ids nx e))=some (p,v,up,nx'):=ho
  cases b with
  | true=>exact Qn h.1 (hc.1 rfl) ho
  | false=>exact Qn h.2 (hc.2 rfl) ho
 | .gen a f,p,v,up,nx',h,hc,ho=>Qn (o:=f a) h hc ho
theorem Zhu {g:FuncId} {L:List TK} {A:Type} {ar:A→List AV} {rd:List AV→Option A} {pre:RS→A→Prop} {out:RS→A→HO} {fz:Nat} (hcl:∀ s a,R0 L s→pre s a→clHO 1 (out s a)) (hs:∀ s a,R0 L s→pre s a→rnI (out s a)) (har:∀ σ a,vmL σ (ar a) (ar a)) (hrd:∀ l a,rd l=some a→VAL l (ar a))
  (hrun:∀ s a,R0 L s→pre s a→∃ (cx:Ctx) (fuel:Nat) (K:KC),cx.P=Tryd.prog∧cx.P.follows .mixedOrders=true∧TbOK cx.P cx.tb∧(∀ r,K r→ResO Tryd.prog fz 4 (4 + 1) (out s a) r)∧(cRun cx fuel).call g (.ptr 4 0 :: ar a) (mkH (glT ++ numL [objP L s] 4)) (4 + 1) K):HEntOK Tryd.prog g (mP L A rd pre out):=by
 intro H nx args hc he
 obtain ⟨hg,he⟩:=Xg he
 cases args with
 | nil=>cases he
 | cons p0 l =>
 obtain ⟨⟨⟨c,m⟩,id⟩,hq,he⟩:=Za.1 (show (ob (findP H p0) fun q=>ob (rd l) fun a=>cond (Nat.blt q.2 nx) (some (HCt.need (PreC L q.1.1 q.1.2 fun s=>pre s a) (instC [q.2] nx (out (stP L q.1.1 q.1.2) a)))) none)=some hc from he)
 obtain ⟨a,ha,he⟩:=Za.1 he
 obtain ⟨hb,he⟩:=Xg he
 injection he with he;subst he
 intro p v up nx' hout E F ρ w r
 obtain ⟨⟨s,hc1,hm1,hR,hpre⟩,hout⟩:=Xn hout
 simp only at hc1 hm1 hb hout
 subst hc1;subst hm1
 rw [WT hR] at hout
 obtain ⟨rfl,hd,hcells⟩:=JK hq
 have hS:HEntOK Tryd.prog g ((hP L A ar pre out fz).at (s,a) [id]).ent:=Xv _ Ze7 Zai (fun x=>rfl) (fun x o ho=>by rw [List.mem_singleton.1 ho];rfl) (fun x hp=>hcl x.1 x.2 hp.1 hp.2) fun x hp=>by
  obtain ⟨cx,fuel,K,e1,e2,e3,e4,e5⟩:=hrun x.1 x.2 hp.1 hp.2
  exact ⟨_,JX (e1 ▸ Xr e2 e3 fuel),K,e4,e5⟩
 refine YV (S:=hP L A ar pre out fz) (x:=(s,a)) (ids:=[id]) (os:=[objP L s]) (args':=.ptr id 0 :: ar a) hS ⟨hR,hpre⟩ (Zb4 hg fun p hp=>by rw [List.mem_singleton.1 hp];exact hcells) rfl rfl ?_ rfl (fun q hq=>by rw [List.mem_singleton.1 hq];exact hd) ⟨⟨rfl,rfl⟩,har _ _⟩ ⟨?_,trivial⟩ ((UA (hs s a hR hpre)).symm.trans hout) (fun i hi=>by
  have hu:=Qn (ids:=[id]) (hs s a hR hpre) (hcl s a hR hpre) hout
  rw [← hu] at hi
  obtain ⟨q,hq,rfl⟩:=List.mem_map.1 hi
  exact ⟨q,hq,rfl⟩) r fun vs hvs=>?_
 ·show (List.all [id] fun j=>Nat.blt j nx)=true
  simp only [List.all_cons,List.all_nil,hb,Bool.and_true]
 ·show (match (H.set id (objP L s)).get id with
   | none=>False
   | some o=>omP [(4,id)] (objP L s) o)
  rw [Tr.get_set_same];exact om_P _ L s
 ·cases hvs with
  | cons _ _ _ vs h1 h2=>exact .cons _ _ _ _ h1 (hrd l a ha ρ vs h2)
theorem mW_ok {g:FuncId} {L:List TK} {pre:RS→List (List UInt8)→Prop} {out:RS→List (List UInt8)→HO} (hcl:∀ s a,R0 L s→pre s a→clHO 2 (out s a)) (hs:∀ s a,R0 L s→pre s a→rnI (out s a))
  (hrun:∀ s a,R0 L s→pre s a→∃ (cx:Ctx) (fuel:Nat) (K:KC),cx.P=Tryd.prog∧cx.P.follows .mixedOrders=true∧TbOK cx.P cx.tb∧(∀ r,K r→ResO Tryd.prog 0 4 (4 + 2) (out s a) r)∧(cRun cx fuel).call g [.ptr 4 0,.slg (4 + 1) a.length 1] (mkH (glT ++ numL [objP L s,rowsS a] 4)) (4 + 2) K):HEntOK Tryd.prog g (mW L pre out):=by
 intro H nx args hc he
 obtain ⟨hg,he⟩:=Xg he
 split at he
 case h_2=>cases he
 rename_i p0 w
 obtain ⟨⟨⟨c,m⟩,id⟩,hq,he⟩:=Za.1 he
 obtain ⟨⟨⟨ws,r0⟩,hwq⟩,hw,he⟩:=Za.1 he
 obtain ⟨hb,he⟩:=Xg he
 injection he with he;subst he
 intro p v up nx' hout E F ρ w0 r
 obtain ⟨⟨hwp,s,hc1,hm1,hR,hpre⟩,hout⟩:=Xn hout
 simp only at hwp hc1 hm1 hb hout
 subst hc1;subst hm1
 rw [WT hR] at hout
 obtain ⟨rfl,hd,hcells⟩:=JK hq
 obtain ⟨hd2,hcells2,hval⟩:=Zf7 hw hwp
 obtain ⟨b1,hb⟩:=Ze hb
 obtain ⟨b2,b3⟩:=Ze hb
 have b3:Nat.beq id r0=false:=by cases hx:Nat.beq id r0 <;> simp_all
 have hne:id≠r0:=fun e=>by rw [e,Nat.beq_refl] at b3;cases b3
 have hS:HEntOK Tryd.prog g ((hW L pre out).at (s,ws) [id,r0]).ent:=Xv _ Ze7 Zai (fun x=>rfl) (fun x o ho=>by
   rcases List.mem_cons.1 ho with rfl | ho
   ·rfl
   ·rw [List.mem_singleton.1 ho];rfl) (fun x hp=>hcl x.1 x.2 hp.1 hp.2) fun x hp=>by
  obtain ⟨cx,fuel,K,e1,e2,e3,e4,e5⟩:=hrun x.1 x.2 hp.1 hp.2
  exact ⟨_,JX (e1 ▸ Xr e2 e3 fuel),K,e4,e5⟩
 refine YV (S:=hW L pre out) (x:=(s,ws)) (ids:=[id,r0]) (os:=[objP L s,rowsS ws]) (args':=[.ptr id 0,.slg r0 ws.length 1]) hS ⟨hR,hpre⟩ (Zb4 hg fun p hp=>?_) rfl ?_ ?_ rfl (fun q hq=>?_) ⟨⟨rfl,rfl⟩,⟨rfl,rfl,rfl⟩,trivial⟩ ⟨?_,?_,trivial⟩ ((UA (hs s ws hR hpre)).symm.trans hout) (fun i hi=>?_) r fun vs hvs=>?_
 ·rcases List.mem_cons.1 hp with rfl | hp
  ·exact hcells
  ·rw [List.mem_singleton.1 hp];exact hcells2
 ·show cond (List.any [r0] (Nat.beq id)) false true=true
  simp only [List.any_cons,List.any_nil,b3,Bool.or_false,cond_false]
 ·show (List.all [id,r0] fun j=>Nat.blt j nx)=true
  simp only [List.all_cons,List.all_nil,b1,b2,Bool.and_true]
 ·rcases List.mem_cons.1 hq with rfl | hq
  ·exact hd
  ·rw [List.mem_singleton.1 hq];exact hd2
 ·show (match ((H.set r0 (rowsS ws)).set id (objP L s)).get id with
   | none=>False
   | some o=>omP [(4,id),(4 + 1,r0)] (objP L s) o)
  rw [Tr.get_set_same];exact om_P _ L s
 ·show (match ((H.set r0 (rowsS ws)).set id (objP L s)).get r0 with
   | none=>False
   | some o=>omP [(4,id),(4 + 1,r0)] (rowsS ws) o)
  rw [Tr.get_set_ne _ hne,Tr.get_set_same];exact om_S _ ws
 ·have hu:=Qn (ids:=[id,r0]) (hs s ws hR hpre) (hcl s ws hR hpre) hout
  rw [← hu] at hi
  obtain ⟨q,hq,rfl⟩:=List.mem_map.1 hi
  exact ⟨q,hq,rfl⟩
 ·cases hvs with
  | cons _ _ _ vs h1 h2=>cases h2 with
  | cons _ _ _ vs h2 h3=>exact .cons _ _ _ _ h1 (.cons _ _ _ _ (hval E F nx ρ w0 r _ h2) h3)
theorem clStop (L:List TK) (s:RS):clF 4 (stopV L s):=fun a ha=>by
 simp only [List.mem_cons,List.not_mem_nil,or_false] at ha
 rcases ha with rfl | rfl | rfl <;> exact ⟨rfl,rfl⟩
theorem XM {p:AObj→Prop} {o:AObj} (h:p o):∀ x∈[o],p x:=fun x hx=>by rw [List.mem_singleton.1 hx];exact h
theorem Jr {p:AObj→Prop} {o q:AObj} (h:p o) (h2:p q):∀ x∈[o,q],p x:=fun x hx=>by
 rcases List.mem_cons.1 hx with rfl | hx
 ·exact h
 ·rw [List.mem_singleton.1 hx];exact h2
end Go.Proofs.YtlmmbanfhjaioaaDoor
end
section
set_option maxRecDepth 100000
set_option maxHeartbeats 2000000
open Go Go.Ev
namespace Go.Proofs.YtlmmbanfhjaioaaDoor
noncomputable def oWrong (L:List TK) (s:RS) (e:Int):HO:=.pan (stopV L (wrongR s e)) [objN] 0
noncomputable def oTake (L:List TK) (s:RS) (_:Unit):HO:=.gen (ahd L s,at1 s) fun y=>.ret (.agg y.1.row) [objP L y.2] 0
noncomputable def oIs (L:List TK) (s:RS) (ws:List (List UInt8)):HO:=.gen s fun y=>.ret (.bool (bar (ws.any (isS L y)))) [objP L y,rowsS ws] 0
structure WsP (ws:List (List UInt8)):Prop where
 h:∀ w∈ws,isWordT w=decide (kindS w=2)
 l:ws.length≤1000
noncomputable def mWrong (L:List TK):HEnt:=mP L Int rdI (fun s e=>e≠0) (oWrong L)
noncomputable def mTake (L:List TK):HEnt:=mP L Unit rd0 (fun s _=>s.at_ < L.length) (oTake L)
noncomputable def mIs (L:List TK):HEnt:=mW L (fun s ws=>WsP ws) (oIs L)
noncomputable def sIx (t:List UInt8) (ws:List (List UInt8)):Stn:=thin Nat [0,1,7] (fun i=>[(8,.int .i64 i)]) (fun s i=>i≤ws.length∧∀ j,j < i→ws.getD j []≠t) fun i=>ws.length - i
noncomputable def cxIs (t:List UInt8) (ws:List (List UInt8)):Ctx:={ P:=Tryd.prog,tb:=[(67,eIW)],lp:=fun f r=>cond (Nat.beq f 56) (cond (Nat.beq r 2) (some (sIx t ws)) none) none,cut:=fun _ _=>none }
theorem drop0 {L:List TK} {s:RS} (h:R0 L s) (hl:s.at_ < L.length) (i:Nat):(L.drop s.at_.toNat).getD i TK.zero=L.getD (s.at_.toNat + i) TK.zero:=by
 rw [List.getD_eq_getElem?_getD,List.getElem?_drop,← List.getD_eq_getElem?_getD]
theorem KM {L:List TK} {s:RS} (h:R0 L s) (hl:s.at_ < L.length):(L.drop s.at_.toNat).getD 0 TK.zero=ahd L s:=by
 rw [drop0 h hl,Nat.add_zero]
 have:=h.e
 unfold ahd
 rw [if_neg (by omega)]
theorem Jg {L:List TK} {s:RS} (hl:(L.length:Int)≤s.at_):ahd L s=TK.zero:=by
 unfold ahd
 rw [if_pos (.inr hl)]
theorem dropL {L:List TK} {s:RS} (h:R0 L s):((L.drop s.at_.toNat).length:Int)=L.length - s.at_:=by
 have:=h.ok.a0;have:=h.ok.a1
 rw [List.length_drop];omega
theorem Zm9:Tryd.prog.cellsOf 9=1:=by kernel_rfl
theorem Ze2 {L:List TK} {s:RS} {ws:List (List UInt8)} (h:∀ w∈ws,isS L s w=false):false=ws.any (isS L s):=by
 symm
 rw [List.any_eq_false]
 intro w hw
 rw [h w hw];decide
theorem Qv {L:List TK} {s:RS} {w:List UInt8} (h:isS L s w=true):(ahd L s).kind=kindS w∧(ahd L s).text=w:=by
 unfold isS at h
 rw [Bool.and_eq_true,decide_eq_true_eq,decide_eq_true_eq] at h
 exact h
theorem Ks (w:List UInt8):kindS w=2∨kindS w=4:=by unfold kindS;split <;> simp
theorem any_go {L:List TK} {s:RS} {ws:List (List UInt8)} (hw:WsP ws) (hk:(ahd L s).kind=2∨(ahd L s).kind=4) (ht:isWordT (ahd L s).text=decide ((ahd L s).kind=2)) {b:Bool} :
  (∃ x0,(x0≤ws.length∧∀ (j:Nat),j.succ≤x0→ws.getD j []=(ahd L s).text→False)∧(0:Int)=(x0:Int))∧∀ (x:Nat),(x≤ws.length∧∀ (j:Nat),j.succ≤x→ws.getD j []=(ahd L s).text→False) →
   brP (ilt (x:Int) (ws.length:Int)) (sdA (inB (x:Int) ws.length) (sdA (Nat.ble (x + 0 + Tryd.prog.cellsOf 9) ws.length) (brP (decide ((ahd L s).text=ws.getD x [])) ((!ilt (x:Int) 0)=ws.any (isS L s))
    (sdA (inR .i64 ((x:Int) + 1)) (∃ x',(x'≤ws.length∧∀ (j:Nat),j.succ≤x'→ws.getD j []=(ahd L s).text→False)∧(ws.length - x').succ≤ws.length - x∧(x:Int) + 1=(x':Int)))))) (false=ws.any (isS L s)):=by
 have hl:=hw.l
 refine ⟨⟨0,⟨Nat.zero_le _,fun j hj=>by omega⟩,rfl⟩,fun x hx=>?_⟩
 obtain ⟨hx,hj⟩:=hx
 refine Zc (fun c=>?_) fun c=>?_
 ·rw [ZR] at c
  have hx':x < ws.length:=by omega
  refine Zd (ZD.2 (by omega)) (Zd (by rw [Zm9];exact Nat.ble_eq_true_of_le (by omega)) (Zc (fun d=>?_) fun d=>Zd (Zv.2 (by omega)) ⟨x + 1,⟨hx',fun j h1 h2=>?_⟩,by omega,rfl⟩))
  ·rw [decide_eq_true_eq] at d
   have hmem:ws.getD x []∈ws:=by rw [List.getD_eq_getElem?_getD,List.getElem?_eq_getElem hx'];exact List.getElem_mem _
   have hS:isS L s (ws.getD x [])=true:=by
    unfold isS
    rw [Bool.and_eq_true,decide_eq_true_eq,decide_eq_true_eq]
    refine ⟨?_,d⟩
    have h2:=hw.h _ hmem
    rw [← d,ht] at h2
    have h3:=Ks (ws.getD x [])
    rw [← d] at h3 ⊢
    rcases hk with e | e <;> rcases h3 with e3 | e3 <;> rw [e,e3] at h2 ⊢ <;> first | rfl | (revert h2;decide)
   have:ws.any (isS L s)=true:=List.any_eq_true.2 ⟨_,hmem,hS⟩
   rw [this,Bool.not_eq_true',ZF];omega
  ·rw [decide_eq_false_iff_not] at d
   by_cases e:j=x
   ·subst e;exact d h2.symm
   ·exact hj j (by omega) h2
 ·rw [ZF] at c
  refine Ze2 fun w hwm=>Bool.eq_false_iff.2 fun e=>?_
  obtain ⟨j,hjl,rfl⟩:=List.getElem_of_mem hwm
  refine hj j (by omega) ?_
  rw [List.getD_eq_getElem?_getD,List.getElem?_eq_getElem hjl]
  exact (Qv e).2.symm
noncomputable def qg (a:RS) (b:List TK):=List.drop (Int.toNat (RS.at_ a)) b
noncomputable def qL (a:RS) (b:List TK):=List.getD (qg a b) 0 TK.zero
noncomputable def qab (a:RS) (b:List TK):=List.length (qg a b)
noncomputable def qaJ:=(true=true∧true=true∧true=true∧true=true∧(True∧True)∧True)
noncomputable def qa1 (a:RS) (b:List TK):=sdA (inB (0:Int) (qab a b))
noncomputable def qcg (a:RS) (b:List TK):=brP (ilt (0:Int) (Int.ofNat (qab a b)))
theorem runWr_r:∀ (L:List TK) (s:RS) (e:Int),R0 L s→(e=(0:Int)→False)→qcg s L (qa1 s L (qa1 s L ((((True∧True∧True∧True∧True)∧True)∧((True∧True∧True∧True∧True)∧True)∧((AV.int .i64 (TK.col (qL s L))=AV.int .i64 (TK.col (qL s L))∧cP L s=cP L s∧True∧True∧True)∧True)∧True)∧true=true∧((true=true∧(true=true∧TK.line (qL s L)=lnAt L (wrongR s e))∧(true=true∧TK.col (qL s L)=clAt L (wrongR s e))∧(true=true∧e=RS.err (wrongR s e))∧True)∧True)∧qaJ∧True))) (true=true∧((true=true∧(true=true∧(0:Int)=lnAt L (wrongR s e))∧(true=true∧(0:Int)=clAt L (wrongR s e))∧(true=true∧e=RS.err (wrongR s e))∧True)∧True)∧qaJ∧True)
:= by
 delta qg qL qab qaJ qa1 qcg
 intro L s e hs he
 simp only [Zi,Zs,true_and,and_true,eq_self,implies_true,Nat.le_eq,ZA,Zz,ZK,Int.toNat_natCast,Int.ofNat_eq_natCast,Nat.ble_eq,Nat.ble_self_eq_true,Bool.true_and,Bool.and_true,Bool.and_self,Option.some.injEq,AV.int.injEq,Zo,Zj,Nat.mul_one,Nat.beq_refl,Zn,cond_true,cond_false,Zp,Bool.not_true,Bool.not_false,decide_true,ZY,Ya,ZZ,Zf,List.nil_append]
 have hd:=dropL hs
 have h0:=hs.ok.a0
 have hw:wrongR s e = { s with err:=e,whr:=s.at_ }:=by unfold wrongR;rw [if_pos hs.e]
 rw [hw]
 refine Zc (fun c=>?_) fun c=>?_
 ·rw [ZR] at c
  refine Zd (ZD.2 (by omega)) (Zd (ZD.2 (by omega)) ?_)
  rw [drop0 hs (by omega),Nat.add_zero]
  unfold lnAt clAt
  rw [if_pos (show s.at_ < L.length by omega),if_pos (show s.at_ < L.length by omega)]
  exact ⟨rfl,rfl,rfl⟩
 ·rw [ZF] at c
  unfold lnAt clAt
  rw [if_neg (show ¬ s.at_ < L.length by omega),if_neg (show ¬ s.at_ < L.length by omega)]
  exact ⟨rfl,rfl,rfl⟩
theorem runWr:∀ (L:List TK) (s:RS) (e:Int),R0 L s→e≠0→(cRun cxW 60).call 50 [.ptr 4 0,.int .i64 e] (mkH (glT ++ numL [objP L s] 4)) (4 + 1) (ResO Tryd.prog 0 4 (4 + 1) (oWrong L s e)) :=
 Eq.mpr (by kernel_rfl) runWr_r
noncomputable def qaM (a:RS) (b:List TK) (c:Nat):=List.getD (List.drop (Int.toNat (RS.at_ (at1 a))) b) c TK.zero
noncomputable def qcb (a:RS) (b:List TK) (c:Nat):=List.getD (qg a b) (1 + c) TK.zero
theorem runTk_r:∀ (L:List TK) (s:RS),R0 L s→Int.NonNeg ((↑L.length:Int) - (RS.at_ s + 1))→qa1 s L (sdA (inL (1:Int) (qab s L)) (true=true∧(((true=true∧TK.kind (qL s L)=TK.kind (ahd L s))∧TK.text (qL s L)=TK.text (ahd L s)∧(true=true∧TK.num (qL s L)=TK.num (ahd L s))∧(true=true∧TK.line (qL s L)=TK.line (ahd L s))∧(true=true∧TK.col (qL s L)=TK.col (ahd L s))∧True)∧True)∧(true=true∧true=true∧true=true∧true=true∧(True∧true=true∧qab s L - 1=List.length (List.drop (Int.toNat (RS.at_ (at1 s))) L)∧AllI fun (i:Nat)=>qN i (qab s L - 1)→(true=true∧TK.kind (qcb s L i)=TK.kind (qaM s L i))∧TK.text (qcb s L i)=TK.text (qaM s L i)∧(true=true∧TK.num (qcb s L i)=TK.num (qaM s L i))∧(true=true∧TK.line (qcb s L i)=TK.line (qaM s L i))∧(true=true∧TK.col (qcb s L i)=TK.col (qaM s L i))∧True)∧true=true∧RS.nest s=RS.nest (at1 s))∧True))
:= by
 delta qg qL qN qab qaM qa1 qcb
 intro L s hs hl
 simp only [Zi,Zs,true_and,and_true,eq_self,implies_true,Nat.le_eq,ZA,Zz,ZK,Int.toNat_natCast,Int.ofNat_eq_natCast,Nat.ble_eq,Nat.ble_self_eq_true,Bool.true_and,Bool.and_true,Bool.and_self,Option.some.injEq,AV.int.injEq,Zo,Zj,Nat.mul_one,Nat.beq_refl,Zn,cond_true,cond_false,Zp,Bool.not_true,Bool.not_false,decide_true,ZY,Ya,ZZ,Zf,List.nil_append]
 have hl:s.at_ < L.length:=hl
 have hd:=dropL hs
 have h0:=hs.ok.a0
 have hd1:((L.drop s.at_.toNat).length) - 1=(L.drop (at1 s).at_.toNat).length:=by
  show (L.drop s.at_.toNat).length - 1=(L.drop (s.at_ + 1).toNat).length
  rw [List.length_drop,List.length_drop];omega
 rw [KM hs hl]
 refine Zd (ZD.2 (by omega)) (Zd (YA.2 (by omega)) ⟨⟨rfl,rfl,rfl,rfl,rfl⟩,⟨hd1,⟨fun i _=>?_⟩⟩,rfl⟩)
 have e:(L.drop s.at_.toNat).getD (1 + i) TK.zero=(L.drop (at1 s).at_.toNat).getD i TK.zero:=by
  show (L.drop s.at_.toNat).getD (1 + i) TK.zero=(L.drop (s.at_ + 1).toNat).getD i TK.zero
  rw [List.getD_eq_getElem?_getD,List.getD_eq_getElem?_getD,List.getElem?_drop,List.getElem?_drop]
  congr 2;omega
 rw [e];exact ⟨rfl,rfl,rfl,rfl,rfl⟩
theorem runTk:∀ (L:List TK) (s:RS),R0 L s→s.at_ < L.length→(cRun cxW 60).call 51 [.ptr 4 0] (mkH (glT ++ numL [objP L s] 4)) (4 + 1) (ResO Tryd.prog 0 4 (4 + 1) (oTake L s ())) :=
 Eq.mpr (by kernel_rfl) runTk_r
@[reducible] def VX:List TK→RS→List (List UInt8)→Prop:=fun (L:List TK) (s:RS) (ws:List (List UInt8))=>(some 5=some 5∧ws.length=ws.length∧true=true)∧TK.text (List.getD (List.drop (Int.toNat (RS.at_ s)) L) 0 TK.zero)=TK.text (List.getD (List.drop (Int.toNat (RS.at_ s)) L) 0 TK.zero)∧(true=true∧Int.ofNat ws.length=Int.ofNat ws.length)∧True
@[reducible] def Wt:List TK→RS→List (List UInt8)→Prop:=fun (L:List TK) (s:RS) (ws:List (List UInt8))=>(true=true∧true=true∧true=true∧true=true∧(True∧true=true∧List.length (List.drop (Int.toNat (RS.at_ s)) L)=List.length (List.drop (Int.toNat (RS.at_ s)) L)∧AllI fun (i:Nat)=>Nat.le (Nat.succ i) (List.length (List.drop (Int.toNat (RS.at_ s)) L))→(true=true∧TK.kind (List.getD (List.drop (Int.toNat (RS.at_ s)) L) i TK.zero)=TK.kind (List.getD (List.drop (Int.toNat (RS.at_ s)) L) i TK.zero))∧TK.text (List.getD (List.drop (Int.toNat (RS.at_ s)) L) i TK.zero)=TK.text (List.getD (List.drop (Int.toNat (RS.at_ s)) L) i TK.zero)∧(true=true∧TK.num (List.getD (List.drop (Int.toNat (RS.at_ s)) L) i TK.zero)=TK.num (List.getD (List.drop (Int.toNat (RS.at_ s)) L) i TK.zero))∧(true=true∧TK.line (List.getD (List.drop (Int.toNat (RS.at_ s)) L) i TK.zero)=TK.line (List.getD (List.drop (Int.toNat (RS.at_ s)) L) i TK.zero))∧(true=true∧TK.col (List.getD (List.drop (Int.toNat (RS.at_ s)) L) i TK.zero)=TK.col (List.getD (List.drop (Int.toNat (RS.at_ s)) L) i TK.zero))∧True)∧true=true∧RS.nest s=RS.nest s)∧(true=true∧true=true∧true=true∧true=true∧ws.length=ws.length∧AllI fun (i:Nat)=>Nat.le (Nat.succ (i * 1)) ws.length→List.getD ws i []=List.getD ws i []∧True)∧True
@[reducible] def VN:List TK→RS→List (List UInt8)→Prop:=fun (L:List TK) (s:RS) (ws:List (List UInt8))=>(true=true∧asciiTab=asciiTab)∧Wt L s ws
@[reducible] def Xw:List TK→RS→List (List UInt8)→Prop:=fun (L:List TK) (s:RS) (ws:List (List UInt8))=>true=true∧(false=bar (List.any ws (isS L s))∧True)∧Wt L s ws
@[reducible] def Ub:List TK→RS→List (List UInt8)→Prop:=fun (L:List TK) (s:RS) (ws:List (List UInt8))=>True∧brP (!bif ieq (TK.kind (List.getD (List.drop (Int.toNat (RS.at_ s)) L) 0 TK.zero)) (2:Int) then bar (isWordT (TK.text (List.getD (List.drop (Int.toNat (RS.at_ s)) L) 0 TK.zero))) else !bar (isWordT (TK.text (List.getD (List.drop (Int.toNat (RS.at_ s)) L) 0 TK.zero)))) (Xw L s ws) (sdA (inB (0:Int) (List.length (List.drop (Int.toNat (RS.at_ s)) L))) ((∃ (x0:Nat),(Nat.le x0 ws.length∧∀ (j:Nat),Nat.le (Nat.succ j) x0→List.getD ws j []=TK.text (ahd L s)→False)∧true=true∧((true=true∧(0:Int)=(↑x0:Int))∧VX L s ws)∧VN L s ws)∧∀ (x:Nat),(Nat.le x ws.length∧∀ (j:Nat),Nat.le (Nat.succ j) x→List.getD ws j []=TK.text (ahd L s)→False)→brP (ilt (↑x:Int) (Int.ofNat ws.length)) (sdA (inB (↑x:Int) ws.length) (sdA (bif Nat.ble (Int.toNat (↑x:Int) * 1 + 0 + Program.cellsOf Tryd.prog 9) ws.length then true else false) (brP (decide (TK.text (List.getD (List.drop (Int.toNat (RS.at_ s)) L) 0 TK.zero)=List.getD ws (Int.toNat (↑x:Int)) [])) (true=true∧((!ilt (↑x:Int) (0:Int))=bar (List.any ws (isS L s))∧True)∧Wt L s ws) (sdA (inR .i64 ((↑x:Int) + 1)) (∃ (x':Nat),(Nat.le x' ws.length∧∀ (j:Nat),Nat.le (Nat.succ j) x'→List.getD ws j []=TK.text (ahd L s)→False)∧Nat.le (Nat.succ (ws.length - x')) (ws.length - x)∧true=true∧((true=true∧(↑x:Int) + 1=(↑x':Int))∧VX L s ws)∧VN L s ws))))) (Xw L s ws)))
theorem runIsP_r:∀ (L:List TK) (s:RS) (ws:List (List UInt8)),R0 L s→WsP ws→brP (ieq (Int.ofNat (qab s L)) (0:Int)) (Xw L s ws) (qa1 s L (brP (!ieq (TK.kind (qL s L)) (4:Int)) (brP (!ieq (TK.kind (qL s L)) (2:Int)) (Xw L s ws) (qa1 s L (Ub L s ws))) (qa1 s L (Ub L s ws))))
:= by
 delta qg qL qab qa1
 intro L s ws hs hw
 simp only [Zi,Zs,true_and,and_true,eq_self,implies_true,Nat.le_eq,ZA,Zz,ZK,Int.toNat_natCast,Int.ofNat_eq_natCast,Nat.ble_eq,Nat.ble_self_eq_true,Bool.true_and,Bool.and_true,Bool.and_self,Option.some.injEq,AV.int.injEq,Zo,Zj,Nat.mul_one,Nat.beq_refl,Zn,cond_true,cond_false,Zp,Bool.not_true,Bool.not_false,decide_true,ZY,Ya,ZZ,Zf,List.nil_append,VX,Wt,VN,Xw,Ub]
 have hd:=dropL hs
 have h0:=hs.ok.a0
 refine Zc (fun c=>?_) fun c=>?_
 ·rw [ZC] at c
  have ho:=Jg (L:=L) (s:=s) (by omega)
  refine Ze2 fun w _=>Bool.eq_false_iff.2 fun e=>?_
  have h1:=(Qv e).1
  rw [ho] at h1
  rcases Ks w with h2 | h2 <;> rw [h2] at h1 <;> cases h1
 rw [Zu] at c
 have hl:s.at_ < L.length:=by have:=hs.ok.a1;omega
 rw [KM hs hl]
 have hb:inB 0 (L.drop s.at_.toNat).length=true:=ZD.2 (by omega)
 have bad:(!bif ieq (ahd L s).kind 2 then isWordT (ahd L s).text else !isWordT (ahd L s).text)=true→(ahd L s).kind=2∨(ahd L s).kind=4→false=ws.any (isS L s):=fun h hk=>Ze2 fun w hwm=>Bool.eq_false_iff.2 fun e=>by
  obtain ⟨h1,h2⟩:=Qv e
  have h3:=hw.h w hwm
  rw [h2] at h
  rw [h3,Yc] at h
  rw [h1] at h
  rcases Ks w with h4 | h4 <;> rw [h4] at h <;> revert h <;> decide
 have good:(!bif ieq (ahd L s).kind 2 then isWordT (ahd L s).text else !isWordT (ahd L s).text)=false→(ahd L s).kind=2∨(ahd L s).kind=4→isWordT (ahd L s).text=decide ((ahd L s).kind=2):=fun h hk=>by
  rw [Yc] at h
  rcases hk with e | e <;> rw [e] at h ⊢ <;> revert h <;> cases isWordT (ahd L s).text <;> decide
 refine Zd hb (Zc (fun c1=>Zc (fun c2=>?_) fun c2=>?_) fun c1=>?_)
 ·rw [Bool.not_eq_true',Zu] at c1 c2
  refine Ze2 fun w _=>Bool.eq_false_iff.2 fun e=>?_
  have h1:=(Qv e).1
  rcases Ks w with h2 | h2 <;> omega
 ·rw [Bool.not_eq_false',ZC] at c2
  exact Zd hb (Zc (fun c3=>bad c3 (.inl c2)) fun c3=>Zd hb (any_go hw (.inl c2) (good c3 (.inl c2)) (b:=true)))
 ·rw [Bool.not_eq_false',ZC] at c1
  exact Zd hb (Zc (fun c3=>bad c3 (.inr c1)) fun c3=>Zd hb (any_go hw (.inr c1) (good c3 (.inr c1)) (b:=true)))
theorem runIsP:∀ (L:List TK) (s:RS) (ws:List (List UInt8)),R0 L s→WsP ws→(cRun (cxIs (ahd L s).text ws) 60).call 49 [.ptr 4 0,.slg (4 + 1) ws.length 1] (mkH (glT ++ numL [objP L s,rowsS ws] 4)) (4 + 2) (ResO Tryd.prog 0 4 (4 + 2) (oIs L s ws)) :=
 Eq.mpr (by kernel_rfl) runIsP_r
theorem rdI_va (l:List AV) (a:Int) (h:rdI l=some a):VAL l [.int .i64 a]:=by
 unfold rdI at h
 split at h
 ·injection h with h;subst h;exact Zbs _
 ·cases h
theorem Zj2 (l:List AV) (a:Unit) (h:rd0 l=some a):VAL l []:=by
 unfold rd0 at h
 split at h
 ·exact Zbs _
 ·cases h
theorem Ziy:TbOK Tryd.prog [(67,eIW)]:=ZT okIW ZN
theorem okWr (L:List TK):HEntOK Tryd.prog 50 (mWrong L) :=
 Zhu (ar:=fun e=>[.int .i64 e]) (fz:=0) (fun s a _ _=>⟨clStop L _,rfl,XM clN⟩) (fun s a _ _=>⟨rfl,fun _=>rfl,XM fun _=>rfl⟩) (fun σ a=>⟨⟨rfl,rfl⟩,trivial⟩) rdI_va fun s a h1 h2=>⟨cxW,60,_,rfl,fol,Ziy,fun r h=>h,runWr L s a h1 h2⟩
theorem okTk (L:List TK):HEntOK Tryd.prog 51 (mTake L) :=
 Zhu (ar:=fun _=>[]) (fz:=0) (fun s a _ _=>⟨clTok _,rfl,XM (clP L _)⟩) (fun s a _ _=>⟨rfl,fun _=>rfl,XM fun _=>rfl⟩) (fun σ a=>trivial) Zj2 fun s a h1 h2=>⟨cxW,60,_,rfl,fol,Ziy,fun r h=>h,runTk L s h1 h2⟩
theorem okIsP (L:List TK):HEntOK Tryd.prog 49 (mIs L) :=
 mW_ok (fun s a _ _=>⟨clBool _,rfl,Jr (clP L _) (clS _)⟩) (fun s a _ _=>⟨rfl,fun _=>rfl,Jr (fun _=>rfl) fun _=>rfl⟩) fun s a h1 h2=>⟨cxIs (ahd L s).text a,60,_,rfl,fol,Ziy,fun r h=>h,runIsP L s a h1 h2⟩
end Go.Proofs.YtlmmbanfhjaioaaDoor
end
section
set_option maxRecDepth 100000
set_option maxHeartbeats 2000000
open Go Go.Ev
namespace Go.Proofs.YtlmmbanfhjaioaaDoor
noncomputable def htC (L:List TK):HTbl:=[(50,mWrong L),(51,mTake L),(49,mIs L)]
theorem htC_ok (L:List TK):HtOK Tryd.prog (htC L):=ZI (okWr L) (ZI (okTk L) (ZI (okIsP L) (Zer _)))
noncomputable def cxC (L:List TK):Ctx:=cxP (htC L) (htC_ok L)
noncomputable def oWant (L:List TK) (s:RS) (ws:List (List UInt8)):HO:=.gen (oneR L s ws) fun y=>.br (ieq y.2.err 0) (.ret (.agg y.1.row) [objP L y.2,rowsS ws] 0) (.pan (stopV L y.2) [objN,rowsS ws] 0)
noncomputable def oKind (L:List TK) (s:RS) (k:Int):HO:=.gen (kindR L s k) fun y=>.br (ieq y.2.err 0) (.ret (.agg y.1.row) [objP L y.2] 0) (.pan (stopV L y.2) [objN] 0)
noncomputable def oName (L:List TK) (s:RS) (_:Unit):HO:=.gen (kindR L s 1) fun y=>.br (ieq y.2.err 0) (.ret (.bs y.1.text) [objP L y.2] 0) (.pan (stopV L y.2) [objN] 0)
noncomputable def mWant (L:List TK):HEnt:=mW L (fun s ws=>WsP ws) (oWant L)
noncomputable def mKind (L:List TK):HEnt:=mP L Int rdI (fun s k=>k≠0) (oKind L)
noncomputable def mName (L:List TK):HEnt:=mP L Unit rd0 (fun s _=>True) (oName L)
theorem preC {L:List TK} {s:RS} {p:RS→Prop} (h:R0 L s) (hp:p s):PreC L (cP L s) s.nest p:=⟨s,rfl,rfl,h,hp⟩
theorem Zkz {a b:TK} (h:a=b):a.kind=b.kind∧a.text=b.text∧a.num=b.num∧a.line=b.line∧a.col=b.col:=by subst h;exact ⟨rfl,rfl,rfl,rfl,rfl⟩
theorem Yd {L:List TK} {s r:RS} (h:s=r):((L.drop s.at_.toNat).length=(L.drop r.at_.toNat).length∧AllI fun i=>i.succ≤(L.drop s.at_.toNat).length→((L.drop s.at_.toNat).getD i TK.zero).kind=((L.drop r.at_.toNat).getD i TK.zero).kind∧((L.drop s.at_.toNat).getD i TK.zero).text=((L.drop r.at_.toNat).getD i TK.zero).text∧((L.drop s.at_.toNat).getD i TK.zero).num=((L.drop r.at_.toNat).getD i TK.zero).num∧((L.drop s.at_.toNat).getD i TK.zero).line=((L.drop r.at_.toNat).getD i TK.zero).line∧((L.drop s.at_.toNat).getD i TK.zero).col=((L.drop r.at_.toNat).getD i TK.zero).col)∧s.nest=r.nest:=by
 subst h;exact ⟨⟨rfl,⟨fun i _=>⟨rfl,rfl,rfl,rfl,rfl⟩⟩⟩,rfl⟩
theorem KU {L:List TK} {s r:RS} (h:s=r):lnAt L s=lnAt L r∧clAt L s=clAt L r∧s.err=r.err:=by subst h;exact ⟨rfl,rfl,rfl⟩
theorem Zaf {L:List TK} {s:RS} {b:Bool} (h:R0 L s) (hb:b=false):(takeR L s b).2=wrongR s 4∧(takeR L s b).2.err=4:=by
 subst hb
 have:wrongR s 4 = { s with err:=4,whr:=s.at_ }:=by unfold wrongR;rw [if_pos h.e]
 exact ⟨rfl,by show (wrongR s 4).err=4;rw [this]⟩
theorem Uw {L:List TK} {s:RS} {b:Bool} (h:R0 L s) (hb:b=true):takeR L s b=(ahd L s,at1 s)∧(takeR L s b).2.err=0:=by
 subst hb
 exact ⟨rfl,h.e⟩
@[reducible] def Vt:List (List UInt8)→Prop:=fun (ws:List (List UInt8))=>(true=true∧true=true∧true=true∧true=true∧List.length (wsF ws.length fun (i:Nat)=>[AV.bs (List.getD ws i [])])=ws.length∧AllI fun (i:Nat)=>Nat.le (Nat.succ (i * 1)) (List.length (wsF ws.length fun (i:Nat)=>[AV.bs (List.getD ws i [])]))→List.getD (wsF ws.length fun (i:Nat)=>[AV.bs (List.getD ws i [])]) i []=List.getD ws i []∧True)∧True
noncomputable def qb (a:List TK) (b:RS):=stP a (cP a b) (RS.nest b)
noncomputable def qd (a:List TK) (b:RS):=PreC a (cP a b) (RS.nest b)
noncomputable def qn (a:List TK) (b:RS):=(qd a b fun (v1:RS)=>RS.at_ v1 < (↑a.length:Int))
noncomputable def qC (a:List TK) (b:RS):=(ahd a (qb a b),at1 (qb a b))
noncomputable def qau (a:RS) (b:List TK) (c:Nat):=List.getD (qg a b) c TK.zero
noncomputable def qaF (a:List TK) (b:RS) (c:List (List UInt8)) (d:Nat):=List.getD (List.drop (Int.toNat (RS.at_ (Prod.snd (oneR a b c)))) a) d TK.zero
theorem Zl9:∀ (L:List TK) (s:RS) (ws:List (List UInt8)),R0 L s→WsP ws→((WsF ws.length ws.length fun (i:Nat)=>[AV.bs (List.getD ws i [])])∧qd L s fun (s:RS)=>WsP (wsF ws.length fun (i:Nat)=>[AV.bs (List.getD ws i [])]))∧∀ (y:RS),y=qb L s→brP (!bar (List.any (wsF ws.length fun (i:Nat)=>[AV.bs (List.getD ws i [])]) (isS L y))) ((qd L y fun (s:RS)=>(4:Int)≠(0:Int))∧brP (ieq (RS.err (Prod.snd (oneR L s ws))) (0:Int)) False (true=true∧((true=true∧(true=true∧lnAt L (wrongR (qb L y) (4:Int))=lnAt L (Prod.snd (oneR L s ws)))∧(true=true∧clAt L (wrongR (qb L y) (4:Int))=clAt L (Prod.snd (oneR L s ws)))∧(true=true∧RS.err (wrongR (qb L y) (4:Int))=RS.err (Prod.snd (oneR L s ws)))∧True)∧True)∧qaJ∧Vt ws)) ((qn L y)∧∀ (y_1:TK×RS),y_1=(qC L y)→sdA (ieq (RS.err (Prod.snd (oneR L s ws))) (0:Int)) (true=true∧(((true=true∧TK.kind y_1.1=TK.kind (Prod.fst (oneR L s ws)))∧TK.text y_1.1=TK.text (Prod.fst (oneR L s ws))∧(true=true∧TK.num y_1.1=TK.num (Prod.fst (oneR L s ws)))∧(true=true∧TK.line y_1.1=TK.line (Prod.fst (oneR L s ws)))∧(true=true∧TK.col y_1.1=TK.col (Prod.fst (oneR L s ws)))∧True)∧True)∧(true=true∧true=true∧true=true∧true=true∧(True∧true=true∧qab y_1.2 L=List.length (List.drop (Int.toNat (RS.at_ (Prod.snd (oneR L s ws)))) L)∧AllI fun (i:Nat)=>qN i (qab y_1.2 L)→(true=true∧TK.kind (qau y_1.2 L i)=TK.kind (qaF L s ws i))∧TK.text (qau y_1.2 L i)=TK.text (qaF L s ws i)∧(true=true∧TK.num (qau y_1.2 L i)=TK.num (qaF L s ws i))∧(true=true∧TK.line (qau y_1.2 L i)=TK.line (qaF L s ws i))∧(true=true∧TK.col (qau y_1.2 L i)=TK.col (qaF L s ws i))∧True)∧true=true∧RS.nest y_1.2=RS.nest (Prod.snd (oneR L s ws)))∧Vt ws))
:= by
 delta qb qd qg qn qC qN qab qau qaF qaJ
 intro L s ws hs hw
 simp only [Zi,Zs,true_and,and_true,eq_self,implies_true,Nat.le_eq,ZA,Zz,ZK,Int.toNat_natCast,Int.ofNat_eq_natCast,Nat.ble_eq,Nat.ble_self_eq_true,Bool.true_and,Bool.and_true,Bool.and_self,Option.some.injEq,AV.int.injEq,Zo,Zj,Nat.mul_one,Nat.beq_refl,Zn,cond_true,cond_false,Zp,Bool.not_true,Bool.not_false,decide_true,ZY,Ya,ZZ,Zf,List.nil_append,Vt]
 obtain ⟨hf,he⟩:=wsF_rows ws
 rw [he,WT hs]
 have hr:ws.length=ws.length∧AllI fun i=>i.succ≤ws.length→ws.getD i []=ws.getD i []:=⟨rfl,⟨fun _ _=>rfl⟩⟩
 refine ⟨⟨hf,preC hs hw⟩,fun y hy=>?_⟩
 subst hy
 rw [WT hs]
 refine Zc (fun c=>?_) fun c=>?_
 ·rw [Bool.not_eq_true'] at c
  obtain ⟨h1,h2⟩:=Zaf hs c
  exact ⟨preC hs (by decide),Zc (fun e=>by rw [ZC] at e;rw [show (oneR L y ws).2.err=4 from h2] at e;cases e) fun _=>⟨KU h1.symm,hr⟩⟩
 ·rw [Bool.not_eq_false'] at c
  obtain ⟨h1,h2⟩:=Uw hs c
  obtain ⟨w,_,hw2⟩:=List.any_eq_true.1 c
  refine ⟨preC hs (Zl hw2),fun y hy=>?_⟩
  subst hy
  exact Zd (ZC.2 h2) ⟨Zkz (congrArg Prod.fst h1).symm,Yd (congrArg Prod.snd h1).symm,hr⟩
theorem runWant:∀ (L:List TK) (s:RS) (ws:List (List UInt8)),R0 L s→WsP ws→(cRun (cxC L) 60).call 30 [.ptr 4 0,.slg (4 + 1) ws.length 1] (mkH (glT ++ numL [objP L s,rowsS ws] 4)) (4 + 2) (ResO Tryd.prog 0 4 (4 + 2) (oWant L s ws)) :=
 Eq.mpr (by kernel_rfl) Zl9
@[reducible] def WH:List TK→RS→Int→Prop:=fun (L:List TK) (s:RS) (k:Int)=>(PreC L (cP L s) (RS.nest s) fun (s:RS)=>(4:Int)≠(0:Int))∧brP (ieq (RS.err (Prod.snd (kindR L s k))) (0:Int)) False (true=true∧((true=true∧(true=true∧lnAt L (wrongR (stP L (cP L s) (RS.nest s)) (4:Int))=lnAt L (Prod.snd (kindR L s k)))∧(true=true∧clAt L (wrongR (stP L (cP L s) (RS.nest s)) (4:Int))=clAt L (Prod.snd (kindR L s k)))∧(true=true∧RS.err (wrongR (stP L (cP L s) (RS.nest s)) (4:Int))=RS.err (Prod.snd (kindR L s k)))∧True)∧True)∧(true=true∧true=true∧true=true∧true=true∧(True∧True)∧True)∧True)
noncomputable def qaA (a:List TK) (b:RS) (c:Int) (d:Nat):=List.getD (List.drop (Int.toNat (RS.at_ (Prod.snd (kindR a b c)))) a) d TK.zero
theorem Zi7:∀ (L:List TK) (s:RS) (k:Int),R0 L s→(k=(0:Int)→False)→brP (ieq (Int.ofNat (qab s L)) (0:Int)) (WH L s k) (qa1 s L (brP (!ieq (TK.kind (qL s L)) k) (WH L s k) ((qn L s)∧∀ (y:TK×RS),y=(qC L s)→sdA (ieq (RS.err (Prod.snd (kindR L s k))) (0:Int)) (true=true∧(((true=true∧TK.kind y.1=TK.kind (Prod.fst (kindR L s k)))∧TK.text y.1=TK.text (Prod.fst (kindR L s k))∧(true=true∧TK.num y.1=TK.num (Prod.fst (kindR L s k)))∧(true=true∧TK.line y.1=TK.line (Prod.fst (kindR L s k)))∧(true=true∧TK.col y.1=TK.col (Prod.fst (kindR L s k)))∧True)∧True)∧(true=true∧true=true∧true=true∧true=true∧(True∧true=true∧qab y.2 L=List.length (List.drop (Int.toNat (RS.at_ (Prod.snd (kindR L s k)))) L)∧AllI fun (i:Nat)=>qN i (qab y.2 L)→(true=true∧TK.kind (qau y.2 L i)=TK.kind (qaA L s k i))∧TK.text (qau y.2 L i)=TK.text (qaA L s k i)∧(true=true∧TK.num (qau y.2 L i)=TK.num (qaA L s k i))∧(true=true∧TK.line (qau y.2 L i)=TK.line (qaA L s k i))∧(true=true∧TK.col (qau y.2 L i)=TK.col (qaA L s k i))∧True)∧true=true∧RS.nest y.2=RS.nest (Prod.snd (kindR L s k)))∧True))))
:= by
 delta qb qd qg qn qC qL qN qab qau qaA qa1
 intro L s k hs hk
 simp only [Zi,Zs,true_and,and_true,eq_self,implies_true,Nat.le_eq,ZA,Zz,ZK,Int.toNat_natCast,Int.ofNat_eq_natCast,Nat.ble_eq,Nat.ble_self_eq_true,Bool.true_and,Bool.and_true,Bool.and_self,Option.some.injEq,AV.int.injEq,Zo,Zj,Nat.mul_one,Nat.beq_refl,Zn,cond_true,cond_false,Zp,Bool.not_true,Bool.not_false,decide_true,ZY,Ya,ZZ,Zf,List.nil_append,WH]
 have hd:=dropL hs
 have h0:=hs.ok.a0
 rw [WT hs]
 have no:decide ((ahd L s).kind=k)=false→(PreC L (cP L s) s.nest fun _=>(4:Int)≠0)∧brP (ieq (kindR L s k).2.err 0) False (lnAt L (wrongR s 4)=lnAt L (kindR L s k).2∧clAt L (wrongR s 4)=clAt L (kindR L s k).2∧(wrongR s 4).err=(kindR L s k).2.err):=fun h=>by
  obtain ⟨h1,h2⟩:=Zaf hs h
  exact ⟨preC hs (by decide),Zc (fun e=>by rw [ZC] at e;rw [show (kindR L s k).2.err=4 from h2] at e;cases e) fun _=>KU h1.symm⟩
 refine Zc (fun c=>?_) fun c=>?_
 ·rw [ZC] at c
  have ho:=Jg (L:=L) (s:=s) (by omega)
  exact no (by rw [ho];exact decide_eq_false fun e=>hk e.symm)
 rw [Zu] at c
 have hl:s.at_ < L.length:=by have:=hs.ok.a1;omega
 rw [KM hs hl]
 refine Zd (ZD.2 (by omega)) (Zc (fun c1=>?_) fun c1=>?_)
 ·rw [Bool.not_eq_true',Zu] at c1
  exact no (decide_eq_false c1)
 ·rw [Bool.not_eq_false',ZC] at c1
  obtain ⟨h1,h2⟩:=Uw hs (decide_eq_true c1)
  refine ⟨preC hs hl,fun y hy=>?_⟩
  subst hy
  exact Zd (ZC.2 h2) ⟨Zkz (congrArg Prod.fst h1).symm,Yd (congrArg Prod.snd h1).symm⟩
theorem runKindP:∀ (L:List TK) (s:RS) (k:Int),R0 L s→k≠0→(cRun (cxC L) 60).call 55 [.ptr 4 0,.int .i64 k] (mkH (glT ++ numL [objP L s] 4)) (4 + 1) (ResO Tryd.prog 0 4 (4 + 1) (oKind L s k)) :=
 Eq.mpr (by kernel_rfl) Zi7
theorem okWant (L:List TK):HEntOK Tryd.prog 30 (mWant L) :=
 mW_ok (fun s a _ _=>⟨fun _=>⟨clTok _,rfl,Jr (clP L _) (clS _)⟩,fun _=>⟨clStop L _,rfl,Jr clN (clS _)⟩⟩) (fun s a _ _=>⟨⟨rfl,fun _=>rfl,Jr (fun _=>rfl) fun _=>rfl⟩,⟨rfl,fun _=>rfl,Jr (fun _=>rfl) fun _=>rfl⟩⟩) fun s a h1 h2=>⟨cxC L,60,_,rfl,fol,ZN,fun r h=>h,runWant L s a h1 h2⟩
theorem okKindP (L:List TK):HEntOK Tryd.prog 55 (mKind L) :=
 Zhu (ar:=fun e=>[.int .i64 e]) (fz:=0) (fun s a _ _=>⟨fun _=>⟨clTok _,rfl,XM (clP L _)⟩,fun _=>⟨clStop L _,rfl,XM clN⟩⟩) (fun s a _ _=>⟨⟨rfl,fun _=>rfl,XM fun _=>rfl⟩,⟨rfl,fun _=>rfl,XM fun _=>rfl⟩⟩) (fun σ a=>⟨⟨rfl,rfl⟩,trivial⟩) rdI_va fun s a h1 h2=>⟨cxC L,60,_,rfl,fol,ZN,fun r h=>h,runKindP L s a h1 h2⟩
end Go.Proofs.YtlmmbanfhjaioaaDoor
end
section
set_option maxRecDepth 100000
set_option maxHeartbeats 2000000
open Go Go.Ev
namespace Go.Proofs.YtlmmbanfhjaioaaDoor
noncomputable def htD (L:List TK):HTbl:=(30,mWant L) :: (55,mKind L) :: htC L
theorem htD_ok (L:List TK):HtOK Tryd.prog (htD L):=ZI (okWant L) (ZI (okKindP L) (htC_ok L))
noncomputable def cxD1 (L:List TK):Ctx:=cxP (htD L) (htD_ok L)
def PT.text:PT→List UInt8
 | .mk _ s _ _ _ _=>s
def PT.num:PT→Int
 | .mk _ _ n _ _ _=>n
def PT.line:PT→Int
 | .mk _ _ _ l _ _=>l
def PT.col:PT→Int
 | .mk _ _ _ _ c _=>c
def PT.ks:PT→List PT
 | .mk _ _ _ _ _ ks=>ks
mutual
noncomputable def pvT:PT→AV
 | .mk k s n l c ks=>.pv [.int .i64 k,.bs s,.int .i64 n,.int .i64 l,.int .i64 c,.sl0,.vec 1 ks.length fun i=>(pvL ks).getD i []]
noncomputable def pvL:List PT→List (List AV)
 | []=>[]
 | x :: xs=>[pvT x] :: pvL xs
end
noncomputable def pvX (x:PT):AV:=.pv [.int .i64 x.kind,.bs x.text,.int .i64 x.num,.int .i64 x.line,.int .i64 x.col,.sl0,.vec 1 x.ks.length fun i=>(pvL x.ks).getD i []]
noncomputable def qh (a:RS):=brP (ieq (RS.err a) (0:Int))
noncomputable def qai (a:List TK) (b:RS) (c:Nat):=List.getD (List.drop (Int.toNat (RS.at_ (Prod.snd (kindR a b (1:Int))))) a) c TK.zero
noncomputable def qbf (a:List TK) (b:RS):=kindR a (qb a b) (1:Int)
noncomputable def qbq (a:List TK) (b:RS):=Prod.snd (kindR a b (1:Int))
theorem Zms:∀ (L:List TK) (s:RS),R0 L s→(qd L s fun (s:RS)=>(1:Int)≠(0:Int))∧∀ (y:TK×RS),y=qbf L s→qh y.2 (sdA (ieq (RS.err (qbq L s)) (0:Int)) (true=true∧(TK.text y.1=TK.text (Prod.fst (kindR L s (1:Int)))∧True)∧(true=true∧true=true∧true=true∧true=true∧(True∧true=true∧qab y.2 L=List.length (List.drop (Int.toNat (RS.at_ (qbq L s))) L)∧AllI fun (i:Nat)=>qN i (qab y.2 L)→(true=true∧TK.kind (qau y.2 L i)=TK.kind (qai L s i))∧TK.text (qau y.2 L i)=TK.text (qai L s i)∧(true=true∧TK.num (qau y.2 L i)=TK.num (qai L s i))∧(true=true∧TK.line (qau y.2 L i)=TK.line (qai L s i))∧(true=true∧TK.col (qau y.2 L i)=TK.col (qai L s i))∧True)∧true=true∧RS.nest y.2=RS.nest (qbq L s))∧True)) (brP (ieq (RS.err (qbq L s)) (0:Int)) False (true=true∧((true=true∧(true=true∧lnAt L y.2=lnAt L (qbq L s))∧(true=true∧clAt L y.2=clAt L (qbq L s))∧(true=true∧RS.err y.2=RS.err (qbq L s))∧True)∧True)∧qaJ∧True))
:= by
 delta qb qd qg qh qN qab qai qau qaJ qbf qbq
 intro L s hs
 simp only [Zi,Zs,true_and,and_true,eq_self,implies_true,Nat.le_eq,ZA,Zz,ZK,Int.toNat_natCast,Int.ofNat_eq_natCast,Nat.ble_eq,Nat.ble_self_eq_true,Bool.true_and,Bool.and_true,Bool.and_self,Option.some.injEq,AV.int.injEq,Zo,Zj,Nat.mul_one,Nat.beq_refl,Zn,cond_true,cond_false,Zp,Bool.not_true,Bool.not_false,decide_true,ZY,Ya,ZZ,Zf,List.nil_append]
 rw [WT hs]
 refine ⟨preC hs (by decide),fun y hy=>?_⟩
 subst hy
 exact Zc (fun e=>Zd e ⟨rfl,Yd rfl⟩) fun e=>Zc (fun e2=>by rw [e] at e2;cases e2) fun _=>KU rfl
theorem runName:∀ (L:List TK) (s:RS),R0 L s→(cRun (cxD1 L) 60).call 32 [.ptr 4 0] (mkH (glT ++ numL [objP L s] 4)) (4 + 1) (ResO Tryd.prog 0 4 (4 + 1) (oName L s ())) :=
 Eq.mpr (by kernel_rfl) Zms
theorem okNameP (L:List TK):HEntOK Tryd.prog 32 (mName L) :=
 Zhu (ar:=fun _=>[]) (fz:=0) (fun s a _ _=>⟨fun _=>⟨rfl,rfl,XM (clP L _)⟩,fun _=>⟨clStop L _,rfl,XM clN⟩⟩) (fun s a _ _=>⟨⟨rfl,fun _=>rfl,XM fun _=>rfl⟩,⟨rfl,fun _=>rfl,XM fun _=>rfl⟩⟩) (fun σ a=>trivial) Zj2 fun s a h1 h2=>⟨cxD1 L,60,_,rfl,fol,ZN,fun r h=>h,runName L s h1⟩
theorem Zft (x:PT):pvT x=pvX x:=by
 cases x
 conv=>lhs;unfold pvT
 rfl
end Go.Proofs.YtlmmbanfhjaioaaDoor
end
