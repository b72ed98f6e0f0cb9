/- Laid by program out of its parts: TkF, TkS, TkG, TkH. -/
import Derived.Test.YtlmmbanfhjaioaaDoorTkE
import Derived.Test.YtlmmbanfhjaioaaDoorMf
set_option linter.unusedVariables false
set_option linter.unusedSimpArgs false
section
set_option maxRecDepth 100000
set_option linter.unusedSimpArgs false
open Go Go.Ev
namespace Go.Proofs.YtlmmbanfhjaioaaDoor
theorem Us {H:Tr AObj} (h:globB H=true):∀ p∈glT,H.get p.1=some p.2:=fun p hp=>by
 unfold globB at h
 unfold glT at hp
 simp only [List.mem_singleton] at hp
 subst hp
 split at h
 ·rename_i l hl
  rw [hl,WE _ _ h]
 ·cases h
theorem JE:∀ p∈glT,isGl p.2=true:=fun p hp=>by
 unfold glT at hp
 simp only [List.mem_singleton] at hp
 subst hp;rfl
theorem Zez:TbOK Tryd.prog tbC:=ZT ok26 <| ZT ok27 <| ZT ok28 <| ZT ok33 Zcm
theorem ent_map' {P:Program} {call:FuncId→List AV→Tr AObj→Nat→KC→Prop} (hcall:CallKOK P call) {g:FuncId} {has:SKey→Bool} {val:SKey→AV} {z:AV} {gl:List (Nat×AObj)} {ng:Nat}
  (hgl:∀ p∈gl,isGl p.2=true) (hz:∃ zv,∀ ρ,VR ρ z zv) (hzk:∀ k,has k=false→val k=z) (hint:∀ n,has (.int n)=false) (hvk:∀ k,vmP [] (val k) (val k))
  {ent:Tr AObj→List AV→Option Ct} (hent:∀ H args ct,ent H args=some ct→args=[]∧(∀ p∈gl,H.get p.1=some p.2)∧ct = .need True (.ret (.mapv has val z)))
  {Y:Prop} (hY:Y) (hE:Y=call g [] (mkH gl) ng (ResMap has val z)):EntOK P g ent:=ent_map hcall hgl hz hzk hint hvk hent (by rw [← hE];exact hY)
attribute [local irreducible] Y24
theorem ok24:EntOK Tryd.prog 23 e24:=by
 refine ent_map' (Y:=Y24) (Xr (cx:=cxA tbC) fol Zez fu) (gl:=glT) (ng:=4) (has:=wHas) (val:=wVal) (z:=.agg [.bool false]) JE zW_ok (fun k hk=>?_) Uk (fun k=>?_) (fun H args ct hct=>?_) @run24 (by kernel_rfl)
 ·cases k with
  | str l =>
   rw [Uj] at hk
   rw [Uz,Zs,hk]
  | int n=>unfold wVal;rw [Uk,Zs]
 ·cases k with
  | str l=>rw [Uz];generalize bar (isWordT l)=b;exact ⟨rfl,trivial⟩
  | int n=>unfold wVal;rw [Uk,Zs];exact ⟨rfl,trivial⟩
 ·unfold e24 at hct
  split at hct
  ·cases hg:globB H with
   | true =>
    rw [hg] at hct
    injection hct with hct
    exact ⟨rfl,Us hg,hct.symm⟩
   | false=>rw [hg] at hct;cases hct
  ·cases hct
end Go.Proofs.YtlmmbanfhjaioaaDoor
end
section
set_option maxRecDepth 100000
open Go Go.Ev
namespace Go.Proofs.YtlmmbanfhjaioaaDoor
structure Tok where
 kind:Int
 text:List UInt8
 num:Int
 line:Int
 col:Int
structure Dg where
 line:Int
 col:Int
 err:Int
def t0:Tok:=⟨0,[],0,0,0⟩
def d0:Dg:=⟨0,0,0⟩
def madeT (kind:Int) (s:List UInt8):Int×Int×Int :=
 if kind=3 then (3,(numT s).1,if (numT s).2 then 0 else 9)
 else if kind=1∧isWordT s then (2,0,0) else (kind,0,if 32 < s.length then 9 else 0)
def oneT (b:UInt8) (t:List UInt8) (line col:Int):List Tok×List Dg :=
 let k:=nxT (b :: t)
 let s:=(b :: t).take k.2
 let m:=madeT k.1 s
 if 0 < k.1 then ([⟨m.1,s,m.2.1,line,col⟩],if m.2.2=0 then [] else [⟨line,col,m.2.2⟩])
 else ([],if blankI (b.toNat:Int) then [] else [⟨line,col,3⟩])
def scanF:Nat→List UInt8→Int→Int→List Tok×List Dg
 | 0,_,_,_=>([],[])
 | _ + 1,[],_,_=>([],[])
 | f + 1,b :: t,line,col =>
  let n:=(nxT (b :: t)).2
  let o:=oneT b t line col
  let r:=scanF f ((b :: t).drop n) (if b=10 then line + 1 else line) (if b=10 then 1 else col + n)
  (o.1 ++ r.1,o.2 ++ r.2)
def scanR (l:List UInt8):List Tok×List Dg:=scanF l.length l 1 1
theorem Jz (f:Nat) (b:UInt8) (t:List UInt8) (line col:Int):scanF (f + 1) (b :: t) line col =
  ((oneT b t line col).1 ++ (scanF f ((b :: t).drop (nxT (b :: t)).2) (if b=10 then line + 1 else line) (if b=10 then 1 else col + (nxT (b :: t)).2)).1,
   (oneT b t line col).2 ++ (scanF f ((b :: t).drop (nxT (b :: t)).2) (if b=10 then line + 1 else line) (if b=10 then 1 else col + (nxT (b :: t)).2)).2):=rfl
theorem Kf {p:Int→Bool} {b:UInt8} {t:List UInt8} (h:p (b.toNat:Int)=true):1≤runN p (b :: t):=by
 rw [runN,if_pos h];omega
theorem QN (b:UInt8) (t:List UInt8):nxT (b :: t)=if letrI (b.toNat:Int) then (1,runN (fun z=>letrI z || digI z) (b :: t)) else if digI (b.toNat:Int) then (3,runN digI (b :: t))
  else if (b.toNat:Int)=35 then (0,runN (fun z=>!decide (z=10)) (b :: t))
  else if (b.toNat:Int)=61∧1≤t.length∧((t.getD 0 0).toNat:Int)=61 then (4,2) else if markI (b.toNat:Int) then (4,1) else (0,1):=rfl
theorem Va (b:UInt8) (t:List UInt8):1≤(nxT (b :: t)).2∧(nxT (b :: t)).2≤(b :: t).length:=by
 rw [QN]
 have h1:=UK (fun z=>letrI z || digI z) (b :: t)
 have h2:=UK digI (b :: t)
 have h3:=UK (fun z=>!decide (z=10)) (b :: t)
 split
 ·rename_i h
  exact ⟨Kf (p:=fun z=>letrI z || digI z) (by show (letrI _ || digI _)=true;rw [h];rfl),h1⟩
 ·split
  ·rename_i h
   exact ⟨Kf (p:=digI) h,h2⟩
  ·split
   ·rename_i h
    exact ⟨Kf (p:=fun z=>!decide (z=10)) (by show (!decide (_=(10:Int)))=true;rw [h];rfl),h3⟩
   ·split
    ·rename_i h
     simp;omega
    ·split <;> simp
theorem Zbe:∀ (f g:Nat) (l:List UInt8) (line col:Int),l.length≤f→l.length≤g→scanF f l line col=scanF g l line col
 | 0,g,[],line,col,_,_=>by cases g <;> rfl
 | f + 1,g,[],line,col,_,_=>by cases g <;> rfl
 | f + 1,0,b :: t,line,col,_,h=>by simp at h
 | 0,g,b :: t,line,col,h,_=>by simp at h
 | f + 1,g + 1,b :: t,line,col,h1,h2=>by
  have hp:=Va b t
  simp only [List.length_cons] at h1 h2 hp
  rw [Jz,Jz,Zbe f g _ _ _ (by rw [List.length_drop];simp only [List.length_cons];omega) (by rw [List.length_drop];simp only [List.length_cons];omega)]
def scn (l:List UInt8) (line col:Int):List Tok×List Dg:=scanF l.length l line col
theorem Kq (line col:Int):scn [] line col=([],[]):=rfl
theorem Qo (b:UInt8) (t:List UInt8) (line col:Int):scn (b :: t) line col =
  ((oneT b t line col).1 ++ (scn ((b :: t).drop (nxT (b :: t)).2) (if b=10 then line + 1 else line) (if b=10 then 1 else col + (nxT (b :: t)).2)).1,
   (oneT b t line col).2 ++ (scn ((b :: t).drop (nxT (b :: t)).2) (if b=10 then line + 1 else line) (if b=10 then 1 else col + (nxT (b :: t)).2)).2):=by
 have hp:=Va b t
 simp only [List.length_cons] at hp
 show scanF (t.length + 1) (b :: t) line col=_
 rw [Jz,Zbe t.length ((b :: t).drop (nxT (b :: t)).2).length _ _ _ (by rw [List.length_drop];simp only [List.length_cons];omega) (Nat.le_refl _)]
 rfl
theorem JZ {p:Int→Bool}:∀ (l:List UInt8),∀ x∈l.take (runN p l),p (x.toNat:Int)=true
 | [],x,h=>by simp at h
 | b :: l,x,h=>by
  rw [runN] at h
  by_cases hb:p (b.toNat:Int)=true
  ·rw [if_pos hb,List.take_succ_cons,List.mem_cons] at h
   rcases h with rfl | h
   ·exact hb
   ·exact JZ l x h
  ·rw [if_neg hb] at h;simp at h
theorem Zas (t:List UInt8):nxT (10 :: t)=(0,1):=by
 rw [QN]
 rw [if_neg (by decide),if_neg (by decide),if_neg (by decide),if_neg (by rintro ⟨h,_⟩;revert h;decide),if_neg (by decide)]
theorem Zfm {p:Int→Bool} (hp:p 10=false) {x:UInt8} (h:p (x.toNat:Int)=true):x≠10:=by
 rintro rfl
 exact absurd h (by show ¬ p 10=true;rw [hp];simp)
theorem Zi8 {b:UInt8} {t:List UInt8} (hb:b≠10):∀ x∈(b :: t).take (nxT (b :: t)).2,x≠10:=by
 have one:∀ x∈(b :: t).take 1,x≠10:=fun x hx=>by simp at hx;rw [hx];exact hb
 rw [QN]
 split
 ·exact fun x hx=>Zfm (p:=fun z=>letrI z || digI z) (by decide) (JZ (p:=fun z=>letrI z || digI z) (b :: t) x hx)
 ·split
  ·exact fun x hx=>Zfm (p:=digI) (by decide) (JZ (p:=digI) (b :: t) x hx)
  ·split
   ·exact fun x hx=>Zfm (p:=fun z=>!decide (z=10)) (by decide) (JZ (p:=fun z=>!decide (z=10)) (b :: t) x hx)
   ·split
    ·rename_i h
     obtain ⟨_,h2,h3⟩:=h
     cases t with
     | nil=>simp at h2
     | cons c t =>
      intro x hx
      simp only [List.take_succ_cons,List.take_zero,List.mem_cons,List.not_mem_nil,or_false] at hx
      rcases hx with rfl | rfl
      ·exact hb
      ·rintro rfl
       simp at h3
    ·split
     ·exact one
     ·exact one
theorem cnt0 {b:UInt8} {t:List UInt8} (hb:b≠10):Lib.countByte ((b :: t).take (nxT (b :: t)).2) 10=0:=by
 unfold Lib.countByte
 exact List.count_eq_zero.2 fun h=>Zi8 hb _ h rfl
theorem tk10 (t:List UInt8):(10 :: t).take (nxT (10 :: t)).2=[10]:=by rw [Zas];rfl
end Go.Proofs.YtlmmbanfhjaioaaDoor
end
section
set_option maxRecDepth 100000
set_option linter.unusedSimpArgs false
open Go Go.Ev
namespace Go.Proofs.YtlmmbanfhjaioaaDoor
noncomputable def tbD:Tbl:=(48,e20) :: (23,e24) :: tbC
def tokRow (t:Tok):List AV:=[.int .i64 t.kind,.bs t.text,.int .i64 t.num,.int .i64 t.line,.int .i64 t.col]
def dgRow (t:Dg):List AV:=[.int .i64 t.line,.int .i64 t.col,.int .i64 t.err]
noncomputable def e29:Tr AObj→List AV→Option Ct:=fun _ args=>match args with
 | [.int .i64 k,.bs s,.mapv has val z]=>some (.need (has=wHas∧val=wVal∧z = .agg [.bool false]∧s.length≤1000000) (.ret (.tup [.agg [.int .i64 (barr (madeT k s).1),.bs s,.int .i64 (barr (madeT k s).2.1),.int .i64 0,.int .i64 0],.int .i64 (barr (madeT k s).2.2)])))
 | _=>none
noncomputable def e22:Tr AObj→List AV→Option Ct:=fun _ args=>match args with
 | [.bs s]=>some (.need True (.ret (.bool (bar (isWordT s)))))
 | _=>none
noncomputable def chainP (s:List UInt8) (x:Bool):List (List UInt8)→Prop
 | []=>false=x
 | w :: ws=>brP (decide (w=s)) (true=x) (chainP s x ws)
theorem ok20:EntOK Tryd.prog 48 e20:=by
 refine WA (gl:=[]) (ng:=0) gl0 fun H args ct hct=>?_
 unfold e20 at hct
 split at hct
 ·rename_i l
  injection hct with hct;subst hct
  exact ⟨gl0,_,_,rfl,fun hp=>⟨⟨rfl,trivial⟩,cx1 tbC 48 3 (S20 l),60,rfl,fol,Zez,by rw [Zs];exact run20 l hp⟩⟩
 ·cases hct
theorem ok21:EntOK Tryd.prog 14 e20:=by
 refine WA (gl:=[]) (ng:=0) gl0 fun H args ct hct=>?_
 unfold e20 at hct
 split at hct
 ·rename_i l
  injection hct with hct;subst hct
  exact ⟨gl0,_,_,rfl,fun hp=>⟨⟨rfl,trivial⟩,cx1 tbC 14 3 (S21 l),60,rfl,fol,Zez,by rw [Zs];exact run21 l hp⟩⟩
 ·cases hct
theorem Zh7 (s:List UInt8) (x:Bool):∀ ws:List (List UInt8),(x=ws.any fun w=>decide (s=w))→chainP s x ws
 | [],h=>h.symm
 | w :: ws,h=>by
  rw [List.any_cons] at h
  refine Zc (fun h1=>?_) fun h1=>?_
  ·rw [decide_eq_true_eq] at h1
   subst h1
   rw [h];simp
  ·refine Zh7 s x ws ?_
   rw [decide_eq_false_iff_not] at h1
   rw [h,decide_eq_false (fun e=>h1 e.symm),Bool.false_or]
def R22 (s:List UInt8):Prop:=(cRun (cxA []) 200).call 13 [.bs s] .leaf 0 (ResM Tryd.prog false (.bool (isWordT s)))
theorem run22 (s:List UInt8):R22 s:=Eq.mpr (show R22 s=chainP s (isWordT s) wordL by kernel_rfl) (Zh7 s _ wordL rfl)
theorem ok22:EntOK Tryd.prog 13 e22:=by
 refine WA (gl:=[]) (ng:=0) gl0 fun H args ct hct=>?_
 unfold e22 at hct
 split at hct
 ·rename_i l
  injection hct with hct;subst hct
  exact ⟨gl0,_,_,rfl,fun _=>⟨⟨rfl,trivial⟩,cxA [],200,rfl,fol,ZN,by rw [Zs];exact run22 l⟩⟩
 ·cases hct
@[reducible] def Qa:Int→List UInt8→Prop:=fun (k:Int) (s:List UInt8)=>(true=true∧k=Prod.fst (madeT k s))∧s=s∧(true=true∧Prod.fst (numT s)=Prod.fst (Prod.snd (madeT k s)))∧(true=true∧(0:Int)=(0:Int))∧(true=true∧(0:Int)=(0:Int))∧True
@[reducible] def UF:Int→List UInt8→Prop:=fun (k:Int) (s:List UInt8)=>(true=true∧k=Prod.fst (madeT k s))∧s=s∧(true=true∧(0:Int)=Prod.fst (Prod.snd (madeT k s)))∧(true=true∧(0:Int)=(0:Int))∧(true=true∧(0:Int)=(0:Int))∧True
@[reducible] def Qg:Int→List UInt8→Prop:=fun (k:Int) (s:List UInt8)=>UF k s∧(true=true∧(9:Int)=Prod.snd (Prod.snd (madeT k s)))∧True
@[reducible] def UM:Int→List UInt8→Prop:=fun (k:Int) (s:List UInt8)=>UF k s∧(true=true∧(0:Int)=Prod.snd (Prod.snd (madeT k s)))∧True
noncomputable def qb4:=(true=true∧(0:Int)=(0:Int))
theorem run29_r:∀ (k:Int) (s:List UInt8),qak s→brP (ieq k (3:Int)) (qak s∧brP (!bar (Prod.snd (numT s))) (Qa k s∧(true=true∧(9:Int)=Prod.snd (Prod.snd (madeT k s)))∧True) (Qa k s∧(true=true∧(0:Int)=Prod.snd (Prod.snd (madeT k s)))∧True)) (brP (ieq k (1:Int)) (brP (bar (wHas (SKey.str s))) (((true=true∧(2:Int)=Prod.fst (madeT k s))∧s=s∧(true=true∧(0:Int)=Prod.fst (Prod.snd (madeT k s)))∧qb4∧qb4∧True)∧(true=true∧(0:Int)=Prod.snd (Prod.snd (madeT k s)))∧True) (brP (ilt (32:Int) (qaT s)) (Qg k s) (UM k s))) (brP (ilt (32:Int) (qaT s)) (Qg k s) (UM k s)))
:= by
 delta qak qaT qb4
 intro k s hs
 simp only [Nat.le_eq] at hs
 simp only [Zi,Zs,true_and,and_true,eq_self,implies_true,Nat.le_eq,ZA,Zz,ZK,Int.toNat_natCast,Int.ofNat_eq_natCast,Nat.ble_eq,Nat.ble_self_eq_true,Bool.true_and,Bool.and_true,Bool.and_self,Option.some.injEq,AV.int.injEq,Zo,Zj,Nat.mul_one,Nat.beq_refl,Zn,cond_true,cond_false,Zp,Bool.not_true,Bool.not_false,decide_true,ZY,Ya,ZZ,Zf,List.nil_append,Qa,UF,Qg,UM]
 simp only [Xb,Yc,YL,Uj]
 unfold madeT
 by_cases h3:k=3
 ·subst h3
  cases hn:(numT s).2 <;> simp [hs]
 ·by_cases h1:k=1
  ·subst h1
   cases hw:isWordT s <;> by_cases hl:32 < s.length <;> simp [hl] <;> omega
  ·by_cases hl:32 < s.length <;> simp [h1,h3,hl] <;> omega
theorem run29:∀ (k:Int) (s:List UInt8),s.length≤1000000→(cRun (cxA tbD) 100).call 28 [.int .i64 k,.bs s,wordM] .leaf 0 (ResM Tryd.prog false (.tup [.agg (tokRow ⟨(madeT k s).1,s,(madeT k s).2.1,0,0⟩),.int .i64 (madeT k s).2.2])) :=
 Eq.mpr (by kernel_rfl) run29_r
theorem vm_word:vmP [] wordM wordM:=by
 unfold wordM
 rw [vmP]
 refine ⟨fun _=>rfl,fun k=>?_,fun k hk=>?_⟩
 ·cases k with
  | str l=>rw [Uz];generalize bar (isWordT l)=b;exact ⟨rfl,trivial⟩
  | int n=>unfold wVal;rw [Uk,Zs];exact ⟨rfl,trivial⟩
 ·cases k with
  | str l=>rw [Uj] at hk;rw [Uz,Zs,hk];exact .inl rfl
  | int n=>unfold wVal;rw [Uk,Zs];exact .inl rfl
theorem Zka:TbOK Tryd.prog tbD:=ZT ok20 <| ZT ok24 Zez
theorem ok29:EntOK Tryd.prog 28 e29:=by
 refine WA (gl:=[]) (ng:=0) gl0 fun H args ct hct=>?_
 unfold e29 at hct
 split at hct
 ·rename_i k s has val z
  injection hct with hct;subst hct
  refine ⟨gl0,_,_,rfl,?_⟩
  rintro ⟨rfl,rfl,rfl,hs⟩
  exact ⟨⟨⟨rfl,rfl⟩,rfl,vm_word,trivial⟩,cxA tbD,100,rfl,fol,Zka,by rw [Zi,Zi,Zi];exact run29 k s hs⟩
 ·cases hct
end Go.Proofs.YtlmmbanfhjaioaaDoor
end
section
set_option maxRecDepth 100000
open Go Go.Ev
namespace Go.Proofs.YtlmmbanfhjaioaaDoor
noncomputable def tbE:Tbl:=(28,e29) :: (14,e20) :: (13,e22) :: tbD
structure X9 where
 rest:List UInt8
 line:Int
 col:Int
 out:List Tok
 wrong:List Dg
structure I9 (l:List UInt8) (x:X9):Prop where
 le:x.rest.length≤l.length
 line1:1≤x.line
 line2:x.line + x.rest.length≤l.length + 1
 col1:1≤x.col
 col2:x.col + x.rest.length≤l.length + 1
 out:x.out.length + x.rest.length≤l.length
 wrong:x.wrong.length + x.rest.length≤l.length
 ans:(x.out ++ (scn x.rest x.line x.col).1,x.wrong ++ (scn x.rest x.line x.col).2)=scanR l
noncomputable def S9 (l:List UInt8):Stn:={
 X:=X9,
 T:=fun _ n0 x=>[(0,.bv x.rest),(2,.slg (n0 + 2) x.out.length 5),(3,.slg (n0 + 3) x.wrong.length 3),(4,wordM),(5,.ptr n0 0),(6,.ptr (n0 + 1) 0),(7,.fn (.func 24) [] [.ptr n0 0,.ptr (n0 + 1) 0])],
 H:=fun _ n0 x=>[(n0,.cells 3 .leaf (.per [.int .i64 x.line]) 1 false),(n0 + 1,.cells 3 .leaf (.per [.int .i64 x.col]) 1 false),
  (n0 + 2,.cells 38 .leaf (.rows 5 fun k=>tokRow (x.out.getD k t0)) (x.out.length * 5) true),(n0 + 3,.cells 35 .leaf (.rows 3 fun k=>dgRow (x.wrong.getD k d0)) (x.wrong.length * 3) true)],
 nx:=fun _ n0=>n0 + 4,
 I:=fun _=>I9 l,
 m:=fun x=>x.rest.length }
structure X14 where
 b:UInt8
 t:List UInt8
 line:Int
 col:Int
 out0:List Tok
 wrong0:List Dg
def X14.x9 (x:X14):X9:=⟨x.b :: x.t,x.line,x.col,x.out0,x.wrong0⟩
def X14.out (x:X14):List Tok:=x.out0 ++ (oneT x.b x.t x.line x.col).1
def X14.wrong (x:X14):List Dg:=x.wrong0 ++ (oneT x.b x.t x.line x.col).2
noncomputable def C14 (l:List UInt8):Stn:={
 X:=X14,
 T:=fun _ n0 x=>[(0,.bv (x.b :: x.t)),(2,.slg (n0 + 2) x.out.length 5),(3,.slg (n0 + 3) x.wrong.length 3),(4,wordM),(5,.ptr n0 0),(6,.ptr (n0 + 1) 0),(7,.fn (.func 24) [] [.ptr n0 0,.ptr (n0 + 1) 0]),(9,.int .i64 (nxT (x.b :: x.t)).2)],
 H:=fun _ n0 x=>[(n0,.cells 3 .leaf (.per [.int .i64 x.line]) 1 false),(n0 + 1,.cells 3 .leaf (.per [.int .i64 x.col]) 1 false),
  (n0 + 2,.cells 38 .leaf (.rows 5 fun k=>tokRow (x.out.getD k t0)) (x.out.length * 5) true),(n0 + 3,.cells 35 .leaf (.rows 3 fun k=>dgRow (x.wrong.getD k d0)) (x.wrong.length * 3) true)],
 nx:=fun _ n0=>n0 + 4,
 I:=fun s x=>I9 l x.x9∧s.T.get 0=some (.bv (x.b :: x.t)),
 m:=fun _=>0 }
noncomputable def cx9 (l:List UInt8):Ctx:={ P:=Tryd.prog,tb:=tbE,lp:=fun f r=>cond (Nat.beq f 19) (cond (Nat.beq r 4) (some (S9 l)) none) none,cut:=fun f r=>cond (Nat.beq f 19) (cond (Nat.beq r 14) (some (C14 l)) none) none }
noncomputable def toksAV (l:List Tok):AV:=.vec 5 l.length fun k=>tokRow (l.getD k t0)
noncomputable def dgsAV (l:List Dg):AV:=.vec 3 l.length fun k=>dgRow (l.getD k d0)
noncomputable def scanAV (l:List UInt8):AV:=.tup [toksAV (scanR l).1,dgsAV (scanR l).2]
noncomputable def e9:Tr AObj→List AV→Option Ct:=fun H args=>match args with
 | [.bv l]=>cond (globB H) (some (.need (l.length≤1000000) (.ret (scanAV l)))) none
 | _=>none
theorem tbE_ok:TbOK Tryd.prog tbE:=ZT ok29 <| ZT ok21 <| ZT ok22 Zka
theorem Zis (σ:List (Nat×Nat)) (t:Tok):vmL σ (tokRow t) (tokRow t):=⟨⟨rfl,rfl⟩,rfl,⟨rfl,rfl⟩,⟨rfl,rfl⟩,⟨rfl,rfl⟩,trivial⟩
theorem Zl4 (σ:List (Nat×Nat)) (t:Dg):vmL σ (dgRow t) (dgRow t):=⟨⟨rfl,rfl⟩,⟨rfl,rfl⟩,⟨rfl,rfl⟩,trivial⟩
theorem Zix:((∀ k:SKey,wHas k=wHas k)∧(∀ k:SKey,bar (wHas k)=bar (wHas k)∧True)∧∀ k:SKey,wHas k=false→zOK (AV.agg [AV.bool false]) (wVal k)) :=
 ⟨fun _=>rfl,fun _=>⟨rfl,trivial⟩,fun k hk=>by cases k with
  | str l=>rw [Uj] at hk;rw [Uz,Zs,hk];exact .inl rfl
  | int n=>unfold wVal;rw [Uk,Zs];exact .inl rfl⟩
theorem Zg9 (l:List Tok) (n:Nat):goodR 5 n (fun k=>tokRow (l.getD k t0))=true:=decide_eq_true fun _ _=>rfl
theorem Zlt (l:List Dg) (n:Nat):goodR 3 n (fun k=>dgRow (l.getD k d0))=true:=decide_eq_true fun _ _=>rfl
theorem Zfc {b:UInt8} {t:List UInt8} {line col:Int} {out:List Tok} {wrong:List Dg} {a:List Tok} {c:List Dg} (h:oneT b t line col=(a,c)) :
  X14.out ⟨b,t,line,col,out,wrong⟩=out ++ a∧X14.wrong ⟨b,t,line,col,out,wrong⟩=wrong ++ c:=by
 constructor
 ·show out ++ (oneT b t line col).1=_;rw [h]
 ·show wrong ++ (oneT b t line col).2=_;rw [h]
theorem Zb6 (b:UInt8) (t:List UInt8) (line col:Int):(oneT b t line col).1.length≤1∧(oneT b t line col).2.length≤1:=by
 unfold oneT
 dsimp only
 split
 ·exact ⟨Nat.le_refl _,by dsimp only;split <;> simp⟩
 ·exact ⟨Nat.zero_le _,by dsimp only;split <;> simp⟩
theorem I9.step {l:List UInt8} {b:UInt8} {t:List UInt8} {line col:Int} {out:List Tok} {wrong:List Dg} (h:I9 l ⟨b :: t,line,col,out,wrong⟩) :
  I9 l ⟨(b :: t).drop (nxT (b :: t)).2,if b=10 then line + 1 else line,if b=10 then 1 else col + (nxT (b :: t)).2,out ++ (oneT b t line col).1,wrong ++ (oneT b t line col).2⟩:=by
 obtain ⟨h1,h2,h3,h4,h5,h6,h7,h8⟩:=h
 obtain ⟨n1,n2⟩:=Va b t
 obtain ⟨o1,o2⟩:=Zb6 b t line col
 simp only [List.length_cons] at h1 h2 h3 h4 h5 h6 h7 n2
 have hl:((b :: t).drop (nxT (b :: t)).2).length=t.length + 1 - (nxT (b :: t)).2:=by rw [List.length_drop,List.length_cons]
 refine ⟨?_,?_,?_,?_,?_,?_,?_,?_⟩
 ·simp only [hl];omega
 ·simp only;split <;> omega
 ·simp only [hl];split <;> omega
 ·simp only;split <;> omega
 ·simp only [hl];split <;> omega
 ·simp only [hl,List.length_append];omega
 ·simp only [hl,List.length_append];omega
 ·rw [← h8,Qo]
  simp only [List.append_assoc]
@[reducible] def QL:X9→X14→Prop:=fun (a:X9) (a_1:X14)=>(true=true∧true=true∧true=true∧true=true∧List.length (X9.wrong a) * 3=List.length (X14.wrong a_1) * 3∧AllI fun (i:Nat)=>Nat.le (Nat.succ (i * 3)) (List.length (X9.wrong a) * 3)→(true=true∧Dg.line (List.getD (X9.wrong a) i d0)=Dg.line (List.getD (X14.wrong a_1) i d0))∧(true=true∧Dg.col (List.getD (X9.wrong a) i d0)=Dg.col (List.getD (X14.wrong a_1) i d0))∧(true=true∧Dg.err (List.getD (X9.wrong a) i d0)=Dg.err (List.getD (X14.wrong a_1) i d0))∧True)∧True
@[reducible] def QM:X9→X14→Prop:=fun (a:X9) (a_1:X14)=>true=true∧true=true∧true=true∧true=true∧List.length (X9.out a) * 5=List.length (X14.out a_1) * 5∧AllI fun (i:Nat)=>Nat.le (Nat.succ (i * 5)) (List.length (X9.out a) * 5)→(true=true∧Tok.kind (List.getD (X9.out a) i t0)=Tok.kind (List.getD (X14.out a_1) i t0))∧Tok.text (List.getD (X9.out a) i t0)=Tok.text (List.getD (X14.out a_1) i t0)∧(true=true∧Tok.num (List.getD (X9.out a) i t0)=Tok.num (List.getD (X14.out a_1) i t0))∧(true=true∧Tok.line (List.getD (X9.out a) i t0)=Tok.line (List.getD (X14.out a_1) i t0))∧(true=true∧Tok.col (List.getD (X9.out a) i t0)=Tok.col (List.getD (X14.out a_1) i t0))∧True
@[reducible] def VC:X9→X14→Prop:=fun (a:X9) (a_1:X14)=>((∀ (k:SKey),wHas k=wHas k)∧(∀ (k:SKey),bar (wHas k)=bar (wHas k)∧True)∧∀ (k:SKey),wHas k=false→wVal k=AV.agg [AV.bool false]∨AV.agg [AV.bool false]=AV.sl0∧∃ (e:Nat),∃ (f:Nat→List AV),wVal k=AV.vec e 0 f)∧(some 4=some 4∧true=true)∧(some 5=some 5∧true=true)∧(true=true∧True∧(some 4=some 4∧true=true)∧(some 5=some 5∧true=true)∧True)∧(true=true∧(↑(barr (Prod.snd (nxT (X9.rest a)))):Int)=(↑(Prod.snd (nxT (X14.b a_1 :: X14.t a_1))):Int))∧True
@[reducible] def Qm:X9→X14→Prop:=fun (a:X9) (a_1:X14)=>(some 7=some 7∧List.length (X9.wrong a)=List.length (X14.wrong a_1)∧true=true)∧VC a a_1
@[reducible] def QG:X14→X9→Prop:=fun (a:X14) (a_1:X9)=>List.drop (Int.toNat (↑(Prod.snd (nxT (X14.b a :: X14.t a))):Int)) (X14.b a :: X14.t a)=X9.rest a_1∧(some 6=some 6∧List.length (X14.out a)=List.length (X9.out a_1)∧true=true)∧(some 7=some 7∧List.length (X14.wrong a)=List.length (X9.wrong a_1)∧true=true)∧((∀ (k:SKey),wHas k=wHas k)∧(∀ (k:SKey),bar (wHas k)=bar (wHas k)∧True)∧∀ (k:SKey),wHas k=false→wVal k=AV.agg [AV.bool false]∨AV.agg [AV.bool false]=AV.sl0∧∃ (e:Nat),∃ (f:Nat→List AV),wVal k=AV.vec e 0 f)∧(some 4=some 4∧true=true)∧(some 5=some 5∧true=true)∧(true=true∧True∧(some 4=some 4∧true=true)∧(some 5=some 5∧true=true)∧True)∧True
@[reducible] def QE:X14→X9→Prop:=fun (a:X14) (a_1:X9)=>(true=true∧true=true∧true=true∧true=true∧List.length (X14.out a) * 5=List.length (X9.out a_1) * 5∧AllI fun (i:Nat)=>Nat.le (Nat.succ (i * 5)) (List.length (X14.out a) * 5)→(true=true∧Tok.kind (List.getD (X14.out a) i t0)=Tok.kind (List.getD (X9.out a_1) i t0))∧Tok.text (List.getD (X14.out a) i t0)=Tok.text (List.getD (X9.out a_1) i t0)∧(true=true∧Tok.num (List.getD (X14.out a) i t0)=Tok.num (List.getD (X9.out a_1) i t0))∧(true=true∧Tok.line (List.getD (X14.out a) i t0)=Tok.line (List.getD (X9.out a_1) i t0))∧(true=true∧Tok.col (List.getD (X14.out a) i t0)=Tok.col (List.getD (X9.out a_1) i t0))∧True)∧(true=true∧true=true∧true=true∧true=true∧List.length (X14.wrong a) * 3=List.length (X9.wrong a_1) * 3∧AllI fun (i:Nat)=>Nat.le (Nat.succ (i * 3)) (List.length (X14.wrong a) * 3)→(true=true∧Dg.line (List.getD (X14.wrong a) i d0)=Dg.line (List.getD (X9.wrong a_1) i d0))∧(true=true∧Dg.col (List.getD (X14.wrong a) i d0)=Dg.col (List.getD (X9.wrong a_1) i d0))∧(true=true∧Dg.err (List.getD (X14.wrong a) i d0)=Dg.err (List.getD (X9.wrong a_1) i d0))∧True)∧True
noncomputable def qi (a:X14):=List.take (Int.toNat (↑(Prod.snd (nxT (X14.b a :: X14.t a))):Int)) (X14.b a :: X14.t a)
noncomputable def qs:=((True∧True∧True)∧True)
noncomputable def qF (a:X9):=List.take (Int.toNat (↑(barr (Prod.snd (nxT (X9.rest a)))):Int)) (X9.rest a)
noncomputable def qR (a:X9):=List.length (X9.wrong a)
noncomputable def q5 (a:X9):=List.length (X9.out a)
noncomputable def qaa (a:X9):=appF (q5 a) (fun (v1:Nat)=>tokRow (List.getD (X9.out a) v1 t0)) (fun (v2:Nat)=>[AV.int .i64 (barr (Prod.fst (madeT (barr (Prod.fst (nxT (X9.rest a)))) (qF a)))),AV.bs (qF a),AV.int .i64 (barr (Prod.fst (Prod.snd (madeT (barr (Prod.fst (nxT (X9.rest a)))) (qF a))))),AV.int .i64 (X9.line a),AV.int .i64 (X9.col a)])
noncomputable def qae (a:List UInt8):=Prod.fst (scanR a)
noncomputable def qaC (a:X9) (b:X14):=(true=true∧true=true∧true=true∧true=true∧True∧true=true∧X9.line a=X14.line b)
noncomputable def qaE (a:List UInt8):=Prod.snd (scanR a)
noncomputable def qaH (a:X9) (b:X14):=(true=true∧true=true∧true=true∧true=true∧True∧true=true∧X9.col a=X14.col b)
noncomputable def qaR (a:List UInt8) (b:X14) (c:X9):=(I9 a (X14.x9 b)∧some (AV.bv (X9.rest c))=some (AV.bv (X14.b b :: X14.t b)))
noncomputable def qa4 (a:X9):=sdA (bif bif Nat.ble (qR a * 3) (qR a * 3) then true else false then decide (qR a + 1≤9223372036854775807∧(qR a + 1) * 24≤140737488355328) else false)
noncomputable def qa6 (a:List UInt8) (b:Nat):=List.getD (qae a) b t0
noncomputable def qbb (a:X9):=List.length (X9.rest a)
noncomputable def qbe (a:X14):=(lastI (qi a) (10:Int) (List.length (qi a)) + 1)
noncomputable def qbj:=(true=true∧True)
noncomputable def qbD (a:List UInt8):=List.length (qaE a)
noncomputable def qbE (a:List UInt8) (b:Nat):=List.getD (qaE a) b d0
noncomputable def qbI (a:X14):=sdA (inL (↑(Prod.snd (nxT (X14.b a :: X14.t a))):Int) (List.length (X14.b a :: X14.t a)))
noncomputable def qbO (a:X14):=List.length (X14.out a)
noncomputable def qbP (a:X9) (b:Nat):=List.getD (X9.wrong a) b d0
noncomputable def qbY (a:X9) (b:Nat):=List.getD (X9.out a) b t0
noncomputable def qb3 (a:X14):=(↑(Lib.countByte (qi a) (UInt8.ofNat 10)):Int)
noncomputable def qcf:=(some 6=some 6∧true=true)
noncomputable def qch (a:X9):=barr (Prod.snd (Prod.snd (madeT (barr (Prod.fst (nxT (X9.rest a)))) (qF a))))
noncomputable def qci (a:List UInt8):=List.length (qae a)
noncomputable def qcp:=AV.agg [AV.bool false]
noncomputable def qcy:=vmL [(5,5),(4,4),(7,23),(6,21),(0,0),(1,1),(2,2),(3,3)]
noncomputable def qcD (a:X14):=List.length (X14.wrong a)
noncomputable def qcF (a:X14):=Int.ofNat (List.length (List.drop (Int.toNat (qbe a)) (qi a)))
noncomputable def qcQ (a:X9):=AV.int .i64 (X9.col a)
noncomputable def qcV:=AV.int .i64 (3:Int)
theorem run9_r:∀ (l:List UInt8),qak l→True∧(∃ (x0:X9),I9 l x0∧true=true∧(l=X9.rest x0∧q5 x0=0∧qR x0=0∧((∀ (k:SKey),wHas k=wHas k)∧(∀ (k:SKey),bar (wHas k)=bar (wHas k)∧True)∧∀ (k:SKey),wHas k=false→wVal k=qcp∨qcp=AV.sl0∧∃ (e:Nat),∃ (f:Nat→List AV),wVal k=AV.vec e 0 f)∧qcf∧(some 7=some 7∧true=true)∧(true=true∧True∧qcf∧(some 7=some 7∧true=true)∧True)∧True)∧(true=true∧true=true∧true=true∧true=true∧True∧true=true∧(1:Int)=X9.line x0)∧(true=true∧true=true∧true=true∧true=true∧True∧true=true∧(1:Int)=X9.col x0)∧qbj∧qbj∧True)∧∀ (x:X9),I9 l x→brP (ilt (0:Int) (Int.ofNat (qbb x))) (((X9.rest x=[]→False)∧Nat.le (qbb x) 1000000)∧brP (ilt (0:Int) (barr (Prod.fst (nxT (X9.rest x))))) (sdA (bif inL (↑(barr (Prod.snd (nxT (X9.rest x)))):Int) (qbb x) then true else false) ((wHas=wHas∧wVal=wVal∧qcp=qcp∧Nat.le (List.length (qF x)) 1000000)∧(qs∧qs∧((qcQ x=qcQ x∧True∧True)∧True)∧True)∧sdA (bif bif Nat.ble (q5 x * 5) (q5 x * 5) then true else false then decide (q5 x + 1≤9223372036854775807∧(q5 x + 1) * 48≤140737488355328) else false) (brP (!ieq (qch x) (0:Int)) (qa4 x (∃ (x_1:X14),(qaR l x_1 x)∧true=true∧(X9.rest x=X14.b x_1 :: X14.t x_1∧(some 21=some 21∧q5 x + 1=qbO x_1∧true=true)∧(some 23=some 23∧qR x + 1=qcD x_1∧true=true)∧VC x x_1)∧(qaC x x_1)∧(qaH x x_1)∧(true=true∧true=true∧true=true∧true=true∧(q5 x + 1) * 5=qbO x_1 * 5∧AllI fun (i:Nat)=>Nat.le (Nat.succ (i * 5)) ((q5 x + 1) * 5)→qcy (tokRow (List.getD (X14.out x_1) i t0)) (qaa x i))∧(true=true∧true=true∧true=true∧true=true∧(qR x + 1) * 3=qcD x_1 * 3∧AllI fun (i:Nat)=>Nat.le (Nat.succ (i * 3)) ((qR x + 1) * 3)→qcy (dgRow (List.getD (X14.wrong x_1) i d0)) (appF (qR x) (fun (k:Nat)=>dgRow (qbP x k)) (fun (x_2:Nat)=>[AV.int .i64 (X9.line x),qcQ x,AV.int .i64 (qch x)]) i))∧True)) (∃ (x_1:X14),(qaR l x_1 x)∧true=true∧(X9.rest x=X14.b x_1 :: X14.t x_1∧(some 21=some 21∧q5 x + 1=qbO x_1∧true=true)∧Qm x x_1)∧(qaC x x_1)∧(qaH x x_1)∧(true=true∧true=true∧true=true∧true=true∧(q5 x + 1) * 5=qbO x_1 * 5∧AllI fun (i:Nat)=>Nat.le (Nat.succ (i * 5)) ((q5 x + 1) * 5)→vmL [(5,5),(4,4),(7,7),(6,21),(0,0),(1,1),(2,2),(3,3)] (tokRow (List.getD (X14.out x_1) i t0)) (qaa x i))∧QL x x_1)))) (sdA (inB (0:Int) (qbb x)) (True∧brP (!bar (blankI (↑(UInt8.toNat (List.getD (X9.rest x) 0 (0:UInt8))):Int))) (qa4 x (∃ (x_1:X14),(qaR l x_1 x)∧true=true∧(X9.rest x=X14.b x_1 :: X14.t x_1∧(some 6=some 6∧q5 x=qbO x_1∧true=true)∧(some 13=some 13∧qR x + 1=qcD x_1∧true=true)∧VC x x_1)∧(qaC x x_1)∧(qaH x x_1)∧QM x x_1∧(true=true∧true=true∧true=true∧true=true∧(qR x + 1) * 3=qcD x_1 * 3∧AllI fun (i:Nat)=>Nat.le (Nat.succ (i * 3)) ((qR x + 1) * 3)→vmL [(5,5),(4,4),(7,13),(6,6),(0,0),(1,1),(2,2),(3,3)] (dgRow (List.getD (X14.wrong x_1) i d0)) (appF (qR x) (fun (k:Nat)=>dgRow (qbP x k)) (fun (x_2:Nat)=>[AV.int .i64 (X9.line x),qcQ x,qcV]) i))∧True)) (∃ (x_1:X14),(qaR l x_1 x)∧true=true∧(X9.rest x=X14.b x_1 :: X14.t x_1∧(some 6=some 6∧q5 x=qbO x_1∧true=true)∧Qm x x_1)∧(qaC x x_1)∧(qaH x x_1)∧QM x x_1∧QL x x_1)))∧∀ (x_1:X14),I9 l (X14.x9 x_1)∧some (AV.bv (X9.rest x))=some (AV.bv (X14.b x_1 :: X14.t x_1))→sdA (bif inL (↑(Prod.snd (nxT (X14.b x_1 :: X14.t x_1))):Int) (List.length (X14.b x_1 :: X14.t x_1)) then true else false) (True∧brP (ilt (0:Int) (qb3 x_1)) (sdA (inR .i64 (X14.line x_1 + (qb3 x_1))) (Nat.le (List.length (qi x_1)) 1000000∧sdA (inR .i64 (qbe x_1)) (sdA (inL (qbe x_1) (List.length (qi x_1))) (sdA (inR .i64 ((1:Int) + qcF x_1)) (qbI x_1 (∃ (x':X9),I9 l x'∧Nat.le (Nat.succ (qbb x')) (qbb x)∧true=true∧QG x_1 x'∧(true=true∧true=true∧true=true∧true=true∧True∧true=true∧X14.line x_1 + (qb3 x_1)=X9.line x')∧(true=true∧true=true∧true=true∧true=true∧True∧true=true∧(1:Int) + qcF x_1=X9.col x')∧QE x_1 x')))))) (sdA (inR .i64 (X14.col x_1 + Int.ofNat (List.length (qi x_1)))) (qbI x_1 (∃ (x':X9),I9 l x'∧Nat.le (Nat.succ (qbb x')) (qbb x)∧true=true∧QG x_1 x'∧(true=true∧true=true∧true=true∧true=true∧True∧true=true∧X14.line x_1=X9.line x')∧(true=true∧true=true∧true=true∧true=true∧True∧true=true∧X14.col x_1 + Int.ofNat (List.length (qi x_1))=X9.col x')∧QE x_1 x'))))) (sdA (bif bif Nat.ble (q5 x * 5) (q5 x * 5) then goodR 5 (q5 x) fun (k:Nat)=>tokRow (qbY x k) else false then bif bif Nat.ble (qR x * 3) (qR x * 3) then goodR 3 (qR x) fun (k:Nat)=>dgRow (qbP x k) else false then true else false else false) ((true=true∧q5 x=qci l∧AllI fun (i:Nat)=>qN i (q5 x)→(true=true∧Tok.kind (qbY x i)=Tok.kind (qa6 l i))∧Tok.text (qbY x i)=Tok.text (qa6 l i)∧(true=true∧Tok.num (qbY x i)=Tok.num (qa6 l i))∧(true=true∧Tok.line (qbY x i)=Tok.line (qa6 l i))∧(true=true∧Tok.col (qbY x i)=Tok.col (qa6 l i))∧True)∧(true=true∧qR x=qbD l∧AllI fun (i:Nat)=>qN i (qR x)→(true=true∧Dg.line (qbP x i)=Dg.line (qbE l i))∧(true=true∧Dg.col (qbP x i)=Dg.col (qbE l i))∧(true=true∧Dg.err (qbP x i)=Dg.err (qbE l i))∧True)∧True))
:= by
 delta qi qs qF qN qR q5 qaa qae qak qaC qaE qaH qaR qa4 qa6 qbb qbe qbj qbD qbE qbI qbO qbP qbY qb3 qcf qch qci qcp qcy qcD qcF qcQ qcV
 intro l hl
 simp only [Zi,Zs,true_and,and_true,eq_self,implies_true,Nat.le_eq,ZA,Zz,Int.toNat_natCast,Int.ofNat_eq_natCast,Nat.ble_eq,Nat.ble_self_eq_true,Bool.true_and,QL,QM,VC,Qm,QG,QE] at hl ⊢
 have word:=Zix.2.2
 refine ⟨⟨⟨l,1,1,[],[]⟩,⟨Nat.le_refl _,Int.le_refl 1,by simp only;omega,Int.le_refl 1,by simp only;omega,by simp,by simp,rfl⟩,⟨rfl,rfl,rfl,word⟩,rfl,rfl⟩,fun x hx=>?_⟩
 obtain ⟨rest,line,col,out,wrong⟩:=x
 have hI:=hx
 obtain ⟨h1,h2,h3,h4,h5,h6,h7,h8⟩:=hx
 simp only at h1 h2 h3 h4 h5 h6 h7 h8 ⊢
 refine Zc (fun hr=>?_) fun hr=>?_
 ·cases rest with
  | nil=>rw [ZR] at hr;simp at hr
  | cons b t =>
   obtain ⟨n1,n2⟩:=Va b t
   have hin:(inL ((nxT (b :: t)).2:Int) (b :: t).length && true)=true:=by rw [Bool.and_true];exact YA.2 (by omega)
   have hin':inL ((nxT (b :: t)).2:Int) (b :: t).length=true:=YA.2 (by omega)
   have htl:(List.take (nxT (b :: t)).2 (b :: t)).length=(nxT (b :: t)).2:=by rw [List.length_take];omega
   have ha:∀ (n k:Nat),n≤1000000→k≤48→decide (n + 1≤9223372036854775807∧(n + 1) * k≤140737488355328)=true:=fun n k hn hk=>decide_eq_true ⟨by omega,by
    have:=Nat.mul_le_mul_left (n + 1) hk
    omega⟩
   refine ⟨⟨fun h=>(by cases h),by omega⟩,Zc (fun hk=>?_) fun hk=>?_,fun y hy=>?_⟩
   ·rw [ZR] at hk
    refine Zd hin ⟨by omega,Zd (ha _ _ (by omega) (by decide)) (Zc (fun he=>?_) fun he=>?_)⟩
    ·have he:¬ (madeT (nxT (b :: t)).1 (List.take (nxT (b :: t)).2 (b :: t))).2.2=0:=by rw [Yc] at he;simpa using he
     have ho:oneT b t line col=([⟨(madeT (nxT (b :: t)).1 (List.take (nxT (b :: t)).2 (b :: t))).1,List.take (nxT (b :: t)).2 (b :: t),(madeT (nxT (b :: t)).1 (List.take (nxT (b :: t)).2 (b :: t))).2.1,line,col⟩],[⟨line,col,(madeT (nxT (b :: t)).1 (List.take (nxT (b :: t)).2 (b :: t))).2.2⟩]):=by
      unfold oneT
      dsimp only
      rw [if_pos hk,if_neg he]
     obtain ⟨e1,e2⟩:=Zfc (out:=out) (wrong:=wrong) ho
     (try rw [List.append_nil] at e1)
     (try rw [List.append_nil] at e2)
     refine Zd (ha _ _ (by omega) (by decide)) ⟨⟨b,t,line,col,out,wrong⟩,⟨hI,rfl⟩,⟨rfl,?_,?_,word,rfl⟩,rfl,rfl,⟨?_,?_⟩,?_,?_⟩
     ·rw [e1];simp
     ·rw [e2];simp
     ·rw [e1];simp
     ·rw [e1];exact Uv (Zis _) rfl rfl
     ·rw [e2];simp
     ·rw [e2];exact Uv (Zl4 _) rfl rfl
    ·have he:(madeT (nxT (b :: t)).1 (List.take (nxT (b :: t)).2 (b :: t))).2.2=0:=by rw [Yc] at he;simpa using he
     have ho:oneT b t line col=([⟨(madeT (nxT (b :: t)).1 (List.take (nxT (b :: t)).2 (b :: t))).1,List.take (nxT (b :: t)).2 (b :: t),(madeT (nxT (b :: t)).1 (List.take (nxT (b :: t)).2 (b :: t))).2.1,line,col⟩],[]):=by
      unfold oneT
      dsimp only
      rw [if_pos hk,if_pos he]
     obtain ⟨e1,e2⟩:=Zfc (out:=out) (wrong:=wrong) ho
     (try rw [List.append_nil] at e1)
     (try rw [List.append_nil] at e2)
     refine ⟨⟨b,t,line,col,out,wrong⟩,⟨hI,rfl⟩,⟨rfl,?_,?_,word,rfl⟩,rfl,rfl,⟨?_,?_⟩,?_,?_⟩
     ·rw [e1];simp
     ·rw [e2]
     ·rw [e1];simp
     ·rw [e1];exact Uv (Zis _) rfl rfl
     ·rw [e2]
     ·rw [e2];exact ⟨fun i _=>⟨rfl,rfl,rfl⟩⟩
   ·rw [ZF] at hk
    refine Zd (ZD.2 (by simp)) (Zc (fun he=>?_) fun he=>?_)
    ·have ho:oneT b t line col=([],[⟨line,col,3⟩]):=by
      unfold oneT
      dsimp only
      rw [if_neg (by omega),if_neg (by simpa using he)]
     obtain ⟨e1,e2⟩:=Zfc (out:=out) (wrong:=wrong) ho
     (try rw [List.append_nil] at e1)
     (try rw [List.append_nil] at e2)
     refine Zd (ha _ _ (by omega) (by decide)) ⟨⟨b,t,line,col,out,wrong⟩,⟨hI,rfl⟩,⟨rfl,?_,?_,word,rfl⟩,rfl,rfl,⟨?_,?_⟩,?_,?_⟩
     ·rw [e1]
     ·rw [e2];simp
     ·rw [e1]
     ·rw [e1];exact ⟨fun i _=>⟨rfl,rfl,rfl,rfl,rfl⟩⟩
     ·rw [e2];simp
     ·rw [e2];exact Uv (Zl4 _) rfl rfl
    ·have ho:oneT b t line col=([],[]):=by
      unfold oneT
      dsimp only
      rw [if_neg (by omega),if_pos (by simpa using he)]
     obtain ⟨e1,e2⟩:=Zfc (out:=out) (wrong:=wrong) ho
     (try rw [List.append_nil] at e1)
     (try rw [List.append_nil] at e2)
     refine ⟨⟨b,t,line,col,out,wrong⟩,⟨hI,rfl⟩,⟨rfl,?_,?_,word,rfl⟩,rfl,rfl,⟨?_,?_⟩,?_,?_⟩
     ·rw [e1]
     ·rw [e2]
     ·rw [e1]
     ·rw [e1];exact ⟨fun i _=>⟨rfl,rfl,rfl,rfl,rfl⟩⟩
     ·rw [e2]
     ·rw [e2];exact ⟨fun i _=>⟨rfl,rfl,rfl⟩⟩
   ·obtain ⟨b',t',line',col',out',wrong'⟩:=y
    obtain ⟨hI',he⟩:=hy
    injection he with he
    injection he with he
    injection he with he1 he2
    subst he1;subst he2
    have hst:=I9.step hI'
    obtain ⟨g1,g2,g3,g4,g5,g6,g7,g8⟩:=hI'
    simp only [List.length_cons,X14.x9] at g1 g2 g3 g4 g5 g6 g7
    by_cases hb:b=10
    ·subst hb
     have hc:Lib.countByte [10] (UInt8.ofNat 10)=1:=by decide
     have hla:lastI [10] 10 1=0:=by decide
     rw [if_pos rfl,if_pos rfl,Zas] at hst
     simp only [tk10]
     simp only [Zas,hc,List.length_singleton,hla]
     refine Zd (by rw [Bool.and_true];exact YA.2 (by simp;omega)) (Zc (fun _=>?_) fun h=>absurd h (by decide))
     refine Zd (Zv.2 (by omega)) ⟨by decide,Zd (by decide) (Zd (by decide) (Zd (by decide) (Zd (YA.2 (by simp;omega)) ?_)))⟩
     refine ⟨_,hst,by simp,⟨rfl,rfl,rfl,word⟩,rfl,rfl,⟨rfl,⟨fun i _=>⟨rfl,rfl,rfl,rfl,rfl⟩⟩⟩,rfl,⟨fun i _=>⟨rfl,rfl,rfl⟩⟩⟩
    ·have hc:Lib.countByte ((b :: t).take (nxT (b :: t)).2) (UInt8.ofNat 10)=0:=cnt0 hb
     rw [if_neg hb,if_neg hb] at hst
     simp only [hc,htl]
     refine Zd hin (Zc (fun h=>absurd h (by decide)) fun _=>?_)
     simp only [List.length_cons] at n2
     refine Zd (Zv.2 (by omega)) (Zd hin' ⟨_,hst,?_,⟨rfl,rfl,rfl,word⟩,rfl,rfl,⟨rfl,⟨fun i _=>⟨rfl,rfl,rfl,rfl,rfl⟩⟩⟩,rfl,⟨fun i _=>⟨rfl,rfl,rfl⟩⟩⟩)
     simp only [List.length_drop,List.length_cons];omega
 ·obtain rfl:rest=[]:=by rw [ZF] at hr;cases rest with | nil=>rfl | cons b t=>simp at hr;omega
  rw [Kq,List.append_nil,List.append_nil] at h8
  rw [Zg9,Zlt,← h8]
  exact Zd rfl ⟨⟨rfl,⟨fun _ _=>⟨rfl,rfl,rfl,rfl,rfl⟩⟩⟩,rfl,⟨fun _ _=>⟨rfl,rfl,rfl⟩⟩⟩
theorem run9:∀ (l:List UInt8),l.length≤1000000→(cRun (cx9 l) 100).call 19 [.bv l] (mkH glT) 4 (ResM Tryd.prog false (scanAV l)) :=
 Eq.mpr (by kernel_rfl) run9_r
theorem ok9:EntOK Tryd.prog 19 e9:=by
 refine WA (gl:=glT) (ng:=4) JE fun H args ct hct=>?_
 unfold e9 at hct
 split at hct
 ·rename_i l
  cases hg:globB H with
  | true =>
   rw [hg] at hct
   injection hct with hct;subst hct
   exact ⟨Us hg,_,_,rfl,fun hp=>⟨⟨rfl,trivial⟩,cx9 l,100,rfl,fol,tbE_ok,run9 l hp⟩⟩
  | false=>rw [hg] at hct;cases hct
 ·cases hct
end Go.Proofs.YtlmmbanfhjaioaaDoor
end
