/- Laid by program out of its parts: TkI, TkJ. -/
import Derived.Test.YtlmmbanfhjaioaaDoorTk2
set_option linter.unusedVariables false
set_option linter.unusedSimpArgs false
section
set_option maxRecDepth 100000
open Go Go.Ev
namespace Go.Proofs.YtlmmbanfhjaioaaDoor
structure X10 where
 pos:Nat
 line:Int
 fro:Int
 out:List Tok
 wrong:List Dg
def X10.col (x:X10):Int:=(x.pos:Int) - x.fro + 1
structure I10 (l:List UInt8) (x:X10):Prop where
 le:x.pos≤l.length
 line1:1≤x.line
 line2:x.line≤x.pos + 1
 fro1:0≤x.fro
 fro2:x.fro≤x.pos
 out:x.out.length≤x.pos
 wrong:x.wrong.length≤x.pos
 ans:(x.out ++ (scn (l.drop x.pos) x.line x.col).1,x.wrong ++ (scn (l.drop x.pos) x.line x.col).2)=scanR l
noncomputable def S10 (l:List UInt8):Stn:={
 X:=X10,
 T:=fun _ n0 x=>[(0,.bv l),(4,.slg n0 x.out.length 5),(5,.slg (n0 + 1) x.wrong.length 3),(6,.int .i64 x.line),(7,.int .i64 x.fro),(8,.int .i64 x.pos)],
 H:=fun _ n0 x=>[(n0,.cells 38 .leaf (.rows 5 fun k=>tokRow (x.out.getD k t0)) (x.out.length * 5) true),(n0 + 1,.cells 35 .leaf (.rows 3 fun k=>dgRow (x.wrong.getD k d0)) (x.wrong.length * 3) true)],
 nx:=fun _ n0=>n0 + 2,
 I:=fun _=>I10 l,
 m:=fun x=>l.length - x.pos }
def hd (l:List UInt8) (p:Nat):UInt8:=l.getD p 0
def nxA (l:List UInt8) (p:Nat):Int×Nat:=nxT (l.drop p)
def tx (l:List UInt8) (p:Nat):List UInt8:=(l.take (p + (nxA l p).2)).drop p
def X10.kd (x:X10) (l:List UInt8):Int:=if 0 < (nxA l x.pos).1 then (madeT (nxA l x.pos).1 (tx l x.pos)).1 else 0
def X10.nm (x:X10) (l:List UInt8):Int:=if 0 < (nxA l x.pos).1 then (madeT (nxA l x.pos).1 (tx l x.pos)).2.1 else 0
def X10.wr (x:X10) (l:List UInt8):List Dg:=x.wrong ++ (oneT (hd l x.pos) (l.drop (x.pos + 1)) x.line x.col).2
noncomputable def C36 (l:List UInt8):Stn:={
 X:=X10,
 T:=fun _ n0 x=>[(0,.bv l),(4,.slg n0 x.out.length 5),(5,.slg (n0 + 1) (x.wr l).length 3),(6,.int .i64 (if hd l x.pos=10 then x.line + 1 else x.line)),(7,.int .i64 (if hd l x.pos=10 then (x.pos:Int) + 1 else x.fro)),(8,.int .i64 x.pos),(9,.ptr (n0 + 2) 0),(10,.int .i64 ((x.pos + (nxA l x.pos).2:Nat):Int))],
 H:=fun _ n0 x=>[(n0,.cells 38 .leaf (.rows 5 fun k=>tokRow (x.out.getD k t0)) (x.out.length * 5) true),(n0 + 1,.cells 35 .leaf (.rows 3 fun k=>dgRow ((x.wr l).getD k d0)) ((x.wr l).length * 3) true),
  (n0 + 2,.cells 38 .leaf (.per [.int .i64 (x.kd l),.bs [],.int .i64 (x.nm l),.int .i64 x.line,.int .i64 x.col]) 5 false)],
 nx:=fun _ n0=>n0 + 3,
 I:=fun s x=>(I10 l x∧x.pos < l.length)∧s.T.get 8=some (.int .i64 x.pos),
 m:=fun _=>0 }
structure J15 (p:Int→Bool) (l:List UInt8) (a:Int) (e:Nat):Prop where
 lo:a.toNat + 1≤e
 hi:e≤a.toNat + runN p (l.drop a.toNat)
noncomputable def L15 (l:List UInt8) (p:Int→Bool):Stn:=thin Nat [0,4,5,6,7,8,9,11] (fun e=>[(10,.int .i64 e)]) (fun s e=>∀ a,s.T.get 8=some (.int .i64 a)→J15 p l a e) fun e=>l.length - e
noncomputable def cx10 (l:List UInt8):Ctx:={ P:=Tryd.prog,tb:=tbE,lp:=fun f r=>cond (Nat.beq f 6) (cond (Nat.beq r 5) (some (S10 l)) (cond (Nat.beq r 15) (some (L15 l fun z=>!decide (z=10))) (cond (Nat.beq r 18) (some (L15 l fun z=>letrI z || digI z)) (cond (Nat.beq r 26) (some (L15 l digI)) none)))) none,cut:=fun f r=>cond (Nat.beq f 6) (cond (Nat.beq r 36) (some (C36 l)) none) none }
theorem Zlq (b:UInt8):LetrI (b.toNat:Int)=letrI (b.toNat:Int):=by
 have h:∀ n:Fin 256,LetrI (n.val:Int)=letrI (n.val:Int):=by decide +kernel
 exact h ⟨b.toNat,b.toNat_lt⟩
theorem Kb {l:List UInt8} {p:Nat} (h:p < l.length):l.drop p=hd l p :: l.drop (p + 1):=Jj l p h
theorem Vs {l:List UInt8} {p:Nat} (h:p < l.length):nxA l p=nxT (hd l p :: l.drop (p + 1)):=by unfold nxA;rw [Kb h]
theorem tx_eq {l:List UInt8} {p:Nat} (h:p < l.length):tx l p=(hd l p :: l.drop (p + 1)).take (nxA l p).2:=by
 unfold tx;rw [List.drop_take,Nat.add_sub_cancel_left,Kb h]
theorem oneA {l:List UInt8} {x:X10} (h:x.pos < l.length):oneT (hd l x.pos) (l.drop (x.pos + 1)) x.line x.col =
  if 0 < (nxA l x.pos).1 then ([⟨(madeT (nxA l x.pos).1 (tx l x.pos)).1,tx l x.pos,(madeT (nxA l x.pos).1 (tx l x.pos)).2.1,x.line,x.col⟩],if (madeT (nxA l x.pos).1 (tx l x.pos)).2.2=0 then [] else [⟨x.line,x.col,(madeT (nxA l x.pos).1 (tx l x.pos)).2.2⟩])
  else ([],if blankI ((hd l x.pos).toNat:Int) then [] else [⟨x.line,x.col,3⟩]):=by
 unfold oneT
 rw [tx_eq h,Vs h]
theorem Ja {l:List UInt8} {x:X10} {n:Nat} (h:x.pos < l.length) (hk:nxA l x.pos=(0,n)) (hb:blankI ((hd l x.pos).toNat:Int)=true):x.kd l=0∧x.nm l=0∧x.wr l=x.wrong:=by
 refine ⟨?_,?_,?_⟩
 ·unfold X10.kd;rw [hk,if_neg (Int.lt_irrefl 0)]
 ·unfold X10.nm;rw [hk,if_neg (Int.lt_irrefl 0)]
 ·unfold X10.wr;rw [oneA h,hk,if_neg (Int.lt_irrefl 0),if_pos hb,List.append_nil]
theorem sw_bad {l:List UInt8} {x:X10} {n:Nat} (h:x.pos < l.length) (hk:nxA l x.pos=(0,n)) (hb:blankI ((hd l x.pos).toNat:Int)=false):x.kd l=0∧x.nm l=0∧x.wr l=x.wrong ++ [⟨x.line,x.col,3⟩]:=by
 refine ⟨?_,?_,?_⟩
 ·unfold X10.kd;rw [hk,if_neg (Int.lt_irrefl 0)]
 ·unfold X10.nm;rw [hk,if_neg (Int.lt_irrefl 0)]
 ·unfold X10.wr;rw [oneA h,hk,if_neg (Int.lt_irrefl 0),if_neg (by rw [hb];simp)]
theorem Vj {l:List UInt8} {x:X10} {n:Nat} {c a m e:Int} (h:x.pos < l.length) (hk:nxA l x.pos=(c,n)) (hc:0 < c) (hm:madeT c (tx l x.pos)=(a,m,e)):x.kd l=a∧x.nm l=m∧x.wr l=x.wrong ++ (if e=0 then [] else [⟨x.line,x.col,e⟩]):=by
 refine ⟨?_,?_,?_⟩
 ·unfold X10.kd;rw [hk,if_pos hc,hm]
 ·unfold X10.nm;rw [hk,if_pos hc,hm]
 ·unfold X10.wr;rw [oneA h,hk,if_pos hc,hm]
theorem cutS {l:List UInt8} {x:X10} {L F E K M:Int} (hI:I10 l x) (hlt:x.pos < l.length) (hL:L=if hd l x.pos=10 then x.line + 1 else x.line) (hF:F=if hd l x.pos=10 then (x.pos:Int) + 1 else x.fro)
  (hE:E=((x.pos + (nxA l x.pos).2:Nat):Int)) (h:x.kd l=K∧x.nm l=M∧x.wr l=x.wrong) :
  ∃ y:X10,((I10 l y∧y.pos.succ≤l.length)∧(x.pos:Int)=y.pos)∧(x.out.length=y.out.length∧x.wrong.length=(y.wr l).length∧(L=if hd l y.pos=10 then y.line + 1 else y.line)∧(F=if hd l y.pos=10 then (y.pos:Int) + 1 else y.fro)∧(x.pos:Int)=y.pos∧E=((y.pos + (nxA l y.pos).2:Nat):Int)) ∧
   (x.out.length * 5=y.out.length * 5∧AllI fun i=>i * 5 < x.out.length * 5→(x.out.getD i t0).kind=(y.out.getD i t0).kind∧(x.out.getD i t0).text=(y.out.getD i t0).text∧(x.out.getD i t0).num=(y.out.getD i t0).num∧(x.out.getD i t0).line=(y.out.getD i t0).line∧(x.out.getD i t0).col=(y.out.getD i t0).col)∧(x.wrong.length * 3=(y.wr l).length * 3∧AllI fun i=>i * 3 < x.wrong.length * 3→(x.wrong.getD i d0).line=((y.wr l).getD i d0).line∧(x.wrong.getD i d0).col=((y.wr l).getD i d0).col∧(x.wrong.getD i d0).err=((y.wr l).getD i d0).err) ∧
   ((K=y.kd l∧M=y.nm l)∧x.line=y.line)∧(x.pos:Int) - x.fro + 1=y.col:=by
 obtain ⟨h1,h2,h3⟩:=h
 refine ⟨x,⟨⟨hI,hlt⟩,rfl⟩,⟨rfl,by rw [h3],hL,hF,rfl,hE⟩,⟨rfl,⟨fun i _=>⟨rfl,rfl,rfl,rfl,rfl⟩⟩⟩,⟨by rw [h3],by rw [h3];exact ⟨fun i _=>⟨rfl,rfl,rfl⟩⟩⟩,⟨⟨h1.symm,h2.symm⟩,rfl⟩,rfl⟩
theorem cutW {l:List UInt8} {x:X10} {σ:List (Nat×Nat)} {L F E K M e:Int} (hI:I10 l x) (hlt:x.pos < l.length) (hL:L=if hd l x.pos=10 then x.line + 1 else x.line) (hF:F=if hd l x.pos=10 then (x.pos:Int) + 1 else x.fro)
  (hE:E=((x.pos + (nxA l x.pos).2:Nat):Int)) (h:x.kd l=K∧x.nm l=M∧x.wr l=x.wrong ++ [⟨x.line,x.col,e⟩]) :
  ∃ y:X10,((I10 l y∧y.pos.succ≤l.length)∧(x.pos:Int)=y.pos)∧(x.out.length=y.out.length∧x.wrong.length + 1=(y.wr l).length∧(L=if hd l y.pos=10 then y.line + 1 else y.line)∧(F=if hd l y.pos=10 then (y.pos:Int) + 1 else y.fro)∧(x.pos:Int)=y.pos∧E=((y.pos + (nxA l y.pos).2:Nat):Int)) ∧
   (x.out.length * 5=y.out.length * 5∧AllI fun i=>i * 5 < x.out.length * 5→(x.out.getD i t0).kind=(y.out.getD i t0).kind∧(x.out.getD i t0).text=(y.out.getD i t0).text∧(x.out.getD i t0).num=(y.out.getD i t0).num∧(x.out.getD i t0).line=(y.out.getD i t0).line∧(x.out.getD i t0).col=(y.out.getD i t0).col)∧((x.wrong.length + 1) * 3=(y.wr l).length * 3∧AllI fun i=>i * 3 < (x.wrong.length + 1) * 3→vmL σ (dgRow ((y.wr l).getD i d0)) (appF x.wrong.length (fun k=>dgRow (x.wrong.getD k d0)) (fun _=>[AV.int .i64 x.line,AV.int .i64 ((x.pos:Int) - x.fro + 1),AV.int .i64 e]) i)) ∧
   ((K=y.kd l∧M=y.nm l)∧x.line=y.line)∧(x.pos:Int) - x.fro + 1=y.col:=by
 obtain ⟨h1,h2,h3⟩:=h
 refine ⟨x,⟨⟨hI,hlt⟩,rfl⟩,⟨rfl,by rw [h3];simp,hL,hF,rfl,hE⟩,⟨rfl,⟨fun i _=>⟨rfl,rfl,rfl,rfl,rfl⟩⟩⟩,⟨by rw [h3];simp,by rw [h3];exact Uv (Zl4 _) rfl rfl⟩,⟨⟨h1.symm,h2.symm⟩,rfl⟩,rfl⟩
theorem I10.step {l:List UInt8} {x:X10} (hI:I10 l x) (hlt:x.pos < l.length) :
  I10 l ⟨x.pos + (nxA l x.pos).2,if hd l x.pos=10 then x.line + 1 else x.line,if hd l x.pos=10 then (x.pos:Int) + 1 else x.fro,x.out ++ (oneT (hd l x.pos) (l.drop (x.pos + 1)) x.line x.col).1,x.wr l⟩:=by
 obtain ⟨h1,h2,h3,h4,h5,h6,h7,h8⟩:=hI
 have hn:=Va (hd l x.pos) (l.drop (x.pos + 1))
 rw [← Vs hlt,List.length_cons,List.length_drop] at hn
 obtain ⟨o1,o2⟩:=Zb6 (hd l x.pos) (l.drop (x.pos + 1)) x.line x.col
 refine ⟨?_,?_,?_,?_,?_,?_,?_,?_⟩
 ·simp only;omega
 ·simp only;split <;> omega
 ·simp only;split <;> omega
 ·simp only;split <;> omega
 ·simp only;split <;> omega
 ·simp only [List.length_append];omega
 ·simp only [X10.wr,List.length_append];omega
 ·rw [← h8,Kb hlt,Qo,← Vs hlt,← Kb hlt,List.drop_drop]
  simp only [X10.wr,List.append_assoc,X10.col]
  by_cases hb:hd l x.pos=10
  ·have:(nxA l x.pos).2=1:=by rw [Vs hlt,hb,Zas]
   rw [if_pos hb,if_pos hb,if_pos hb,this,show ((x.pos + 1:Nat):Int) - ((x.pos:Int) + 1) + 1=1 from by omega]
  ·rw [if_neg hb,if_neg hb,if_neg hb,show ((x.pos + (nxA l x.pos).2:Nat):Int) - x.fro + 1=(x.pos:Int) - x.fro + 1 + (nxA l x.pos).2 from by omega]
theorem J15.next {p:Int→Bool} {l:List UInt8} {a e:Nat} (h:J15 p l (a:Int) e) (he:e < l.length):(p ((l.getD e 0).toNat:Int)=true→J15 p l (a:Int) (e + 1))∧(p ((l.getD e 0).toNat:Int)=false→e=a + runN p (l.drop a)):=by
 obtain ⟨h1,h2⟩:=h
 simp only [Int.toNat_natCast] at h1 h2
 have hg:(l.drop a).getD (e - a) 0=l.getD e 0:=by simp [List.getD_eq_getElem?_getD];rw [show a + (e - a)=e by omega]
 have:=Ze0 p (l.drop a) (e - a) (by omega) (by rw [List.length_drop];omega)
 rw [hg] at this
 refine ⟨fun hp=>?_,fun hp=>?_⟩
 ·rcases this with ⟨h3,_⟩ | ⟨_,h4⟩
  ·exact ⟨by simp only [Int.toNat_natCast];omega,by simp only [Int.toNat_natCast];omega⟩
  ·rw [hp] at h4;cases h4
 ·rcases this with ⟨_,h4⟩ | ⟨h3,_⟩
  ·rw [hp] at h4;cases h4
  ·omega
theorem J15.stop {p:Int→Bool} {l:List UInt8} {a e:Nat} (h:J15 p l (a:Int) e) (he:l.length≤e) (ha:a≤l.length):e=a + runN p (l.drop a):=by
 obtain ⟨h1,h2⟩:=h
 simp only [Int.toNat_natCast] at h1 h2
 have:=UK p (l.drop a)
 rw [List.length_drop] at this
 omega
theorem J15.first {p:Int→Bool} {l:List UInt8} {a:Nat} (ha:a < l.length) (h:p ((l.getD a 0).toNat:Int)=true):J15 p l (a:Int) (a + 1):=by
 have:=Kf (t:=l.drop (a + 1)) (p:=p) h
 have e:l.drop a=l.getD a 0 :: l.drop (a + 1):=Jj l a ha
 rw [← e] at this
 exact ⟨by simp only [Int.toNat_natCast];omega,by simp only [Int.toNat_natCast];omega⟩
theorem J15.le {p:Int→Bool} {l:List UInt8} {a e:Nat} (h:J15 p l (a:Int) e) (ha:a≤l.length):e≤l.length:=by
 obtain ⟨h1,h2⟩:=h
 simp only [Int.toNat_natCast] at h1 h2
 have:=UK p (l.drop a)
 rw [List.length_drop] at this
 omega
theorem Zgc {l:List UInt8} {p:Nat} (h:p < l.length):nxA l p=if letrI ((hd l p).toNat:Int) then (1,runN (fun z=>letrI z || digI z) (l.drop p)) else if digI ((hd l p).toNat:Int) then (3,runN digI (l.drop p))
  else if ((hd l p).toNat:Int)=35 then (0,runN (fun z=>!decide (z=10)) (l.drop p))
  else if 0 < mkT' l p then (4,(mkT' l p).toNat) else (0,1):=by
 rw [Vs h,QN,Kb h]
 by_cases h1:letrI ((hd l p).toNat:Int)=true
 ·rw [if_pos h1,if_pos h1]
 ·rw [if_neg h1,if_neg h1]
  by_cases h2:digI ((hd l p).toNat:Int)=true
  ·rw [if_pos h2,if_pos h2]
  ·rw [if_neg h2,if_neg h2]
   by_cases h3:((hd l p).toNat:Int)=35
   ·rw [if_pos h3,if_pos h3]
   ·rw [if_neg h3,if_neg h3]
    have e1:(1≤(l.drop (p + 1)).length∧(((l.drop (p + 1)).getD 0 0).toNat:Int)=61)↔(p + 1 < l.length∧((l.getD (p + 1) 0).toNat:Int)=61):=by
     rw [List.length_drop]
     simp only [List.getD_eq_getElem?_getD,List.getElem?_drop,Nat.add_zero]
     constructor
     ·rintro ⟨a,b⟩;exact ⟨by omega,b⟩
     ·rintro ⟨a,b⟩;exact ⟨by omega,b⟩
    unfold mkT'
    rw [show l.getD p 0=hd l p from rfl]
    by_cases h4:((hd l p).toNat:Int)=61∧p + 1 < l.length∧((l.getD (p + 1) 0).toNat:Int)=61
    ·rw [if_pos ⟨h4.1,e1.2 h4.2⟩,if_pos h4,if_pos (by decide)];rfl
    ·rw [if_neg (fun h=>h4 ⟨h.1,e1.1 h.2⟩),if_neg h4]
     cases markI ((hd l p).toNat:Int) <;> simp
theorem sp1 {l:List UInt8} {p:Nat} {z:Int} (h:p < l.length) (hz:((hd l p).toNat:Int)=z) (h1:letrI z=false) (h2:digI z=false) (h3:z≠35) (h4:z≠61) (h5:markI z=false):nxA l p=(0,1):=by
 rw [Vs h,QN,hz,if_neg (by rw [h1];simp),if_neg (by rw [h2];simp),if_neg h3,if_neg (fun h=>h4 h.1),if_neg (by rw [h5];simp)]
theorem mkT'_hi (l:List UInt8) (p:Nat):0≤mkT' l p∧mkT' l p≤2:=by
 unfold mkT'
 split
 ·decide
 ·split <;> decide
theorem made1 {s:List UInt8}:madeT 1 s=if isWordT s then (2,0,0) else (1,0,if 32 < s.length then 9 else 0):=by
 unfold madeT;rw [if_neg (by decide)];by_cases h:isWordT s=true
 ·rw [if_pos ⟨rfl,h⟩,if_pos h]
 ·rw [if_neg (fun e=>h e.2),if_neg h]
theorem made3 {s:List UInt8}:madeT 3 s=(3,(numT s).1,if (numT s).2 then 0 else 9):=by unfold madeT;rw [if_pos rfl]
theorem made4 {s:List UInt8} (h:s.length≤32):madeT 4 s=(4,0,0):=by unfold madeT;rw [if_neg (by decide),if_neg (fun e=>absurd e.1 (by decide)),if_neg (by omega)]
@[reducible] def Qc:List UInt8→X10→X10→Prop:=fun (l:List UInt8) (a a_1:X10)=>(true=true∧(↑(X10.pos a):Int)=(↑(X10.pos a_1):Int))∧(some 2=some 2∧true=true)∧(true=true∧(↑(X10.pos a):Int) + 1=(↑(X10.pos a_1 + Prod.snd (nxA l (X10.pos a_1))):Int))∧True
@[reducible] def Qh:List UInt8→X10→X10→Prop:=fun (l:List UInt8) (a a_1:X10)=>(true=true∧true=true∧true=true∧true=true∧((((True∧true=true∧(0:Int)=X10.kd a_1 l)∧([]:List UInt8)=[])∧true=true∧(0:Int)=X10.nm a_1 l)∧true=true∧X10.line a=X10.line a_1)∧true=true∧(↑(X10.pos a):Int) - X10.fro a + 1=X10.col a_1)∧True
@[reducible] def WZ:List UInt8→X10→X10→Prop:=fun (l:List UInt8) (a a_1:X10)=>(true=true∧true=true∧true=true∧true=true∧((((True∧true=true∧(1:Int)=X10.kd a_1 l)∧([]:List UInt8)=[])∧true=true∧(0:Int)=X10.nm a_1 l)∧true=true∧X10.line a=X10.line a_1)∧true=true∧(↑(X10.pos a):Int) - X10.fro a + 1=X10.col a_1)∧True
@[reducible] def WW:List UInt8→X10→Nat→X10→Prop:=fun (l:List UInt8) (a:X10) (a_1:Nat) (a_2:X10)=>(true=true∧true=true∧true=true∧true=true∧((((True∧true=true∧(3:Int)=X10.kd a_2 l)∧([]:List UInt8)=[])∧true=true∧Prod.fst (numT (List.drop (Int.toNat (↑(X10.pos a):Int)) (List.take (Int.toNat (↑a_1:Int)) l)))=X10.nm a_2 l)∧true=true∧X10.line a=X10.line a_2)∧true=true∧(↑(X10.pos a):Int) - X10.fro a + 1=X10.col a_2)∧True
@[reducible] def Xo:List UInt8→X10→X10→Prop:=fun (l:List UInt8) (a a_1:X10)=>true=true∧true=true∧true=true∧true=true∧List.length (X10.wrong a) * 3=List.length (X10.wr a_1 l) * 3∧AllI fun (i:Nat)=>Nat.le (Nat.succ (i * 3)) (List.length (X10.wrong a) * 3)→(true=true∧Dg.line (List.getD (X10.wrong a) i d0)=Dg.line (List.getD (X10.wr a_1 l) i d0))∧(true=true∧Dg.col (List.getD (X10.wrong a) i d0)=Dg.col (List.getD (X10.wr a_1 l) i d0))∧(true=true∧Dg.err (List.getD (X10.wrong a) i d0)=Dg.err (List.getD (X10.wr a_1 l) i d0))∧True
@[reducible] def UO:List UInt8→X10→X10→Prop:=fun (l:List UInt8) (a a_1:X10)=>(true=true∧true=true∧true=true∧true=true∧List.length (X10.wr a l) * 3=List.length (X10.wrong a_1) * 3∧AllI fun (i:Nat)=>Nat.le (Nat.succ (i * 3)) (List.length (X10.wr a l) * 3)→(true=true∧Dg.line (List.getD (X10.wr a l) i d0)=Dg.line (List.getD (X10.wrong a_1) i d0))∧(true=true∧Dg.col (List.getD (X10.wr a l) i d0)=Dg.col (List.getD (X10.wrong a_1) i d0))∧(true=true∧Dg.err (List.getD (X10.wr a l) i d0)=Dg.err (List.getD (X10.wrong a_1) i d0))∧True)∧True
@[reducible] def UD:List UInt8→X10→X10→Prop:=fun (l:List UInt8) (a a_1:X10)=>(some 1=some 1∧List.length (X10.wr a l)=List.length (X10.wrong a_1)∧true=true)∧(true=true∧(if hd l (X10.pos a)=(10:UInt8) then X10.line a + 1 else X10.line a)=X10.line a_1)∧(true=true∧(if hd l (X10.pos a)=(10:UInt8) then (↑(X10.pos a):Int) + 1 else X10.fro a)=X10.fro a_1)∧(true=true∧(↑(X10.pos a + Prod.snd (nxA l (X10.pos a))):Int)=(↑(X10.pos a_1):Int))∧True
@[reducible] def Xm:List UInt8→X10→Nat→X10→Prop:=fun (l:List UInt8) (a:X10) (a_1:Nat) (a_2:X10)=>(true=true∧X10.line a=if hd l (X10.pos a_2)=(10:UInt8) then X10.line a_2 + 1 else X10.line a_2)∧(true=true∧X10.fro a=if hd l (X10.pos a_2)=(10:UInt8) then (↑(X10.pos a_2):Int) + 1 else X10.fro a_2)∧(true=true∧(↑(X10.pos a):Int)=(↑(X10.pos a_2):Int))∧(some 2=some 2∧true=true)∧(true=true∧(↑a_1:Int)=(↑(X10.pos a_2 + Prod.snd (nxA l (X10.pos a_2))):Int))∧True
@[reducible] def UH:List UInt8→X10→Prop:=fun (l:List UInt8) (a:X10)=>l=l∧(some 0=some 0∧List.length (X10.out a)=List.length (X10.out a)∧true=true)∧(some 1=some 1∧List.length (X10.wrong a)=List.length (X10.wrong a)∧true=true)∧(true=true∧X10.line a=X10.line a)∧(true=true∧X10.fro a=X10.fro a)∧(true=true∧(↑(X10.pos a):Int)=(↑(X10.pos a):Int))∧(some 2=some 2∧true=true)∧(true=true∧(↑(UInt8.toNat (List.getD l (Int.toNat (↑(X10.pos a):Int)) (0:UInt8))):Int)=(↑(UInt8.toNat (List.getD l (Int.toNat (↑(X10.pos a):Int)) (0:UInt8))):Int))∧True
@[reducible] def UE:List UInt8→X10→X10→Prop:=fun (l:List UInt8) (a a_1:X10)=>(true=true∧X10.line a=if hd l (X10.pos a_1)=(10:UInt8) then X10.line a_1 + 1 else X10.line a_1)∧(true=true∧X10.fro a=if hd l (X10.pos a_1)=(10:UInt8) then (↑(X10.pos a_1):Int) + 1 else X10.fro a_1)∧Qc l a a_1
@[reducible] def ZP:X10→X10→Prop:=fun (a a_1:X10)=>true=true∧true=true∧true=true∧true=true∧List.length (X10.out a) * 5=List.length (X10.out a_1) * 5∧AllI fun (i:Nat)=>Nat.le (Nat.succ (i * 5)) (List.length (X10.out a) * 5)→(true=true∧Tok.kind (List.getD (X10.out a) i t0)=Tok.kind (List.getD (X10.out a_1) i t0))∧Tok.text (List.getD (X10.out a) i t0)=Tok.text (List.getD (X10.out a_1) i t0)∧(true=true∧Tok.num (List.getD (X10.out a) i t0)=Tok.num (List.getD (X10.out a_1) i t0))∧(true=true∧Tok.line (List.getD (X10.out a) i t0)=Tok.line (List.getD (X10.out a_1) i t0))∧(true=true∧Tok.col (List.getD (X10.out a) i t0)=Tok.col (List.getD (X10.out a_1) i t0))∧True
@[reducible] def Xt:List UInt8→X10→Nat→X10→Prop:=fun (l:List UInt8) (a:X10) (a_1:Nat) (a_2:X10)=>l=l∧(some 0=some 0∧List.length (X10.out a)=List.length (X10.out a_2)∧true=true)∧(some 1=some 1∧List.length (X10.wrong a)=List.length (X10.wr a_2 l)∧true=true)∧Xm l a a_1 a_2
@[reducible] def Wx:List UInt8→X10→X10→Prop:=fun (l:List UInt8) (a a_1:X10)=>ZP a a_1∧Xo l a a_1∧Qh l a a_1
@[reducible] def Ue:X10→Prop:=fun (a:X10)=>(true=true∧true=true∧true=true∧true=true∧List.length (X10.out a) * 5=List.length (X10.out a) * 5∧AllI fun (i:Nat)=>Nat.le (Nat.succ (i * 5)) (List.length (X10.out a) * 5)→(true=true∧Tok.kind (List.getD (X10.out a) i t0)=Tok.kind (List.getD (X10.out a) i t0))∧Tok.text (List.getD (X10.out a) i t0)=Tok.text (List.getD (X10.out a) i t0)∧(true=true∧Tok.num (List.getD (X10.out a) i t0)=Tok.num (List.getD (X10.out a) i t0))∧(true=true∧Tok.line (List.getD (X10.out a) i t0)=Tok.line (List.getD (X10.out a) i t0))∧(true=true∧Tok.col (List.getD (X10.out a) i t0)=Tok.col (List.getD (X10.out a) i t0))∧True)∧(true=true∧true=true∧true=true∧true=true∧List.length (X10.wrong a) * 3=List.length (X10.wrong a) * 3∧AllI fun (i:Nat)=>Nat.le (Nat.succ (i * 3)) (List.length (X10.wrong a) * 3)→(true=true∧Dg.line (List.getD (X10.wrong a) i d0)=Dg.line (List.getD (X10.wrong a) i d0))∧(true=true∧Dg.col (List.getD (X10.wrong a) i d0)=Dg.col (List.getD (X10.wrong a) i d0))∧(true=true∧Dg.err (List.getD (X10.wrong a) i d0)=Dg.err (List.getD (X10.wrong a) i d0))∧True)∧(true=true∧true=true∧true=true∧true=true∧((((True∧true=true∧(0:Int)=(0:Int))∧0=0∧0=0)∧true=true∧(0:Int)=(0:Int))∧true=true∧X10.line a=X10.line a)∧true=true∧(↑(X10.pos a):Int) - X10.fro a + 1=(↑(X10.pos a):Int) - X10.fro a + 1)∧True
@[reducible] def Wr:List UInt8→X10→Nat→Prop:=fun (l:List UInt8) (a:X10) (a_1:Nat)=>true=true∧((true=true∧(↑(X10.pos a):Int) + 1=(↑a_1:Int))∧UH l a)∧Ue a
@[reducible] def Wp:List UInt8→X10→Nat→Nat→Prop:=fun (l:List UInt8) (a:X10) (a_1 a_2:Nat)=>Nat.le (Nat.succ (l.length - a_2)) (l.length - a_1)∧true=true∧((true=true∧(↑a_1:Int) + 1=(↑a_2:Int))∧UH l a)∧Ue a
@[reducible] def Uc:List UInt8→X10→Nat→X10→Prop:=fun (l:List UInt8) (a:X10) (a_1:Nat) (a_2:X10)=>((I10 l a_2∧Nat.le (Nat.succ (X10.pos a_2)) l.length)∧some (AV.int .i64 (↑(X10.pos a):Int))=some (AV.int .i64 (↑(X10.pos a_2):Int)))∧true=true∧Xt l a a_1 a_2∧ZP a a_2∧Xo l a a_2∧(true=true∧true=true∧true=true∧true=true∧((((True∧true=true∧(2:Int)=X10.kd a_2 l)∧([]:List UInt8)=[])∧true=true∧(0:Int)=X10.nm a_2 l)∧true=true∧X10.line a=X10.line a_2)∧true=true∧(↑(X10.pos a):Int) - X10.fro a + 1=X10.col a_2)∧True
@[reducible] def VQ:List UInt8→X10→Nat→X10→Prop:=fun (l:List UInt8) (a:X10) (a_1:Nat) (a_2:X10)=>((I10 l a_2∧Nat.le (Nat.succ (X10.pos a_2)) l.length)∧some (AV.int .i64 (↑(X10.pos a):Int))=some (AV.int .i64 (↑(X10.pos a_2):Int)))∧true=true∧Xt l a a_1 a_2∧Wx l a a_2
@[reducible] def VK:List UInt8→X10→Nat→X10→Prop:=fun (l:List UInt8) (a:X10) (a_1:Nat) (a_2:X10)=>((I10 l a_2∧Nat.le (Nat.succ (X10.pos a_2)) l.length)∧some (AV.int .i64 (↑(X10.pos a):Int))=some (AV.int .i64 (↑(X10.pos a_2):Int)))∧true=true∧Xt l a a_1 a_2∧ZP a a_2∧Xo l a a_2∧WZ l a a_2
@[reducible] def Wv:List UInt8→X10→X10→Prop:=fun (l:List UInt8) (a a_1:X10)=>((I10 l a_1∧Nat.le (Nat.succ (X10.pos a_1)) l.length)∧some (AV.int .i64 (↑(X10.pos a):Int))=some (AV.int .i64 (↑(X10.pos a_1):Int)))∧true=true∧(l=l∧(some 0=some 0∧List.length (X10.out a)=List.length (X10.out a_1)∧true=true)∧(some 1=some 1∧List.length (X10.wrong a)=List.length (X10.wr a_1 l)∧true=true)∧UE l a a_1)∧Wx l a a_1
@[reducible] def Uf:List UInt8→X10→Nat→X10→Prop:=fun (l:List UInt8) (a:X10) (a_1:Nat) (a_2:X10)=>((I10 l a_2∧Nat.le (Nat.succ (X10.pos a_2)) l.length)∧some (AV.int .i64 (↑(X10.pos a):Int))=some (AV.int .i64 (↑(X10.pos a_2):Int)))∧true=true∧Xt l a a_1 a_2∧ZP a a_2∧Xo l a a_2∧WW l a a_1 a_2
@[reducible] def VO:List UInt8→X10→Nat→Nat→Prop:=fun (l:List UInt8) (a:X10) (a_1 a_2:Nat)=>(∀ (a_3:Int),some (AV.int .i64 (↑(X10.pos a):Int))=some (AV.int .i64 a_3)→J15 (fun (z:Int)=>letrI z || digI z) l a_3 a_2)∧Wp l a a_1 a_2
noncomputable def qq (a:X10):=(↑(X10.pos a):Int)
noncomputable def qr (a:X10):=List.length (X10.wrong a)
noncomputable def qE (a:X10):=sdA (bif bif Nat.ble (qr a * 3) (qr a * 3) then true else false then decide (qr a + 1≤9223372036854775807∧(qr a + 1) * 24≤140737488355328) else false)
noncomputable def qG (a:X10):=List.length (X10.out a)
noncomputable def qK (a:List UInt8) (b:X10) (c:X10):=((I10 a b∧Nat.le (Nat.succ (X10.pos b)) a.length)∧some (AV.int .i64 (qq c))=some (AV.int .i64 (qq b)))
noncomputable def qM (a:X10):=appF (qr a) (fun (v1:Nat)=>dgRow (List.getD (X10.wrong a) v1 d0)) (fun (v2:Nat)=>[AV.int .i64 (X10.line a),AV.int .i64 ((qq a) - X10.fro a + 1),AV.int .i64 (9:Int)])
noncomputable def q6 (a:Nat):=Int.toNat (↑a:Int)
noncomputable def q7 (a:List UInt8) (b:X10):=(↑(UInt8.toNat (List.getD a (Int.toNat (qq b)) (0:UInt8))):Int)
noncomputable def qaI (a:X10) (b:X10):=(some 0=some 0∧qG a=qG b∧true=true)
noncomputable def qaP (a:X10) (b:List UInt8):=List.length (X10.wr a b)
noncomputable def qaQ (a:X10):=some (AV.int .i64 (qq a))
noncomputable def qaU (a:X10) (b:Nat) (c:List UInt8):=List.drop (Int.toNat (qq a)) (List.take (q6 b) c)
noncomputable def qa3 (a:Nat) (b:List UInt8) (c:X10):=sdA (bif inL (↑a:Int) b.length then inL (qq c) (q6 a) else false)
noncomputable def qbd (a:Nat) (b:X10):=Nat.le (Nat.succ (a * 3)) ((qr b + 1) * 3)
noncomputable def qbg (a:X10) (b:Nat):=List.getD (X10.out a) b t0
noncomputable def qbr (a:X10) (b:List UInt8):=(↑(X10.pos a + Prod.snd (nxA b (X10.pos a))):Int)
noncomputable def qbu (a:Int):=some (AV.int .i64 a)
noncomputable def qb9 (a:X10) (b:List UInt8) (c:Nat):=dgRow (List.getD (X10.wr a b) c d0)
noncomputable def qce (a:X10) (b:Nat):=List.getD (X10.wrong a) b d0
noncomputable def qcU (a:X10) (b:List UInt8):=(Int.NonNeg ((qq a) - 0)∧Int.NonNeg ((↑b.length:Int) - ((qq a) + 1))∧qak b)
noncomputable def qcX:=(some 2=some 2∧true=true)
theorem run10_r:∀ (l:List UInt8),qak l→(∃ (x0:X10),I10 l x0∧true=true∧(l=l∧qG x0=0∧qr x0=0∧(true=true∧(1:Int)=X10.line x0)∧(true=true∧(0:Int)=X10.fro x0)∧(true=true∧(0:Int)=(qq x0))∧True)∧qbj∧qbj∧True)∧∀ (x:X10),I10 l x→brP (ilt (qq x) (qaT l)) (sdA (inR .i64 ((qq x) - X10.fro x)) (sdA (inR .i64 ((qq x) - X10.fro x + 1)) (sdA (inR .i64 ((qq x) + 1)) (sdA (inB (qq x) l.length) (brP (ieq (q7 l x) (10:Int)) (sdA (inR .i64 (X10.line x + 1)) (sdA (inR .i64 ((qq x) + 1)) (∃ (x_1:X10),(qK l x_1 x)∧true=true∧(l=l∧(qaI x x_1)∧(some 1=some 1∧qr x=qaP x_1 l∧true=true)∧(true=true∧X10.line x + 1=if hd l (X10.pos x_1)=(10:UInt8) then X10.line x_1 + 1 else X10.line x_1)∧(true=true∧(qq x) + 1=if hd l (X10.pos x_1)=(10:UInt8) then (qq x_1) + 1 else X10.fro x_1)∧Qc l x x_1)∧Wx l x x_1))) (brP (ieq (q7 l x) (32:Int)) (∃ (x_1:X10),Wv l x x_1) (brP (ieq (q7 l x) (9:Int)) (∃ (x_1:X10),Wv l x x_1) (brP (ieq (q7 l x) (13:Int)) (∃ (x_1:X10),Wv l x x_1) (brP (ieq (q7 l x) (35:Int)) ((∃ (x0:Nat),(∀ (a:Int),qaQ x=qbu a→J15 qar l a x0)∧Wr l x x0)∧∀ (x_1:Nat),(∀ (a:Int),qaQ x=qbu a→J15 qar l a x_1)→brP (ilt (↑x_1:Int) (qaT l)) (qaf x_1 l (brP (!ieq (qo l x_1) (10:Int)) (q3 x_1 (∃ (x':Nat),(∀ (a:Int),qaQ x=qbu a→J15 qar l a x')∧Wp l x x_1 x')) (∃ (x_2:X10),VQ l x x_1 x_2))) (∃ (x_2:X10),VQ l x x_1 x_2)) (True∧brP (bar (LetrI (q7 l x))) ((∃ (x0:Nat),(∀ (a:Int),qaQ x=qbu a→J15 qaL l a x0)∧Wr l x x0)∧∀ (x_1:Nat),(∀ (a:Int),qaQ x=qbu a→J15 qaL l a x_1)→brP (ilt (↑x_1:Int) (qaT l)) (qaf x_1 l (True∧brP (bar (LetrI (qo l x_1))) (q3 x_1 (∃ (x':Nat),VO l x x_1 x')) (qaf x_1 l (True∧brP (bar (digI (qo l x_1))) (q3 x_1 (∃ (x':Nat),VO l x x_1 x')) (qa3 x_1 l x (True∧brP (bar (isWordT (qaU x x_1 l))) (∃ (x_2:X10),Uc l x x_1 x_2) (sdA (inR .i64 ((↑x_1:Int) - (qq x))) (brP (ilt (32:Int) ((↑x_1:Int) - (qq x))) (qE x (∃ (x_2:X10),(qK l x_2 x)∧true=true∧(l=l∧(qaI x x_2)∧(some 14=some 14∧qr x + 1=qaP x_2 l∧true=true)∧Xm l x x_1 x_2)∧ZP x x_2∧(true=true∧true=true∧true=true∧true=true∧(qr x + 1) * 3=qaP x_2 l * 3∧AllI fun (i:Nat)=>qbd i x→vmL [(2,2),(1,14),(0,0)] (qb9 x_2 l i) (qM x i))∧WZ l x x_2)) (∃ (x_2:X10),VK l x x_1 x_2))))))))) (qa3 x_1 l x (True∧brP (bar (isWordT (qaU x x_1 l))) (∃ (x_2:X10),Uc l x x_1 x_2) (sdA (inR .i64 ((↑x_1:Int) - (qq x))) (brP (ilt (32:Int) ((↑x_1:Int) - (qq x))) (qE x (∃ (x_2:X10),(qK l x_2 x)∧true=true∧(l=l∧(qaI x x_2)∧(some 10=some 10∧qr x + 1=qaP x_2 l∧true=true)∧Xm l x x_1 x_2)∧ZP x x_2∧(true=true∧true=true∧true=true∧true=true∧(qr x + 1) * 3=qaP x_2 l * 3∧AllI fun (i:Nat)=>qbd i x→vmL [(2,2),(1,10),(0,0)] (qb9 x_2 l i) (qM x i))∧WZ l x x_2)) (∃ (x_2:X10),VK l x x_1 x_2)))))) (True∧brP (bar (digI (q7 l x))) ((∃ (x0:Nat),(∀ (a:Int),qaQ x=qbu a→J15 digI l a x0)∧Wr l x x0)∧∀ (x_1:Nat),(∀ (a:Int),qaQ x=qbu a→J15 digI l a x_1)→brP (ilt (↑x_1:Int) (qaT l)) (qaf x_1 l (True∧brP (bar (digI (qo l x_1))) (q3 x_1 (∃ (x':Nat),(∀ (a:Int),qaQ x=qbu a→J15 digI l a x')∧Wp l x x_1 x')) (qa3 x_1 l x (Nat.le (List.length (qaU x x_1 l)) 1000000∧brP (!bar (Prod.snd (numT (qaU x x_1 l)))) (qE x (∃ (x_2:X10),(qK l x_2 x)∧true=true∧(l=l∧(qaI x x_2)∧(some 15=some 15∧qr x + 1=qaP x_2 l∧true=true)∧Xm l x x_1 x_2)∧ZP x x_2∧(true=true∧true=true∧true=true∧true=true∧(qr x + 1) * 3=qaP x_2 l * 3∧AllI fun (i:Nat)=>qbd i x→vmL [(2,2),(1,15),(0,0)] (qb9 x_2 l i) (qM x i))∧WW l x x_1 x_2)) (∃ (x_2:X10),Uf l x x_1 x_2))))) (qa3 x_1 l x (Nat.le (List.length (qaU x x_1 l)) 1000000∧brP (!bar (Prod.snd (numT (qaU x x_1 l)))) (qE x (∃ (x_2:X10),(qK l x_2 x)∧true=true∧(l=l∧(qaI x x_2)∧(some 13=some 13∧qr x + 1=qaP x_2 l∧true=true)∧Xm l x x_1 x_2)∧ZP x x_2∧(true=true∧true=true∧true=true∧true=true∧(qr x + 1) * 3=qaP x_2 l * 3∧AllI fun (i:Nat)=>qbd i x→vmL [(2,2),(1,13),(0,0)] (qb9 x_2 l i) (qM x i))∧WW l x x_1 x_2)) (∃ (x_2:X10),Uf l x x_1 x_2)))) ((qcU x l)∧brP (ilt (0:Int) (barr (mkT' l (Int.toNat (qq x))))) ((qcU x l)∧sdA (inR .i64 ((qq x) + barr (mkT' l (Int.toNat (qq x))))) (∃ (x_1:X10),(qK l x_1 x)∧true=true∧(l=l∧(qaI x x_1)∧(some 1=some 1∧qr x=qaP x_1 l∧true=true)∧(true=true∧X10.line x=if hd l (X10.pos x_1)=(10:UInt8) then X10.line x_1 + 1 else X10.line x_1)∧(true=true∧X10.fro x=if hd l (X10.pos x_1)=(10:UInt8) then (qq x_1) + 1 else X10.fro x_1)∧(true=true∧(qq x)=(qq x_1))∧qcX∧(true=true∧(qq x) + barr (mkT' l (Int.toNat (qq x)))=(qbr x_1 l))∧True)∧ZP x x_1∧Xo l x x_1∧(true=true∧true=true∧true=true∧true=true∧((((True∧true=true∧(4:Int)=X10.kd x_1 l)∧([]:List UInt8)=[])∧true=true∧(0:Int)=X10.nm x_1 l)∧true=true∧X10.line x=X10.line x_1)∧true=true∧(qq x) - X10.fro x + 1=X10.col x_1)∧True)) (qE x (∃ (x_1:X10),(qK l x_1 x)∧true=true∧(l=l∧(qaI x x_1)∧(some 11=some 11∧qr x + 1=qaP x_1 l∧true=true)∧UE l x x_1)∧ZP x x_1∧(true=true∧true=true∧true=true∧true=true∧(qr x + 1) * 3=qaP x_1 l * 3∧AllI fun (i:Nat)=>qbd i x→vmL [(2,2),(1,11),(0,0)] (qb9 x_1 l i) (appF (qr x) (fun (k:Nat)=>dgRow (qce x k)) (fun (x_2:Nat)=>[AV.int .i64 (X10.line x),AV.int .i64 ((qq x) - X10.fro x + 1),qcV]) i))∧Qh l x x_1)))))))))∧∀ (x_1:X10),(I10 l x_1∧Nat.le (Nat.succ (X10.pos x_1)) l.length)∧qaQ x=qaQ x_1→brP (ilt (0:Int) (X10.kd x_1 l)) (sdA (bif inL (qbr x_1 l) l.length then inL (qq x_1) (Int.toNat (qbr x_1 l)) else false) (sdA (bif bif Nat.ble (qG x_1 * 5) (qG x_1 * 5) then true else false then decide (qG x_1 + 1≤9223372036854775807∧(qG x_1 + 1) * 48≤140737488355328) else false) (∃ (x':X10),I10 l x'∧Nat.le (Nat.succ (l.length - X10.pos x')) (l.length - X10.pos x)∧true=true∧(l=l∧(some 5=some 5∧qG x_1 + 1=qG x'∧true=true)∧UD l x_1 x')∧(true=true∧true=true∧true=true∧true=true∧(qG x_1 + 1) * 5=qG x' * 5∧AllI fun (i:Nat)=>Nat.le (Nat.succ (i * 5)) ((qG x_1 + 1) * 5)→vmL [(1,1),(0,5)] (tokRow (qbg x' i)) (appF (qG x_1) (fun (k:Nat)=>tokRow (qbg x_1 k)) (fun (x:Nat)=>[AV.int .i64 (X10.kd x_1 l),AV.bs (List.drop (Int.toNat (qq x_1)) (List.take (Int.toNat (qbr x_1 l)) l)),AV.int .i64 (X10.nm x_1 l),AV.int .i64 (X10.line x_1),AV.int .i64 (X10.col x_1)]) i))∧UO l x_1 x'))) (∃ (x':X10),I10 l x'∧Nat.le (Nat.succ (l.length - X10.pos x')) (l.length - X10.pos x)∧true=true∧(l=l∧(qaI x_1 x')∧UD l x_1 x')∧ZP x_1 x'∧UO l x_1 x')))))) (sdA (bif bif Nat.ble (qG x * 5) (qG x * 5) then goodR 5 (qG x) fun (k:Nat)=>tokRow (qbg x k) else false then bif bif Nat.ble (qr x * 3) (qr x * 3) then goodR 3 (qr x) fun (k:Nat)=>dgRow (qce x k) else false then true else false else false) ((true=true∧qG x=qci l∧AllI fun (i:Nat)=>qN i (qG x)→(true=true∧Tok.kind (qbg x i)=Tok.kind (qa6 l i))∧Tok.text (qbg x i)=Tok.text (qa6 l i)∧(true=true∧Tok.num (qbg x i)=Tok.num (qa6 l i))∧(true=true∧Tok.line (qbg x i)=Tok.line (qa6 l i))∧(true=true∧Tok.col (qbg x i)=Tok.col (qa6 l i))∧True)∧(true=true∧qr x=qbD l∧AllI fun (i:Nat)=>qN i (qr x)→(true=true∧Dg.line (qce x i)=Dg.line (qbE l i))∧(true=true∧Dg.col (qce x i)=Dg.col (qbE l i))∧(true=true∧Dg.err (qce x i)=Dg.err (qbE l i))∧True)∧True))
:= by
 delta qo qq qr qE qG qK qM qN q3 q6 q7 qae qaf qak qar qaE qaI qaL qaP qaQ qaT qaU qa3 qa6 qbd qbg qbj qbr qbu qbD qbE qb9 qce qci qcU qcV qcX
 intro l hl
 simp only [Zi,Zs,true_and,and_true,eq_self,implies_true,Nat.le_eq,ZA,Zz,Int.toNat_natCast,Int.ofNat_eq_natCast,Nat.ble_eq,Nat.ble_self_eq_true,Bool.true_and,Option.some.injEq,AV.int.injEq,Qc,Qh,WZ,WW,Xo,UO,UD,Xm,UH,UE,ZP,Xt,Wx,Ue,Wr,Wp,Uc,VQ,VK,Wv,Uf,VO] at hl ⊢
 have hnil:∀ {x:X10} {K M:Int},(x.kd l=K∧x.nm l=M∧x.wr l=x.wrong ++ (if (0:Int)=0 then [] else [⟨x.line,x.col,0⟩]))→x.kd l=K∧x.nm l=M∧x.wr l=x.wrong:=fun h=>⟨h.1,h.2.1,by rw [h.2.2,if_pos rfl,List.append_nil]⟩
 have hone:∀ {x:X10} {K M e:Int},e≠0→(x.kd l=K∧x.nm l=M∧x.wr l=x.wrong ++ (if e=0 then [] else [⟨x.line,x.col,e⟩]))→x.kd l=K∧x.nm l=M∧x.wr l=x.wrong ++ [⟨x.line,x.col,e⟩]:=fun he h=>⟨h.1,h.2.1,by rw [h.2.2,if_neg he]⟩
 have ha:∀ (n k:Nat),n≤1000000→k≤48→decide (n + 1≤9223372036854775807∧(n + 1) * k≤140737488355328)=true:=fun n k hn hk=>decide_eq_true ⟨by omega,by
  have:=Nat.mul_le_mul_left (n + 1) hk
  omega⟩
 refine ⟨⟨⟨0,1,0,[],[]⟩,⟨Nat.zero_le _,Int.le_refl 1,Int.le_refl 1,Int.le_refl 0,Int.le_refl 0,Nat.le_refl _,Nat.le_refl _,rfl⟩,rfl,rfl,rfl,rfl,rfl⟩,fun x hI=>?_⟩
 obtain ⟨h1,h2,h3,h4,h5,h6,h7,h8⟩:=id hI
 refine Zc (fun hr=>?_) fun hr=>?_
 ·rw [ZR] at hr
  have hlt:x.pos < l.length:=by omega
  refine Zd (Zv.2 (by omega)) (Zd (Zv.2 (by omega)) (Zd (Zv.2 (by omega)) (Zd (ZD.2 (by omega)) ⟨?_,fun y hy=>?_⟩)))
  ·rw [show l.getD x.pos 0=hd l x.pos from rfl]
   refine Zc (fun hz=>?_) fun hz10=>?_
   ·rw [ZC] at hz
    have hb:hd l x.pos=10:=UInt8.toNat_inj.1 (by show _=10;omega)
    have hk:=sp1 hlt hz (by decide) (by decide) (by decide) (by decide) (by decide)
    exact Zd (Zv.2 (by omega)) (Zd (Zv.2 (by omega)) (cutS hI hlt (if_pos hb).symm (if_pos hb).symm (by rw [hk];rfl) (Ja hlt hk (by rw [hz];decide))))
   ·rw [Zu] at hz10
    have hb:¬ hd l x.pos=10:=fun h=>hz10 (by rw [h];rfl)
    have hL:x.line=if hd l x.pos=10 then x.line + 1 else x.line:=(if_neg hb).symm
    have hF:x.fro=if hd l x.pos=10 then (x.pos:Int) + 1 else x.fro:=(if_neg hb).symm
    refine Zc (fun hz=>?_) fun hz32=>Zc (fun hz=>?_) fun hz9=>Zc (fun hz=>?_) fun hz13=>Zc (fun hz=>?_) fun hz35=>?_
    ·rw [ZC] at hz
     have hk:=sp1 hlt hz (by decide) (by decide) (by decide) (by decide) (by decide)
     exact cutS hI hlt hL hF (by rw [hk];rfl) (Ja hlt hk (by rw [hz];decide))
    ·rw [ZC] at hz
     have hk:=sp1 hlt hz (by decide) (by decide) (by decide) (by decide) (by decide)
     exact cutS hI hlt hL hF (by rw [hk];rfl) (Ja hlt hk (by rw [hz];decide))
    ·rw [ZC] at hz
     have hk:=sp1 hlt hz (by decide) (by decide) (by decide) (by decide) (by decide)
     exact cutS hI hlt hL hF (by rw [hk];rfl) (Ja hlt hk (by rw [hz];decide))
    ·rw [ZC] at hz
     have hk:nxA l x.pos=(0,runN (fun z=>!decide (z=10)) (l.drop x.pos)):=by
      rw [Zgc hlt,hz,if_neg (by decide),if_neg (by decide),if_pos rfl]
     refine ⟨⟨x.pos + 1,fun a ha=>by subst ha;exact J15.first hlt (by show (!decide (((hd l x.pos).toNat:Int)=10))=true;rw [hz];decide),by omega,⟨⟨fun _=>trivial⟩,⟨fun _=>trivial⟩⟩⟩,fun e he=>?_⟩
     have hj:=he _ rfl
     have hle:=hj.le (by omega)
     refine Zc (fun h=>?_) fun h=>?_
     ·rw [ZR] at h
      have hel:e < l.length:=by omega
      refine Zd (ZD.2 (by omega)) (Zc (fun hp=>?_) fun hp=>?_)
      ·exact Zd (Zv.2 (by omega)) ⟨e + 1,fun a ha=>by subst ha;exact (hj.next hel).1 (by rw [Yc] at hp;exact hp),by omega,by omega,⟨⟨fun _=>trivial⟩,⟨fun _=>trivial⟩⟩⟩
      ·have he2:=(hj.next hel).2 (by rw [Yc] at hp;exact hp)
       exact cutS hI hlt hL hF (by rw [hk,he2]) (Ja hlt hk (by rw [hz];decide))
     ·rw [ZF] at h
      have he2:=hj.stop (by omega) (by omega)
      exact cutS hI hlt hL hF (by rw [hk,he2]) (Ja hlt hk (by rw [hz];decide))
    ·rw [Zu] at hz32 hz9 hz13 hz35
     rw [Zlq]
     refine Zc (fun hz=>?_) fun hzl=>?_
     ·have hk:nxA l x.pos=(1,runN (fun z=>letrI z || digI z) (l.drop x.pos)):=by rw [Zgc hlt,if_pos hz]
      refine ⟨⟨x.pos + 1,fun a ha=>by subst ha;exact J15.first hlt (by show (letrI ((hd l x.pos).toNat:Int) || _)=true;rw [hz];rfl),by omega,⟨⟨fun _=>trivial⟩,⟨fun _=>trivial⟩⟩⟩,fun e he=>?_⟩
      have hj:=he _ rfl
      have hle:=hj.le (by omega)
      have hge:=hj.lo
      simp only [Int.toNat_natCast] at hge
      rw [Zlq]
      refine Zc (fun h=>?_) fun h=>?_
      ·rw [ZR] at h
       have hel:e < l.length:=by omega
       refine Zd (ZD.2 (by omega)) (Zc (fun hp=>?_) fun hp=>?_)
       ·exact Zd (Zv.2 (by omega)) ⟨e + 1,fun a ha=>by subst ha;exact (hj.next hel).1 (by show (letrI _ || digI _)=true;rw [hp];rfl),by omega,by omega,⟨⟨fun _=>trivial⟩,⟨fun _=>trivial⟩⟩⟩
       ·refine Zd (ZD.2 (by omega)) (Zc (fun hp2=>?_) fun hp2=>?_)
        ·exact Zd (Zv.2 (by omega)) ⟨e + 1,fun a ha=>by subst ha;exact (hj.next hel).1 (by show (letrI _ || digI _)=true;rw [hp,hp2];rfl),by omega,by omega,⟨⟨fun _=>trivial⟩,⟨fun _=>trivial⟩⟩⟩
        ·have he2:e=x.pos + (nxA l x.pos).2:=by rw [hk];exact (hj.next hel).2 (by show (letrI _ || digI _)=false;rw [hp,hp2];rfl)
         have htx:List.drop x.pos (List.take e l)=tx l x.pos:=by rw [he2];rfl
         have htl:(tx l x.pos).length=e - x.pos:=by rw [← htx,List.length_drop,List.length_take];omega
         have hE:(e:Int)=((x.pos + (nxA l x.pos).2:Nat):Int):=by rw [← he2]
         refine Zd (by rw [Bool.and_eq_true];exact ⟨YA.2 (by omega),YA.2 (by omega)⟩) (Zc (fun hw=>?_) fun hw=>?_)
         ·rw [htx] at hw
          exact cutS hI hlt hL hF hE (hnil (Vj hlt hk (by decide) (by rw [made1,if_pos hw])))
         ·rw [htx] at hw
          refine Zd (Zv.2 (by omega)) (Zc (fun h32=>?_) fun h32=>?_)
          ·rw [ZR] at h32
           exact Zd (ha _ _ (by omega) (by decide)) (cutW hI hlt hL hF hE (hone (by decide) (Vj hlt hk (by decide) (by rw [made1,if_neg (by rw [hw];simp),if_pos (by rw [htl];omega)]))))
          ·rw [ZF] at h32
           exact cutS hI hlt hL hF hE (hnil (Vj hlt hk (by decide) (by rw [made1,if_neg (by rw [hw];simp),if_neg (by rw [htl];omega)])))
      ·rw [ZF] at h
       have he2:e=x.pos + (nxA l x.pos).2:=by rw [hk];exact hj.stop (by omega) (by omega)
       have htx:List.drop x.pos (List.take e l)=tx l x.pos:=by rw [he2];rfl
       have htl:(tx l x.pos).length=e - x.pos:=by rw [← htx,List.length_drop,List.length_take];omega
       have hE:(e:Int)=((x.pos + (nxA l x.pos).2:Nat):Int):=by rw [← he2]
       refine Zd (by rw [Bool.and_eq_true];exact ⟨YA.2 (by omega),YA.2 (by omega)⟩) (Zc (fun hw=>?_) fun hw=>?_)
       ·rw [htx] at hw
        exact cutS hI hlt hL hF hE (hnil (Vj hlt hk (by decide) (by rw [made1,if_pos hw])))
       ·rw [htx] at hw
        refine Zd (Zv.2 (by omega)) (Zc (fun h32=>?_) fun h32=>?_)
        ·rw [ZR] at h32
         exact Zd (ha _ _ (by omega) (by decide)) (cutW hI hlt hL hF hE (hone (by decide) (Vj hlt hk (by decide) (by rw [made1,if_neg (by rw [hw];simp),if_pos (by rw [htl];omega)]))))
        ·rw [ZF] at h32
         exact cutS hI hlt hL hF hE (hnil (Vj hlt hk (by decide) (by rw [made1,if_neg (by rw [hw];simp),if_neg (by rw [htl];omega)])))
     ·refine Zc (fun hz=>?_) fun hzd=>?_
      ·have hk:nxA l x.pos=(3,runN digI (l.drop x.pos)):=by rw [Zgc hlt,if_neg (by rw [hzl];simp),if_pos hz]
       refine ⟨⟨x.pos + 1,fun a ha=>by subst ha;exact J15.first hlt hz,by omega,⟨⟨fun _=>trivial⟩,⟨fun _=>trivial⟩⟩⟩,fun e he=>?_⟩
       have hj:=he _ rfl
       have hle:=hj.le (by omega)
       have hge:=hj.lo
       simp only [Int.toNat_natCast] at hge
       refine Zc (fun h=>?_) fun h=>?_
       ·rw [ZR] at h
        have hel:e < l.length:=by omega
        refine Zd (ZD.2 (by omega)) (Zc (fun hp=>?_) fun hp=>?_)
        ·exact Zd (Zv.2 (by omega)) ⟨e + 1,fun a ha=>by subst ha;exact (hj.next hel).1 hp,by omega,by omega,⟨⟨fun _=>trivial⟩,⟨fun _=>trivial⟩⟩⟩
        ·have he2:e=x.pos + (nxA l x.pos).2:=by rw [hk];exact (hj.next hel).2 hp
         have htx:List.drop x.pos (List.take e l)=tx l x.pos:=by rw [he2];rfl
         have htl:(tx l x.pos).length=e - x.pos:=by rw [← htx,List.length_drop,List.length_take];omega
         have hE:(e:Int)=((x.pos + (nxA l x.pos).2:Nat):Int):=by rw [← he2]
         refine Zd (by rw [Bool.and_eq_true];exact ⟨YA.2 (by omega),YA.2 (by omega)⟩) ⟨by rw [htx,htl];omega,Zc (fun hw=>?_) fun hw=>?_⟩
         ·rw [htx] at hw ⊢
          rw [Bool.not_eq_true'] at hw
          exact Zd (ha _ _ (by omega) (by decide)) (cutW hI hlt hL hF hE (hone (by decide) (Vj hlt hk (by decide) (by rw [made3,hw];rfl))))
         ·rw [htx] at hw ⊢
          rw [Bool.not_eq_false'] at hw
          exact cutS hI hlt hL hF hE (hnil (Vj hlt hk (by decide) (by rw [made3,hw];rfl)))
       ·rw [ZF] at h
        have he2:e=x.pos + (nxA l x.pos).2:=by rw [hk];exact hj.stop (by omega) (by omega)
        have htx:List.drop x.pos (List.take e l)=tx l x.pos:=by rw [he2];rfl
        have htl:(tx l x.pos).length=e - x.pos:=by rw [← htx,List.length_drop,List.length_take];omega
        have hE:(e:Int)=((x.pos + (nxA l x.pos).2:Nat):Int):=by rw [← he2]
        refine Zd (by rw [Bool.and_eq_true];exact ⟨YA.2 (by omega),YA.2 (by omega)⟩) ⟨by rw [htx,htl];omega,Zc (fun hw=>?_) fun hw=>?_⟩
        ·rw [htx] at hw ⊢
         rw [Bool.not_eq_true'] at hw
         exact Zd (ha _ _ (by omega) (by decide)) (cutW hI hlt hL hF hE (hone (by decide) (Vj hlt hk (by decide) (by rw [made3,hw];rfl))))
        ·rw [htx] at hw ⊢
         rw [Bool.not_eq_false'] at hw
         exact cutS hI hlt hL hF hE (hnil (Vj hlt hk (by decide) (by rw [made3,hw];rfl)))
      ·have hn:(((x.pos:Int) - 0).NonNeg∧((l.length:Int) - ((x.pos:Int) + 1)).NonNeg∧l.length≤1000000):=⟨(show (0:Int)≤x.pos by omega),(show (x.pos:Int) + 1≤l.length by omega),hl⟩
       obtain ⟨m1,m2⟩:=mkT'_hi l x.pos
       have hk0:=Zgc hlt
       rw [if_neg (by rw [hzl];simp),if_neg (by rw [hzd];simp),if_neg hz35] at hk0
       refine ⟨hn,Zc (fun hm=>?_) fun hm=>?_⟩
       ·rw [ZR] at hm
        rw [if_pos hm] at hk0
        have htl:(tx l x.pos).length≤32:=by
         have:(nxA l x.pos).2≤2:=by rw [hk0];show (mkT' l x.pos).toNat≤2;omega
         unfold tx
         rw [List.length_drop,List.length_take];omega
        exact ⟨hn,Zd (Zv.2 (by omega)) (cutS hI hlt hL hF (by rw [hk0];show _=((x.pos + (mkT' l x.pos).toNat:Nat):Int);omega) (hnil (Vj hlt hk0 (by decide) (made4 htl))))⟩
       ·rw [ZF] at hm
        rw [if_neg (by omega)] at hk0
        refine Zd (ha _ _ (by omega) (by decide)) (cutW hI hlt hL hF (by rw [hk0];rfl) (sw_bad hlt hk0 ?_))
        unfold blankI
        simp [hz32,hz9,hz10,hz13,hz35]
  ·obtain ⟨⟨hJ,hyt⟩,hyp⟩:=hy
   have hyp:x.pos=y.pos:=by omega
   have hst:=I10.step hJ hyt
   obtain ⟨g1,g2,g3,g4,g5,g6,g7,g8⟩:=id hJ
   have hn:=Va (hd l y.pos) (l.drop (y.pos + 1))
   rw [← Vs hyt,List.length_cons,List.length_drop] at hn
   have ho:=oneA hyt
   have hkd:0 < y.kd l↔0 < (nxA l y.pos).1:=by
    unfold X10.kd
    by_cases hk:0 < (nxA l y.pos).1
    ·rw [if_pos hk]
     refine ⟨fun _=>hk,fun _=>?_⟩
     unfold madeT
     split
     ·exact (by decide:(0:Int) < 3)
     ·split
      ·exact (by decide:(0:Int) < 2)
      ·exact hk
    ·rw [if_neg hk];exact ⟨fun h=>absurd h (by decide),fun h=>absurd h hk⟩
   refine Zc (fun hk=>?_) fun hk=>?_
   ·rw [ZR,hkd] at hk
    rw [if_pos hk] at ho
    rw [ho] at hst
    refine Zd (by rw [Bool.and_eq_true];exact ⟨YA.2 (by omega),YA.2 (by omega)⟩) (Zd (ha _ _ (by omega) (by decide)) ⟨_,hst,?_,⟨by simp,rfl,rfl,rfl,rfl⟩,⟨by simp,Uv (Zis _) ?_ rfl⟩,rfl,⟨fun i _=>⟨rfl,rfl,rfl⟩⟩⟩)
    ·show (l.length - (y.pos + (nxA l y.pos).2)).succ≤_;omega
    ·unfold X10.kd X10.nm
     rw [if_pos hk,if_pos hk];rfl
   ·have hk:¬ 0 < (nxA l y.pos).1:=fun h=>by rw [ZF] at hk;have:=hkd.2 h;omega
    rw [if_neg hk] at ho
    rw [ho,List.append_nil] at hst
    refine ⟨_,hst,?_,⟨rfl,rfl,rfl,rfl,rfl⟩,⟨rfl,⟨fun i _=>⟨rfl,rfl,rfl,rfl,rfl⟩⟩⟩,rfl,⟨fun i _=>⟨rfl,rfl,rfl⟩⟩⟩
    show (l.length - (y.pos + (nxA l y.pos).2)).succ≤_;omega
 ·rw [ZF] at hr
  have hpe:x.pos=l.length:=by omega
  rw [hpe,List.drop_length,Kq,List.append_nil,List.append_nil] at h8
  rw [Zg9,Zlt,← h8]
  exact Zd rfl ⟨⟨rfl,⟨fun _ _=>⟨rfl,rfl,rfl,rfl,rfl⟩⟩⟩,rfl,⟨fun _ _=>⟨rfl,rfl,rfl⟩⟩⟩
theorem run10:∀ (l:List UInt8),l.length≤1000000→(cRun (cx10 l) 200).call 6 [.bv l] .leaf 0 (ResM Tryd.prog false (scanAV l)) :=
 Eq.mpr (by kernel_rfl) run10_r
end Go.Proofs.YtlmmbanfhjaioaaDoor
end
section
set_option maxRecDepth 100000
open Go Go.Ev
namespace Go.Proofs.YtlmmbanfhjaioaaDoor
noncomputable def e10:Tr AObj→List AV→Option Ct:=fun _ args=>match args with
 | [.bv l]=>some (.need (l.length≤1000000) (.ret (scanAV l)))
 | _=>none
theorem ok10:EntOK Tryd.prog 6 e10:=by
 refine WA (gl:=[]) (ng:=0) gl0 fun H args ct hct=>?_
 unfold e10 at hct
 split at hct
 ·rename_i l
  injection hct with hct;subst hct
  exact ⟨gl0,_,_,rfl,fun hp=>⟨⟨rfl,trivial⟩,cx10 l,200,rfl,fol,tbE_ok,run10 l hp⟩⟩
 ·cases hct
theorem Zlu:∀ (n:Nat) (l:List UInt8) (line col:Int),l.length≤n→(scn l line col).1.length≤l.length∧(scn l line col).2.length≤l.length
 | _,[],_,_,_=>⟨Nat.le_refl _,Nat.le_refl _⟩
 | 0,b :: t,_,_,h=>by simp at h
 | n + 1,b :: t,line,col,h=>by
  have hn:=Va b t
  simp only [List.length_cons] at h hn
  have hl:((b :: t).drop (nxT (b :: t)).2).length=t.length + 1 - (nxT (b :: t)).2:=by rw [List.length_drop,List.length_cons]
  obtain ⟨h1,h2⟩:=Zlu n ((b :: t).drop (nxT (b :: t)).2) (if b=10 then line + 1 else line) (if b=10 then 1 else col + (nxT (b :: t)).2) (by omega)
  obtain ⟨o1,o2⟩:=Zb6 b t line col
  rw [Qo]
  simp only [List.length_append,List.length_cons]
  omega
theorem KY (l:List UInt8):(scanR l).1.length≤l.length∧(scanR l).2.length≤l.length:=Zlu l.length l 1 1 (Nat.le_refl _)
end Go.Proofs.YtlmmbanfhjaioaaDoor
end
