/- Laid by program out of its parts: TkI, TkJ. -/
import Derived.Test.YtlmmbanfhjaioaaDoorTk2
set_option linter.unusedVariables false
set_option linter.unusedSimpArgs false
section
set_option maxRecDepth 100000
open Go Go.Ev
namespace Go.Proofs.YtlmmbanfhjaioaaDoor
structure X10 where
 pos:Nat
 line:Int
 fro:Int
 out:List Tok
 wrong:List Dg
def X10.col (x:X10):Int:=(x.pos:Int) - x.fro + 1
structure I10 (l:List UInt8) (x:X10):Prop where
 le:x.pos≤l.length
 line1:1≤x.line
 line2:x.line≤x.pos + 1
 fro1:0≤x.fro
 fro2:x.fro≤x.pos
 out:x.out.length≤x.pos
 wrong:x.wrong.length≤x.pos
 ans:(x.out ++ (scn (l.drop x.pos) x.line x.col).1,x.wrong ++ (scn (l.drop x.pos) x.line x.col).2)=scanR l
def hd (l:List UInt8) (p:Nat):UInt8:=l.getD p 0
def nxA (l:List UInt8) (p:Nat):Int×Nat:=nxT (l.drop p)
def tx (l:List UInt8) (p:Nat):List UInt8:=(l.take (p + (nxA l p).2)).drop p
def X10.kd (x:X10) (l:List UInt8):Int:=if 0 < (nxA l x.pos).1 then (madeT (nxA l x.pos).1 (tx l x.pos)).1 else 0
def X10.nm (x:X10) (l:List UInt8):Int:=if 0 < (nxA l x.pos).1 then (madeT (nxA l x.pos).1 (tx l x.pos)).2.1 else 0
def X10.wr (x:X10) (l:List UInt8):List Dg:=x.wrong ++ (oneT (hd l x.pos) (l.drop (x.pos + 1)) x.line x.col).2
structure J15 (p:Int→Bool) (l:List UInt8) (a:Int) (e:Nat):Prop where
 lo:a.toNat + 1≤e
 hi:e≤a.toNat + runN p (l.drop a.toNat)
theorem Zej {l:List UInt8} {p:Nat} (h:p < l.length):l.drop p=hd l p :: l.drop (p + 1):=QR l p h
theorem Zac {l:List UInt8} {p:Nat} (h:p < l.length):nxA l p=nxT (hd l p :: l.drop (p + 1)):=by unfold nxA;rw [Zej h]
theorem I10.step {l:List UInt8} {x:X10} (hI:I10 l x) (hlt:x.pos < l.length) :
  I10 l ⟨x.pos + (nxA l x.pos).2,if hd l x.pos=10 then x.line + 1 else x.line,if hd l x.pos=10 then (x.pos:Int) + 1 else x.fro,x.out ++ (oneT (hd l x.pos) (l.drop (x.pos + 1)) x.line x.col).1,x.wr l⟩:=by
 obtain ⟨h1,h2,h3,h4,h5,h6,h7,h8⟩:=hI
 have hn:=QX (hd l x.pos) (l.drop (x.pos + 1))
 rw [← Zac hlt,List.length_cons,List.length_drop] at hn
 obtain ⟨o1,o2⟩:=Zbt (hd l x.pos) (l.drop (x.pos + 1)) x.line x.col
 refine ⟨?_,?_,?_,?_,?_,?_,?_,?_⟩
 ·simp only;omega
 ·simp only;split <;> omega
 ·simp only;split <;> omega
 ·simp only;split <;> omega
 ·simp only;split <;> omega
 ·simp only [List.length_append];omega
 ·simp only [X10.wr,List.length_append];omega
 ·rw [← h8,Zej hlt,Zab,← Zac hlt,← Zej hlt,List.drop_drop]
  simp only [X10.wr,List.append_assoc,X10.col]
  by_cases hb:hd l x.pos=10
  ·have:(nxA l x.pos).2=1:=by rw [Zac hlt,hb,GR]
   rw [if_pos hb,if_pos hb,if_pos hb,this,show ((x.pos + 1:Nat):Int) - ((x.pos:Int) + 1) + 1=1 from by omega]
  ·rw [if_neg hb,if_neg hb,if_neg hb,show ((x.pos + (nxA l x.pos).2:Nat):Int) - x.fro + 1=(x.pos:Int) - x.fro + 1 + (nxA l x.pos).2 from by omega]
theorem J15.next {p:Int→Bool} {l:List UInt8} {a e:Nat} (h:J15 p l (a:Int) e) (he:e < l.length):(p ((l.getD e 0).toNat:Int)=true→J15 p l (a:Int) (e + 1))∧(p ((l.getD e 0).toNat:Int)=false→e=a + runN p (l.drop a)):=by
 obtain ⟨h1,h2⟩:=h
 simp only [Int.toNat_natCast] at h1 h2
 have hg:(l.drop a).getD (e - a) 0=l.getD e 0:=by simp [List.getD_eq_getElem?_getD];rw [show a + (e - a)=e by omega]
 have:=Zey p (l.drop a) (e - a) (by omega) (by rw [List.length_drop];omega)
 rw [hg] at this
 refine ⟨fun hp=>?_,fun hp=>?_⟩
 ·rcases this with ⟨h3,_⟩ | ⟨_,h4⟩
  ·exact ⟨by simp only [Int.toNat_natCast];omega,by simp only [Int.toNat_natCast];omega⟩
  ·rw [hp] at h4;cases h4
 ·rcases this with ⟨_,h4⟩ | ⟨h3,_⟩
  ·rw [hp] at h4;cases h4
  ·omega
theorem J15.stop {p:Int→Bool} {l:List UInt8} {a e:Nat} (h:J15 p l (a:Int) e) (he:l.length≤e) (ha:a≤l.length):e=a + runN p (l.drop a):=by
 obtain ⟨h1,h2⟩:=h
 simp only [Int.toNat_natCast] at h1 h2
 have:=UT p (l.drop a)
 rw [List.length_drop] at this
 omega
theorem J15.first {p:Int→Bool} {l:List UInt8} {a:Nat} (ha:a < l.length) (h:p ((l.getD a 0).toNat:Int)=true):J15 p l (a:Int) (a + 1):=by
 have:=JN (t:=l.drop (a + 1)) (p:=p) h
 have e:l.drop a=l.getD a 0 :: l.drop (a + 1):=QR l a ha
 rw [← e] at this
 exact ⟨by simp only [Int.toNat_natCast];omega,by simp only [Int.toNat_natCast];omega⟩
theorem J15.le {p:Int→Bool} {l:List UInt8} {a e:Nat} (h:J15 p l (a:Int) e) (ha:a≤l.length):e≤l.length:=by
 obtain ⟨h1,h2⟩:=h
 simp only [Int.toNat_natCast] at h1 h2
 have:=UT p (l.drop a)
 rw [List.length_drop] at this
 omega
@[reducible] def Zez:List UInt8→X10→X10→Prop:=fun (l:List UInt8) (a a_1:X10)=>(true=true∧(↑(X10.pos a):Int)=(↑(X10.pos a_1):Int))∧(some 2=some 2∧true=true)∧(true=true∧(↑(X10.pos a):Int) + 1=(↑(X10.pos a_1 + Prod.snd (nxA l (X10.pos a_1))):Int))∧True
@[reducible] def Zek:List UInt8→X10→X10→Prop:=fun (l:List UInt8) (a a_1:X10)=>(true=true∧true=true∧true=true∧true=true∧((((True∧true=true∧(0:Int)=X10.kd a_1 l)∧([]:List UInt8)=[])∧true=true∧(0:Int)=X10.nm a_1 l)∧true=true∧X10.line a=X10.line a_1)∧true=true∧(↑(X10.pos a):Int) - X10.fro a + 1=X10.col a_1)∧True
@[reducible] def Ze2:List UInt8→X10→X10→Prop:=fun (l:List UInt8) (a a_1:X10)=>(true=true∧true=true∧true=true∧true=true∧((((True∧true=true∧(1:Int)=X10.kd a_1 l)∧([]:List UInt8)=[])∧true=true∧(0:Int)=X10.nm a_1 l)∧true=true∧X10.line a=X10.line a_1)∧true=true∧(↑(X10.pos a):Int) - X10.fro a + 1=X10.col a_1)∧True
@[reducible] def Zer:List UInt8→X10→Nat→X10→Prop:=fun (l:List UInt8) (a:X10) (a_1:Nat) (a_2:X10)=>(true=true∧true=true∧true=true∧true=true∧((((True∧true=true∧(3:Int)=X10.kd a_2 l)∧([]:List UInt8)=[])∧true=true∧Prod.fst (numT (List.drop (Int.toNat (↑(X10.pos a):Int)) (List.take (Int.toNat (↑a_1:Int)) l)))=X10.nm a_2 l)∧true=true∧X10.line a=X10.line a_2)∧true=true∧(↑(X10.pos a):Int) - X10.fro a + 1=X10.col a_2)∧True
@[reducible] def Vx:List UInt8→X10→X10→Prop:=fun (l:List UInt8) (a a_1:X10)=>true=true∧true=true∧true=true∧true=true∧List.length (X10.wrong a) * 3=List.length (X10.wr a_1 l) * 3∧AllI fun (i:Nat)=>Nat.le (Nat.succ (i * 3)) (List.length (X10.wrong a) * 3)→(true=true∧Dg.line (List.getD (X10.wrong a) i d0)=Dg.line (List.getD (X10.wr a_1 l) i d0))∧(true=true∧Dg.col (List.getD (X10.wrong a) i d0)=Dg.col (List.getD (X10.wr a_1 l) i d0))∧(true=true∧Dg.err (List.getD (X10.wrong a) i d0)=Dg.err (List.getD (X10.wr a_1 l) i d0))∧True
@[reducible] def TkI_run10_k5:List UInt8→X10→X10→Prop:=fun (l:List UInt8) (a a_1:X10)=>(true=true∧true=true∧true=true∧true=true∧List.length (X10.wr a l) * 3=List.length (X10.wrong a_1) * 3∧AllI fun (i:Nat)=>Nat.le (Nat.succ (i * 3)) (List.length (X10.wr a l) * 3)→(true=true∧Dg.line (List.getD (X10.wr a l) i d0)=Dg.line (List.getD (X10.wrong a_1) i d0))∧(true=true∧Dg.col (List.getD (X10.wr a l) i d0)=Dg.col (List.getD (X10.wrong a_1) i d0))∧(true=true∧Dg.err (List.getD (X10.wr a l) i d0)=Dg.err (List.getD (X10.wrong a_1) i d0))∧True)∧True
@[reducible] def TkI_run10_k6:List UInt8→X10→X10→Prop:=fun (l:List UInt8) (a a_1:X10)=>(some 1=some 1∧List.length (X10.wr a l)=List.length (X10.wrong a_1)∧true=true)∧(true=true∧(if hd l (X10.pos a)=(10:UInt8) then X10.line a + 1 else X10.line a)=X10.line a_1)∧(true=true∧(if hd l (X10.pos a)=(10:UInt8) then (↑(X10.pos a):Int) + 1 else X10.fro a)=X10.fro a_1)∧(true=true∧(↑(X10.pos a + Prod.snd (nxA l (X10.pos a))):Int)=(↑(X10.pos a_1):Int))∧True
@[reducible] def Zef:List UInt8→X10→Nat→X10→Prop:=fun (l:List UInt8) (a:X10) (a_1:Nat) (a_2:X10)=>(true=true∧X10.line a=if hd l (X10.pos a_2)=(10:UInt8) then X10.line a_2 + 1 else X10.line a_2)∧(true=true∧X10.fro a=if hd l (X10.pos a_2)=(10:UInt8) then (↑(X10.pos a_2):Int) + 1 else X10.fro a_2)∧(true=true∧(↑(X10.pos a):Int)=(↑(X10.pos a_2):Int))∧(some 2=some 2∧true=true)∧(true=true∧(↑a_1:Int)=(↑(X10.pos a_2 + Prod.snd (nxA l (X10.pos a_2))):Int))∧True
@[reducible] def Kf:List UInt8→X10→Prop:=fun (l:List UInt8) (a:X10)=>l=l∧(some 0=some 0∧List.length (X10.out a)=List.length (X10.out a)∧true=true)∧(some 1=some 1∧List.length (X10.wrong a)=List.length (X10.wrong a)∧true=true)∧(true=true∧X10.line a=X10.line a)∧(true=true∧X10.fro a=X10.fro a)∧(true=true∧(↑(X10.pos a):Int)=(↑(X10.pos a):Int))∧(some 2=some 2∧true=true)∧(true=true∧(↑(UInt8.toNat (List.getD l (Int.toNat (↑(X10.pos a):Int)) (0:UInt8))):Int)=(↑(UInt8.toNat (List.getD l (Int.toNat (↑(X10.pos a):Int)) (0:UInt8))):Int))∧True
@[reducible] def Zfc:List UInt8→X10→X10→Prop:=fun (l:List UInt8) (a a_1:X10)=>(true=true∧X10.line a=if hd l (X10.pos a_1)=(10:UInt8) then X10.line a_1 + 1 else X10.line a_1)∧(true=true∧X10.fro a=if hd l (X10.pos a_1)=(10:UInt8) then (↑(X10.pos a_1):Int) + 1 else X10.fro a_1)∧Zez l a a_1
@[reducible] def WW:X10→X10→Prop:=fun (a a_1:X10)=>true=true∧true=true∧true=true∧true=true∧List.length (X10.out a) * 5=List.length (X10.out a_1) * 5∧AllI fun (i:Nat)=>Nat.le (Nat.succ (i * 5)) (List.length (X10.out a) * 5)→(true=true∧Tok.kind (List.getD (X10.out a) i t0)=Tok.kind (List.getD (X10.out a_1) i t0))∧Tok.text (List.getD (X10.out a) i t0)=Tok.text (List.getD (X10.out a_1) i t0)∧(true=true∧Tok.num (List.getD (X10.out a) i t0)=Tok.num (List.getD (X10.out a_1) i t0))∧(true=true∧Tok.line (List.getD (X10.out a) i t0)=Tok.line (List.getD (X10.out a_1) i t0))∧(true=true∧Tok.col (List.getD (X10.out a) i t0)=Tok.col (List.getD (X10.out a_1) i t0))∧True
@[reducible] def WZ:List UInt8→X10→Nat→X10→Prop:=fun (l:List UInt8) (a:X10) (a_1:Nat) (a_2:X10)=>l=l∧(some 0=some 0∧List.length (X10.out a)=List.length (X10.out a_2)∧true=true)∧(some 1=some 1∧List.length (X10.wrong a)=List.length (X10.wr a_2 l)∧true=true)∧Zef l a a_1 a_2
@[reducible] def Jj:List UInt8→X10→X10→Prop:=fun (l:List UInt8) (a a_1:X10)=>WW a a_1∧Vx l a a_1∧Zek l a a_1
@[reducible] def Jc:X10→Prop:=fun (a:X10)=>(true=true∧true=true∧true=true∧true=true∧List.length (X10.out a) * 5=List.length (X10.out a) * 5∧AllI fun (i:Nat)=>Nat.le (Nat.succ (i * 5)) (List.length (X10.out a) * 5)→(true=true∧Tok.kind (List.getD (X10.out a) i t0)=Tok.kind (List.getD (X10.out a) i t0))∧Tok.text (List.getD (X10.out a) i t0)=Tok.text (List.getD (X10.out a) i t0)∧(true=true∧Tok.num (List.getD (X10.out a) i t0)=Tok.num (List.getD (X10.out a) i t0))∧(true=true∧Tok.line (List.getD (X10.out a) i t0)=Tok.line (List.getD (X10.out a) i t0))∧(true=true∧Tok.col (List.getD (X10.out a) i t0)=Tok.col (List.getD (X10.out a) i t0))∧True)∧(true=true∧true=true∧true=true∧true=true∧List.length (X10.wrong a) * 3=List.length (X10.wrong a) * 3∧AllI fun (i:Nat)=>Nat.le (Nat.succ (i * 3)) (List.length (X10.wrong a) * 3)→(true=true∧Dg.line (List.getD (X10.wrong a) i d0)=Dg.line (List.getD (X10.wrong a) i d0))∧(true=true∧Dg.col (List.getD (X10.wrong a) i d0)=Dg.col (List.getD (X10.wrong a) i d0))∧(true=true∧Dg.err (List.getD (X10.wrong a) i d0)=Dg.err (List.getD (X10.wrong a) i d0))∧True)∧(true=true∧true=true∧true=true∧true=true∧((((True∧true=true∧(0:Int)=(0:Int))∧0=0∧0=0)∧true=true∧(0:Int)=(0:Int))∧true=true∧X10.line a=X10.line a)∧true=true∧(↑(X10.pos a):Int) - X10.fro a + 1=(↑(X10.pos a):Int) - X10.fro a + 1)∧True
@[reducible] def TkI_run10_k14:List UInt8→X10→Nat→Prop:=fun (l:List UInt8) (a:X10) (a_1:Nat)=>true=true∧((true=true∧(↑(X10.pos a):Int) + 1=(↑a_1:Int))∧Kf l a)∧Jc a
@[reducible] def Zct:List UInt8→X10→Nat→Nat→Prop:=fun (l:List UInt8) (a:X10) (a_1 a_2:Nat)=>Nat.le (Nat.succ (l.length - a_2)) (l.length - a_1)∧true=true∧((true=true∧(↑a_1:Int) + 1=(↑a_2:Int))∧Kf l a)∧Jc a
@[reducible] def TkI_run10_k16:List UInt8→X10→Nat→X10→Prop:=fun (l:List UInt8) (a:X10) (a_1:Nat) (a_2:X10)=>((I10 l a_2∧Nat.le (Nat.succ (X10.pos a_2)) l.length)∧some (AV.int .i64 (↑(X10.pos a):Int))=some (AV.int .i64 (↑(X10.pos a_2):Int)))∧true=true∧WZ l a a_1 a_2∧WW a a_2∧Vx l a a_2∧(true=true∧true=true∧true=true∧true=true∧((((True∧true=true∧(2:Int)=X10.kd a_2 l)∧([]:List UInt8)=[])∧true=true∧(0:Int)=X10.nm a_2 l)∧true=true∧X10.line a=X10.line a_2)∧true=true∧(↑(X10.pos a):Int) - X10.fro a + 1=X10.col a_2)∧True
@[reducible] def TkI_run10_k17:List UInt8→X10→Nat→X10→Prop:=fun (l:List UInt8) (a:X10) (a_1:Nat) (a_2:X10)=>((I10 l a_2∧Nat.le (Nat.succ (X10.pos a_2)) l.length)∧some (AV.int .i64 (↑(X10.pos a):Int))=some (AV.int .i64 (↑(X10.pos a_2):Int)))∧true=true∧WZ l a a_1 a_2∧Jj l a a_2
@[reducible] def TkI_run10_k18:List UInt8→X10→Nat→X10→Prop:=fun (l:List UInt8) (a:X10) (a_1:Nat) (a_2:X10)=>((I10 l a_2∧Nat.le (Nat.succ (X10.pos a_2)) l.length)∧some (AV.int .i64 (↑(X10.pos a):Int))=some (AV.int .i64 (↑(X10.pos a_2):Int)))∧true=true∧WZ l a a_1 a_2∧WW a a_2∧Vx l a a_2∧Ze2 l a a_2
@[reducible] def TkI_run10_k19:List UInt8→X10→X10→Prop:=fun (l:List UInt8) (a a_1:X10)=>((I10 l a_1∧Nat.le (Nat.succ (X10.pos a_1)) l.length)∧some (AV.int .i64 (↑(X10.pos a):Int))=some (AV.int .i64 (↑(X10.pos a_1):Int)))∧true=true∧(l=l∧(some 0=some 0∧List.length (X10.out a)=List.length (X10.out a_1)∧true=true)∧(some 1=some 1∧List.length (X10.wrong a)=List.length (X10.wr a_1 l)∧true=true)∧Zfc l a a_1)∧Jj l a a_1
@[reducible] def TkI_run10_k20:List UInt8→X10→Nat→X10→Prop:=fun (l:List UInt8) (a:X10) (a_1:Nat) (a_2:X10)=>((I10 l a_2∧Nat.le (Nat.succ (X10.pos a_2)) l.length)∧some (AV.int .i64 (↑(X10.pos a):Int))=some (AV.int .i64 (↑(X10.pos a_2):Int)))∧true=true∧WZ l a a_1 a_2∧WW a a_2∧Vx l a a_2∧Zer l a a_1 a_2
@[reducible] def TkI_run10_k21:List UInt8→X10→Nat→Nat→Prop:=fun (l:List UInt8) (a:X10) (a_1 a_2:Nat)=>(∀ (a_3:Int),some (AV.int .i64 (↑(X10.pos a):Int))=some (AV.int .i64 a_3)→J15 (fun (z:Int)=>letrI z || digI z) l a_3 a_2)∧Zct l a a_1 a_2
end Go.Proofs.YtlmmbanfhjaioaaDoor
end
section
set_option maxRecDepth 100000
open Go Go.Ev
namespace Go.Proofs.YtlmmbanfhjaioaaDoor
theorem Zki:∀ (n:Nat) (l:List UInt8) (line col:Int),l.length≤n→(scn l line col).1.length≤l.length∧(scn l line col).2.length≤l.length
 | _,[],_,_,_=>⟨Nat.le_refl _,Nat.le_refl _⟩
 | 0,b :: t,_,_,h=>by simp at h
 | n + 1,b :: t,line,col,h=>by
  have hn:=QX b t
  simp only [List.length_cons] at h hn
  have hl:((b :: t).drop (nxT (b :: t)).2).length=t.length + 1 - (nxT (b :: t)).2:=by rw [List.length_drop,List.length_cons]
  obtain ⟨h1,h2⟩:=Zki n ((b :: t).drop (nxT (b :: t)).2) (if b=10 then line + 1 else line) (if b=10 then 1 else col + (nxT (b :: t)).2) (by omega)
  obtain ⟨o1,o2⟩:=Zbt b t line col
  rw [Zab]
  simp only [List.length_append,List.length_cons]
  omega
theorem Zlu (l:List UInt8):(scanR l).1.length≤l.length∧(scanR l).2.length≤l.length:=Zki l.length l 1 1 (Nat.le_refl _)
end Go.Proofs.YtlmmbanfhjaioaaDoor
end
