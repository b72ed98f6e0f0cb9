/- Laid by program out of its parts: PeA, PcA, PeB, PeC, PeD, PeE, PeF. -/
import Derived.Test.YtlmmbanfhjaioaaGreatDoorPd0
import Derived.Test.YtlmmbanfhjaioaaGreatDoorPb5
noncomputable section
set_option linter.unusedVariables false
set_option linter.unusedSimpArgs false
section
set_option maxRecDepth 100000
set_option maxHeartbeats 2000000
open Go Go.Ev
namespace Go.Proofs.YtlmmbanfhjaioaaGreatDoor
def KA (k:Int) (s:List UInt8) (i:Nat) (y:PT):Int:=(if y.kind=12 then 1 else 0)+(if 0<D3 y.kind y.text/\D3 y.kind y.text<I4 k s i then 1 else 0)+(if k=31/\i=1\/k=34\/k=35 then 1 else 0)
mutual
def Fs:PT->Int->Prop
 |.mk k s n _ _ ks,d=>d<=64/\((1<=k/\k<=36)/\G6 k s=true/\Gc k n=true)/\C3 (Cb k) (ks.map PT.kind)=true/\IP k s ks 0 d
def IP (k:Int) (s:List UInt8):List PT->Nat->Int->Prop
 | [],_,_=>True
 |y::q,i,d=>Fs y (d+KA k s i y)/\IP k s q (i+1) d
end
def KE:Nat->List PT->List Int
 |_,[]=>[]
 |o,y::q=>(o:Int)::KE (o+sz y) q
def Nl:Nat->List PT->List LT
 |_,[]=>[]
 |o,y::q=>(flat y).map (Cl o)++Nl (o+sz y) q
structure uL (L:List LT) (a:Nat) (W:List LT):Prop where
 le:a+W.length<=L.length
 eq:∀j,j<W.length->L.getD (a+j) LT.none=Cl a (W.getD j LT.none)
theorem Afv (y:PT) (q:List PT):Ba (y::q)=flat y::Ba q:=by conv=>lhs;unfold Ba
theorem oy (o:Nat) (y:PT) (q:List PT):KE o (y::q)=(o:Int)::KE (o+sz y) q:=rfl
theorem XG (o:Nat) (y:PT) (q:List PT):Nl o (y::q)=(flat y).map (Cl o)++Nl (o+sz y) q:=rfl
theorem xW:∀(ks:List PT) (a:List Int×List LT),(Ba ks).foldl Fo a=(a.1++KE (1+a.2.length) ks,a.2++Nl (1+a.2.length) ks)
 | [],a=>by rw[nF];simp[KE,Nl]
 |y::q,a=>by
  have B:(Fo a (flat y)).2.length=a.2.length+sz y:=by simp[Fo,(NK y).1]
  rw[Afv,List.foldl_cons,xW q (Fo a (flat y)),B];have E:(Fo a (flat y)).1=a.1++[1+(a.2.length:Int)]:=rfl;have C:(Fo a (flat y)).2=a.2++(flat y).map (Cl (1+(a.2.length:Int))):=rfl;rw[E,C,oy,XG];rw[show((1+a.2.length:Nat):Int)=1+(a.2.length:Int) by omega,show 1+(a.2.length+sz y)=1+a.2.length+sz y by omega,List.append_assoc,List.append_assoc];rfl
theorem nG (k:Int) (s:List UInt8) (n l c:Int) (ks:List PT):flat (.mk k s n l c ks)=⟨k,s,n,l,c,KE 1 ks⟩::Nl 1 ks:=by
 have h:=xW ks ([],[])
 conv=>lhs;unfold flat
 unfold A3;rw[oB,eb,show FC (Ba ks)=_ from h];simp
theorem r6:∀(o:Nat) (ks:List PT),(Nl o ks).length=CS ks
 |o,[]=>by rw[Ig];rfl
 |o,y::q=>by rw[XG,List.length_append,List.length_map,(NK y).1,r6,Fl]
theorem xU (y:PT):((flat y).getD 0 LT.none).kind=y.kind/\((flat y).getD 0 LT.none).text=y.text:=by cases y;rw[nG];exact⟨rfl,rfl⟩
mutual
theorem go_wf:∀(x:PT) (L:List LT) (a:Nat) (d:Int),uL L a (flat x)->Fs x d->DN L a d=a+sz x
 |.mk k s n l c ks,L,a,d,y,J=>by
  have e:=nG k s n l c ks;rw[e]at y;unfold Fs at J;obtain⟨S,B,M,K⟩:=J;have C:=y.le;rw[List.length_cons,r6]at C;have q:L.getD a LT.none=⟨k,s,n,l,c,(KE 1 ks).map (· +(a:Int))⟩:=by have:=y.eq 0 (by simp);simpa[Cl]using this
  have O:=xk ks k s L a d 0 1 [] [] (by rw[q]) (by rw[q]) (by rw[q];rfl) rfl (Nat.le_refl 1) (by omega) (λj U=>by have:=y.eq (1+j) (by rw[List.length_cons,r6];omega);rw[show a+(1+j)=a+1+j by omega,show 1+j=j+1 by omega,List.getD_cons_succ]at this;exact this) K;have E:He L a d (L.getD a LT.none).kids 0 (a+1) []=some (a+1+CS ks,[]++ks.map PT.kind):=by rw[q];exact O
  have R:MS (L.getD a LT.none)=true:=by rw[q];unfold MS;simp only[decide_eq_true B.1,B.2.1,B.2.2,Bool.and_self]
  rw[nT (by omega) R E,q,P5];show(if C3 (Cb k) ([]++ks.map PT.kind)then a+1+CS ks else 0)=_;rw[List.nil_append,if_pos M];omega
theorem xk:∀(q:List PT) (k:Int) (s:List UInt8) (L:List LT) (a:Nat) (d:Int) (i o:Nat) (pre:List Int) (l:List Int),(L.getD a LT.none).kind=k->(L.getD a LT.none).text=s->(L.getD a LT.none).kids=pre++(KE o q).map (· +(a:Int))->pre.length=i->1<=o-> a+o+CS q<=L.length->(∀j,j<CS q->L.getD (a+o+j) LT.none=Cl a ((Nl o q).getD j LT.none))->IP k s q i d->He L a d ((KE o q).map (· +(a:Int))) i (a+o) l=some (a+o+CS q,l++q.map PT.kind)
 | [],k,s,L,a,d,i,o,pre,l,V,U,S,R,h5,Z,O,M=>by unfold KE;rw[List.map_nil,nV,Ig,List.map_nil,List.append_nil];rfl
 |y::q,k,s,L,a,d,i,o,pre,l,V,U,S,R,h5,Z,O,M=>by
  unfold IP at M;obtain⟨w1,w2⟩:=M;rw[Fl]at Z;have hp:=Ih y;have C:=(NK y).1;have W:∀j,j<sz y->L.getD (a+o+j) LT.none=Cl ((a+o:Nat):Int) ((flat y).getD j LT.none):=λj E=>by rw[O j (by rw[Fl];omega)];rw[XG,List.getD_eq_getElem?_getD,List.getElem?_append_left (by rw[List.length_map,C];exact E),List.getElem?_map,List.getD_eq_getElem?_getD,List.getElem?_eq_getElem (by rw[C];exact E)];show Cl a (Cl o _)=_;rw[Ab6];congr 1;omega
  have sg:uL L (a+o) (flat y):=⟨by rw[C];omega,λj E=>W j (by rw[<-C];exact E)⟩;have n0:(L.getD (a+o) LT.none).kind=y.kind/\(L.getD (a+o) LT.none).text=y.text:=by have:=W 0 (by omega);rw[Nat.add_zero]at this;rw[this];exact xU y
  have K:(L.getD a LT.none).kids.getD i 0=((a+o:Nat):Int):=by rw[S,List.getD_eq_getElem?_getD,List.getElem?_append_right (by omega),R,Nat.sub_self];rw[oy];show(o:Int)+(a:Int)=_;omega
  have hm:Fe L (L.getD a LT.none) i (a+o)=KA k s i y:=by unfold Fe KA Pe;rw[K,Int.toNat_natCast,n0.1,n0.2,V,U];simp only[decide_eq_true_eq]
  have Y:=go_wf y L (a+o) (d+KA k s i y) sg w1;have B:=nW (L:=L) (a:=a) (nest:=d) (k:=((a+o:Nat):Int)) (ks:=(KE (o+sz y) q).map (· +(a:Int))) (i:=i) (next:=a+o) (l:=l) (by omega) (by rw[hm,Y];omega);have e1:(KE o (y::q)).map (· +(a:Int))=((a+o:Nat):Int)::(KE (o+sz y) q).map (· +(a:Int)):=by rw[oy,List.map_cons,show(o:Int)+(a:Int)=((a+o:Nat):Int) by omega]
  rw[e1,B,hm,Y,n0.1];have J:=xk q k s L a d (i+1) (o+sz y) (pre++[((a+o:Nat):Int)]) (l++[y.kind]) V U (by rw[S,e1,List.append_assoc];rfl) (by rw[List.length_append,R];rfl) (by omega) (by omega) (λj E=>by have:=O (sz y+j) (by rw[Fl];omega);rw[show a+o+(sz y+j)=a+(o+sz y)+j by omega]at this;rw[this];rw[XG,List.getD_eq_getElem?_getD,List.getElem?_append_right (by rw[List.length_map,C];omega),List.length_map,C,Nat.add_sub_cancel_left,<-List.getD_eq_getElem?_getD]) w2;rw[show a+o+sz y=a+(o+sz y) by omega,J,Fl,List.map_cons,List.append_assoc];congr 2;omega
end
theorem AnV (w:LT):Cl 0 w=w:=by unfold Cl;cases w;simp
theorem Ahm {x:PT} (y:x.kind=1) (h:Fs x 0):L2 (flat x)=true:=by have q:=(NK x).1;have C:=Ih x;have B:=go_wf x (flat x) 0 0 ⟨by omega,λj E=>by rw[Nat.zero_add];exact(AnV _).symm⟩ h;unfold L2;rw[q,(xU x).1,y,B];simp;omega
def Iv (L:List TK) (s:RS):Prop:=s.err=0\/s.err=4\/(s.err=5/\s.Bp<L.length)
structure Mv (L:List TK) (s r:RS):Prop where
 k:Kp s r
 a:s.at_<=r.at_
 w:s.err=0->r.err≠0->s.at_<=r.Bp
 b:s.at_<=L.length->r.at_<=L.length
 i:Iv L s->Iv L r
def MF (L:List TK) (F:PF):Prop:=∀s,Mv L s (F s).2
def Sr (s r:RS):Prop:=s.err=0->r.err=0->s.at_<r.at_
structure Sm (L:List TK) (x:LV):Prop where
 u:MF L (x.u L)
 t:MF L (x.t L)
 b:MF L (x.b L)
theorem Jv (L:List TK) (s:RS):Mv L s s:=⟨Dd s,Int.le_refl _,λh h'=>absurd h h',λh=>h,λh=>h⟩
theorem Mv.tr {L:List TK} {s r u:RS} (h:Mv L s r) (k:Mv L r u):Mv L s u:=by
 refine⟨h.k.tr k.k,Int.le_trans h.a k.a,λz q=>?_,λz=>k.b (h.b z),λz=>k.i (h.i z)⟩;by_cases c:r.err=0
 ·exact Int.le_trans h.a (k.w c q)
 ·have:=h.w z c;have:=(k.k.e c).2;omega
theorem C1 {L:List TK} {α:Type} {s:RS} {p:Prop} [Decidable p] {a b:α×RS} (y:p->Mv L s a.2) (q:¬p->Mv L s b.2):Mv L s (if p then a else b).2:=by
 by_cases h:p
 ·rw[if_pos h];exact y h
 ·rw[if_neg h];exact q h
theorem oa (L:List TK) (s:RS) {e:Int} (q:e≠0) (y:e=4\/(e=5/\s.at_<L.length):=by exact .inl rfl):Mv L s (Bj s e):=by
 refine⟨WS s q,?_,λz _=>?_,λz=>?_,λz=>?_⟩
 ·unfold Bj;split<;>exact Int.le_refl _
 ·unfold Bj;rw[if_pos z];exact Int.le_refl _
 ·unfold Bj;split<;>exact z
 ·unfold Bj;split
  ·rcases y with h|⟨h,h'⟩
   ·exact .inr (.inl h)
   ·exact .inr (.inr ⟨h,h'⟩)
  ·exact z
theorem o8 {L:List TK} {s:RS} {b:Bool} (h:b=true->s.at_<L.length):Mv L s (Ei L s b).2:=by
 unfold Ei;split
 ·rename_i hb;have:=h hb;exact⟨⟨λ_=>⟨rfl,rfl⟩,λ_=>rfl⟩,by show s.at_<=s.at_+1;omega,λz q=>absurd z q,λ_=>by show s.at_+1<=L.length;omega,λz=>z⟩
 ·exact oa L s (by decide)
theorem VX {L:List TK} {s:RS} (h:(Aq L s).kind≠0):s.at_<L.length:=by
 unfold Aq at h;split at h
 ·exact absurd rfl h
 ·rename_i c;omega
theorem Gb (L:List TK) (s:RS) (w:List UInt8):Mv L s (Aw L s w).2:=o8 λh=>Bb h
theorem J3 (L:List TK) (s:RS) {k:Int} (q:k≠0):Mv L s (AB L s k).2:=o8 λh=>VX (by rw[of_decide_eq_true h];exact q)
theorem Qo {L:List TK} {s:RS} {ws:List (List UInt8)} (h:ws.any (Ah L s)=true):s.at_<L.length:=by obtain⟨w,_,q⟩:=List.any_eq_true.1 h;exact Bb q
theorem O8 (L:List TK) (s:RS) (ws:List (List UInt8)):Mv L s (Al L s ws).2:=o8 λh=>Qo h
theorem Er {L:List TK} {s:RS} (h:s.at_<L.length):Mv L s (Ai s):=⟨Ga s,by show s.at_<=s.at_+1;omega,λz q=>absurd z q,λ_=>by show s.at_+1<=L.length;omega,λz=>z⟩
theorem cY (L:List TK) (s:RS):Mv L s (down s):=⟨J1 s,Int.le_refl _,λz q=>absurd z q,λz=>z,λz=>z⟩
theorem Ahq (L:List TK) (s:RS) (w:List UInt8):Mv L s (EM L s w):=by
 unfold EM;split
 ·rename_i h;have:=oa L s (e:=5) (by decide) (.inr ⟨rfl,Bb h.1⟩);exact⟨⟨this.k.e,this.k.o⟩,this.a,this.w,this.b,this.i⟩
 ·exact⟨⟨λ_=>⟨rfl,rfl⟩,λ_=>rfl⟩,Int.le_refl _,λz q=>absurd z q,λz=>z,λz=>z⟩
theorem O9 (L:List TK) (s:RS) (w:List UInt8):Mv L s (AQ L s w).2:=(Ahq L s w).tr (Gb L (EM L s w) w)
theorem O7 {F:List TK->PF} {L:List TK} (h:MF L (F L)):MF L (A5 F L):=by intro s;unfold A5;exact C1 (λ_=>Jv L s) λ_=>h s
theorem cb (L:List TK):MF L (BZ L):=λs=>J3 L s (by decide)
theorem TL (L:List TK):MF L (B9 L):=λs=>C1 (λc=>Er (VX (by rw[c];decide))) λ_=>O8 L s _
theorem zt {T B:List TK->PF} {L:List TK} (hT:MF L (T L)) (q:MF L (B L)):MF L (firstM T B L):=λs=>
 C1 (λc=>Er (VX (by rw[c];decide))) λ_=>C1 (λc=>Er (Bb c)) λ_=>C1 (λc=>Er (Bb c)) λ_=>C1 (λc=>(Er (Bb c)).tr (J3 L _ (by decide))) λ_=>C1 (λc=>(Er (Bb c)).tr (O7 q _)) λ_=>
  C1 (λ_=>(O9 L s FD).tr ((O7 hT _).tr ((Gb L _ My).tr (cY L _)))) λ_=>cb L s
theorem zu {T:List TK->PF} {L:List TK} (hT:MF L (T L)) (x:PT) (s:RS):Mv L s (Ku T L x s).2:=(O9 L s Fq).tr ((O7 hT _).tr ((Gb L _ LJ).tr (cY L _)))
theorem zr {L:List TK} (x:PT) {s:RS} (h:s.at_<L.length):Mv L s (LR L x s).2:=(Er h).tr (J3 L _ (by decide))
theorem o9 {T:List TK->PF} {L:List TK} (hT:MF L (T L)):∀(k:Nat) (x:PT) (s:RS),Mv L s (ET T L k x s).2
 |0,x,s=>Jv L s
 |k+1,x,s=>by unfold ET;exact C1 (λc=>(zr x (Bb c)).tr (o9 hT k _ _)) λ_=>C1 (λ_=>(zu hT x s).tr (o9 hT k _ _)) λ_=>Jv L s
theorem Aae {T Fi:List TK->PF} {L:List TK} (hT:MF L (T L)) (q:MF L (Fi L)):MF L (KV T Fi L):=λs=>(q s).tr (o9 hT _ _ _)
theorem Aaf {U:List TK->PF} {L:List TK} (q:MF L (U L)) (k:Int) (s:RS):Mv L s (LH k U L s).2:=(O9 L s _).tr ((O7 q _).tr (cY L _))
theorem Aah {U y:List TK->PF} {L:List TK} (q:MF L (U L)) (hT:MF L (y L)):MF L (Ij U y L):=λs=>
 C1 (λ_=>Aaf q 35 s) λ_=>C1 (λ_=>Aaf q 34 s) λ_=>hT s
theorem c9 {F:List TK->PF} {L:List TK} (q:MF L (F L)) (x:PT) {s:RS} (h:s.at_<L.length):Mv L s (Fw F L x s).2:=(Er h).tr (q _)
theorem zx {F:List TK->PF} {L:List TK} {ws:List (List UInt8)} (q:MF L (F L)):∀(k:Nat) (x:PT) (s:RS),Mv L s (Df F ws L k x s).2
 |0,x,s=>Jv L s
 |k+1,x,s=>by unfold Df;exact C1 (λc=>(c9 q x (Qo c)).tr (zx q k _ _)) λ_=>Jv L s
theorem o6 {F:List TK->PF} {L:List TK} {ws:List (List UInt8)} (q:MF L (F L)):MF L (DE F ws L):=λs=>(q s).tr (zx q _ _ _)
theorem Aac {F:List TK->PF} {L:List TK} (q:MF L (F L)):MF L (JM F L):=λs=>C1 (λc=>(q s).tr (c9 q _ (Qo c))) λ_=>q s
theorem Aai {q:List TK->PF} {L:List TK} (hT:MF L (q L)):MF L (KY q L):=λs=>(hT s).tr (Eo (P:=λr:RS=>Mv L (q L s).2 r) (λ_=>oa L _ (by decide)) λ_=>Jv L _)
theorem o7 {V T:List TK->PF} {L:List TK} (q:MF L (V L)) (hT:MF L (T L)) (t:TK):MF L (G3 V T L t):=λs=>(q s).tr ((Gb L _ _).tr ((hT _).tr (Gb L _ _)))
theorem Ahr {T B:List TK->PF} {L:List TK} (hT:MF L (T L)) (q:MF L (B L)) (t:TK) (s:RS):Mv L s (NQ T B L t s).2:=C1 (λ_=>(hT s).tr (q _)) λ_=>C1 (λc=>(hT s).tr ((q _).tr ((Er (Bb c)).tr (q _)))) λ_=>(hT s).tr (q _)
theorem ca {V:List TK->PF} {L:List TK} (q:MF L (V L)) (k:Int) (x:List UInt8) (n:Int) (t:TK) (y:PT) (s:RS):Mv L s (Ii V L k x n t y s).2:=C1 (λc=>(Er (Bb c)).tr (q _)) λ_=>Jv L s
theorem Ahs {T V:List TK->PF} {L:List TK} (hT:MF L (T L)) (y:MF L (V L)) (t q:TK) (s:RS):Mv L s (N0 T V L t q s).2:=C1 (λc=>(hT s).tr ((Er (Bb c)).tr ((J3 L _ (by decide)).tr (ca y _ _ _ _ _ _)))) λ_=>C1 (λc=>(hT s).tr ((Er (Bb c)).tr (ca y _ _ _ _ _ _))) λ_=>(hT s).tr (ca y _ _ _ _ _ _)
theorem zp {T B:List TK->PF} {L:List TK} (hT:MF L (T L)) (q:MF L (B L)) {s:RS} (h:s.at_<L.length):Mv L s (HV T B L s).2:=(Er h).tr (Ahr hT q _ _)
theorem zy {T V:List TK->PF} {L:List TK} (hT:MF L (T L)) (q:MF L (V L)) {s:RS} (h:s.at_<L.length):Mv L s (Gd T V L s).2:=C1 (λ_=>(Er h).tr ((J3 L _ (by decide)).tr (Ahs hT q _ _ _))) λ_=>(Er h).tr ((hT _).tr (ca q _ _ _ _ _ _))
theorem TJ {L:List TK} {s:RS} {r:PT×RS} (h:Mv L s r.2):Mv L s (C4 L r).2:=h.tr (Gb L _ _)
theorem Ahv {T:List TK->PF} {L:List TK} (hT:MF L (T L)) (t:TK) (k:TK×RS):Mv L k.2 (R3 T L t k).2:=(TL L k.2).tr ((Gb L _ _).tr (hT _))
theorem Aaa {T V B:List TK->PF} {L:List TK} (hT:MF L (T L)) (C:MF L (V L)) (K:MF L (B L)):MF L (CK (λL t=>G3 V T L t) (HV T B) (Gd T V) T L):=λs=>by
 by_cases E:(Aq L s).kind=2
 ·have q:s.at_<L.length:=VX (by rw[E];decide);have y:∀k,Mv L s (C4 L (Iy T L k (Aq L s) (Ai s))).2:=λk=>TJ ((Er q).tr (hT _));have J:∀k,Mv L s (C4 L (KB L k (Aq L s) (Ai s))).2:=λk=>TJ ((Er q).tr (J3 L _ (by decide)));unfold CK;exact C1 (λh=>absurd E h) λ_=>C1 (λ_=>zp hT K q) λ_=>C1 (λ_=>zp hT K q) λ_=>C1 (λ_=>TJ ((Er q).tr ((J3 L _ (by decide)).tr (Ahv hT _ _)))) λ_=>C1 (λ_=>y 15) λ_=>C1 (λ_=>y 16) λ_=>C1 (λ_=>y 17) λ_=>
   C1 (λ_=>y 18) λ_=>C1 (λ_=>TJ (zy hT C q)) λ_=>C1 (λ_=>TJ (zy hT C q)) λ_=>C1 (λ_=>J 21) λ_=>C1 (λ_=>J 22) λ_=>C1 (λ_=>TJ (Er q)) λ_=>o7 C hT _ s
 ·unfold CK;exact C1 (λ_=>o7 C hT _ s) λh=>absurd (Classical.not_not.1 h) E
theorem Q0 {St:List TK->PF} {L:List TK} (q:MF L (St L)):∀(k:Nat) (l:List PT) (s:RS),Mv L s (Bz St L k l s).2
 |0,l,s=>Jv L s
 |k+1,l,s=>by unfold Bz;exact C1 (λ_=>(q s).tr (Q0 q k _ _)) λ_=>Jv L s
theorem zo {St:List TK->PF} {L:List TK} (q:MF L (St L)):MF L (Kl St L):=λs=>(O9 L s _).tr ((Q0 q _ _ _).tr ((Gb L _ _).tr (cY L _)))
theorem Aad {L:List TK} {x:LV} (h:Sm L x):MF L (Np x L):=Aae h.t (zt h.t h.b)
theorem Aag {L:List TK} {x:LV} (h:Sm L x):MF L (HT x L):=Aah h.u (Aad h)
theorem Aab {L:List TK} {x:LV} (h:Sm L x):MF L (Fm x L):=Aac (o6 (F:=DE (HT x) [E7]) (o6 (Aag h)))
theorem Ahu {L:List TK} {x:LV} (h:Sm L x):MF L (IL x L):=Aai (Aad h)
theorem Aht {L:List TK} {x:LV} (h:Sm L x):MF L (KU x L):=Aaa (Aab h) (Ahu h) h.b
theorem cZ (L:List TK):∀n,Sm L (lv n)
 |0=>⟨λs=>Jv L s,λs=>Jv L s,λs=>Jv L s⟩
 |n+1=>⟨Aag (cZ L n),Aab (cZ L n),zo (Aht (cZ L n))⟩
theorem oZ (L:List TK):MF L (EI L):=λs=>(J3 L s (by decide)).tr ((TL L _).tr (Gb L _ _))
theorem zw {B:List TK->PF} {L:List TK} (q:MF L (B L)):MF L (Dn B L):=λs=>(O8 L s _).tr (q _)
theorem Ahp {B:List TK->PF} {L:List TK} (q:MF L (B L)) (t:TK) (x:List UInt8):MF L (K7 B L t x):=λs=>by
 unfold K7;exact C1 (λ_=>Gb L _ _) λ_=>C1 (λ_=>(TL L _).tr (Gb L _ _)) λ_=>C1 (λ_=>q _) λ_=>C1 (λ_=>(Gb L _ _).tr ((Q0 (oZ L) _ _ _).tr (Gb L _ _))) λ_=>
   C1 (λ_=>(Gb L _ _).tr ((cb L _).tr ((O8 L _ _).tr (q _)))) λ_=>(Gb L _ _).tr ((cb L _).tr ((Gb L _ _).tr ((Q0 (zw q) _ _ _).tr (Gb L _ _))))
theorem zq {B:List TK->PF} {L:List TK} (q:MF L (B L)):MF L (Gp B L):=λs=>
 C1 (λ_=>(O8 L s _).tr (q _)) λ_=>(O8 L s _).tr ((J3 L _ (by decide)).tr (Ahp q _ _ _))
theorem zz {D:List TK->PF} {L:List TK} (hD:MF L (D L)):∀(k:Nat) (l:List PT) (s:RS),Mv L s (GQ D L k l s).2
 |0,l,s=>Jv L s
 |k+1,l,s=>by unfold GQ;exact C1 (λ_=>(hD s).tr (zz hD k _ _)) λ_=>Jv L s
theorem Sr.tr {L:List TK} {s r u:RS} (h:Sr s r) (k:Mv L r u):Sr s u:=λz q=>by have:r.err=0:=Classical.byContradiction λc=>absurd q (by rw[(k.k.e c).1];exact c);have:=h z this;have:=k.a;omega
theorem Sr.of {L:List TK} {s r u:RS} (h:Mv L s r) (g:Mv L r u) (k:Sr r u):Sr s u:=λz q=>by have:r.err=0:=Classical.byContradiction λc=>absurd q (by rw[(g.k.e c).1];exact c);have:=k this q;have:=h.a;omega
structure Hy (L:List TK):Prop where
 nm:∀t∈L,t.kind=1->Fv t.text=true
 nu:∀t∈L,t.kind=3->0<=t.num/\t.num<=2147483647
structure Bd (L:List TK) (n:Nat) (s:RS):Prop where
 a:s.at_<=L.length
 l:(L.length:Int)-s.at_<n
structure WF (L:List TK) (N:Nat) (Q:Int->PT->Prop) (F:PF):Prop where
 m:MF L F
 n:∀s,(F s).2.nest=s.nest
 w:∀s,s.nest<=64->Bd L N s->(F s).2.err=0->Q s.nest (F s).1
structure WE (b:Int) (d:Int) (x:PT):Prop where
 t:E5 x.kind=true
 w:Fs x (if D3 x.kind x.text<b then d+1 else d)
structure WQ (p:Int->Bool) (d:Int) (x:PT):Prop where
 k:p x.kind=true
 w:Fs x d
structure WB (d:Int) (x:PT):Prop where
 k:x.kind=12
 w:Fs x (d+1)
structure WV (d:Int) (x:PT):Prop where
 k:XX x.kind=true
 w:WE 5 d x
structure Yg (L:List TK) (n:Nat) (x:LV):Prop where
 u:WF L n (WE 4) (x.u L)
 t:WF L n (WE 1) (x.t L)
 b:WF L n WB (x.b L)
mutual
theorem X5:∀(x:PT) (d e:Int),e<=d->Fs x d->Fs x e
 |.mk k s n l c ks,d,e,h,q=>by unfold Fs at q⊢;exact⟨by omega,q.2.1,q.2.2.1,Ac4 ks k s 0 d e h q.2.2.2⟩
theorem Ac4:∀(q:List PT) (k:Int) (s:List UInt8) (i:Nat) (d e:Int),e<=d->IP k s q i d->IP k s q i e
 | [],k,s,i,d,e,h,B=>by unfold IP;trivial
 |y::q,k,s,i,d,e,h,B=>by unfold IP at B⊢;exact⟨X5 y _ _ (by omega) B.1,Ac4 q k s (i+1) d e h B.2⟩
end
theorem EC {k n:Int} {s:List UInt8} {t:TK} {ks:List PT} {d:Int} (J:d<=64) (E:1<=k/\k<=36) (C:G6 k s=true) (B:Gc k n=true) (y:C3 (Cb k) (ks.map PT.kind)=true) (q:IP k s ks 0 d):Fs (nd k s n t ks) d:=by unfold nd Fs;exact⟨J,⟨E,C,B⟩,y,q⟩
theorem E8 (k:Int) (s:List UInt8) (i:Nat) (d:Int):IP k s [] i d:=by unfold IP;trivial
theorem EK {k:Int} {s:List UInt8} {y:PT} {q:List PT} {i:Nat} {d:Int} (h:Fs y (d+KA k s i y)) (B:IP k s q (i+1) d):IP k s (y::q) i d:=by unfold IP;exact⟨h,B⟩
theorem ub {k:Int} (s:List UInt8) (h:E5 k=true):0<D3 k s/\D3 k s<=5:=by
 unfold D3;rw[if_pos h]
 repeat' split
 all_goals omega
theorem AoB {k:Int} (h:E5 k=true):k≠12:=by unfold E5 at h;have:=of_decide_eq_true h;omega
theorem Ape {b d:Int} {x:PT} (ht:E5 x.kind=true) (h:Fs x (d+1)):WE b d x:=⟨ht,by split<;>first|exact h|exact X5 x _ _ (by omega) h⟩
theorem Vr {b d:Int} {x:PT} (ht:E5 x.kind=true) (h:Fs x d) (hb:b<=D3 x.kind x.text):WE b d x:=⟨ht,by rw[if_neg (by omega)];exact h⟩
theorem WE.mono {b c d:Int} {x:PT} (h:WE b d x) (hc:c<=b):WE c d x:=by
 refine⟨h.t,?_⟩;have:=h.w;split
 ·rwa[if_pos (by omega)]at this
 ·split at this
  ·exact X5 x _ _ (by omega) this
  ·exact this
theorem WE.EH {b d:Int} {x:PT} {k:Int} {s:List UInt8} {i:Nat} (h:WE b (d+(if k=31/\i=1\/k=34\/k=35 then 1 else 0)) x) (B:I4 k s i=b):Fs x (d+KA k s i x):=by
 have y:=(ub x.text h.t).1;have q:=AoB h.t;refine X5 x _ _ ?_ h.w;unfold KA;rw[if_neg q,B];split
 ·rename_i c;rw[if_pos c.2];omega
 ·rename_i c;rw[if_neg (λh=>c ⟨y,h⟩)];omega
theorem yx {y:PT} {k:Int} {s:List UInt8} {i:Nat} {d:Int} (q:I4 k s i=0) (B:¬(k=31/\i=1\/k=34\/k=35)) (h:Fs y (d+if y.kind=12 then 1 else 0)):Fs y (d+KA k s i y):=by refine X5 y _ _ ?_ h;unfold KA;rw[q,if_neg B,if_neg (by omega:¬(0<D3 y.kind y.text/\D3 y.kind y.text<0))];omega
abbrev Q4 (k:Int):Prop:=k≠30/\k≠31/\k≠32/\k≠34/\k≠35
theorem oY {k:Int} (h:Q4 k) (s:List UInt8) (i:Int):I4 k s i=0:=by obtain⟨B,y,q,E,C⟩:=h;unfold I4;rw[if_neg q,if_neg (by omega),if_neg B,if_neg y]
theorem WB.EH {y:PT} {k:Int} {s:List UInt8} {i:Nat} {d:Int} (h:WB d y) (q:Q4 k):Fs y (d+KA k s i y):=yx (oY q s i) (by unfold Q4 at q;omega) (by rw[if_pos h.k];exact h.w)
theorem WE.NU {b:Int} {y:PT} {k:Int} {s:List UInt8} {i:Nat} {d:Int} (h:WE b d y) (hb:0<=b) (q:Q4 k):Fs y (d+KA k s i y):=by have B:=h.mono hb;refine WE.EH (b:=0) ?_ (oY q s i);rw[if_neg (by unfold Q4 at q;omega),Int.add_zero];exact B
theorem WQ.EH {p:Int->Bool} {y:PT} {k:Int} {s:List UInt8} {i:Nat} {d:Int} (h:WQ p d y) (B:p 12=false) (q:Q4 k):Fs y (d+KA k s i y):=yx (oY q s i) (by unfold Q4 at q;omega) (by rw[if_neg (λc=>by have:=h.k;rw[c,B]at this;cases this),Int.add_zero];exact h.w)
theorem X4 {k:Int} {s:List UInt8} {d:Int}:∀(q:List PT) (i:Nat),(∀y∈q,∀j,Fs y (d+KA k s j y))->IP k s q i d
 | [],i,h=>E8 _ _ _ _
 |y::q,i,h=>EK (h y (List.mem_cons_self ..) i) (X4 q (i+1) λz hz=>h z (List.mem_cons_of_mem _ hz))
theorem wY {p:Int->Bool}:∀l:List Int,(∀k∈l,p k=true)->l.dropWhile p=[]
 | [],_=>rfl
 |k::l,h=>by rw[List.dropWhile_cons,h k (List.mem_cons_self ..)];exact wY l λz hz=>h z (List.mem_cons_of_mem _ hz)
theorem bY {c:UInt8} (l:List Int) (h:∀k∈l,Bq (c.toNat:Int) k=true):C3 [42,c] l=true:=by have e:l.dropWhile (Bq (c.toNat:Int))=[]:=wY l h;unfold C3;rw[if_pos (by decide),e];rfl
theorem Bd.mv {L:List TK} {n:Nat} {s r:RS} (h:Bd L n s) (m:Mv L s r):Bd L n r:=⟨m.b h.a,by have:=m.a;have:=h.l;omega⟩
theorem Bd.up {L:List TK} {n:Nat} {s r:RS} (h:Bd L (n+1) s) (m:Mv L s r) (k:s.at_<r.at_):Bd L n r:=⟨m.b h.a,by have:=h.l;omega⟩
theorem EO {L:List TK} {s r:RS} (h:Mv L s r) (e:r.err=0):s.err=0:=Classical.byContradiction λc=>c (by rw[<-(h.k.e c).1];exact e)
theorem Y2 {L:List TK} {s:RS} (h:(Aq L s).kind≠0):Aq L s∈L:=by
 unfold Aq at h⊢;split at h
 ·exact absurd rfl h
 ·rename_i c;rw[if_neg c];by_cases hi:s.at_.toNat<L.length
  ·rw[List.getD_eq_getElem?_getD,List.getElem?_eq_getElem hi];exact List.getElem_mem _
  ·rw[List.getD_eq_getElem?_getD,List.getElem?_eq_none (by omega)]at h;exact absurd rfl h
theorem fX {L:List TK} {s:RS} {b:Bool} (h:(Ei L s b).2.err=0):s.err=0/\b=true/\Ei L s b=(Aq L s,Ai s):=by
 unfold Ei at h⊢;split at h
 ·rename_i c;exact⟨h,c,by rw[if_pos c];rfl⟩
 ·unfold Bj at h;split at h
  ·cases h
  ·rename_i c;exact absurd h c
theorem RW (L:List TK) (s:RS) (b:Bool):(Ei L s b).2.nest=s.nest:=by
 unfold Ei;split
 ·rfl
 ·exact tQ s 4
theorem NY {L:List TK} (y:Hy L) {s:RS} (h:(AB L s 1).2.err=0):Fv (AB L s 1).1.text=true/\s.err=0/\(AB L s 1).2=Ai s:=by unfold AB at h⊢;obtain⟨C,q,B⟩:=fX h;have q:=of_decide_eq_true q;rw[B];exact⟨y.nm _ (Y2 (by rw[q];decide)) q,C,rfl⟩
theorem AhB {L:List TK} (y:Hy L) {s:RS} (h:(AB L s 3).2.err=0):(0<=(AB L s 3).1.num/\(AB L s 3).1.num<=2147483647)/\(AB L s 3).2=Ai s:=by unfold AB at h⊢;obtain⟨C,q,B⟩:=fX h;have q:=of_decide_eq_true q;rw[B];exact⟨y.nu _ (Y2 (by rw[q];decide)) q,rfl⟩
theorem II {L:List TK} {s:RS} {w:List UInt8} (h:(Aw L s w).2.err=0):s.err=0/\Ah L s w=true/\Aw L s w=(Aq L s,Ai s):=fX h
theorem AaM {L:List TK} {s:RS} {ws:List (List UInt8)} (h:(Al L s ws).2.err=0):s.err=0/\(∃w∈ws,(Aq L s).text=w)/\Al L s ws=(Aq L s,Ai s):=by unfold Al at h⊢;obtain⟨C,B,y⟩:=fX h;obtain⟨w,hw,q⟩:=List.any_eq_true.1 B;unfold Ah at q;rw[Bool.and_eq_true]at q;exact⟨C,⟨w,hw,of_decide_eq_true q.2⟩,y⟩
theorem M1 (L:List TK) (s:RS) (w:List UInt8):(AQ L s w).2.nest=s.nest+1:=by unfold AQ Aw;rw[RW];rfl
theorem cy {L:List TK} {s:RS} {w:List UInt8} (h:(AQ L s w).2.err=0):s.err=0/\Ah L s w=true/\s.nest<64/\(AQ L s w).2.at_=s.at_+1:=by
 unfold AQ at h⊢;obtain⟨y,B,C⟩:=II h;rw[C];unfold EM at y B⊢;by_cases c:Ah L s w=true/\64<=s.nest
 ·rw[if_pos c]at y;have y:(Bj s 5).err=0:=y;unfold Bj at y;split at y
  ·cases y
  ·rename_i E;exact absurd y E
 ·rw[if_neg c]at y B⊢;have e:Ah L {s with nest:=s.nest+1} w=Ah L s w:=rfl;rw[e]at B;exact⟨y,B,by
   by_cases q:64<=s.nest
   ·exact absurd ⟨B,q⟩ c
   ·omega,rfl⟩
theorem TA {L:List TK} {F:List TK->PF} {s:RS} (h:s.err=0):A5 F L s=F L s:=by unfold A5;rw[if_neg (by omega)]
theorem AoQ {L:List TK} {s:RS} {w:List UInt8} (h:Ah L s w=true):(Aq L s).text=w:=by unfold Ah at h;rw[Bool.and_eq_true]at h;exact of_decide_eq_true h.2
theorem C2 {α:Type} {P:α->Prop} {c:Prop} [Decidable c] {a b:α} (y:c->P a) (q:¬c->P b):P (if c then a else b):=by
 by_cases h:c
 ·rw[if_pos h];exact y h
 ·rw[if_neg h];exact q h
structure Fin (L:List TK) (N:Nat) (Q:Int->PT->Prop) (s:RS) (r:PT×RS):Prop where
 n:r.2.nest=s.nest
 w:s.nest<=64->Bd L N s->r.2.err=0->Q s.nest r.1
theorem WF.of {L:List TK} {n:Nat} {Q:Int->PT->Prop} {F:PF} (q:MF L F) (h:∀s,Fin L n Q s (F s)):WF L n Q F:=⟨q,λs=>(h s).n,λs=>(h s).w⟩
theorem WF.fin {L:List TK} {n:Nat} {Q:Int->PT->Prop} {F:PF} (h:WF L n Q F) (s:RS):Fin L n Q s (F s):=⟨h.n s,h.w s⟩
theorem Wk {L:List TK} {n:Nat} {b:Int} {s r:RS} {k m:Int} {x:List UInt8} {t:TK} (y:r.nest=s.nest) (hb:b<=5) (B:k=26\/k=27\/k=28\/k=29\/k=33) (h:r.err=0->G6 k x=true/\Gc k m=true):Fin L n (WE b) s (nd k x m t [],r):=⟨y,λE _ C=>by
  have q:=h C;have ht:E5 (nd k x m t []).kind=true:=by show E5 k=true;unfold E5;exact decide_eq_true (by omega)
  refine Vr ht (EC E (by omega) q.1 q.2 ?_ (E8 _ _ _ _)) ?_
  ·have:Cb k=[]:=by rcases B with h|h|h|h|h<;>subst h<;>rfl
   rw[this];rfl
  ·show b<=D3 k x;unfold D3;rw[if_pos (show E5 k=true from ht),if_neg (by omega),if_neg (by omega)];exact hb⟩
theorem Afq {L:List TK} (q:Hy L) (n:Nat) (s:RS):Fin L n (WE 5) s (BZ L s):=Wk (RW L s _) (Int.le_refl _) (by decide) λh=>⟨(NY q h).1,rfl⟩
theorem Afo {L:List TK} (y:Hy L) {n:Nat} {T B:List TK->PF} (hT:WF L n (WE 1) (T L)) (C:WF L n WB (B L)) (s:RS):Fin L (n+1) (WE 5) s (firstM T B L s):=by
 unfold firstM;refine C2 (λc=>Wk rfl (Int.le_refl _) (by decide) λ_=>⟨rfl,?_⟩) λ_=>C2 (λ_=>Wk rfl (Int.le_refl _) (by decide) λ_=>⟨rfl,rfl⟩) λ_=>C2 (λ_=>Wk rfl (Int.le_refl _) (by decide) λ_=>⟨rfl,rfl⟩) λ_=>
  C2 (λ_=>Wk (RW L _ _) (Int.le_refl _) (by decide) λh=>⟨(NY y h).1,rfl⟩) λ_=>C2 (λc=>?_) λ_=>C2 (λc=>?_) λ_=>Afq y (n+1) s
 ·have:=y.nu _ (Y2 (by rw[c];decide)) c;unfold Gc;rw[if_neg (by decide),if_neg (by decide),if_neg (by decide),if_pos rfl];exact decide_eq_true this
 ·refine⟨?_,λK J q=>?_⟩
  ·by_cases e:(Ai s).err=0
   ·rw[TA e];exact C.n _
   ·show(A5 B L (Ai s)).2.nest=_;unfold A5;rw[if_pos e];rfl
  ·have e:=EO (O7 C.m (Ai s)) q;rw[TA e]at q⊢;have hb:=C.w (Ai s) K (J.up (Er (Bb c)) (by show s.at_<s.at_+1;omega)) q;refine Vr rfl (EC K (by decide) rfl rfl ?_ (EK (hb.EH (by decide)) (E8 _ _ _ _))) (by show(5:Int)<=5;decide);show C3 [98] [(B L (Ai s)).1.kind]=true;rw[hb.k];rfl
 ·have hn:=M1 L s FD;refine⟨?_,λK J q=>?_⟩
  ·show(Aw L (A5 T L (AQ L s FD).2).2 My).2.nest-1=_;unfold Aw;rw[RW];by_cases e:(AQ L s FD).2.err=0
   ·rw[TA e,hT.n];omega
   ·unfold A5;rw[if_pos e];show(AQ L s FD).2.nest-1=_;omega
  ·have M:(Aw L (A5 T L (AQ L s FD).2).2 My).2.err=0:=q;have E:=(II M).1;have e:=EO (O7 hT.m (AQ L s FD).2) E;obtain⟨U,S,R,O⟩:=cy e;show WE 5 s.nest (A5 T L (AQ L s FD).2).1;rw[TA e]at E⊢;have ht:=hT.w (AQ L s FD).2 (by omega) (J.up (O9 L s FD) (by omega)) E;rw[hn]at ht;have:=(ht.mono (show(0:Int)<=1 by decide)).w;have V:=(ub (T L (AQ L s FD).2).1.text ht.t).1;rw[if_neg (by omega)]at this;exact Ape ht.t this
structure Sn (ws:List (List UInt8)) (bl br bn:Int):Prop where
 t:∀w∈ws,G6 32 w=true/\I4 32 w (0:Nat)=bl/\I4 32 w (1:Nat)=br/\D3 32 w=bn
theorem yg {L:List TK} {F:List TK->PF} (h:∀s,(F L s).2.nest=s.nest) (s:RS):(A5 F L s).2.nest=s.nest:=by
 unfold A5;split
 ·rfl
 ·exact h s
theorem HQ (L:List TK) (s:RS) (w:List UInt8):(Aw L s w).2.nest=s.nest:=RW L s _
theorem L1 (L:List TK) (s:RS) (k:Int):(AB L s k).2.nest=s.nest:=RW L s _
theorem TS (L:List TK) (s:RS) (ws:List (List UInt8)):(Al L s ws).2.nest=s.nest:=RW L s _
theorem tA (L:List TK) (s:RS):(B9 L s).2.nest=s.nest:=by
 unfold B9;split
 ·rfl
 ·exact TS L s _
theorem Kv (k:Int):Bq (((101:UInt8).toNat:Nat):Int) k=E5 k:=rfl
theorem ZI (L:List TK) (x:PT) (s:RS):(LR L x s).2.nest=s.nest:=L1 L _ _
theorem bQ {T:List TK->PF} {L:List TK} (h:∀s,(T L s).2.nest=s.nest) (x:PT) (s:RS):(Ku T L x s).2.nest=s.nest:=by show(Aw L (A5 T L (AQ L s Fq).2).2 LJ).2.nest-1=_;rw[HQ,yg h,M1];omega
theorem sj {T:List TK->PF} {L:List TK} (h:∀s,(T L s).2.nest=s.nest):∀(k:Nat) (x:PT) (s:RS),(ET T L k x s).2.nest=s.nest
 |0,x,s=>rfl
 |k+1,x,s=>by unfold ET;exact C2 (P:=λr:PT×RS=>r.2.nest=s.nest) (λ_=>by rw[sj h,ZI]) λ_=>C2 (P:=λr:PT×RS=>r.2.nest=s.nest) (λ_=>by rw[sj h,bQ h]) λ_=>rfl
theorem Aep {d:Int} {x:PT} {w:List UInt8} {t:TK} (q:WE 5 d x) (hd:d<=64) (y:Fv w=true):WE 5 d (nd 30 w 0 t [x]):=by refine Vr rfl (EC hd (by decide) y rfl ?_ (EK (WE.EH (b:=5) (by rw[if_neg (by decide),Int.add_zero];exact q) rfl) (E8 _ _ _ _))) (by show(5:Int)<=5;decide);show(Bq _ x.kind&&true)=true;rw[Kv,q.t];rfl
theorem Agc {d b:Int} {x y:PT} {t:TK} (q:WE 5 d x) (hd:d<=64) (hy:WE b (d+1) y) (hb:0<=b):WE 5 d (nd 31 [] 0 t [x,y]):=by refine Vr rfl (EC hd (by decide) rfl rfl ?_ (EK (WE.EH (b:=5) (by rw[if_neg (by decide),Int.add_zero];exact q) rfl) (EK (WE.EH (b:=0) (by rw[if_pos (by decide)];exact hy.mono hb) rfl) (E8 _ _ _ _)))) (by show(5:Int)<=5;decide);show(Bq _ x.kind&&(Bq _ y.kind&&true))=true;rw[Kv,Kv,q.t,hy.t];rfl
theorem sm {L:List TK} (E:Hy L) {n:Nat} {T:List TK->PF} (hT:WF L n (WE 1) (T L)):∀(k:Nat) (x:PT) (s:RS),s.nest<=64->Bd L (n+1) s->(s.err=0->WE 5 s.nest x)->(ET T L k x s).2.err=0->WE 5 s.nest (ET T L k x s).1
 |0,x,s,B,C,y,q=>y q
 |k+1,x,s,B,C,y,q=>by
  unfold ET at q⊢;by_cases c:Ah L s OC=true
  ·rw[if_pos c]at q⊢;have m:=zr (L:=L) x (Bb c);have e:=sm E hT k (LR L x s).1 (LR L x s).2 (by rw[ZI];exact B) (C.mv m) (λe=>by rw[ZI];exact Aep (y (EO m e)) B (NY E e).1) q;rwa[ZI]at e
  ·rw[if_neg c]at q⊢;by_cases M:Ah L s Fq=true
   ·rw[if_pos M]at q⊢;have m:=zu hT.m x s;have e:=sm E hT k (Ku T L x s).1 (Ku T L x s).2 (by rw[bQ hT.n];exact B) (C.mv m) (λe=>by rw[bQ hT.n];have R:(Aw L (A5 T L (AQ L s Fq).2).2 LJ).2.err=0:=e;have J:=(II R).1;have K:=EO (O7 hT.m (AQ L s Fq).2) J;obtain⟨O,V,U,S⟩:=cy K;show WE 5 s.nest (nd 31 [] 0 (AQ L s Fq).1 [x,(A5 T L (AQ L s Fq).2).1]);rw[TA K]at J⊢;have ht:=hT.w (AQ L s Fq).2 (by rw[M1];omega) (C.up (O9 L s Fq) (by omega)) J;rw[M1]at ht;exact Agc (y O) B ht (by decide)) q;rwa[bQ hT.n]at e
   ·rw[if_neg M]at q⊢;exact y q
theorem Apk {L:List TK} (C:Hy L) {n:Nat} {T Fi:List TK->PF} (hT:WF L n (WE 1) (T L)) (q:WF L (n+1) (WE 5) (Fi L)):WF L (n+1) (WE 5) (KV T Fi L):=⟨Aae hT.m q.m,λs=>by show(ET T L (B7 L) (Fi L s).1 (Fi L s).2).2.nest=_;rw[sj hT.n,q.n],λs B y E=>by have m:=q.m s;have:=sm C hT (B7 L) (Fi L s).1 (Fi L s).2 (by rw[q.n];exact B) (y.mv m) (λe=>by rw[q.n];exact q.w s B y e) E;rwa[q.n]at this⟩
theorem AcM {U:List TK->PF} {L:List TK} (h:∀s,(U L s).2.nest=s.nest) (k:Int) (s:RS):(LH k U L s).2.nest=s.nest:=by show(A5 U L (AQ L s (Aq L s).text).2).2.nest-1=_;rw[yg h,M1];omega
theorem AcN {L:List TK} {n:Nat} {U:List TK->PF} (B:WF L n (WE 4) (U L)) {k:Int} (q:k=34\/k=35) (s:RS) (R:s.nest<=64) (O:Bd L (n+1) s) (M:(LH k U L s).2.err=0):WE 4 s.nest (LH k U L s).1:=by
 have y:(A5 U L (AQ L s (Aq L s).text).2).2.err=0:=M;have C:=EO (O7 B.m (AQ L s (Aq L s).text).2) y;obtain⟨Y,W,V,S⟩:=cy C;show WE 4 s.nest (nd k [] 0 (AQ L s (Aq L s).text).1 [(A5 U L (AQ L s (Aq L s).text).2).1]);rw[TA C]at y⊢;have hu:=B.w (AQ L s (Aq L s).text).2 (by rw[M1];omega) (O.up (O9 L s _) (by omega)) y;rw[M1]at hu;have J:I4 k [] (0:Nat)=4:=by rcases q with rfl|rfl<;>rfl
 have E:k=31/\(0:Nat)=1\/k=34\/k=35:=.inr q;have K:Cb k=[101]:=by rcases q with rfl|rfl<;>rfl
 have hb:D3 k []=4:=by rcases q with rfl|rfl<;>rfl
 have ht:E5 k=true:=by rcases q with rfl|rfl<;>rfl
 refine Vr ht (EC R (by omega) (by rcases q with rfl|rfl<;>rfl) (by rcases q with rfl|rfl<;>rfl) ?_ (EK (WE.EH (b:=4) (by rw[if_pos E];exact hu) J) (E8 _ _ _ _))) (by show(4:Int)<=D3 k [];rw[hb];decide);rw[K];show(Bq _ (U L (AQ L s (Aq L s).text).2).1.kind&&true)=true;rw[Kv,hu.t];rfl
theorem Apl {L:List TK} {n:Nat} {U E:List TK->PF} (q:WF L n (WE 4) (U L)) (hT:WF L (n+1) (WE 5) (E L)):WF L (n+1) (WE 4) (Ij U E L):=⟨Aah q.m hT.m,λs=>C2 (P:=λr:PT×RS=>r.2.nest=s.nest) (λ_=>AcM q.n 35 s) λ_=>C2 (P:=λr:PT×RS=>r.2.nest=s.nest) (λ_=>AcM q.n 34 s) λ_=>hT.n s,λs C B=>C2 (P:=λr:PT×RS=>r.2.err=0->WE 4 s.nest r.1) (λ_ y=>AcN q (.inr rfl) s C B y) λ_=>C2 (P:=λr:PT×RS=>r.2.err=0->WE 4 s.nest r.1) (λ_ y=>AcN q (.inl rfl) s C B y) λ_ y=>(hT.w s C B y).mono (by decide)⟩
theorem W8 {F:List TK->PF} {L:List TK} (h:∀s,(F L s).2.nest=s.nest) (x:PT) (s:RS):(Fw F L x s).2.nest=s.nest:=h (Ai s)
theorem AaV {ws:List (List UInt8)} {B br q:Int} (K:Sn ws B br q) {w:List UInt8} (L:w∈ws) {d:Int} {x y:PT} {t:TK} (hd:d<=64) (C:WE B d x) (hy:WE br d y):WE q d (nd 32 w 0 t [x,y]):=by obtain⟨J,t2,t3,E⟩:=K.t w L;refine Vr rfl (EC hd (by decide) J rfl ?_ (EK (WE.EH (b:=B) (by rw[if_neg (by decide),Int.add_zero];exact C) t2) (EK (WE.EH (b:=br) (by rw[if_neg (by decide),Int.add_zero];exact hy) t3) (E8 _ _ _ _)))) (by show q<=D3 32 w;rw[E];exact Int.le_refl _);show(Bq _ x.kind&&(Bq _ y.kind&&true))=true;rw[Kv,Kv,C.t,hy.t];rfl
theorem u7 {L:List TK} {s:RS} {ws:List (List UInt8)} (h:ws.any (Ah L s)=true):(Aq L s).text∈ws:=by obtain⟨w,hw,q⟩:=List.any_eq_true.1 h;rw[AoQ q];exact hw
theorem AaP {F:List TK->PF} {L:List TK} {ws:List (List UInt8)} (h:∀s,(F L s).2.nest=s.nest):∀(k:Nat) (x:PT) (s:RS),(Df F ws L k x s).2.nest=s.nest
 |0,x,s=>rfl
 |k+1,x,s=>by unfold Df;exact C2 (P:=λr:PT×RS=>r.2.nest=s.nest) (λ_=>by rw[AaP h,W8 h]) λ_=>rfl
theorem AaR {L:List TK} {n:Nat} {F:List TK->PF} {ws:List (List UInt8)} {E br:Int} (K:Sn ws E br E) (y:WF L n (WE br) (F L)):∀(k:Nat) (x:PT) (s:RS),s.nest<=64->Bd L n s->(s.err=0->WE E s.nest x)->(Df F ws L k x s).2.err=0->WE E s.nest (Df F ws L k x s).1
 |0,x,s,C,J,B,q=>B q
 |k+1,x,s,C,J,B,q=>by
  unfold Df at q⊢;by_cases c:ws.any (Ah L s)=true
  ·rw[if_pos c]at q⊢;have m:=c9 y.m x (Qo c);have e:=AaR K y k (Fw F L x s).1 (Fw F L x s).2 (by rw[W8 y.n];exact C) (J.mv m) (λe=>by rw[W8 y.n];have M:=y.w (Ai s) C (J.mv (Er (Qo c))) e;exact AaV K (u7 c) C (B (EO m e)) M) q;rwa[W8 y.n]at e
  ·rw[if_neg c]at q⊢;exact B q
theorem Ac7 {L:List TK} {n:Nat} {F:List TK->PF} {ws:List (List UInt8)} {y br:Int} (E:Sn ws y br y) (hb:y<=br) (q:WF L n (WE br) (F L)):WF L n (WE y) (DE F ws L):=⟨o6 q.m,λs=>by show(Df F ws L (B7 L) (F L s).1 (F L s).2).2.nest=_;rw[AaP q.n,q.n],λs C B J=>by have m:=q.m s;have:=AaR E q (B7 L) (F L s).1 (F L s).2 (by rw[q.n];exact C) (B.mv m) (λe=>by rw[q.n];exact(q.w s C B e).mono hb) J;rwa[q.n]at this⟩
theorem Aji:Sn [E7] 3 4 3:=⟨λw h=>by rw[List.mem_singleton.1 h];exact⟨rfl,rfl,rfl,rfl⟩⟩
theorem Ajg:Sn [Gi,Gj] 2 3 2:=⟨λw h=>by
 rcases List.mem_cons.1 h with rfl|h
 ·exact⟨rfl,rfl,rfl,rfl⟩
 ·rw[List.mem_singleton.1 h];exact⟨rfl,rfl,rfl,rfl⟩⟩
theorem Ajh:Sn [Mx,Mu] 2 2 1:=⟨λw h=>by
 rcases List.mem_cons.1 h with rfl|h
 ·exact⟨rfl,rfl,rfl,rfl⟩
 ·rw[List.mem_singleton.1 h];exact⟨rfl,rfl,rfl,rfl⟩⟩
theorem Apj {L:List TK} {n:Nat} {F:List TK->PF} (q:WF L n (WE 2) (F L)):WF L n (WE 1) (JM F L):=⟨Aac q.m,λs=>C2 (P:=λr:PT×RS=>r.2.nest=s.nest) (λ_=>by rw[W8 q.n,q.n]) λ_=>q.n s,λs C B=>by unfold JM;refine C2 (P:=λr:PT×RS=>r.2.err=0->WE 1 s.nest r.1) (λc y=>?_) λ_ y=>(q.w s C B y).mono (by decide);have m:=c9 q.m (F L s).1 (Qo c);have a:=(q.m s).a;have hn:=q.n s;have J:=q.w s C B (EO m y);have E:=q.w (Ai (F L s).2) (by show(F L s).2.nest<=64;omega) ((B.mv (q.m s)).mv (Er (Qo c))) y;rw[show(Ai (F L s).2).nest=s.nest from hn]at E;exact AaV Ajh (u7 c) C J E⟩
theorem Apm {L:List TK} {n:Nat} {q:List TK->PF} (hT:WF L n (WE 5) (q L)):WF L n WV (KY q L):=⟨Aai hT.m,λs=>by
  show(if(q L s).2.err=0/\(q L s).1.kind≠29/\(q L s).1.kind≠30/\(q L s).1.kind≠31 then Bj (q L s).2 4 else(q L s).2).nest=_;split
  ·rw[tQ,hT.n]
  ·exact hT.n s,λs C B y=>by
  have y:(if(q L s).2.err=0/\(q L s).1.kind≠29/\(q L s).1.kind≠30/\(q L s).1.kind≠31 then Bj (q L s).2 4 else(q L s).2).err=0:=y;split at y
  ·rename_i c;unfold Bj at y;rw[if_pos c.1]at y;cases y
  ·rename_i c;exact⟨by unfold XX;exact decide_eq_true (show(q L s).1.kind=29\/(q L s).1.kind=30\/(q L s).1.kind=31 by omega),hT.w s C B y⟩⟩
def k5 (k:Int):Bool:=decide (k=5)
def oA (k:Int):Bool:=decide (k=29)
theorem ym (k:Int):Bq (((118:UInt8).toNat:Nat):Int) k=XX k:=rfl
theorem nv (k:Int):Bq (((121:UInt8).toNat:Nat):Int) k=k5 k:=rfl
theorem QR (k:Int):Bq (((98:UInt8).toNat:Nat):Int) k=decide (k=12):=rfl
theorem yl (k:Int):Bq (((117:UInt8).toNat:Nat):Int) k=oA k:=rfl
theorem tB {L:List TK} (y:Hy L) {s:RS} (q:s.nest<=64) (h:(B9 L s).2.err=0):WQ k5 s.nest (B9 L s).1:=by
 unfold B9 at h⊢;by_cases c:(Aq L s).kind=1
 ·rw[if_pos c];have hn:=y.nm _ (Y2 (by rw[c];decide)) c;exact⟨rfl,EC q (by decide) (by show Jk _=true;unfold Jk;rw[hn,Bool.or_true]) rfl rfl (E8 _ _ _ _)⟩
 ·rw[if_neg c]at h⊢;obtain⟨E,⟨w,hw,C⟩,B⟩:=AaM h;rw[B];have ht:∀w∈EL,Jk w=true:=by decide
  exact⟨rfl,EC q (by decide) (by show Jk (Aq L s).text=true;rw[C];exact ht w hw) rfl rfl (E8 _ _ _ _)⟩
theorem AcO {L:List TK} (q:Hy L) {s:RS} (y:s.nest<=64) (h:(BZ L s).2.err=0):WQ oA s.nest (BZ L s).1:=⟨rfl,EC y (by decide) (NY q h).1 rfl rfl (E8 _ _ _ _)⟩
theorem wf_set {L:List TK} {n:Nat} {V T:List TK->PF} (q:WF L n WV (V L)) (hT:WF L n (WE 1) (T L)) (t:TK):WF L n (WQ JJ) (G3 V T L t):=⟨o7 q.m hT.m t,λs=>by show(Aw L (T L (Aw L (V L s).2 FX).2).2 Fp).2.nest=_;rw[HQ,hT.n,HQ,q.n],λs B C J=>by have E:=(II (show(Aw L (T L (Aw L (V L s).2 FX).2).2 Fp).2.err=0 from J)).1;have M:=EO (hT.m _) E;have K:=(II M).1;have v:=q.w s B C K;have y:=hT.w (Aw L (V L s).2 FX).2 (by rw[HQ,q.n];exact B) ((C.mv (q.m s)).mv (Gb L _ _)) E;rw[HQ,q.n]at y;refine⟨rfl,EC B (by decide) rfl rfl ?_ (EK (v.w.NU (by decide) (by decide)) (EK (y.NU (by decide) (by decide)) (E8 _ _ _ _)))⟩;show(Bq _ (V L s).1.kind&&(Bq _ (T L (Aw L (V L s).2 FX).2).1.kind&&true))=true;rw[ym,Kv,v.k,y.t];rfl⟩
theorem Wl {L:List TK} {n:Nat} {Q:Int->PT->Prop} {s:RS} {r:PT×RS} (h:Fin L n Q s r):Fin L n Q s (C4 L r):=⟨by show(Aw L r.2 Fp).2.nest=_;rw[HQ,h.n],λB y q=>h.w B y (II (show(Aw L r.2 Fp).2.err=0 from q)).1⟩
theorem yh {d b:Int} {x y z:PT} {t:TK} (B:d<=64) (hb:0<=b) (q:WE b d x) (hy:WB d y) (hz:WB d z):WQ JJ d (nd 23 [] 0 t [x,y,z]):=by refine⟨rfl,EC B (by decide) rfl rfl ?_ (EK (q.NU hb (by decide)) (EK (hy.EH (by decide)) (EK (hz.EH (by decide)) (E8 _ _ _ _))))⟩;show(Bq _ x.kind&&(Bq _ y.kind&&(Bq _ z.kind&&true)))=true;rw[Kv,QR,QR,q.t,hy.k,hz.k];rfl
theorem Afm {L:List TK} {n:Nat} {T B:List TK->PF} (hT:WF L (n+1) (WE 1) (T L)) (K:WF L n WB (B L)) {s:RS} (Y:s.at_<L.length):Fin L (n+1) (WQ JJ) s (HV T B L s):=by
 show Fin L (n+1) (WQ JJ) s (NQ T B L (Aq L s) (Ai s));have V:=Er Y;have S:=hT.m (Ai s);have W:=hT.n (Ai s);have mB:=K.m (T L (Ai s)).2;have Z:=K.n (T L (Ai s)).2;have n1:(Ai s).nest=s.nest:=rfl;have up:∀r,Mv L (Ai s) r->Bd L (n+1) s->Bd L n r:=λr m b=>b.up (V.tr m) (by have:=m.a;have:s.at_+1<=r.at_:=this;omega);have key:s.nest<=64->Bd L (n+1) s->(B L (T L (Ai s)).2).2.err=0->WE 1 s.nest (T L (Ai s)).1/\WB s.nest (B L (T L (Ai s)).2).1:=λC E q=>by have e:=EO mB q;have J:=hT.w (Ai s) C (E.mv V) e;have y:=K.w (T L (Ai s)).2 (by omega) (up _ S E) q;rw[W]at y;exact⟨J,y⟩
 unfold NQ;refine C2 (λ_=>⟨by show(B L (T L (Ai s)).2).2.nest=_;omega,λC E q=>?_⟩) λ_=>C2 (λc=>⟨?_,λC E q=>?_⟩) λ_=>⟨by show(B L (T L (Ai s)).2).2.nest=_;omega,λC E q=>?_⟩
 ·obtain⟨J,y⟩:=key C E q;refine⟨rfl,EC C (by decide) rfl rfl ?_ (EK (J.NU (by decide) (by decide)) (EK (y.EH (by decide)) (E8 _ _ _ _)))⟩;show(Bq _ (T L (Ai s)).1.kind&&(Bq _ (B L (T L (Ai s)).2).1.kind&&true))=true;rw[Kv,QR,J.t,y.k];rfl
 ·show(B L (Ai (B L (T L (Ai s)).2).2)).2.nest=_;rw[K.n];show(B L (T L (Ai s)).2).2.nest=_;omega
 ·have U:=Er (Bb c);have q:(B L (Ai (B L (T L (Ai s)).2).2)).2.err=0:=q;have e:=EO U (EO (K.m _) q);obtain⟨J,y⟩:=key C E e;have R:=K.w (Ai (B L (T L (Ai s)).2).2) (by show(B L (T L (Ai s)).2).2.nest<=64;omega) (up _ (S.tr (mB.tr U)) E) q;rw[show(Ai (B L (T L (Ai s)).2).2).nest=s.nest by show(B L (T L (Ai s)).2).2.nest=_;omega]at R;exact yh C (by decide) J y R
 ·obtain⟨J,y⟩:=key C E q;have M:=y.w;have O:s.nest+1<=64:=by
   cases hb:(B L (T L (Ai s)).2).1 with
   |mk=>rw[hb]at M;unfold Fs at M;exact M.1
  exact yh C (by decide) J y ⟨rfl,EC O (by decide) rfl rfl rfl (E8 _ _ _ _)⟩
theorem Z1 {L:List TK} {n:Nat} {V:List TK->PF} (J:WF L n WV (V L)) {k m:Int} {x:List UInt8} {t:TK} {y:PT} {s r:RS} (hn:r.nest=s.nest) (mv:Mv L s r) (S:k=19\/k=20) (h:s.nest<=64->Bd L n s->r.err=0->G6 k x=true/\Gc k m=true/\WE 1 s.nest y):Fin L n (WQ JJ) s (Ii V L k x m t y r):=by
 have O:JJ k=true:=by rcases S with rfl|rfl<;>rfl
 have R:Cb k=[101,63,118]:=by rcases S with rfl|rfl<;>rfl
 unfold Ii;refine C2 (λc=>⟨by show(V L (Ai r)).2.nest=_;rw[J.n];exact hn,λB E q=>?_⟩) λ_=>⟨hn,λB E q=>?_⟩
 ·have M:=Er (Bb c);have q:(V L (Ai r)).2.err=0:=q;obtain⟨a1,K,C⟩:=h B E (EO M (EO (J.m _) q));have v:=J.w (Ai r) (by show r.nest<=64;omega) ((E.mv mv).mv M) q;rw[show(Ai r).nest=s.nest from hn]at v;refine⟨O,EC B (by omega) a1 K ?_ (EK (C.NU (by decide) (by omega)) (EK (v.w.NU (by decide) (by omega)) (E8 _ _ _ _)))⟩;rw[R];show(Bq _ y.kind&&(if Bq (((118:UInt8).toNat:Nat):Int) (V L (Ai r)).1.kind then []else [(V L (Ai r)).1.kind]).isEmpty)=true;rw[Kv,ym,C.t,v.k];rfl
 ·obtain⟨a1,K,C⟩:=h B E q;refine⟨O,EC B (by omega) a1 K ?_ (EK (C.NU (by decide) (by omega)) (E8 _ _ _ _))⟩;rw[R];show(Bq _ y.kind&&true)=true;rw[Kv,C.t];rfl
theorem Afp {L:List TK} (R:Hy L) {n:Nat} {T V:List TK->PF} (hT:WF L n (WE 1) (T L)) (K:WF L n WV (V L)) {s:RS} (S:s.at_<L.length):Fin L n (WQ JJ) s (Gd T V L s):=by
 have J:=Er S;unfold Gd;refine C2 (λ_=>?_) λ_=>Z1 K (by rw[hT.n];rfl) (J.tr (hT.m _)) (.inr rfl) λC B y=>⟨rfl,rfl,hT.w (Ai s) C (B.mv J) y⟩;have mk:=J3 L (Ai s) (k:=1) (by decide);have nk:=L1 L (Ai s) 1;have O:=hT.m (AB L (Ai s) 1).2;have U:=hT.n (AB L (Ai s) 1).2;have n1:(Ai s).nest=s.nest:=rfl;have key:s.nest<=64->Bd L n s->(T L (AB L (Ai s) 1).2).2.err=0->Fv (AB L (Ai s) 1).1.text=true/\WE 1 s.nest (T L (AB L (Ai s) 1).2).1:=λC B y=>by have w:=hT.w (AB L (Ai s) 1).2 (by omega) ((B.mv J).mv mk) y;rw[nk]at w;exact⟨(NY R (EO O y)).1,w⟩
 have M:=J.tr (mk.tr O);unfold N0;refine C2 (λc=>?_) λ_=>C2 (λc=>?_) λ_=>Z1 K (by omega) M (.inl rfl) λC B y=>by obtain⟨a,b⟩:=key C B y;exact⟨a,rfl,b⟩
 ·have E:=Er (Bb c);refine Z1 K (by rw[L1];show(T L (AB L (Ai s) 1).2).2.nest=_;omega) (M.tr (E.tr (J3 L _ (by decide)))) (.inl rfl) λC B y=>?_;obtain⟨q,-⟩:=AhB R y;obtain⟨a,b⟩:=key C B (EO E (EO (J3 L _ (by decide)) y));refine⟨a,?_,b⟩;unfold Gc;rw[if_neg (by decide),if_neg (by decide),if_pos rfl];exact decide_eq_true (by omega)
 ·have E:=Er (Bb c);refine Z1 K (by show(T L (AB L (Ai s) 1).2).2.nest=_;omega) (M.tr E) (.inl rfl) λC B y=>?_;obtain⟨a,b⟩:=key C B (EO E y);exact⟨a,rfl,b⟩
theorem Z0 {L:List TK} {n:Nat} {T:List TK->PF} (hT:WF L n (WE 1) (T L)) {k:Int} (q:k=15\/k=16\/k=17\/k=18) {t:TK} {s:RS} (y:s.at_<L.length):Fin L n (WQ JJ) s (C4 L (Iy T L k t (Ai s))):=Wl ⟨hT.n (Ai s),λB E C=>by
  have w:=hT.w (Ai s) B (E.mv (Er y)) C;have y:Cb k=[101]:=by rcases q with rfl|rfl|rfl|rfl<;>rfl
  refine⟨by rcases q with rfl|rfl|rfl|rfl<;>rfl,EC B (by omega) (by rcases q with rfl|rfl|rfl|rfl<;>rfl) (by rcases q with rfl|rfl|rfl|rfl<;>rfl) ?_ (EK (w.NU (by decide) (by omega)) (E8 _ _ _ _))⟩;rw[y];show(Bq _ (T L (Ai s)).1.kind&&true)=true;rw[Kv,w.t];rfl⟩
theorem xO {L:List TK} (B:Hy L) {n:Nat} {k:Int} (y:k=21\/k=22) {t:TK} {s:RS}:Fin L n (WQ JJ) s (C4 L (KB L k t (Ai s))):=Wl ⟨L1 L (Ai s) 1,λE J C=>by have q:=(NY B C).1;rcases y with rfl|rfl<;>exact⟨rfl,EC E (by decide) q rfl rfl (E8 _ _ _ _)⟩⟩
theorem Api {L:List TK} (y:Hy L) {n:Nat} {T V B:List TK->PF} (hT:WF L (n+1) (WE 1) (T L)) (K:WF L (n+1) WV (V L)) (R:WF L n WB (B L)):WF L (n+1) (WQ JJ) (CK (λL t=>G3 V T L t) (HV T B) (Gd T V) T L):=by
 refine WF.of (Aaa hT.m K.m R.m) λs=>?_;have st:Fin L (n+1) (WQ JJ) s (G3 V T L (Aq L s) s):=(wf_set K hT _).fin s;by_cases J:(Aq L s).kind=2
 ·have q:s.at_<L.length:=VX (by rw[J];decide);have Y:=Er q;have br:=Afm hT R q;have O:=Wl (Afp y hT K q);unfold CK;refine C2 (λh=>absurd J h) λ_=>C2 (λ_=>br) λ_=>C2 (λ_=>br) λ_=>C2 (λ_=>Wl ?_) λ_=>C2 (λ_=>Z0 hT (by decide) q) λ_=>C2 (λ_=>Z0 hT (by decide) q) λ_=>C2 (λ_=>Z0 hT (by decide) q) λ_=>
   C2 (λ_=>Z0 hT (by decide) q) λ_=>C2 (λ_=>O) λ_=>C2 (λ_=>O) λ_=>C2 (λ_=>xO y (by decide)) λ_=>C2 (λ_=>xO y (by decide)) λ_=>C2 (λ_=>Wl ⟨rfl,λM S C=>⟨rfl,EC M (by decide) rfl rfl rfl (E8 _ _ _ _)⟩⟩) λ_=>st
  have mk:=J3 L (Ai s) (k:=1) (by decide);have n1:(Ai s).nest=s.nest:=rfl;have nk:=L1 L (Ai s) 1;have nt:=tA L (AB L (Ai s) 1).2;have ns:=HQ L (B9 L (AB L (Ai s) 1).2).2 FX;have mt:=TL L (AB L (Ai s) 1).2;have W:=Gb L (B9 L (AB L (Ai s) 1).2).2 FX;refine⟨by show(T L (Aw L (B9 L (AB L (Ai s) 1).2).2 FX).2).2.nest=_;rw[hT.n];omega,λM S C=>?_⟩;have C:(T L (Aw L (B9 L (AB L (Ai s) 1).2).2 FX).2).2.err=0:=C;have U:=(II (EO (hT.m _) C)).1;have Z:=EO mt U;have ty:=tB y (by omega) U;have E:=hT.w (Aw L (B9 L (AB L (Ai s) 1).2).2 FX).2 (by omega) ((((S.mv Y).mv mk).mv mt).mv W) C;rw[nk,n1]at ty;rw[ns,nt,nk,n1]at E;refine⟨rfl,EC M (by decide) (NY y Z).1 rfl ?_ (EK (ty.EH rfl (by decide)) (EK (E.NU (by decide) (by decide)) (E8 _ _ _ _)))⟩;show(Bq _ (B9 L (AB L (Ai s) 1).2).1.kind&&(Bq _ (T L (Aw L (B9 L (AB L (Ai s) 1).2).2 FX).2).1.kind&&true))=true;rw[nv,Kv,ty.k,E.t];rfl
 ·unfold CK;exact C2 (λ_=>st) λh=>absurd (Classical.not_not.1 h) J
def k4 (k:Int):Bool:=decide (k=4)
def k9 (k:Int):Bool:=decide (k=9)
structure VW (p:Int->Bool) (d:Int) (l:List PT):Prop where
 a:∀y∈l,WQ p d y
structure uO (d:Int) (l:List PT):Prop where
 a:∃u ys,l=u::ys/\WQ oA d u/\VW k9 d ys
theorem Agi (k:Int):Bq (((115:UInt8).toNat:Nat):Int) k=JJ k:=rfl
theorem Agf (k:Int):Bq (((100:UInt8).toNat:Nat):Int) k=ND k:=rfl
theorem Agh (k:Int):Bq (((109:UInt8).toNat:Nat):Int) k=k4 k:=rfl
theorem Agg (k:Int):Bq (((108:UInt8).toNat:Nat):Int) k=k9 k:=rfl
theorem gF {p:Int->Bool} (d:Int) (l:List PT) (y:PT) (h:VW p d l) (hy:WQ p d y):VW p d (l++[y]):=⟨λz hz=>by
 rcases List.mem_append.1 hz with hz|hz
 ·exact h.a z hz
 ·rw[List.mem_singleton.1 hz];exact hy⟩
theorem Apd (d:Int) (l:List PT) (y:PT) (h:uO d l) (hy:WQ k9 d y):uO d (l++[y]):=by obtain⟨u,q,rfl,C,B⟩:=h.a;exact⟨⟨u,q++[y],rfl,C,gF d q y B hy⟩⟩
theorem Za {St:List TK->PF} {L:List TK} (h:∀s,(St L s).2.nest=s.nest):∀(k:Nat) (l:List PT) (s:RS),(Bz St L k l s).2.nest=s.nest
 |0,l,s=>rfl
 |k+1,l,s=>by unfold Bz;exact C2 (P:=λr:List PT×RS=>r.2.nest=s.nest) (λ_=>by rw[Za h,h]) λ_=>rfl
theorem Zc {P:Int->List PT->Prop} {Q:Int->PT->Prop} (hP:∀d l y,P d l->Q d y->P d (l++[y])) {L:List TK} {n:Nat} {St:List TK->PF} (B:WF L n Q (St L)):∀(k:Nat) (l:List PT) (s:RS),s.nest<=64->Bd L n s->(s.err=0->P s.nest l)->(Bz St L k l s).2.err=0->P s.nest (Bz St L k l s).1
 |0,l,s,J,E,C,q=>C q
 |k+1,l,s,J,E,C,q=>by
  unfold Bz at q⊢;by_cases c:s.err=0/\Ah L s C5=false
  ·rw[if_pos c]at q⊢;have e:=Zc hP B k (l++[(St L s).1]) (St L s).2 (by rw[B.n];exact J) (E.mv (B.m s)) (λe=>by rw[B.n];exact hP _ _ _ (C c.1) (B.w s J E e)) q;rwa[B.n]at e
  ·rw[if_neg c]at q⊢;exact C q
theorem Apf {L:List TK} {n:Nat} {St:List TK->PF} (q:WF L (n+1) (WQ JJ) (St L)):WF L (n+1) WB (Kl St L):=⟨zo q.m,λs=>by show(Aw L (IX St L (AQ L s BP).2).2 C5).2.nest-1=_;rw[HQ];unfold IX;rw[Za q.n,M1];omega,λs U J E=>by have B:=(II (show(Aw L (IX St L (AQ L s BP).2).2 C5).2.err=0 from E)).1;have K:=EO (Q0 q.m (B7 L) [] (AQ L s BP).2) B;obtain⟨S,R,O,M⟩:=cy K;have w:=Zc gF q (B7 L) [] (AQ L s BP).2 (by rw[M1];omega) (J.mv (O9 L s _)) (λ_=>⟨λy hy=>by cases hy⟩) B;rw[M1]at w;refine⟨rfl,EC (by omega) (by decide) rfl rfl (bY _ λk C=>?_) (X4 _ 0 λy hy j=>(w.a y hy).EH rfl (by decide))⟩;obtain⟨y,hy,rfl⟩:=List.mem_map.1 C;rw[Agi];exact(w.a y hy).k⟩
theorem WF.up {L:List TK} {n:Nat} {Q:Int->PT->Prop} {F:PF} (h:WF L (n+1) Q F):WF L n Q F:=⟨h.m,h.n,λs B q y=>h.w s B ⟨q.a,by have:=q.l;omega⟩ y⟩
theorem WF.mono {L:List TK} {n:Nat} {Q R:Int->PT->Prop} {F:PF} (h:WF L n Q F) (q:∀d x,Q d x->R d x):WF L n R F:=⟨h.m,h.n,λs C B y=>q _ _ (h.w s C B y)⟩
theorem Ahg (L:List TK):Yg L 0 (lv 0):=by have key:∀Q:Int->PT->Prop,WF L 0 Q (λs=>(EV,s)):=λQ=>⟨λs=>Jv L s,λs=>rfl,λs B q y=>by have:=q.a;have:=q.l;omega⟩;exact⟨key _,key _,key _⟩
theorem Ahf {L:List TK} (q:Hy L) {n:Nat} {x:LV} (h:Yg L n x):Yg L (n+1) (W5 x):=by have K:WF L (n+1) (WE 5) (firstM x.t x.b L):=WF.of (zt h.t.m h.b.m) (Afo q h.t h.b);have B:WF L (n+1) (WE 5) (Np x L):=Apk (Fi:=firstM x.t x.b) q h.t K;have y:WF L (n+1) (WE 4) (HT x L):=Apl h.u B;have J:WF L (n+1) (WE 3) (DE (HT x) [E7] L):=Ac7 Aji (by decide) y;have E:WF L (n+1) (WE 2) (DE (DE (HT x) [E7]) [Gi,Gj] L):=Ac7 (F:=DE (HT x) [E7]) Ajg (by decide) J;have C:WF L (n+1) (WE 1) (Fm x L):=Apj (F:=DE (DE (HT x) [E7]) [Gi,Gj]) E;have va:WF L (n+1) WV (IL x L):=Apm B;exact⟨y,C,Apf (St:=KU x) (Api q C va h.b)⟩
theorem z5 {L:List TK} (q:Hy L):∀n,Yg L n (lv n)
 |0=>Ahg L
 |n+1=>Ahf q (z5 q n)
theorem Ac6 {L:List TK} (q:Hy L) (n:Nat):WF L n (WQ k4) (EI L):=⟨oZ L,λs=>by show(Aw L (B9 L (AB L s 1).2).2 Fp).2.nest=_;rw[HQ,tA,L1],λs y J C=>by have B:=(II (show(Aw L (B9 L (AB L s 1).2).2 Fp).2.err=0 from C)).1;have E:=EO (TL L _) B;have ty:=tB q (by rw[L1];exact y) B;rw[L1]at ty;refine⟨rfl,EC y (by decide) (NY q E).1 rfl ?_ (EK (ty.EH rfl (by decide)) (E8 _ _ _ _))⟩;show(Bq _ (B9 L (AB L s 1).2).1.kind&&true)=true;rw[nv,ty.k];rfl⟩
theorem AgX (x:List UInt8):0<=Iw x/\Iw x<=3:=by
 unfold Iw
 repeat' split
 all_goals omega
theorem Aph {L:List TK} {n:Nat} {B:List TK->PF} (q:WF L n WB (B L)):WF L n (WQ k9) (Dn B L):=⟨zw q.m,λs=>by show(B L (Al L s Bf).2).2.nest=_;rw[q.n,TS],λs y E C=>by
  have b:=q.w (Al L s Bf).2 (by rw[TS];exact y) (E.mv (O8 L s _)) C;rw[TS]at b;refine⟨rfl,EC y (by decide) rfl ?_ ?_ (EK (b.EH (by decide)) (E8 _ _ _ _))⟩
  ·unfold Gc;rw[if_pos rfl];exact decide_eq_true (AgX _)
  ·show(Bq _ (B L (Al L s Bf).2).1.kind&&true)=true;rw[QR,b.k];rfl⟩
theorem Afn {L:List TK} (R:Hy L) {n:Nat} {B:List TK->PF} (K:WF L n WB (B L)) {t:TK} {x:List UInt8} {s r:RS} (hn:r.nest=s.nest) (mv:Mv L s r) (M:r.err=0->Fv x=true):Fin L n (WQ ND) s (K7 B L t x r):=by
 have V:=λv=>cb L (Aw L v CT).2;unfold K7;refine C2 (λ_=>⟨by show(Aw L r Fp).2.nest=_;rw[HQ];exact hn,λC J q=>⟨rfl,EC C (by decide) (M (II q).1) rfl rfl (E8 _ _ _ _)⟩⟩) λ_=>C2 (λ_=>?_) λ_=>C2 (λ_=>?_) λ_=>C2 (λ_=>?_) λ_=>C2 (λ_=>?_) λ_=>?_
 ·refine⟨by show(Aw L (B9 L r).2 Fp).2.nest=_;rw[HQ,tA];exact hn,λC J q=>?_⟩;have E:=(II (show(Aw L (B9 L r).2 Fp).2.err=0 from q)).1;have ty:=tB R (by omega) E;rw[hn]at ty;refine⟨rfl,EC C (by decide) (M (EO (TL L _) E)) rfl ?_ (EK (ty.EH rfl (by decide)) (E8 _ _ _ _))⟩;show(Bq _ (B9 L r).1.kind&&true)=true;rw[nv,ty.k];rfl
 ·refine⟨by show(B L r).2.nest=_;rw[K.n];exact hn,λC J q=>?_⟩;have b:=K.w r (by omega) (J.mv mv) q;rw[hn]at b;refine⟨rfl,EC C (by decide) (M (EO (K.m _) q)) rfl ?_ (EK (b.EH (by decide)) (E8 _ _ _ _))⟩;show(Bq _ (B L r).1.kind&&true)=true;rw[QR,b.k];rfl
 ·have O:=Gb L r BP;refine⟨by show(Aw L (Bz EI L (B7 L) [] (Aw L r BP).2).2 C5).2.nest=_;rw[HQ,Za (Ac6 R n).n,HQ];exact hn,λC J q=>?_⟩;have E:=(II (show(Aw L (Bz EI L (B7 L) [] (Aw L r BP).2).2 C5).2.err=0 from q)).1;have W:=EO (Q0 (oZ L) (B7 L) [] (Aw L r BP).2) E;have w:=Zc gF (Ac6 R n) (B7 L) [] (Aw L r BP).2 (by rw[HQ];omega) ((J.mv mv).mv O) (λ_=>⟨λy hy=>by cases hy⟩) E;rw[HQ,hn]at w;refine⟨rfl,EC C (by decide) (M (II W).1) rfl (bY _ λk hk=>?_) (X4 _ 0 λy hy j=>(w.a y hy).EH rfl (by decide))⟩;obtain⟨y,hy,rfl⟩:=List.mem_map.1 hk;rw[Agh];exact(w.a y hy).k
 ·have O:=Gb L r CT;have n1:=HQ L r CT;have U:(BZ L (Aw L r CT).2).2.nest=(Aw L r CT).2.nest:=L1 L _ _;have Y:=O8 L (BZ L (Aw L r CT).2).2 D9;have S:=TS L (BZ L (Aw L r CT).2).2 D9;refine⟨by show(B L (Al L (BZ L (Aw L r CT).2).2 D9).2).2.nest=_;rw[K.n];omega,λC J q=>?_⟩;have q:(B L (Al L (BZ L (Aw L r CT).2).2 D9).2).2.err=0:=q;have E:=(AaM (EO (K.m _) q)).1;have u:=AcO R (by omega) E;have b:=K.w (Al L (BZ L (Aw L r CT).2).2 D9).2 (by omega) ((((J.mv mv).mv O).mv (V r)).mv Y) q;rw[n1,hn]at u;rw[S,U,n1,hn]at b;refine⟨rfl,EC C (by decide) (M (II (EO (V r) E)).1) ?_ ?_ (EK (u.EH rfl (by decide)) (EK (b.EH (by decide)) (E8 _ _ _ _)))⟩
  ·unfold Gc;rw[if_neg (by decide),if_pos rfl];refine decide_eq_true ?_;split<;>omega
  ·show(Bq (((117:UInt8).toNat:Nat):Int) (BZ L (Aw L r CT).2).1.kind&&(Bq (((98:UInt8).toNat:Nat):Int) (B L (Al L (BZ L (Aw L r CT).2).2 D9).2).1.kind&&true))=true;rw[yl,QR,u.k,b.k];rfl
 ·have O:=Gb L r CT;have n1:=HQ L r CT;have U:(BZ L (Aw L r CT).2).2.nest=(Aw L r CT).2.nest:=L1 L _ _;have Y:=Gb L (BZ L (Aw L r CT).2).2 BP;have S:=HQ L (BZ L (Aw L r CT).2).2 BP;have Z:=Aph K;refine⟨by show(Aw L (Bz (Dn B) L (B7 L) [(BZ L (Aw L r CT).2).1] (Aw L (BZ L (Aw L r CT).2).2 BP).2).2 C5).2.nest=_;rw[HQ,Za Z.n];omega,λC J q=>?_⟩;have E:=(II (show(Aw L (Bz (Dn B) L (B7 L) [(BZ L (Aw L r CT).2).1] (Aw L (BZ L (Aw L r CT).2).2 BP).2).2 C5).2.err=0 from q)).1;have W:=(II (EO (Q0 Z.m (B7 L) [(BZ L (Aw L r CT).2).1] _) E)).1;have u:=AcO R (by omega) W;rw[n1,hn]at u;have w:=Zc Apd Z (B7 L) [(BZ L (Aw L r CT).2).1] (Aw L (BZ L (Aw L r CT).2).2 BP).2 (by omega) ((((J.mv mv).mv O).mv (V r)).mv Y) (λ_=>by rw[S,U,n1,hn];exact⟨⟨_,[],rfl,u,⟨λy hy=>by cases hy⟩⟩⟩) E;rw[S,U,n1,hn]at w;obtain⟨v,ys,hv,w1,w2⟩:=w.a;show WQ ND s.nest (nd 8 x 0 t (Bz (Dn B) L (B7 L) [(BZ L (Aw L r CT).2).1] (Aw L (BZ L (Aw L r CT).2).2 BP).2).1);rw[hv];refine⟨rfl,EC C (by decide) (M (II (EO (V r) W)).1) rfl ?_ (EK (w1.EH rfl (by decide)) (X4 _ 1 λy hy j=>(w2.a y hy).EH rfl (by decide)))⟩;show(Bq _ v.kind&&C3 [42,108] (ys.map PT.kind))=true;rw[yl,w1.k,bY _ λk hk=>?_]
  ·rfl
  ·obtain⟨y,hy,rfl⟩:=List.mem_map.1 hk;rw[Agg];exact(w2.a y hy).k
theorem Apg {L:List TK} (E:Hy L) {n:Nat} {B:List TK->PF} (q:WF L n WB (B L)):WF L n (WQ ND) (Gp B L):=by refine WF.of (zq q.m) λs=>?_;have C:=O8 L s Bt;have y:=TS L s Bt;unfold Gp;refine C2 (λ_=>⟨by show(B L (Al L s Bt).2).2.nest=_;rw[q.n];exact y,λM K J=>?_⟩) λ_=>Afn E q (by rw[L1];exact y) (C.tr (J3 L _ (by decide))) λe=>(NY E e).1;have b:=q.w (Al L s Bt).2 (by omega) (K.mv C) J;rw[y]at b;refine⟨rfl,EC M (by decide) rfl rfl ?_ (EK (b.EH (by decide)) (E8 _ _ _ _))⟩;show(Bq _ (B L (Al L s Bt).2).1.kind&&true)=true;rw[QR,b.k];rfl
theorem Aa5 {L:List TK} {n:Nat} {D:List TK->PF} (hD:WF L n (WQ ND) (D L)):∀(k:Nat) (l:List PT) (s:RS),s.nest<=64->Bd L n s->(s.err=0->VW ND s.nest l)->(GQ D L k l s).2.err=0->VW ND s.nest (GQ D L k l s).1
 |0,l,s,C,B,y,q=>y q
 |k+1,l,s,C,B,y,q=>by
  unfold GQ at q⊢;by_cases c:s.err=0/\s.at_<L.length
  ·rw[if_pos c]at q⊢;have e:=Aa5 hD k (l++[(D L s).1]) (D L s).2 (by rw[hD.n];exact C) (B.mv (hD.m s)) (λe=>by rw[hD.n];exact gF _ _ _ (y c.1) (hD.w s C B e)) q;rwa[hD.n]at e
  ·rw[if_neg c]at q⊢;exact y q
theorem Ac9 {L:List TK} (q:Hy L) {n:Nat} (hn:L.length<n) (h:(Nq n L Ef).2.err=0):Fs (Nq n L Ef).1 0:=by have hD:=Apg q (z5 q n).b;have w:=Aa5 (D:=Gp (lv n).b) hD (B7 L) [] Ef (by decide) ⟨Int.natCast_nonneg _,by show(L.length:Int)-0<n;omega⟩ (λ_=>⟨λy hy=>by cases hy⟩) h;refine EC (by decide) (by decide) rfl rfl (bY _ λk B=>?_) (X4 _ 0 λy hy j=>(w.a y hy).EH rfl (by decide));obtain⟨y,hy,rfl⟩:=List.mem_map.1 B;rw[Agf];exact(w.a y hy).k
theorem Ahl {L:List TK} (q:Hy L) {n:Nat} (hn:L.length<n) (h:(Nq n L Ef).2.err=0):L2 (flat (Nq n L Ef).1)=true:=Ahm rfl (Ac9 q hn h)
structure tX (k:Tok):Prop where
 nm:k.kind=1->Fv k.text=true
 nu:k.kind=3->0<=k.num/\k.num<=2147483647
theorem Aap:∀(l:List UInt8) (n:Int),0<=n->0<=(HB n l).1/\(HB n l).1<=2147483647
 | [],n,h=>by
  unfold HB;split
  ·rename_i c;exact⟨h,c⟩
  ·exact⟨Int.le_refl 0,(by decide:(0:Int)<=2147483647)⟩
 |b::t,n,h=>by
  unfold HB;split
  ·rename_i c;have c:=of_decide_eq_true (show decide (48<=(b.toNat:Int)/\(b.toNat:Int)<=57)=true from c);exact Aap t _ (by omega)
  ·exact⟨Int.le_refl 0,(by decide:(0:Int)<=2147483647)⟩
theorem AhC (l:List UInt8):0<=(E0 l).1/\(E0 l).1<=2147483647:=by
 unfold E0;split
 ·exact⟨Int.le_refl 0,(by decide:(0:Int)<=2147483647)⟩
 ·exact Aap l 0 (Int.le_refl 0)
theorem Ahx {b:UInt8} {t:List UInt8} (h:BW (b.toNat:Int)=true) (y:Dm ((b::t).take (runN (λz=>BW z||AZ z) (b::t)))=false) (B:((b::t).take (runN (λz=>BW z||AZ z) (b::t))).length<=32):Fv ((b::t).take (runN (λz=>BW z||AZ z) (b::t)))=true:=by
 have K:=XI (p:=λz=>BW z||AZ z) (b:=b) (t:=t) (by show(BW _||AZ _)=true;rw[h];rfl);have C:=XH (p:=λz=>BW z||AZ z) (b::t);have E:((b::t).take (runN (λz=>BW z||AZ z) (b::t))).getD 0 0=b:=by
  cases hn:runN (λz=>BW z||AZ z) (b::t)with
  |zero=>omega
  |succ n=>rfl
 have q:(b::t).take (runN (λz=>BW z||AZ z) (b::t))≠[]:=by
  cases hn:runN (λz=>BW z||AZ z) (b::t)with
  |zero=>omega
  |succ n=>exactλe=>by cases e
 generalize(b::t).take (runN (λz=>BW z||AZ z) (b::t))=s at C E q y B⊢;unfold Fv;rw[y,decide_eq_true q,decide_eq_true B];simp only[Bool.not_false,Bool.and_self,Bool.and_true];rw[List.all_eq_true];intro i hi;have hi:=List.mem_range.1 hi;unfold K5;rw[oN];by_cases c:i=0
 ·subst c;rw[E,h];rfl
 ·have J:s.getD i 0∈s:=by rw[List.getD_eq_getElem?_getD,List.getElem?_eq_getElem hi];exact List.getElem_mem _
  have:=C _ J;rw[decide_eq_false c];simpa using this
theorem AhE (b:UInt8) (t:List UInt8):(Bi (b::t)=(1,runN (λz=>BW z||AZ z) (b::t))/\BW (b.toNat:Int)=true)\/(∃m,Bi (b::t)=(3,m))\/(∃m,Bi (b::t)=(0,m))\/∃m,Bi (b::t)=(4,m):=by
 rw[TN];by_cases q:BW (b.toNat:Int)=true
 ·rw[if_pos q];exact .inl ⟨rfl,q⟩
 ·rw[if_neg q];refine .inr ?_;by_cases E:AZ (b.toNat:Int)=true
  ·rw[if_pos E];exact .inl ⟨_,rfl⟩
  ·rw[if_neg E];refine .inr ?_;by_cases C:(b.toNat:Int)=35
   ·rw[if_pos C];exact .inl ⟨_,rfl⟩
   ·rw[if_neg C];by_cases B:(b.toNat:Int)=61/\1<=t.length/\((t.getD 0 0).toNat:Int)=61
    ·rw[if_pos B];exact .inr ⟨_,rfl⟩
    ·rw[if_neg B];by_cases y:NX (b.toNat:Int)=true
     ·rw[if_pos y];exact .inr ⟨_,rfl⟩
     ·rw[if_neg y];exact .inl ⟨_,rfl⟩
theorem Ajc (b:UInt8) (t:List UInt8) (L C:Int) (h:(Es b t L C).2=[]):∀k∈(Es b t L C).1,tX k:=by
 unfold Es at h⊢;dsimp only at h⊢;rcases AhE b t with⟨y,E⟩|⟨m,y⟩|⟨m,y⟩|⟨m,y⟩
 ·rw[y,if_pos (by decide:(0:Int)<1)]at h⊢;intro k B;obtain rfl:=List.mem_singleton.1 B;dsimp only at h⊢;cases hw:Dm ((b::t).take (runN (λz=>BW z||AZ z) (b::t)))with
  |true=>rw[O5,hw,if_pos rfl];exact⟨λh=>(by cases(show(2:Int)=1 from h)),λh=>(by cases(show(2:Int)=3 from h))⟩
  |false=>
   rw[O5,hw,if_neg (show¬(false=true) by decide)]at h⊢;refine⟨λ_=>Ahx E hw ?_,λh=>(by cases(show(1:Int)=3 from h))⟩;by_cases q:32<((b::t).take (runN (λz=>BW z||AZ z) (b::t))).length
   ·have e:(1,(0:Int),(if 32<((b::t).take (runN (λz=>BW z||AZ z) (b::t))).length then(9:Int)else 0)).2.2=9:=if_pos q;rw[if_neg (show¬(1,(0:Int),(if 32<((b::t).take (runN (λz=>BW z||AZ z) (b::t))).length then(9:Int)else 0)).2.2=0 by rw[e];decide)]at h;cases h
   ·omega
 ·rw[y,if_pos (by decide:(0:Int)<3)];intro k B;obtain rfl:=List.mem_singleton.1 B;dsimp only
  rw[W2];exact⟨λh=>(by cases(show(3:Int)=1 from h)),λ_=>AhC _⟩
 ·rw[y,if_neg (by decide:¬(0:Int)<0)];exactλk B=>by cases B
 ·rw[y,if_pos (by decide:(0:Int)<4)];intro k B;obtain rfl:=List.mem_singleton.1 B;have e:(C6 4 ((b::t).take m)).1=4:=by unfold C6;rw[if_neg (by decide),if_neg (by rintro⟨h,_⟩;cases h)]
  exact⟨λh=>(by have h:=e.symm.trans h;cases h),λh=>(by have h:=e.symm.trans h;cases h)⟩
theorem AbX:∀(n:Nat) (l:List UInt8) (L C:Int),l.length<=n->(KT l L C).2=[]->∀t∈(KT l L C).1,tX t
 |_,[],_,_,_,_=>λt h=>by rw[sO]at h;cases h
 |0,b::t,_,_,h,_=>by simp at h
 |n+1,b::t,L,C,h,he=>by
  have hn:=Pb b t;have E:((b::t).drop (Bi (b::t)).2).length=t.length+1-(Bi (b::t)).2:=by rw[List.length_drop,List.length_cons]
  simp only[List.length_cons]at h;rw[fC]at he⊢;have y:=List.append_eq_nil_iff.1 he;have B:=AbX n ((b::t).drop (Bi (b::t)).2) (if b=10 then L+1 else L) (if b=10 then 1 else C+(Bi (b::t)).2) (by omega) y.2;intro k q;rcases List.mem_append.1 q with q|q
  ·exact Ajc b t L C y.1 k q
  ·exact B k q
theorem AcA {l:List UInt8} (h:(Bk l).2.length=0):Hy (Jj l):=by
 have C:(KT l 1 1).2=[]:=List.length_eq_zero_iff.1 h;have B:=AbX _ l 1 1 (Nat.le_refl _) C;rw[RZ];refine⟨λt ht y=>?_,λt ht y=>?_⟩
 ·obtain⟨k,q,rfl⟩:=List.mem_map.1 ht;exact(B k q).nm y
 ·obtain⟨k,q,rfl⟩:=List.mem_map.1 ht;exact(B k q).nu y
theorem Ahk {l:List UInt8} (B:l.length<=100000) (h:Cd l=[]):L2 (CX l)=true:=by
 unfold Cd at h;unfold CX;by_cases c:(Bk l).2.length=0
 ·rw[if_pos c]at h⊢;have y:=U6 l;have q:(Jj l).length<100001:=by rw[RZ,List.length_map];omega
  unfold FV at h;unfold EU;split at h
  ·rename_i e;rw[if_pos e];rw[Ve]at e⊢;exact Ahl (AcA c) q e
  ·cases h
 ·rw[if_neg c]at h;exact absurd (by rw[h];rfl) c
end Go.Proofs.YtlmmbanfhjaioaaGreatDoor
end
end
