/- Laid by program out of its parts: PaV, PaW. -/
import Derived.Test.YtlmmbanfhjaioaaDoorPa2
set_option linter.unusedVariables false
set_option linter.unusedSimpArgs false
section
set_option maxRecDepth 100000
set_option maxHeartbeats 2000000
open Go Go.Ev
namespace Go.Proofs.YtlmmbanfhjaioaaDoor
def wLooper:List UInt8:=[108,111,111,112,101,114]
def wClass:List UInt8:=[99,108,97,115,115]
def wComp:List UInt8:=[99,111,109,112]
def wEvent:List UInt8:=[101,118,101,110,116]
def wMain:List UInt8:=[109,97,105,110]
def wOn:List UInt8:=[111,110]
def wCreate:List UInt8:=[99,114,101,97,116,101]
def wStart:List UInt8:=[115,116,97,114,116]
def wStop:List UInt8:=[115,116,111,112]
def wDestroy:List UInt8:=[100,101,115,116,114,111,121]
noncomputable def memM (L:List TK):PF:=fun s=>(nd 4 (kindR L s 1).1.text 0 (kindR L s 1).1 [(typM L (kindR L s 1).2).1],(signR L (typM L (kindR L s 1).2).2 wSemi).2)
noncomputable def lifeN (x:List UInt8):Int:=if x=wCreate then 0 else if x=wStart then 1 else if x=wStop then 2 else if x=wDestroy then 3 else 0
noncomputable def lifeM (B:List TK→PF) (L:List TK):PF:=fun s=>(nd 9 [] (lifeN (oneR L s wsL).1.text) (oneR L s wsL).1 [(B L (oneR L s wsL).2).1],(B L (oneR L s wsL).2).2)
noncomputable def classM (L:List TK) (t:TK) (x:List UInt8) (s:RS):PT×RS:=(nd 3 x 0 t (blockL memM L (fuelN L) [] (signR L s wOpen).2).1,(signR L (blockL memM L (fuelN L) [] (signR L s wOpen).2).2 wShut).2)
noncomputable def eventM (B:List TK→PF) (L:List TK) (t:TK) (x:List UInt8) (u:PT) (s:RS):PT×RS:=(nd 10 x (if (oneR L s wsO).1.text=wOn then 1 else 0) t [u,(B L (oneR L s wsO).2).1],(B L (oneR L s wsO).2).2)
noncomputable def compM (B:List TK→PF) (L:List TK) (t:TK) (x:List UInt8) (u:PT) (s:RS):PT×RS:=(nd 8 x 0 t (blockL (lifeM B) L (fuelN L) [u] (signR L s wOpen).2).1,(signR L (blockL (lifeM B) L (fuelN L) [u] (signR L s wOpen).2).2 wShut).2)
noncomputable def declX (B:List TK→PF) (L:List TK) (t:TK) (x:List UInt8) (s:RS):PT×RS :=
 if t.text=wLooper then (nd 2 x 0 t [],(signR L s wSemi).2)
 else if t.text=wVar then (nd 6 x 0 t [(typM L s).1],(signR L (typM L s).2 wSemi).2)
 else if t.text=wFn then (nd 7 x 0 t [(B L s).1],(B L s).2)
 else if t.text=wClass then classM L t x s
 else if t.text=wEvent then eventM B L t x (useM L (signR L s wOn).2).1 (useM L (signR L s wOn).2).2
 else compM B L t x (useM L (signR L s wOn).2).1 (useM L (signR L s wOn).2).2
noncomputable def declM (B:List TK→PF) (L:List TK):PF:=fun s =>
 if (oneR L s wsD).1.text=wMain then (nd 11 [] 0 (oneR L s wsD).1 [(B L (oneR L s wsD).2).1],(B L (oneR L s wsD).2).2)
 else declX B L (oneR L s wsD).1 (kindR L (oneR L s wsD).2 1).1.text (kindR L (oneR L s wsD).2 1).2
noncomputable def dS (L:List TK) (s:RS):RS:=(kindR L (oneR L s wsD).2 1).2
theorem Zax {n:Nat}:GF n 3 4 memM:=by
 intro L s hp
 have hok:=hp.ok
 have f:=Yi (k:=1) hok (by decide)
 unfold memM
 generalize (kindR L s 1)=q at f ⊢
 have f1:=f.am;have f2:=f.ax;have f3:=f.eo;have f4:=f.er;have f5:=f.ns
 have g:=Ut (L:=L) (s:=q.2) f.ok
 generalize typM L q.2=y at g ⊢
 have g1:=g.am;have g2:=g.ss;have g3:=g.so;have g4:=g.er;have g5:=g.ns;have g6:=Wj y.1
 have e:=Yp (w:=wSemi) g.ok
 generalize (signR L y.2 wSemi).2=u at e ⊢
 have e1:=e.am;have e2:=e.ax;have e3:=e.eo;have e4:=e.er;have e5:=e.ns
 refine ⟨e.ok,by show u.nest=_;omega,by show _≤u.at_;omega,fun z=>⟨by show u.err≠0;omega,by show u.at_=_;omega,?_⟩,?_,fun z=>?_⟩
 ·show ((sz _:Nat):Int)≤3
  rw [YQ];omega
 ·show ((sz _:Nat):Int)≤3 * (u.at_ - s.at_) + 4
  rw [YQ];omega
 ·have z:u.err=0:=z
  show ((sz _:Nat):Int)≤3 * (u.at_ - s.at_)
  rw [YQ];omega
theorem Zdp {n:Nat} {B:List TK→PF} (hB:GF n 1 2 B):GF n 3 4 (lifeM B):=by
 intro L s hp
 have hok:=hp.ok
 have hns:=hp.ns
 have hlf:=hp.lf
 have f:=Xc (ws:=wsL) hok
 unfold lifeM
 generalize (oneR L s wsL)=q at f ⊢
 have f1:=f.am;have f2:=f.ax;have f3:=f.eo;have f4:=f.er;have f5:=f.ns
 have g:=hB L q.2 ⟨f.ok,by omega,by omega⟩
 generalize B L q.2=y at g ⊢
 have g1:=g.am;have g2:=g.ss;have g3:=g.so;have g4:=g.er;have g5:=g.ns;have g6:=Wj y.1
 refine ⟨g.ok,by show y.2.nest=_;omega,by show _≤y.2.at_;omega,fun z=>⟨by show y.2.err≠0;omega,by show y.2.at_=_;omega,?_⟩,?_,fun z=>?_⟩
 ·show ((sz _:Nat):Int)≤3
  rw [YQ];omega
 ·show ((sz _:Nat):Int)≤3 * (y.2.at_ - s.at_) + 4
  rw [YQ];omega
 ·have z:y.2.err=0:=z
  show ((sz _:Nat):Int)≤3 * (y.2.at_ - s.at_)
  rw [YQ];omega
theorem PostL.le {L:List TK} {E C:Int} {s:RS} {r:List PT×RS} (h:PostL L E C s r):(szL r.1:Int)≤3 * (r.2.at_ - s.at_) + C:=h.ss
theorem Zml {L:List TK} {q:RS} (h:RSOK L q):PostL L 2 6 q ([(useM L q).1],(signR L (useM L q).2 wOpen).2):=by
 have g:=Ka (L:=L) (s:=q) h
 generalize useM L q=u at g ⊢
 have g1:=g.am;have g2:=g.ss;have g3:=g.so;have g4:=g.er;have g5:=g.ns;have g6:=Wj u.1
 have e:=Yp (w:=wOpen) g.ok
 generalize (signR L u.2 wOpen).2=v at e ⊢
 have e1:=e.am;have e2:=e.ax;have e3:=e.eo;have e4:=e.er;have e5:=e.ns
 have hz:szL [u.1]=sz u.1:=by rw [YE,Xl];rfl
 refine ⟨e.ok,by show v.nest=_;omega,by show _≤v.at_;omega,fun z=>⟨by show v.err≠0;omega,by show v.at_=_;omega,?_⟩,?_,fun z=>?_⟩
 ·show ((szL [u.1]:Nat):Int)≤2
  rw [hz];omega
 ·show ((szL [u.1]:Nat):Int)≤3 * (v.at_ - q.at_) + 6
  rw [hz];omega
 ·have z:v.err=0:=z
  show ((szL [u.1]:Nat):Int)≤3 * (v.at_ - q.at_)
  rw [hz];omega
theorem Zef {L:List TK} {E C:Int} {s q:RS} {r:List PT×RS} {k n:Int} {x:List UInt8} {t:TK} (h:PostL L E C q r) (hC:C≤6) (hE:E≤2) (hn:q.nest=s.nest) (ha:s.at_≤q.at_) (h0:q.err=0→s.at_ + 2≤q.at_) (he:s.err≠0→q.err≠0∧q.at_=s.at_):Post L 3 4 s (nd k x n t r.1,(signR L r.2 wShut).2):=by
 have g1:=h.am;have g2:=h.ss;have g3:=h.so;have g4:=h.er;have g5:=h.ns
 have e:=Yp (w:=wShut) h.ok
 generalize (signR L r.2 wShut).2=v at e ⊢
 have e1:=e.am;have e2:=e.ax;have e3:=e.eo;have e4:=e.er;have e5:=e.ns
 refine ⟨e.ok,by show v.nest=_;omega,by show _≤v.at_;omega,fun z=>⟨by show v.err≠0;omega,by show v.at_=_;omega,?_⟩,?_,fun z=>?_⟩
 ·show ((sz _:Nat):Int)≤3
  rw [QP];omega
 ·show ((sz _:Nat):Int)≤3 * (v.at_ - s.at_) + 4
  rw [QP];omega
 ·have z:v.err=0:=z
  show ((sz _:Nat):Int)≤3 * (v.at_ - s.at_)
  rw [QP];omega
theorem one_text {L:List TK} {s:RS} {ws:List (List UInt8)} {w:List UInt8} (hw:w≠[]) (h:(oneR L s ws).1.text=w):(oneR L s ws).2=at1 s∧s.err=0∧s.at_ < L.length:=by
 unfold oneR takeR at h ⊢
 split at h
 ·rename_i e
  rw [if_pos e]
  obtain ⟨v,_,hv⟩:=List.any_eq_true.1 e
  exact ⟨rfl,YC hv,Zl hv⟩
 ·exact absurd h (fun e=>hw e.symm)
theorem Zmy {n:Nat} {B:List TK→PF} (hB:GF n 1 2 B):GF n 3 4 (declM B):=by
 intro L s hp
 have hok:=hp.ok
 have hns:=hp.ns
 have hlf:=hp.lf
 have f:=Xc (ws:=wsD) hok
 have tx:∀ w,w≠[]→(oneR L s wsD).1.text=w→s.err=0∧(oneR L s wsD).2.at_=s.at_ + 1:=fun w hw h=>by
  obtain ⟨h1,h2,_⟩:=one_text hw h
  exact ⟨h2,by rw [h1];rfl⟩
 unfold declM
 generalize (oneR L s wsD)=o at f tx ⊢
 have f1:=f.am;have f2:=f.ax;have f3:=f.eo;have f4:=f.er;have f5:=f.ns
 have blk:∀ (k:Int) (x:List UInt8) (q:RS),RSOK L q→q.nest=s.nest→s.at_ + 1≤q.at_→s.err=0→Post L 3 4 s (nd k x 0 o.1 [(B L q).1],(B L q).2):=fun k x q hq h1 h2 h3=>by
  have d:=hB L q ⟨hq,by omega,by omega⟩
  generalize B L q=r at d ⊢
  have d1:=d.am;have d2:=d.ss;have d3:=d.so;have d5:=d.ns
  refine ⟨d.ok,by show r.2.nest=_;omega,by show _≤r.2.at_;omega,fun z=>absurd h3 z,?_,fun z=>?_⟩
  ·show ((sz _:Nat):Int)≤3 * (r.2.at_ - s.at_) + 4
   rw [YQ];omega
  ·have z:r.2.err=0:=z
   show ((sz _:Nat):Int)≤3 * (r.2.at_ - s.at_)
   rw [YQ];omega
 refine Yh (P:=Post L 3 4 s) (fun e=>?_) fun _=>?_
 ·have:=tx _ (by decide) e
  exact blk 11 [] o.2 f.ok f5 (by omega) this.1
 have k:=Yi (k:=1) f.ok (by decide)
 generalize (kindR L o.2 1)=q at k ⊢
 have k1:=k.am;have k2:=k.ax;have k3:=k.eo;have k4:=k.er;have k5:=k.ns
 unfold declX
 refine Yh (P:=Post L 3 4 s) (fun e=>?_) fun _=>Yh (P:=Post L 3 4 s) (fun e=>?_) fun _=>Yh (P:=Post L 3 4 s) (fun e=>?_) fun _=>Yh (P:=Post L 3 4 s) (fun e=>?_) fun _=>?_
 ·have:=tx _ (by decide) e
  have d:=Yp (w:=wSemi) k.ok
  generalize (signR L q.2 wSemi).2=v at d ⊢
  have d1:=d.am;have d5:=d.ns
  refine ⟨d.ok,by show v.nest=_;omega,by show _≤v.at_;omega,fun z=>absurd this.1 z,?_,fun z=>?_⟩
  ·show ((sz _:Nat):Int)≤3 * (v.at_ - s.at_) + 4
   rw [Xq];omega
  ·show ((sz _:Nat):Int)≤3 * (v.at_ - s.at_)
   rw [Xq];omega
 ·have:=tx _ (by decide) e
  have g:=Ut (L:=L) (s:=q.2) k.ok
  generalize typM L q.2=y at g ⊢
  have g1:=g.am;have g2:=g.ss;have g3:=g.so;have g5:=g.ns
  have d:=Yp (w:=wSemi) g.ok
  generalize (signR L y.2 wSemi).2=v at d ⊢
  have d1:=d.am;have d5:=d.ns
  refine ⟨d.ok,by show v.nest=_;omega,by show _≤v.at_;omega,fun z=>absurd this.1 z,?_,fun z=>?_⟩
  ·show ((sz _:Nat):Int)≤3 * (v.at_ - s.at_) + 4
   rw [YQ];omega
  ·show ((sz _:Nat):Int)≤3 * (v.at_ - s.at_)
   rw [YQ];omega
 ·have:=tx _ (by decide) e
  exact blk 7 _ q.2 k.ok (by omega) (by omega) this.1
 ·have d:=Yp (w:=wOpen) k.ok
  unfold classM
  generalize (signR L q.2 wOpen).2=v at d ⊢
  have d1:=d.am;have d2:=d.ax;have d3:=d.eo;have d4:=d.er;have d5:=d.ns
  have pl:=VF (E:=0) (C:=4) (by decide) (Zax (n:=n)) (L:=L) (s0:=v) (fun z=>⟨d.ok,by omega,by omega⟩) (fuelN L) [] v (XX d.ok (by decide))
  exact Zef pl (by decide) (by decide) (by omega) (by omega) (fun z=>by omega) fun z=>⟨by omega,by omega⟩
 have d:=Yp (w:=wOn) k.ok
 generalize (signR L q.2 wOn).2=v at d ⊢
 have d1:=d.am;have d2:=d.ax;have d3:=d.eo;have d4:=d.er;have d5:=d.ns
 have u:=Ka (L:=L) (s:=v) d.ok
 have lb:=Zml (L:=L) (q:=v) d.ok
 refine Yh (P:=Post L 3 4 s) (fun e=>?_) fun _=>?_
 ·have ee:=tx _ (by decide) e
  generalize useM L v=y at u ⊢
  have u1:=u.am;have u2:=u.ss;have u3:=u.so;have u4:=u.er;have u5:=u.ns
  unfold eventM
  have w:=Xc (ws:=wsO) u.ok
  generalize (oneR L y.2 wsO)=c at w ⊢
  have w1:=w.am;have w2:=w.ax;have w3:=w.eo;have w4:=w.er;have w5:=w.ns
  have b:=hB L c.2 ⟨w.ok,by omega,by omega⟩
  generalize B L c.2=r at b ⊢
  have b1:=b.am;have b2:=b.ss;have b3:=b.so;have b5:=b.ns
  refine ⟨b.ok,by show r.2.nest=_;omega,by show _≤r.2.at_;omega,fun z=>absurd ee.1 z,?_,fun z=>?_⟩
  ·show ((sz _:Nat):Int)≤3 * (r.2.at_ - s.at_) + 4
   rw [XH];omega
  ·have z:r.2.err=0:=z
   show ((sz _:Nat):Int)≤3 * (r.2.at_ - s.at_)
   rw [XH];omega
 ·unfold compM
  have pl:=VF (E:=2) (C:=6) (by decide) (Zdp hB) (L:=L) (s0:=v) (fun z=>⟨d.ok,by omega,by omega⟩) (fuelN L) _ _ lb
  exact Zef pl (by decide) (by decide) (by omega) (by omega) (fun z=>by omega) fun z=>⟨by omega,by omega⟩
end Go.Proofs.YtlmmbanfhjaioaaDoor
end
section
set_option maxRecDepth 100000
set_option maxHeartbeats 2000000
open Go Go.Ev
namespace Go.Proofs.YtlmmbanfhjaioaaDoor
structure Kp (s r:RS):Prop where
 e:s.err≠0→r.err=s.err∧r.whr=s.whr
 o:r.err=0→r.whr=s.whr
def KF (F:PF):Prop:=∀ s,Kp s (F s).2
theorem Zy (s:RS):Kp s s:=⟨fun _=>⟨rfl,rfl⟩,fun _=>rfl⟩
theorem Kp.tr {s r u:RS} (h:Kp s r) (k:Kp r u):Kp s u:=by
 have h1:=h.e;have h2:=h.o;have k1:=k.e;have k2:=k.o
 exact ⟨fun z=>by omega,fun z=>by omega⟩
theorem ZQ {α:Type} {s:RS} {p:Prop} [Decidable p] {a b:α×RS} (h1:p→Kp s a.2) (h2:¬ p→Kp s b.2):Kp s (if p then a else b).2:=by
 by_cases h:p
 ·rw [if_pos h];exact h1 h
 ·rw [if_neg h];exact h2 h
theorem QU (s:RS) {e:Int} (he:e≠0):Kp s (wrongR s e):=by
 unfold wrongR
 split
 ·rename_i h;exact ⟨fun z=>absurd h z,fun z=>absurd z he⟩
 ·exact Zy s
theorem Ze5 (L:List TK) (s:RS) (b:Bool):Kp s (takeR L s b).2:=by
 unfold takeR
 split
 ·exact ⟨fun _=>⟨rfl,rfl⟩,fun _=>rfl⟩
 ·exact QU s (by decide)
theorem ZB (L:List TK) (s:RS) (w:List UInt8):Kp s (signR L s w).2:=Ze5 L s _
theorem Yt (L:List TK) (s:RS) (k:Int):Kp s (kindR L s k).2:=Ze5 L s _
theorem YI (L:List TK) (s:RS) (ws:List (List UInt8)):Kp s (oneR L s ws).2:=Ze5 L s _
theorem Ys (s:RS):Kp s (at1 s):=⟨fun _=>⟨rfl,rfl⟩,fun _=>rfl⟩
theorem Xe (s:RS):Kp s (down s):=⟨fun _=>⟨rfl,rfl⟩,fun _=>rfl⟩
theorem Zag (L:List TK) (s:RS) (w:List UInt8):Kp s (openR L s w).2:=by
 refine Kp.tr ?_ (ZB L (deepR L s w) w)
 unfold deepR
 split
 ·have:=QU s (e:=5) (by decide)
  exact ⟨this.e,this.o⟩
 ·exact ⟨fun _=>⟨rfl,rfl⟩,fun _=>rfl⟩
theorem JC {F:List TK→PF} {L:List TK} (h:KF (F L)):KF (ifE F L):=by
 intro s
 unfold ifE
 exact ZQ (fun _=>Zy s) fun _=>h s
theorem UW (L:List TK):KF (useM L):=fun s=>Yt L s 1
theorem UT (L:List TK):KF (typM L):=fun s=>ZQ (fun _=>Ys s) fun _=>YI L s _
theorem Zht {T B:List TK→PF} {L:List TK} (hT:KF (T L)) (hB:KF (B L)):KF (firstM T B L):=fun s =>
 ZQ (fun _=>Ys s) fun _=>ZQ (fun _=>Ys s) fun _=>ZQ (fun _=>Ys s) fun _=>ZQ (fun _=>(Ys s).tr (Yt L _ 1)) fun _=>ZQ (fun _=>(Ys s).tr (JC hB _)) fun _ =>
  ZQ (fun _=>(Zag L s wPar).tr ((JC hT _).tr ((ZB L _ wRap).tr (Xe _)))) fun _=>UW L s
theorem kp_idx {T:List TK→PF} {L:List TK} (hT:KF (T L)) (x:PT) (s:RS):Kp s (idxM T L x s).2:=(Zag L s wSq).tr ((JC hT _).tr ((ZB L _ wQs).tr (Xe _)))
theorem kp_dot (L:List TK) (x:PT) (s:RS):Kp s (dotM L x s).2:=(Ys s).tr (Yt L _ 1)
theorem Jb {T:List TK→PF} {L:List TK} (hT:KF (T L)):∀ (k:Nat) (x:PT) (s:RS),Kp s (tightL T L k x s).2
 | 0,x,s=>Zy s
 | k + 1,x,s=>by
  unfold tightL
  exact ZQ (fun _=>(kp_dot L x s).tr (Jb hT k _ _)) fun _=>ZQ (fun _=>(kp_idx hT x s).tr (Jb hT k _ _)) fun _=>Zy s
theorem kp_tight {T Fi:List TK→PF} {L:List TK} (hT:KF (T L)) (hF:KF (Fi L)):KF (tightM T Fi L):=fun s=>(hF s).tr (Jb hT _ _ _)
theorem kp_un {U:List TK→PF} {L:List TK} (hU:KF (U L)) (k:Int) (s:RS):Kp s (unM k U L s).2:=(Zag L s _).tr ((JC hU _).tr (Xe _))
theorem kp_unary {U Ti:List TK→PF} {L:List TK} (hU:KF (U L)) (hT:KF (Ti L)):KF (unaryM U Ti L):=fun s =>
 ZQ (fun _=>kp_un hU 35 s) fun _=>ZQ (fun _=>kp_un hU 34 s) fun _=>hT s
theorem kp_op {F:List TK→PF} {L:List TK} (hF:KF (F L)) (x:PT) (s:RS):Kp s (opM F L x s).2:=(Ys s).tr (hF _)
theorem Zbq {F:List TK→PF} {L:List TK} {ws:List (List UInt8)} (hF:KF (F L)):∀ (k:Nat) (x:PT) (s:RS),Kp s (opL F ws L k x s).2
 | 0,x,s=>Zy s
 | k + 1,x,s=>by
  unfold opL
  exact ZQ (fun _=>(kp_op hF x s).tr (Zbq hF k _ _)) fun _=>Zy s
theorem Zba {F:List TK→PF} {L:List TK} {ws:List (List UInt8)} (hF:KF (F L)):KF (rowM F ws L):=fun s=>(hF s).tr (Zbq hF _ _ _)
theorem kp_term {F:List TK→PF} {L:List TK} (hF:KF (F L)):KF (termM F L):=fun s=>ZQ (fun _=>(hF s).tr (kp_op hF _ _)) fun _=>hF s
theorem kp_var {Ti:List TK→PF} {L:List TK} (hT:KF (Ti L)):KF (varM Ti L):=fun s=>(hT s).tr (Yh (P:=fun r:RS=>Kp (Ti L s).2 r) (fun _=>QU _ (by decide)) fun _=>Zy _)
theorem kp_set {V T:List TK→PF} {L:List TK} (hV:KF (V L)) (hT:KF (T L)) (t:TK):KF (setM V T L t):=fun s=>(hV s).tr ((ZB L _ _).tr ((hT _).tr (ZB L _ _)))
theorem kp_if {T B:List TK→PF} {L:List TK} (hT:KF (T L)) (hB:KF (B L)) (t:TK) (s:RS):Kp s (ifM T B L t s).2 :=
 ZQ (fun _=>(hT s).tr (hB _)) fun _=>ZQ (fun _=>(hT s).tr ((hB _).tr ((Ys _).tr (hB _)))) fun _=>(hT s).tr (hB _)
theorem Zdf {T B:List TK→PF} {L:List TK} (hT:KF (T L)) (hB:KF (B L)):KF (branchM T B L):=fun s=>(Ys s).tr (kp_if hT hB _ _)
theorem Zgx {V:List TK→PF} {L:List TK} (hV:KF (V L)) (k:Int) (x:List UInt8) (n:Int) (t:TK) (y:PT) (s:RS):Kp s (toM V L k x n t y s).2:=ZQ (fun _=>(Ys s).tr (hV _)) fun _=>Zy s
theorem Zgi {T V:List TK→PF} {L:List TK} (hT:KF (T L)) (hV:KF (V L)) (t q:TK) (s:RS):Kp s (postX T V L t q s).2 :=
 ZQ (fun _=>(hT s).tr ((Ys _).tr ((Yt L _ 3).tr (Zgx hV _ _ _ _ _ _)))) fun _=>ZQ (fun _=>(hT s).tr ((Ys _).tr (Zgx hV _ _ _ _ _ _))) fun _=>(hT s).tr (Zgx hV _ _ _ _ _ _)
theorem Zk7 {T V:List TK→PF} {L:List TK} (hT:KF (T L)) (hV:KF (V L)):KF (postM T V L):=fun s =>
 ZQ (fun _=>(Ys s).tr ((Yt L _ 1).tr (Zgi hT hV _ _ _))) fun _=>(Ys s).tr ((hT _).tr (Zgx hV _ _ _ _ _ _))
theorem UY {L:List TK} {s:RS} {r:PT×RS} (h:Kp s r.2):Kp s (semi L r).2:=h.tr (ZB L _ _)
theorem kp_varS {T:List TK→PF} {L:List TK} (hT:KF (T L)) (t:TK) (k:TK×RS):Kp k.2 (varS T L t k).2:=(UT L k.2).tr ((ZB L _ _).tr (hT _))
theorem kp_stmt {Se:List TK→TK→PF} {Br Po T:List TK→PF} {L:List TK} (hS:∀ t,KF (Se L t)) (hB:KF (Br L)) (hP:KF (Po L)) (hT:KF (T L)):KF (stmtM Se Br Po T L):=fun s=>by
 have p1:∀ k,Kp s (semi L (oneS T L k (ahd L s) (at1 s))).2:=fun k=>UY ((Ys s).tr (hT _))
 have p2:∀ k,Kp s (semi L (nmS L k (ahd L s) (at1 s))).2:=fun k=>UY ((Ys s).tr (Yt L _ 1))
 unfold stmtM
 exact ZQ (fun _=>hS _ s) fun _=>ZQ (fun _=>hB s) fun _=>ZQ (fun _=>hB s) fun _=>ZQ (fun _=>UY ((Ys s).tr ((Yt L _ 1).tr (kp_varS hT _ _)))) fun _=>ZQ (fun _=>p1 15) fun _=>ZQ (fun _=>p1 16) fun _=>ZQ (fun _=>p1 17) fun _ =>
  ZQ (fun _=>p1 18) fun _=>ZQ (fun _=>UY (hP s)) fun _=>ZQ (fun _=>UY (hP s)) fun _=>ZQ (fun _=>p2 21) fun _=>ZQ (fun _=>p2 22) fun _=>ZQ (fun _=>UY (Ys s)) fun _=>hS _ s
theorem Yv {St:List TK→PF} {L:List TK} (hS:KF (St L)):∀ (k:Nat) (l:List PT) (s:RS),Kp s (blockL St L k l s).2
 | 0,l,s=>Zy s
 | k + 1,l,s=>by
  unfold blockL
  exact ZQ (fun _=>(hS s).tr (Yv hS k _ _)) fun _=>Zy s
theorem kp_block {St:List TK→PF} {L:List TK} (hS:KF (St L)):KF (blockM St L):=fun s=>(Zag L s _).tr ((Yv hS _ _ _).tr ((ZB L _ _).tr (Xe _)))
structure KLv (L:List TK) (x:LV):Prop where
 u:KF (x.u L)
 t:KF (x.t L)
 b:KF (x.b L)
theorem kp_ti {L:List TK} {x:LV} (h:KLv L x):KF (tiL x L):=kp_tight h.t (Zht h.t h.b)
theorem Zb2 {L:List TK} {x:LV} (h:KLv L x):KF (unL x L):=kp_unary h.u (kp_ti h)
theorem Za9 {L:List TK} {x:LV} (h:KLv L x):KF (teL x L):=kp_term (Zba (F:=rowM (unL x) [wMul]) (Zba (Zb2 h)))
theorem kp_va {L:List TK} {x:LV} (h:KLv L x):KF (vaL x L):=kp_var (kp_ti h)
theorem kp_st {L:List TK} {x:LV} (h:KLv L x):KF (stL x L):=kp_stmt (Se:=fun L t=>setM (vaL x) (teL x) L t) (fun t=>kp_set (kp_va h) (Za9 h) t) (Zdf (Za9 h) h.b) (Zk7 (Za9 h) (kp_va h)) (Za9 h)
theorem Zed (L:List TK):∀ n,KLv L (lv n)
 | 0=>⟨fun s=>Zy s,fun s=>Zy s,fun s=>Zy s⟩
 | n + 1=>⟨Zb2 (Zed L n),Za9 (Zed L n),kp_block (kp_st (Zed L n))⟩
theorem Zep (L:List TK):KF (memM L):=fun s=>(Yt L s 1).tr ((UT L _).tr (ZB L _ _))
theorem JT {B:List TK→PF} {L:List TK} (hB:KF (B L)):KF (lifeM B L):=fun s=>(YI L s _).tr (hB _)
theorem kp_decl {B:List TK→PF} {L:List TK} (hB:KF (B L)):KF (declM B L):=fun s =>
 ZQ (fun _=>(YI L s _).tr (hB _)) fun _=>(YI L s _).tr ((Yt L _ 1).tr (by
  unfold declX
  refine ZQ (fun _=>ZB L _ _) fun _=>ZQ (fun _=>(UT L _).tr (ZB L _ _)) fun _=>ZQ (fun _=>hB _) fun _=>ZQ (fun _=>(ZB L _ _).tr ((Yv (Zep L) _ _ _).tr (ZB L _ _))) fun _ =>
   ZQ (fun _=>(ZB L _ _).tr ((UW L _).tr ((YI L _ _).tr (hB _)))) fun _=>(ZB L _ _).tr ((UW L _).tr ((ZB L _ _).tr ((Yv (JT hB) _ _ _).tr (ZB L _ _))))))
end Go.Proofs.YtlmmbanfhjaioaaDoor
end
