/- Laid by program out of its parts: PaL, PaM, PaN, PaO, PaP, PaQ, PaR, PaS, PaT, PaU. -/
import Derived.Test.YtlmmbanfhjaioaaDoorPa1
import Derived.Test.YtlmmbanfhjaioaaDoorMh
set_option linter.unusedVariables false
set_option linter.unusedSimpArgs false
section
set_option maxRecDepth 100000
set_option maxHeartbeats 2000000
open Go Go.Ev
namespace Go.Proofs.YtlmmbanfhjaioaaDoor
structure Pre (L:List TK) (n:Nat) (s:RS):Prop where
 ok:RSOK L s
 ns:s.nest≤64
 lf:(L.length:Int) - s.at_ < n
structure Post (L:List TK) (E C:Int) (s:RS) (r:PT×RS):Prop where
 ok:RSOK L r.2
 ns:r.2.nest=s.nest
 am:s.at_≤r.2.at_
 er:s.err≠0→r.2.err≠0∧r.2.at_=s.at_∧(sz r.1:Int)≤E
 ss:(sz r.1:Int)≤3 * (r.2.at_ - s.at_) + C
 so:r.2.err=0→(sz r.1:Int)≤3 * (r.2.at_ - s.at_)
def GF (n:Nat) (E C:Int) (F:List TK→PF):Prop:=∀ L s,Pre L n s→Post L E C s (F L s)
structure PreE (L:List TK) (n:Nat) (s:RS):Prop where
 ok:RSOK L s
 pe:s.err=0→Pre L n s
noncomputable def ifE (F:List TK→PF):List TK→PF:=fun L s=>if s.err≠0 then (zPT,s) else F L s
noncomputable def useM (L:List TK):PF:=fun s=>(nd 29 (kindR L s 1).1.text 0 (kindR L s 1).1 [],(kindR L s 1).2)
noncomputable def typM (L:List TK):PF:=fun s=>if (ahd L s).kind=1 then (nd 5 (ahd L s).text 0 (ahd L s) [],at1 s) else (nd 5 (oneR L s ws5).1.text 0 (oneR L s ws5).1 [],(oneR L s ws5).2)
def wNull:List UInt8:=[110,117,108,108]
def wIt:List UInt8:=[105,116]
def wNew:List UInt8:=[110,101,119]
def wFn:List UInt8:=[102,110]
def wPar:List UInt8:=[40]
def wRap:List UInt8:=[41]
theorem UC {L:List TK} {s:RS} (h:(ahd L s).kind≠0):s.err=0:=by
 unfold ahd at h
 split at h
 ·exact absurd rfl h
 ·rename_i g;omega
theorem YC {L:List TK} {s:RS} {w:List UInt8} (h:isS L s w=true):s.err=0:=by
 unfold isS at h
 rw [Bool.and_eq_true,decide_eq_true_eq] at h
 refine UC (L:=L) fun e=>?_
 rw [e] at h
 have:=h.1
 unfold kindS at this
 split at this <;> omega
structure Stp (L:List TK) (s r:RS):Prop where
 ok:RSOK L r
 ns:r.nest=s.nest
 am:s.at_≤r.at_
 ax:r.at_≤s.at_ + 1
 er:s.err≠0→r.err≠0∧r.at_=s.at_
 eo:r.err=0→r.at_=s.at_ + 1
theorem Un (s:RS) {e:Int} (he:e≠0):(wrongR s e).err≠0∧(wrongR s e).at_=s.at_∧(wrongR s e).nest=s.nest:=by
 unfold wrongR
 split
 ·exact ⟨he,rfl,rfl⟩
 ·rename_i h;exact ⟨h,rfl,rfl⟩
theorem Zb8 {L:List TK} {s:RS} {b:Bool} (h:RSOK L s) (hb:b=true→s.at_ < L.length∧s.err=0):Stp L s (takeR L s b).2:=by
 have hk:=take_ok (b:=b) h fun e=>(hb e).1
 have hw:=Un s (e:=4) (by decide)
 unfold takeR at hk ⊢
 split at hk
 ·rename_i e
  rw [if_pos e]
  have:=(hb e).2
  exact ⟨hk,rfl,show s.at_≤s.at_ + 1 by omega,show s.at_ + 1≤s.at_ + 1 by omega,fun h=>absurd this h,fun _=>rfl⟩
 ·rename_i e
  rw [if_neg e]
  exact ⟨hk,hw.2.2,by show _≤(wrongR s 4).at_;omega,by show (wrongR s 4).at_≤_;omega,fun h=>⟨hw.1,hw.2.1⟩,fun h=>absurd h hw.1⟩
theorem Yp {L:List TK} {s:RS} {w:List UInt8} (h:RSOK L s):Stp L s (signR L s w).2:=Zb8 h fun e=>⟨Zl e,YC e⟩
theorem Yi {L:List TK} {s:RS} {k:Int} (h:RSOK L s) (hk:k≠0):Stp L s (kindR L s k).2 :=
 Zb8 h fun e=>have e':(ahd L s).kind=k:=of_decide_eq_true e;⟨JG (by rw [e'];exact hk),UC (by rw [e'];exact hk)⟩
theorem Xc {L:List TK} {s:RS} {ws:List (List UInt8)} (h:RSOK L s):Stp L s (oneR L s ws).2:=by
 refine Zb8 h fun e=>?_
 obtain ⟨w,_,hw⟩:=List.any_eq_true.1 e
 exact ⟨Zl hw,YC hw⟩
structure Opn (L:List TK) (s r:RS):Prop where
 ok:RSOK L r
 ns:r.nest=s.nest + 1
 am:s.at_≤r.at_
 ax:r.at_≤s.at_ + 1
 er:s.err≠0→r.err≠0∧r.at_=s.at_
 eo:r.err=0→r.at_=s.at_ + 1∧s.nest < 64
theorem JR {L:List TK} {s:RS} {w:List UInt8} (h:RSOK L s) (hn:s.nest≤900):Opn L s (openR L s w).2:=by
 have hd:=deep_ok (w:=w) h hn
 have hs:=Yp (w:=w) hd
 have key:(deepR L s w).nest=s.nest + 1∧(deepR L s w).at_=s.at_∧(s.err≠0→(deepR L s w).err≠0)∧((deepR L s w).err=0→¬ (isS L s w=true∧64≤s.nest)):=by
  have hw:=Un s (e:=5) (by decide)
  unfold deepR
  split
  ·exact ⟨rfl,hw.2.1,fun _=>hw.1,fun h=>absurd h hw.1⟩
  ·rename_i e;exact ⟨rfl,rfl,fun h=>h,fun _=>e⟩
 obtain ⟨k1,k2,k3,k4⟩:=key
 have e1:=hs.ns;have e2:=hs.am;have e3:=hs.ax;have e4:=hs.er;have e5:=hs.eo
 unfold openR
 refine ⟨hs.ok,by omega,by omega,by omega,fun e=>by have:=e4 (k3 e);omega,fun e=>⟨by have:=e5 e;omega,?_⟩⟩
 have hz:(deepR L s w).err=0:=Classical.byContradiction fun hz=>(e4 hz).1 e
 have hi:isS L (deepR L s w) w=true:=by
  have:(signR L (deepR L s w) w).2.err=0:=e
  unfold signR takeR at this
  split at this
  ·rename_i h;exact h
  ·exact absurd this (Un _ (by decide)).1
 have hi':isS L s w=true:=by
  have hb:=k4 hz
  unfold deepR at hi
  rw [if_neg hb] at hi
  exact hi
 have:=k4 hz
 by_cases hh:s.nest < 64
 ·exact hh
 ·exact absurd ⟨hi',by omega⟩ this
theorem XP {L:List TK} {s:RS} (h:RSOK L s) (hl:s.at_ < L.length):RSOK L (at1 s):=⟨h.len,by have:=h.a0;show 0≤s.at_ + 1;omega,show s.at_ + 1≤L.length by omega,h.n0,h.n1⟩
theorem Je {L:List TK} {s:RS} (h:RSOK L s) (hn:1≤s.nest):RSOK L (down s):=⟨h.len,h.a0,h.a1,show 0≤s.nest - 1 by omega,by have:=h.n1;show s.nest - 1≤1000;omega⟩
theorem Xq (k:Int) (s:List UInt8) (n:Int) (t:TK):sz (nd k s n t [])=1:=by rw [QP,Xl]
theorem YQ (k:Int) (s:List UInt8) (n:Int) (t:TK) (x:PT):sz (nd k s n t [x])=1 + sz x:=by rw [QP,YE,Xl];omega
theorem XH (k:Int) (s:List UInt8) (n:Int) (t:TK) (x y:PT):sz (nd k s n t [x,y])=1 + (sz x + sz y):=by rw [QP,YE,YE,Xl];omega
theorem sz_zPT:sz zPT=1:=by unfold zPT;rw [Zaz,Xl]
theorem Uy {L:List TK} {s:RS} {k:Int} {x:List UInt8} {n:Int} {t:TK} {E C:Int} (h:RSOK L s) (hl:s.at_ < L.length) (he:s.err=0) (hC:0≤C):Post L E C s (nd k x n t [],at1 s) :=
 ⟨XP h hl,rfl,show s.at_≤s.at_ + 1 by omega,fun e=>absurd he e,by show ((sz _:Nat):Int)≤3 * (s.at_ + 1 - s.at_) + C;rw [Xq];omega,fun _=>by show ((sz _:Nat):Int)≤3 * (s.at_ + 1 - s.at_);rw [Xq];omega⟩
theorem Zg7 {L:List TK} {s r:RS} {k:Int} {x:List UInt8} {n:Int} {t:TK} (h:Stp L s r):Post L 1 1 s (nd k x n t [],r):=by
 have h1:=h.am;have h2:=h.ax;have h3:=h.er;have h4:=h.eo
 refine ⟨h.ok,h.ns,h1,fun e=>⟨(h3 e).1,(h3 e).2,?_⟩,?_,fun e=>?_⟩
 ·show ((sz _:Nat):Int)≤1;rw [Xq];omega
 ·show ((sz _:Nat):Int)≤_;rw [Xq];show (1:Int)≤3 * (r.at_ - s.at_) + 1;omega
 ·have:=h4 e;show ((sz _:Nat):Int)≤_;rw [Xq];show (1:Int)≤3 * (r.at_ - s.at_);omega
theorem Ka {L:List TK} {s:RS} (h:RSOK L s):Post L 1 1 s (useM L s):=Zg7 (Yi h (by decide))
theorem Ut {L:List TK} {s:RS} (h:RSOK L s):Post L 1 1 s (typM L s):=by
 unfold typM
 split
 ·rename_i e
  exact Uy h (JG (by rw [e];decide)) (UC (by rw [e];decide)) (by decide)
 ·exact Zg7 (Xc h)
theorem Kr {L:List TK} {s:RS} {n:Nat} {E C:Int} {F:List TK→PF} (hF:GF n E C F) (hp:PreE L n s) (hC:1≤C):Post L 1 C s (ifE F L s):=by
 have h:=hp.ok
 have hp:=hp.pe
 unfold ifE
 split
 ·rename_i e
  exact ⟨h,rfl,Int.le_refl _,fun _=>⟨e,rfl,by show ((sz zPT:Nat):Int)≤1;rw [sz_zPT];omega⟩,by show ((sz zPT:Nat):Int)≤3 * (s.at_ - s.at_) + C;rw [sz_zPT];omega,fun e2=>absurd e2 e⟩
 ·rename_i e
  have e:s.err=0:=by omega
  have p:=hF L s (hp e)
  exact ⟨p.ok,p.ns,p.am,fun h=>absurd e h,p.ss,p.so⟩
theorem nb {b:Bool} (h:b=false):¬ b=true:=by rw [h];decide
theorem Post.bnd {L:List TK} {E C:Int} {s:RS} {r:PT×RS} (h:Post L E C s r) (hs:RSOK L s) (hC:C≤100):sz r.1≤300100:=by
 have h1:=h.ss;have h2:=h.ok.a1;have h3:=h.ok.len;have h4:=hs.a0
 omega
theorem KE (k:Int) (s:List UInt8) (n:Int) (t:TK) (x y z:PT):sz (nd k s n t [x,y,z])=1 + (sz x + (sz y + sz z)):=by rw [QP,YE,YE,YE,Xl];omega
end Go.Proofs.YtlmmbanfhjaioaaDoor
end
section
set_option maxRecDepth 100000
set_option maxHeartbeats 2000000
open Go Go.Ev
namespace Go.Proofs.YtlmmbanfhjaioaaDoor
noncomputable def firstM (T B:List TK→PF) (L:List TK):PF:=fun s =>
 if (ahd L s).kind=3 then (nd 26 [] (ahd L s).num (ahd L s) [],at1 s)
 else if isS L s wNull=true then (nd 27 [] 0 (ahd L s) [],at1 s)
 else if isS L s wIt=true then (nd 28 [] 0 (ahd L s) [],at1 s)
 else if isS L s wNew=true then (nd 33 (kindR L (at1 s) 1).1.text 0 (ahd L s) [],(kindR L (at1 s) 1).2)
 else if isS L s wFn=true then (nd 36 [] 0 (ahd L s) [(ifE B L (at1 s)).1],(ifE B L (at1 s)).2)
 else if isS L s wPar=true then ((ifE T L (openR L s wPar).2).1,down (signR L (ifE T L (openR L s wPar).2).2 wRap).2)
 else useM L s
theorem Zcl {n:Nat} {T B:List TK→PF} (hT:GF n 1 2 T) (hB:GF n 1 2 B):GF (n + 1) 1 2 (firstM T B):=by
 intro L s hp
 have h:=hp.ok
 have hlf:=hp.lf
 have hns:=hp.ns
 unfold firstM
 split
 ·rename_i e
  exact Uy h (JG (by rw [e];decide)) (UC (by rw [e];decide)) (by decide)
 split
 ·rename_i e;exact Uy h (Zl e) (YC e) (by decide)
 split
 ·rename_i e;exact Uy h (Zl e) (YC e) (by decide)
 split
 ·rename_i e
  have a1:=XP h (Zl e)
  have g:=Yi (k:=1) a1 (by decide)
  have g1:=g.am;have g2:=g.ax;have g3:=g.er;have g4:=g.eo;have g5:=g.ns
  have he:=YC e
  refine ⟨g.ok,g5,?_,fun e=>absurd he e,?_,fun _=>?_⟩
  ·have:s.at_ + 1≤(kindR L (at1 s) 1).2.at_:=g1
   show s.at_≤(kindR L (at1 s) 1).2.at_;omega
  ·have:s.at_ + 1≤(kindR L (at1 s) 1).2.at_:=g1
   show ((sz _:Nat):Int)≤3 * ((kindR L (at1 s) 1).2.at_ - s.at_) + 2
   rw [Xq];omega
  ·have:s.at_ + 1≤(kindR L (at1 s) 1).2.at_:=g1
   show ((sz _:Nat):Int)≤3 * ((kindR L (at1 s) 1).2.at_ - s.at_)
   rw [Xq];omega
 split
 ·rename_i e
  have hl:=Zl e
  have he:=YC e
  have a1:=XP h hl
  have g:=Kr (s:=at1 s) hB ⟨a1,fun _=>⟨a1,hns,by show (L.length:Int) - (s.at_ + 1) < n;omega⟩⟩ (by decide)
  generalize ifE B L (at1 s)=r at g ⊢
  have g1:s.at_ + 1≤r.2.at_:=g.am
  have g2:(sz r.1:Int)≤3 * (r.2.at_ - (s.at_ + 1)) + 2:=g.ss
  have g3:r.2.err=0→(sz r.1:Int)≤3 * (r.2.at_ - (s.at_ + 1)):=g.so
  refine ⟨g.ok,g.ns,by show s.at_≤r.2.at_;omega,fun e=>absurd he e,?_,fun e2=>?_⟩
  ·show ((sz _:Nat):Int)≤3 * (r.2.at_ - s.at_) + 2;rw [YQ];omega
  ·have:=g3 e2
   show ((sz _:Nat):Int)≤3 * (r.2.at_ - s.at_);rw [YQ];omega
 split
 ·rename_i e
  have hl:=Zl e
  have he:=YC e
  have o:=JR (w:=wPar) h (by omega)
  generalize (openR L s wPar).2=q at o ⊢
  have o1:=o.am;have o2:=o.ax;have o3:=o.eo;have o4:=o.ns
  have g:=Kr (s:=q) hT ⟨o.ok,fun z=>⟨o.ok,by have:=o3 z;omega,by have:=o3 z;omega⟩⟩ (by decide)
  generalize ifE T L q=r at g ⊢
  have g1:=g.am;have g2:=g.ss;have g3:=g.so;have g4:=g.er;have g5:=g.ns
  have f:=Yp (w:=wRap) g.ok
  generalize (signR L r.2 wRap).2=v at f ⊢
  have f1:=f.am;have f2:=f.ax;have f3:=f.eo;have f4:=f.er;have f5:=f.ns
  have hn0:=h.n0
  refine ⟨Je f.ok (by omega),by show v.nest - 1=s.nest;omega,by show s.at_≤v.at_;omega,fun e=>absurd he e,?_,fun e2=>?_⟩
  ·show (sz r.1:Int)≤3 * (v.at_ - s.at_) + 2;omega
  ·have e2:v.err=0:=e2
   show (sz r.1:Int)≤3 * (v.at_ - s.at_)
   omega
 ·have:=Ka (L:=L) (s:=s) h
  have t1:=this.ss
  exact ⟨this.ok,this.ns,this.am,this.er,by omega,this.so⟩
end Go.Proofs.YtlmmbanfhjaioaaDoor
end
section
set_option maxRecDepth 100000
set_option maxHeartbeats 2000000
open Go Go.Ev
namespace Go.Proofs.YtlmmbanfhjaioaaDoor
def wDot:List UInt8:=[46]
def wSq:List UInt8:=[91]
def wQs:List UInt8:=[93]
noncomputable def dotM (L:List TK) (x:PT) (s:RS):PT×RS:=(nd 30 (kindR L (at1 s) 1).1.text 0 (ahd L s) [x],(kindR L (at1 s) 1).2)
noncomputable def idxM (T:List TK→PF) (L:List TK) (x:PT) (s:RS):PT×RS:=(nd 31 [] 0 (openR L s wSq).1 [x,(ifE T L (openR L s wSq).2).1],down (signR L (ifE T L (openR L s wSq).2).2 wQs).2)
noncomputable def tightL (T:List TK→PF) (L:List TK):Nat→PT→RS→PT×RS
 | 0,x,s=>(x,s)
 | k + 1,x,s=>if isS L s wDot=true then tightL T L k (dotM L x s).1 (dotM L x s).2 else if isS L s wSq=true then tightL T L k (idxM T L x s).1 (idxM T L x s).2 else (x,s)
def meas (L:List TK) (s:RS):Nat:=2 * ((L.length:Int) - s.at_).toNat + (if s.err=0 then 1 else 0)
def fuelN (L:List TK):Nat:=2 * L.length + 2
noncomputable def tightM (T:List TK→PF) (Fi:List TK→PF) (L:List TK):PF:=fun s=>tightL T L (fuelN L) (Fi L s).1 (Fi L s).2
theorem Zav {L:List TK} {s r:RS} (h:RSOK L r) (he:s.err=0) (h1:s.at_≤r.at_) (h2:r.err=0→s.at_ < r.at_):meas L r < meas L s:=by
 have:=h.a1
 unfold meas
 rw [if_pos he]
 split
 ·rename_i e;have:=h2 e;omega
 ·omega
theorem XZ {L:List TK} {s:RS} (h:RSOK L s):meas L s < fuelN L:=by
 have:=h.a0
 unfold meas fuelN
 split <;> omega
theorem Zhm {L:List TK} {s0 s:RS} {x:PT} (h:Post L 1 2 s0 (x,s)) (hd:isS L s wDot=true):Post L 1 2 s0 (dotM L x s)∧meas L (dotM L x s).2 < meas L s:=by
 have he:=YC hd
 have hl:=Zl hd
 have hok:RSOK L s:=h.ok
 have a1:=XP hok hl
 have g:=Yi (k:=1) a1 (by decide)
 have g1:s.at_ + 1≤(kindR L (at1 s) 1).2.at_:=g.am
 have g2:(kindR L (at1 s) 1).2.nest=s.nest:=g.ns
 have p1:s0.at_≤s.at_:=h.am
 have p2:s.nest=s0.nest:=h.ns
 have p3:(sz x:Int)≤3 * (s.at_ - s0.at_):=h.so he
 refine ⟨⟨g.ok,by show (kindR L (at1 s) 1).2.nest=_;omega,by show s0.at_≤(kindR L (at1 s) 1).2.at_;omega,fun e=>absurd he (h.er e).1,?_,fun e2=>?_⟩,Zav g.ok he ?_ fun e2=>?_⟩
 ·show ((sz (nd 30 (kindR L (at1 s) 1).1.text 0 (ahd L s) [x]):Nat):Int)≤3 * ((kindR L (at1 s) 1).2.at_ - s0.at_) + 2
  rw [YQ];omega
 ·show ((sz (nd 30 (kindR L (at1 s) 1).1.text 0 (ahd L s) [x]):Nat):Int)≤3 * ((kindR L (at1 s) 1).2.at_ - s0.at_)
  rw [YQ];omega
 ·show s.at_≤(kindR L (at1 s) 1).2.at_;omega
 ·show s.at_ < (kindR L (at1 s) 1).2.at_;omega
theorem Zhk {n:Nat} {T:List TK→PF} (hT:GF n 1 2 T) {L:List TK} {s0 s:RS} {x:PT} (h:Post L 1 2 s0 (x,s)) (hn:s0.nest≤64) (hlf:(L.length:Int) - s0.at_ < (n:Int) + 1) (hd:isS L s wSq=true):PreE L n (openR L s wSq).2∧Post L 1 2 s0 (idxM T L x s)∧meas L (idxM T L x s).2 < meas L s:=by
 have he:=YC hd
 have hl:=Zl hd
 have hok:RSOK L s:=h.ok
 have p1:s0.at_≤s.at_:=h.am
 have p2:s.nest=s0.nest:=h.ns
 have p3:(sz x:Int)≤3 * (s.at_ - s0.at_):=h.so he
 have p4:s0.err≠0→s.err≠0:=fun e=>(h.er e).1
 have o:=JR (w:=wSq) hok (show s.nest≤900 by omega)
 unfold idxM
 generalize (openR L s wSq)=q at o ⊢
 have o1:=o.am;have o2:=o.ax;have o3:=o.eo;have o4:=o.ns;have o5:=o.er
 have pq:PreE L n q.2:=⟨o.ok,fun z=>⟨o.ok,by have:=o3 z;omega,by have:=o3 z;omega⟩⟩
 have g:=Kr hT pq (by decide)
 generalize ifE T L q.2=r at g ⊢
 have g1:=g.am;have g2:=g.ss;have g3:=g.so;have g4:=g.er;have g5:=g.ns
 have f:=Yp (w:=wQs) g.ok
 generalize (signR L r.2 wQs).2=v at f ⊢
 have f1:=f.am;have f2:=f.ax;have f3:=f.eo;have f4:=f.er;have f5:=f.ns
 have hn0:=hok.n0
 refine ⟨pq,⟨Je f.ok (by omega),by show v.nest - 1=_;omega,by show s0.at_≤v.at_;omega,fun e=>absurd he (p4 e),?_,fun e2=>?_⟩,Zav (Je f.ok (by omega)) he ?_ fun e2=>?_⟩
 ·show ((sz _:Nat):Int)≤3 * (v.at_ - s0.at_) + 2
  rw [XH];omega
 ·have e2:v.err=0:=e2
  show ((sz _:Nat):Int)≤3 * (v.at_ - s0.at_)
  rw [XH];omega
 ·show s.at_≤v.at_;omega
 ·have e2:v.err=0:=e2
  show s.at_ < v.at_;omega
theorem QQ {n:Nat} {T:List TK→PF} (hT:GF n 1 2 T) {L:List TK} {s0:RS} (hn:s0.nest≤64) (hlf:(L.length:Int) - s0.at_ < (n:Int) + 1):∀ (k:Nat) (x:PT) (s:RS),Post L 1 2 s0 (x,s)→Post L 1 2 s0 (tightL T L k x s)
 | 0,x,s,h=>h
 | k + 1,x,s,h=>by
  unfold tightL
  split
  ·rename_i e;exact QQ hT hn hlf k _ _ (Zhm h e).1
  split
  ·rename_i e;exact QQ hT hn hlf k _ _ (Zhk hT h hn hlf e).2.1
  ·exact h
theorem Za7 {n:Nat} {T Fi:List TK→PF} (hT:GF n 1 2 T) (hF:GF (n + 1) 1 2 Fi):GF (n + 1) 1 2 (tightM T Fi):=by
 intro L s hp
 exact QQ hT hp.ns (by have:=hp.lf;omega) _ _ _ (hF L s hp)
end Go.Proofs.YtlmmbanfhjaioaaDoor
end
section
set_option maxRecDepth 100000
set_option maxHeartbeats 2000000
open Go Go.Ev
namespace Go.Proofs.YtlmmbanfhjaioaaDoor
end Go.Proofs.YtlmmbanfhjaioaaDoor
end
section
set_option maxRecDepth 100000
set_option maxHeartbeats 2000000
open Go Go.Ev
namespace Go.Proofs.YtlmmbanfhjaioaaDoor
def wLen:List UInt8:=[108,101,110]
def wArr:List UInt8:=[97,114,114]
def wMul:List UInt8:=[42]
def wAdd:List UInt8:=[43]
def wSub:List UInt8:=[45]
def wLess:List UInt8:=[60]
def wEq:List UInt8:=[61,61]
noncomputable def unM (k:Int) (U:List TK→PF) (L:List TK) (s:RS):PT×RS:=(nd k [] 0 (openR L s (ahd L s).text).1 [(ifE U L (openR L s (ahd L s).text).2).1],down (ifE U L (openR L s (ahd L s).text).2).2)
noncomputable def unaryM (U Ti:List TK→PF) (L:List TK):PF:=fun s=>if isS L s wLen=true then unM 35 U L s else if isS L s wArr=true then unM 34 U L s else Ti L s
noncomputable def opM (F:List TK→PF) (L:List TK) (x:PT) (s:RS):PT×RS:=(nd 32 (ahd L s).text 0 (ahd L s) [x,(F L (at1 s)).1],(F L (at1 s)).2)
noncomputable def opL (F:List TK→PF) (ws:List (List UInt8)) (L:List TK):Nat→PT→RS→PT×RS
 | 0,x,s=>(x,s)
 | k + 1,x,s=>if ws.any (isS L s)=true then opL F ws L k (opM F L x s).1 (opM F L x s).2 else (x,s)
noncomputable def rowM (F:List TK→PF) (ws:List (List UInt8)) (L:List TK):PF:=fun s=>opL F ws L (fuelN L) (F L s).1 (F L s).2
noncomputable def termM (F:List TK→PF) (L:List TK):PF:=fun s=>if [wLess,wEq].any (isS L (F L s).2)=true then opM F L (F L s).1 (F L s).2 else F L s
noncomputable def varM (Ti:List TK→PF) (L:List TK):PF:=fun s=>((Ti L s).1,if (Ti L s).2.err=0∧(Ti L s).1.kind≠29∧(Ti L s).1.kind≠30∧(Ti L s).1.kind≠31 then wrongR (Ti L s).2 4 else (Ti L s).2)
theorem Xh {L:List TK} {s:RS} {w:List UInt8} (h:isS L s w=true):(ahd L s).text=w:=by
 unfold isS at h
 rw [Bool.and_eq_true,decide_eq_true_eq,decide_eq_true_eq] at h
 exact h.2
theorem Zk2 {n:Nat} {U:List TK→PF} (hU:GF n 1 2 U) {L:List TK} {s:RS} {k:Int} {w:List UInt8} (hp:Pre L (n + 1) s) (h:isS L s w=true):PreE L n (openR L s (ahd L s).text).2∧Post L 1 2 s (unM k U L s):=by
 have he:=YC h
 have hl:=Zl h
 have hok:=hp.ok
 have hns:=hp.ns
 have hlf:=hp.lf
 have o:=JR (w:=(ahd L s).text) hok (show s.nest≤900 by omega)
 unfold unM
 generalize (openR L s (ahd L s).text)=q at o ⊢
 have o1:=o.am;have o2:=o.ax;have o3:=o.eo;have o4:=o.ns;have o5:=o.er
 have pq:PreE L n q.2:=⟨o.ok,fun z=>⟨o.ok,by have:=o3 z;omega,by have:=o3 z;omega⟩⟩
 have g:=Kr hU pq (by decide)
 generalize ifE U L q.2=r at g ⊢
 have g1:=g.am;have g2:=g.ss;have g3:=g.so;have g4:=g.er;have g5:=g.ns
 have hn0:=hok.n0
 refine ⟨pq,⟨Je g.ok (by omega),by show r.2.nest - 1=_;omega,by show s.at_≤r.2.at_;omega,fun e=>absurd he e,?_,fun e2=>?_⟩⟩
 ·show ((sz _:Nat):Int)≤3 * (r.2.at_ - s.at_) + 2
  rw [YQ];omega
 ·have e2:r.2.err=0:=e2
  show ((sz _:Nat):Int)≤3 * (r.2.at_ - s.at_)
  rw [YQ];omega
theorem Za0 {n:Nat} {U Ti:List TK→PF} (hU:GF n 1 2 U) (hT:GF (n + 1) 1 2 Ti):GF (n + 1) 1 2 (unaryM U Ti):=by
 intro L s hp
 unfold unaryM
 split
 ·rename_i e;exact (Zk2 hU hp e).2
 split
 ·rename_i e;exact (Zk2 hU hp e).2
 ·exact hT L s hp
theorem Zaa {n:Nat} {F:List TK→PF} (hF:GF n 1 2 F) {L:List TK} {s0 s:RS} {x:PT} {ws:List (List UInt8)} (h:Post L 1 2 s0 (x,s)) (hp:Pre L n s0) (hd:ws.any (isS L s)=true):Pre L n (at1 s)∧Post L 1 2 s0 (opM F L x s)∧meas L (opM F L x s).2 < meas L s:=by
 obtain ⟨w,_,hw⟩:=List.any_eq_true.1 hd
 have he:=YC hw
 have hl:=Zl hw
 have hok:RSOK L s:=h.ok
 have p1:s0.at_≤s.at_:=h.am
 have p2:s.nest=s0.nest:=h.ns
 have p3:(sz x:Int)≤3 * (s.at_ - s0.at_):=h.so he
 have p4:s0.err≠0→s.err≠0:=fun e=>(h.er e).1
 have hns:=hp.ns
 have hlf:=hp.lf
 have a1:=XP hok hl
 have pa:Pre L n (at1 s):=⟨a1,by show s.nest≤64;omega,by show (L.length:Int) - (s.at_ + 1) < n;omega⟩
 have g:=hF L (at1 s) pa
 unfold opM
 generalize F L (at1 s)=r at g ⊢
 have g1:s.at_ + 1≤r.2.at_:=g.am
 have g2:(sz r.1:Int)≤3 * (r.2.at_ - (s.at_ + 1)) + 2:=g.ss
 have g3:r.2.err=0→(sz r.1:Int)≤3 * (r.2.at_ - (s.at_ + 1)):=g.so
 have g5:r.2.nest=s.nest:=g.ns
 refine ⟨pa,⟨g.ok,by show r.2.nest=_;omega,by show s0.at_≤r.2.at_;omega,fun e=>absurd he (p4 e),?_,fun e2=>?_⟩,Zav g.ok he (by show s.at_≤r.2.at_;omega) fun _=>by show s.at_ < r.2.at_;omega⟩
 ·show ((sz _:Nat):Int)≤3 * (r.2.at_ - s0.at_) + 2
  rw [XH];omega
 ·have e2:r.2.err=0:=e2
  show ((sz _:Nat):Int)≤3 * (r.2.at_ - s0.at_)
  rw [XH];omega
theorem Zgj {n:Nat} {F:List TK→PF} (hF:GF n 1 2 F) {L:List TK} {s0:RS} {ws:List (List UInt8)} (hp:Pre L n s0):∀ (k:Nat) (x:PT) (s:RS),Post L 1 2 s0 (x,s)→Post L 1 2 s0 (opL F ws L k x s)
 | 0,x,s,h=>h
 | k + 1,x,s,h=>by
  unfold opL
  split
  ·rename_i e;exact Zgj hF hp k _ _ (Zaa hF h hp e).2.1
  ·exact h
theorem KG {n:Nat} {F:List TK→PF} {ws:List (List UInt8)} (hF:GF n 1 2 F):GF n 1 2 (rowM F ws):=fun L s hp=>Zgj hF hp _ _ _ (hF L s hp)
theorem Zee {n:Nat} {F:List TK→PF} (hF:GF n 1 2 F):GF n 1 2 (termM F):=by
 intro L s hp
 unfold termM
 split
 ·rename_i e;exact (Zaa hF (hF L s hp) hp e).2.1
 ·exact hF L s hp
theorem Zh6 {n:Nat} {Ti:List TK→PF} (hT:GF n 1 2 Ti):GF n 1 2 (varM Ti):=by
 intro L s hp
 have g:=hT L s hp
 unfold varM
 generalize Ti L s=r at g ⊢
 have w:=Un r.2 (e:=4) (by decide)
 have wo:=Zbn g.ok 4
 have g1:=g.am;have g2:=g.ss;have g3:=g.so;have g4:=g.er;have g5:=g.ns
 split
 ·exact ⟨wo,by show (wrongR r.2 4).nest=_;omega,by show _≤(wrongR r.2 4).at_;omega,fun e=>⟨w.1,by show (wrongR r.2 4).at_=_;have:=g4 e;omega,(g4 e).2.2⟩,by show _≤3 * ((wrongR r.2 4).at_ - _) + 2;rw [w.2.1];exact g2,fun e=>absurd e w.1⟩
 ·exact g
theorem any1 {f:List UInt8→Bool} {a:List UInt8} {c:Bool} (h:f a=c):[a].any f=c:=by simp [h]
end Go.Proofs.YtlmmbanfhjaioaaDoor
end
section
set_option maxRecDepth 100000
set_option maxHeartbeats 2000000
open Go Go.Ev
namespace Go.Proofs.YtlmmbanfhjaioaaDoor
def wSet:List UInt8:=[61]
def wSemi:List UInt8:=[59]
def wElse:List UInt8:=[101,108,115,101]
def wWhile:List UInt8:=[119,104,105,108,101]
noncomputable def setM (V T:List TK→PF) (L:List TK) (t:TK):PF:=fun s =>
 (nd 14 [] 0 t [(V L s).1,(T L (signR L (V L s).2 wSet).2).1],(signR L (T L (signR L (V L s).2 wSet).2).2 wSemi).2)
noncomputable def ifM (T B:List TK→PF) (L:List TK) (t:TK) (s:RS):PT×RS :=
 if t.text=wWhile then (nd 24 [] 0 t [(T L s).1,(B L (T L s).2).1],(B L (T L s).2).2)
 else if isS L (B L (T L s).2).2 wElse=true then (nd 23 [] 0 t [(T L s).1,(B L (T L s).2).1,(B L (at1 (B L (T L s).2).2)).1],(B L (at1 (B L (T L s).2).2)).2)
 else (nd 23 [] 0 t [(T L s).1,(B L (T L s).2).1,nd 12 [] 0 t []],(B L (T L s).2).2)
noncomputable def branchM (T B:List TK→PF) (L:List TK):PF:=fun s=>ifM T B L (ahd L s) (at1 s)
structure PreB (L:List TK) (n:Nat) (s:RS):Prop where
 p:Pre L (n + 1) s
 k:(ahd L s).kind=2
theorem Zgu {n:Nat} {V T:List TK→PF} (hV:GF n 1 2 V) (hT:GF n 1 2 T) (t:TK):GF n 3 4 (fun L=>setM V T L t):=by
 intro L s hp
 have g:=hV L s hp
 have hns:=hp.ns
 have hlf:=hp.lf
 show Post L 3 4 s (setM V T L t s)
 unfold setM
 generalize V L s=v at g ⊢
 have g1:=g.am;have g2:=g.ss;have g3:=g.so;have g4:=g.er;have g5:=g.ns;have g6:=Wj v.1
 have f:=Yp (w:=wSet) g.ok
 generalize (signR L v.2 wSet).2=q at f ⊢
 have f1:=f.am;have f2:=f.ax;have f3:=f.eo;have f4:=f.er;have f5:=f.ns
 have d:=hT L q ⟨f.ok,by omega,by omega⟩
 generalize T L q=r at d ⊢
 have d1:=d.am;have d2:=d.ss;have d3:=d.so;have d4:=d.er;have d5:=d.ns
 have e:=Yp (w:=wSemi) d.ok
 generalize (signR L r.2 wSemi).2=u at e ⊢
 have e1:=e.am;have e2:=e.ax;have e3:=e.eo;have e4:=e.er;have e5:=e.ns
 refine ⟨e.ok,by show u.nest=_;omega,by show _≤u.at_;omega,fun z=>⟨by show u.err≠0;omega,by show u.at_=_;omega,?_⟩,?_,fun z=>?_⟩
 ·show ((sz _:Nat):Int)≤3
  rw [XH];omega
 ·show ((sz _:Nat):Int)≤3 * (u.at_ - s.at_) + 4
  rw [XH];omega
 ·have z:u.err=0:=z
  show ((sz _:Nat):Int)≤3 * (u.at_ - s.at_)
  rw [XH];omega
theorem QR {n:Nat} {T B:List TK→PF} (hT:GF (n + 1) 1 2 T) (hB:GF n 1 2 B) {L:List TK} {s:RS} (hp:PreB L n s):Post L 1 2 s (branchM T B L s):=by
 have hok:=hp.p.ok
 have hns:=hp.p.ns
 have hlf:=hp.p.lf
 have hl:=JG (L:=L) (s:=s) (by rw [hp.k];decide)
 have he:=UC (L:=L) (s:=s) (by rw [hp.k];decide)
 have a1:=XP hok hl
 unfold branchM ifM
 have g:=hT L (at1 s) ⟨a1,hns,by show (L.length:Int) - (s.at_ + 1) < _;omega⟩
 have ea:(at1 s).at_=s.at_ + 1:=rfl
 have en:(at1 s).nest=s.nest:=rfl
 generalize at1 s=s1 at g ea en ⊢
 generalize T L s1=x at g ⊢
 have g1:=g.am;have g2:=g.ss;have g3:=g.so;have g5:=g.ns;have g6:=Wj x.1
 have d:=hB L x.2 ⟨g.ok,by omega,by omega⟩
 generalize B L x.2=b at d ⊢
 have d1:=d.am;have d2:=d.ss;have d3:=d.so;have d4:=d.er;have d5:=d.ns;have d6:=Wj b.1
 split
 ·refine ⟨d.ok,by show b.2.nest=_;omega,by show _≤b.2.at_;omega,fun z=>absurd he z,?_,fun z=>?_⟩
  ·show ((sz _:Nat):Int)≤3 * (b.2.at_ - s.at_) + 2
   rw [XH];omega
  ·have z:b.2.err=0:=z
   show ((sz _:Nat):Int)≤3 * (b.2.at_ - s.at_)
   rw [XH];omega
 split
 ·rename_i e2
  have l2:=Zl e2
  have z2:=YC e2
  have o2:=XP d.ok l2
  have pc:=hB L (at1 b.2) ⟨o2,by show b.2.nest≤64;omega,by show (L.length:Int) - (b.2.at_ + 1) < _;omega⟩
  generalize B L (at1 b.2)=c at pc ⊢
  have c1:b.2.at_ + 1≤c.2.at_:=pc.am
  have c2:(sz c.1:Int)≤3 * (c.2.at_ - (b.2.at_ + 1)) + 2:=pc.ss
  have c3:c.2.err=0→(sz c.1:Int)≤3 * (c.2.at_ - (b.2.at_ + 1)):=pc.so
  have c5:c.2.nest=b.2.nest:=pc.ns
  refine ⟨pc.ok,by show c.2.nest=_;omega,by show _≤c.2.at_;omega,fun z=>absurd he z,?_,fun z=>?_⟩
  ·show ((sz _:Nat):Int)≤3 * (c.2.at_ - s.at_) + 2
   rw [KE];omega
  ·have z:c.2.err=0:=z
   show ((sz _:Nat):Int)≤3 * (c.2.at_ - s.at_)
   rw [KE];omega
 ·refine ⟨d.ok,by show b.2.nest=_;omega,by show _≤b.2.at_;omega,fun z=>absurd he z,?_,fun z=>?_⟩
  ·show ((sz _:Nat):Int)≤3 * (b.2.at_ - s.at_) + 2
   rw [KE,Xq];omega
  ·have z:b.2.err=0:=z
   show ((sz _:Nat):Int)≤3 * (b.2.at_ - s.at_)
   rw [KE,Xq];omega
end Go.Proofs.YtlmmbanfhjaioaaDoor
end
section
set_option maxRecDepth 100000
set_option maxHeartbeats 2000000
open Go Go.Ev
namespace Go.Proofs.YtlmmbanfhjaioaaDoor
def wPost:List UInt8:=[112,111,115,116]
def wAfter:List UInt8:=[97,102,116,101,114]
def wFront:List UInt8:=[102,114,111,110,116]
def wTo:List UInt8:=[116,111]
noncomputable def toM (V:List TK→PF) (L:List TK) (k:Int) (x:List UInt8) (n:Int) (t:TK) (y:PT) (s:RS):PT×RS :=
 if isS L s wTo=true then (nd k x n t [y,(V L (at1 s)).1],(V L (at1 s)).2) else (nd k x n t [y],s)
noncomputable def postX (T V:List TK→PF) (L:List TK) (t q:TK) (s:RS):PT×RS :=
 if isS L (T L s).2 wAfter=true then toM V L 19 q.text (kindR L (at1 (T L s).2) 3).1.num t (T L s).1 (kindR L (at1 (T L s).2) 3).2
 else if isS L (T L s).2 wFront=true then toM V L 19 q.text (-1) t (T L s).1 (at1 (T L s).2)
 else toM V L 19 q.text 0 t (T L s).1 (T L s).2
noncomputable def postM (T V:List TK→PF) (L:List TK):PF:=fun s =>
 if (ahd L s).text=wPost then postX T V L (ahd L s) (kindR L (at1 s) 1).1 (kindR L (at1 s) 1).2
 else toM V L 20 [] 0 (ahd L s) (T L (at1 s)).1 (T L (at1 s)).2
theorem GY {n:Nat} {V:List TK→PF} (hV:GF n 1 2 V) {L:List TK} {s0 s:RS} {k:Int} {x:List UInt8} {m:Int} {t:TK} {y:PT} (hp:Pre L n s) (he:s0.err=0) (hn:s.nest=s0.nest) (ha:s0.at_≤s.at_) (hs:1 + (sz y:Int)≤3 * (s.at_ - s0.at_)):Post L 1 2 s0 (toM V L k x m t y s):=by
 have hok:=hp.ok
 have hns:=hp.ns
 have hlf:=hp.lf
 unfold toM
 split
 ·rename_i e
  have l2:=Zl e
  have z2:=YC e
  have o2:=XP hok l2
  have pc:=hV L (at1 s) ⟨o2,hns,by show (L.length:Int) - (s.at_ + 1) < _;omega⟩
  generalize V L (at1 s)=c at pc ⊢
  have c1:s.at_ + 1≤c.2.at_:=pc.am
  have c2:(sz c.1:Int)≤3 * (c.2.at_ - (s.at_ + 1)) + 2:=pc.ss
  have c5:c.2.nest=s.nest:=pc.ns
  refine ⟨pc.ok,by show c.2.nest=_;omega,by show _≤c.2.at_;omega,fun z=>absurd he z,?_,fun z=>?_⟩
  ·show ((sz _:Nat):Int)≤3 * (c.2.at_ - s0.at_) + 2
   rw [XH];omega
  ·show ((sz _:Nat):Int)≤3 * (c.2.at_ - s0.at_)
   rw [XH];omega
 ·refine ⟨hok,hn,ha,fun z=>absurd he z,?_,fun z=>?_⟩
  ·show ((sz _:Nat):Int)≤3 * (s.at_ - s0.at_) + 2
   rw [YQ];omega
  ·show ((sz _:Nat):Int)≤3 * (s.at_ - s0.at_)
   rw [YQ];omega
theorem Zch {n:Nat} {T:List TK→PF} (hT:GF n 1 2 T) {L:List TK} {s0 s:RS} (hp:Pre L n s) (hn:s.nest=s0.nest) (ha:s0.at_ + 1≤s.at_):Pre L n (T L s).2∧(T L s).2.nest=s0.nest∧s0.at_≤(T L s).2.at_∧1 + (sz (T L s).1:Int)≤3 * ((T L s).2.at_ - s0.at_)∧sz (T L s).1≤300100:=by
 have g:=hT L s hp
 have b:=g.bnd hp.ok (by decide)
 have g1:=g.am;have g2:=g.ss;have g5:=g.ns
 have hns:=hp.ns
 have hlf:=hp.lf
 exact ⟨⟨g.ok,by omega,by omega⟩,by omega,by omega,by omega,b⟩
theorem Gd {n:Nat} {T V:List TK→PF} (hT:GF (n + 1) 1 2 T) (hV:GF (n + 1) 1 2 V) {L:List TK} {s:RS} (hp:PreB L n s):Post L 1 2 s (postM T V L s):=by
 have hok:=hp.p.ok
 have hns:=hp.p.ns
 have hlf:=hp.p.lf
 have hl:=JG (L:=L) (s:=s) (by rw [hp.k];decide)
 have he:=UC (L:=L) (s:=s) (by rw [hp.k];decide)
 have a1:=XP hok hl
 unfold postM
 split
 ·have f:=Yi (k:=1) a1 (by decide)
  unfold postX
  generalize (kindR L (at1 s) 1)=q at f ⊢
  have f1:s.at_ + 1≤q.2.at_:=f.am
  have f5:q.2.nest=s.nest:=f.ns
  obtain ⟨x1,x2,x3,x4,x5⟩:=Zch (s0:=s) hT (s:=q.2) ⟨f.ok,by omega,by omega⟩ f5 f1
  generalize T L q.2=x at x1 x2 x3 x4 x5 ⊢
  have y1:=x1.ns;have y2:=x1.lf
  split
  ·rename_i e
   have o2:=XP x1.ok (Zl e)
   have u:=Yi (k:=3) o2 (by decide)
   have u1:x.2.at_ + 1≤(kindR L (at1 x.2) 3).2.at_:=u.am
   have u5:(kindR L (at1 x.2) 3).2.nest=x.2.nest:=u.ns
   exact GY hV ⟨u.ok,by omega,by omega⟩ he (by omega) (by omega) (by omega)
  split
  ·rename_i e
   have o2:=XP x1.ok (Zl e)
   exact GY hV ⟨o2,y1,by show (L.length:Int) - (x.2.at_ + 1) < _;omega⟩ he x2 (by show _≤x.2.at_ + 1;omega) (by show _≤3 * (x.2.at_ + 1 - _);omega)
  ·exact GY hV x1 he x2 x3 x4
 ·obtain ⟨x1,x2,x3,x4,x5⟩:=Zch (s0:=s) hT (s:=at1 s) ⟨a1,hns,by show (L.length:Int) - (s.at_ + 1) < _;omega⟩ rfl (Int.le_refl _)
  exact GY hV x1 he x2 x3 x4
end Go.Proofs.YtlmmbanfhjaioaaDoor
end
section
set_option maxRecDepth 100000
set_option maxHeartbeats 2000000
open Go Go.Ev
namespace Go.Proofs.YtlmmbanfhjaioaaDoor
def wIf:List UInt8:=[105,102]
def wVar:List UInt8:=[118,97,114]
def wCall:List UInt8:=[99,97,108,108]
def wCancel:List UInt8:=[99,97,110,99,101,108]
def wJoin:List UInt8:=[106,111,105,110]
def wLog:List UInt8:=[108,111,103]
def wSpawn:List UInt8:=[115,112,97,119,110]
def wEnable:List UInt8:=[101,110,97,98,108,101]
def wDisable:List UInt8:=[100,105,115,97,98,108,101]
def wReturn:List UInt8:=[114,101,116,117,114,110]
noncomputable def semi (L:List TK) (r:PT×RS):PT×RS:=(r.1,(signR L r.2 wSemi).2)
noncomputable def varS (T:List TK→PF) (L:List TK) (t:TK) (k:TK×RS):PT×RS:=(nd 13 k.1.text 0 t [(typM L k.2).1,(T L (signR L (typM L k.2).2 wSet).2).1],(T L (signR L (typM L k.2).2 wSet).2).2)
noncomputable def oneS (T:List TK→PF) (L:List TK) (k:Int) (t:TK) (s:RS):PT×RS:=(nd k [] 0 t [(T L s).1],(T L s).2)
noncomputable def nmS (L:List TK) (k:Int) (t:TK) (s:RS):PT×RS:=(nd k (kindR L s 1).1.text 0 t [],(kindR L s 1).2)
noncomputable def stmtM (Se:List TK→TK→PF) (Br Po T:List TK→PF) (L:List TK):PF:=fun s =>
 if (ahd L s).kind≠2 then Se L (ahd L s) s
 else if (ahd L s).text=wIf then Br L s
 else if (ahd L s).text=wWhile then Br L s
 else if (ahd L s).text=wVar then semi L (varS T L (ahd L s) (kindR L (at1 s) 1))
 else if (ahd L s).text=wCall then semi L (oneS T L 15 (ahd L s) (at1 s))
 else if (ahd L s).text=wCancel then semi L (oneS T L 16 (ahd L s) (at1 s))
 else if (ahd L s).text=wJoin then semi L (oneS T L 17 (ahd L s) (at1 s))
 else if (ahd L s).text=wLog then semi L (oneS T L 18 (ahd L s) (at1 s))
 else if (ahd L s).text=wPost then semi L (Po L s)
 else if (ahd L s).text=wSpawn then semi L (Po L s)
 else if (ahd L s).text=wEnable then semi L (nmS L 21 (ahd L s) (at1 s))
 else if (ahd L s).text=wDisable then semi L (nmS L 22 (ahd L s) (at1 s))
 else if (ahd L s).text=wReturn then semi L (nd 25 [] 0 (ahd L s) [],at1 s)
 else Se L (ahd L s) s
structure GS (n:Nat) (Se:List TK→TK→PF) (Br Po T:List TK→PF):Prop where
 s:∀ t,GF (n + 1) 3 4 fun L=>Se L t
 b:∀ L s,PreB L n s→Post L 1 2 s (Br L s)
 p:∀ L s,PreB L n s→Post L 1 2 s (Po L s)
 t:GF (n + 1) 1 2 T
theorem Yh {α:Type} {P:α→Prop} {p:Prop} [Decidable p] {a b:α} (h1:p→P a) (h2:¬ p→P b):P (if p then a else b):=by
 by_cases h:p
 ·rw [if_pos h];exact h1 h
 ·rw [if_neg h];exact h2 h
theorem Zlm {L:List TK} {E C E' C':Int} {s:RS} {r:PT×RS} (h:Post L E C s r) (he:E≤E') (hc:C≤C'):Post L E' C' s r :=
 ⟨h.ok,h.ns,h.am,fun z=>⟨(h.er z).1,(h.er z).2.1,by have:=(h.er z).2.2;omega⟩,by have:=h.ss;omega,h.so⟩
theorem Uq {L:List TK} {E C:Int} {s:RS} {r:PT×RS} (h:Post L E C s r):Post L E C s (semi L r):=by
 have e:=Yp (w:=wSemi) h.ok
 unfold semi
 generalize (signR L r.2 wSemi).2=u at e ⊢
 have e1:=e.am;have e2:=e.ax;have e3:=e.eo;have e4:=e.er;have e5:=e.ns
 have g1:=h.am;have g2:=h.ss;have g3:=h.so;have g4:=h.er;have g5:=h.ns
 exact ⟨e.ok,by show u.nest=_;omega,by show _≤u.at_;omega,fun z=>⟨by show u.err≠0;omega,by show u.at_=_;omega,(g4 z).2.2⟩,by show (sz r.1:Int)≤3 * (u.at_ - _) + C;omega,fun z=>by have z:u.err=0:=z;show (sz r.1:Int)≤3 * (u.at_ - _);omega⟩
theorem one_post {n:Nat} {T:List TK→PF} (hT:GF n 1 2 T) {L:List TK} {s0 s:RS} {k:Int} {t:TK} (hp:Pre L n s) (he:s0.err=0) (hn:s.nest=s0.nest) (ha:s0.at_ + 1≤s.at_):Post L 3 4 s0 (oneS T L k t s):=by
 have g:=hT L s hp
 unfold oneS
 generalize T L s=x at g ⊢
 have g1:=g.am;have g2:=g.ss;have g3:=g.so;have g5:=g.ns
 refine ⟨g.ok,by show x.2.nest=_;omega,by show _≤x.2.at_;omega,fun z=>absurd he z,?_,fun z=>?_⟩
 ·show ((sz _:Nat):Int)≤3 * (x.2.at_ - s0.at_) + 4
  rw [YQ];omega
 ·show ((sz _:Nat):Int)≤3 * (x.2.at_ - s0.at_)
  rw [YQ];omega
theorem nm_post {L:List TK} {s0 s:RS} {k:Int} {t:TK} (h:RSOK L s) (he:s0.err=0) (hn:s.nest=s0.nest) (ha:s0.at_ + 1≤s.at_):Post L 3 4 s0 (nmS L k t s):=by
 have f:=Yi (k:=1) h (by decide)
 unfold nmS
 generalize (kindR L s 1)=q at f ⊢
 have f1:=f.am;have f5:=f.ns
 refine ⟨f.ok,by show q.2.nest=_;omega,by show _≤q.2.at_;omega,fun z=>absurd he z,?_,fun z=>?_⟩
 ·show ((sz _:Nat):Int)≤3 * (q.2.at_ - s0.at_) + 4
  rw [Xq];omega
 ·show ((sz _:Nat):Int)≤3 * (q.2.at_ - s0.at_)
  rw [Xq];omega
theorem Zmj {n:Nat} {T:List TK→PF} (hT:GF n 1 2 T) {L:List TK} {s0:RS} {t:TK} {k:TK×RS} (hp:Pre L n k.2) (he:s0.err=0) (hn:k.2.nest=s0.nest) (ha:s0.at_ + 1≤k.2.at_):Post L 1 1 k.2 (typM L k.2)∧Pre L n (signR L (typM L k.2).2 wSet).2∧Post L 3 4 s0 (varS T L t k):=by
 have g:=Ut (L:=L) (s:=k.2) hp.ok
 have p1:=hp.ns;have p2:=hp.lf
 unfold varS
 generalize typM L k.2=y at g ⊢
 have g1:=g.am;have g2:=g.ss;have g3:=g.so;have g5:=g.ns;have g4:=g.er;have g6:=Wj y.1
 have f:=Yp (w:=wSet) g.ok
 generalize (signR L y.2 wSet).2=q at f ⊢
 have f1:=f.am;have f2:=f.ax;have f3:=f.eo;have f4:=f.er;have f5:=f.ns
 have pq:Pre L n q:=⟨f.ok,by omega,by omega⟩
 have d:=hT L q pq
 generalize T L q=x at d ⊢
 have d1:=d.am;have d2:=d.ss;have d3:=d.so;have d5:=d.ns;have d4:=d.er;have d6:=Wj x.1
 refine ⟨g,pq,d.ok,by show x.2.nest=_;omega,by show _≤x.2.at_;omega,fun z=>absurd he z,?_,fun z=>?_⟩
 ·show ((sz _:Nat):Int)≤3 * (x.2.at_ - s0.at_) + 4
  rw [XH];omega
 ·have z:x.2.err=0:=z
  show ((sz _:Nat):Int)≤3 * (x.2.at_ - s0.at_)
  rw [XH];omega
theorem Zd4 {n:Nat} {Se:List TK→TK→PF} {Br Po T:List TK→PF} (h:GS n Se Br Po T):GF (n + 1) 3 4 (stmtM Se Br Po T):=by
 intro L s hp
 have hok:=hp.ok
 have hns:=hp.ns
 have hlf:=hp.lf
 unfold stmtM
 refine Yh (P:=Post L 3 4 s) (fun _=>h.s _ L s hp) fun hk=>?_
 have hk:(ahd L s).kind=2:=by omega
 have hl:=JG (L:=L) (s:=s) (by rw [hk];decide)
 have he:=UC (L:=L) (s:=s) (by rw [hk];decide)
 have a1:=XP hok hl
 have pa:Pre L (n + 1) (at1 s):=⟨a1,hns,by show (L.length:Int) - (s.at_ + 1) < _;omega⟩
 have p1:∀ k,Post L 3 4 s (semi L (oneS T L k (ahd L s) (at1 s))):=fun k=>Uq (one_post h.t pa he rfl (Int.le_refl _))
 have p2:∀ k,Post L 3 4 s (semi L (nmS L k (ahd L s) (at1 s))):=fun k=>Uq (nm_post a1 he rfl (Int.le_refl _))
 have p3:=Zlm (h.b L s ⟨hp,hk⟩) (show (1:Int)≤3 by decide) (show (2:Int)≤4 by decide)
 have p4:=Uq (Zlm (h.p L s ⟨hp,hk⟩) (show (1:Int)≤3 by decide) (show (2:Int)≤4 by decide))
 have f:=Yi (k:=1) a1 (by decide)
 have f1:s.at_ + 1≤(kindR L (at1 s) 1).2.at_:=f.am
 have f5:(kindR L (at1 s) 1).2.nest=s.nest:=f.ns
 exact Yh (fun _=>p3) fun _=>Yh (fun _=>p3) fun _=>Yh (fun _=>Uq (Zmj h.t ⟨f.ok,by omega,by omega⟩ he f5 f1).2.2) fun _=>Yh (fun _=>p1 15) fun _=>Yh (fun _=>p1 16) fun _=>Yh (fun _=>p1 17) fun _ =>
  Yh (fun _=>p1 18) fun _=>Yh (fun _=>p4) fun _=>Yh (fun _=>p4) fun _=>Yh (fun _=>p2 21) fun _=>Yh (fun _=>p2 22) fun _=>Yh (fun _=>Uq (Uy hok hl he (by decide))) fun _=>h.s _ L s hp
end Go.Proofs.YtlmmbanfhjaioaaDoor
end
section
set_option maxRecDepth 100000
set_option maxHeartbeats 2000000
open Go Go.Ev
namespace Go.Proofs.YtlmmbanfhjaioaaDoor
def wOpen:List UInt8:=[123]
def wShut:List UInt8:=[125]
noncomputable def blockL (St:List TK→PF) (L:List TK):Nat→List PT→RS→List PT×RS
 | 0,l,s=>(l,s)
 | k + 1,l,s=>if s.err=0∧isS L s wShut=false then blockL St L k (l ++ [(St L s).1]) (St L s).2 else (l,s)
noncomputable def blockX (St:List TK→PF) (L:List TK) (s:RS):List PT×RS:=blockL St L (fuelN L) [] s
noncomputable def blockM (St:List TK→PF) (L:List TK):PF:=fun s=>(nd 12 [] 0 (openR L s wOpen).1 (blockX St L (openR L s wOpen).2).1,down (signR L (blockX St L (openR L s wOpen).2).2 wShut).2)
structure PostL (L:List TK) (E C:Int) (s:RS) (r:List PT×RS):Prop where
 ok:RSOK L r.2
 ns:r.2.nest=s.nest
 am:s.at_≤r.2.at_
 er:s.err≠0→r.2.err≠0∧r.2.at_=s.at_∧(szL r.1:Int)≤E
 ss:(szL r.1:Int)≤3 * (r.2.at_ - s.at_) + C
 so:r.2.err=0→(szL r.1:Int)≤3 * (r.2.at_ - s.at_)
noncomputable def keepX (s:St) (ids:List Nat):List (Nat×AObj):=List.rec (motive:=fun _=>List (Nat×AObj)) [] (fun t _ ih=>cond (ids.any (Nat.beq t)) ih (Option.rec (motive:=fun _=>List (Nat×AObj)) ih (fun v=>(t,v) :: ih) (s.H.get t))) (List.range s.nx)
theorem Ur {E C:Int} (hC:4≤C) {n:Nat} {St:List TK→PF} (hS:GF n 3 4 St) {L:List TK} {s0 s:RS} {l:List PT} (h:PostL L E C s0 (l,s)) (hp:s0.err=0→Pre L n s0) (he:s.err=0):Pre L n s∧PostL L E C s0 (l ++ [(St L s).1],(St L s).2)∧meas L (St L s).2 < meas L s:=by
 have hok:RSOK L s:=h.ok
 have p1:s0.at_≤s.at_:=h.am
 have p2:s.nest=s0.nest:=h.ns
 have p3:(szL l:Int)≤3 * (s.at_ - s0.at_):=h.so he
 have p4:s0.err≠0→s.err≠0:=fun e=>(h.er e).1
 have z0:s0.err=0:=Classical.byContradiction fun e=>p4 e he
 have hns:=(hp z0).ns
 have hlf:=(hp z0).lf
 have pa:Pre L n s:=⟨hok,by omega,by omega⟩
 have g:=hS L s pa
 generalize St L s=r at g ⊢
 have g1:=g.am;have g2:=g.ss;have g3:=g.so;have g5:=g.ns;have g6:=Wj r.1
 refine ⟨pa,⟨g.ok,by show r.2.nest=_;omega,by show s0.at_≤r.2.at_;omega,fun e=>absurd z0 e,?_,fun e2=>?_⟩,Zav g.ok he g1 fun e=>by have:=g3 e;omega⟩
 ·show ((szL (l ++ [r.1]):Nat):Int)≤3 * (r.2.at_ - s0.at_) + C
  rw [Zen,YE,Xl];omega
 ·have e2:r.2.err=0:=e2
  show ((szL (l ++ [r.1]):Nat):Int)≤3 * (r.2.at_ - s0.at_)
  rw [Zen,YE,Xl];omega
theorem VF {E C:Int} (hC:4≤C) {n:Nat} {St:List TK→PF} (hS:GF n 3 4 St) {L:List TK} {s0:RS} (hp:s0.err=0→Pre L n s0):∀ (k:Nat) (l:List PT) (s:RS),PostL L E C s0 (l,s)→PostL L E C s0 (blockL St L k l s)
 | 0,l,s,h=>h
 | k + 1,l,s,h=>by
  unfold blockL
  exact Yh (fun e=>VF hC hS hp k _ _ (Ur hC hS h hp e.1).2.1) fun _=>h
theorem XX {L:List TK} {C:Int} {s:RS} (h:RSOK L s) (hC:0≤C):PostL L 0 C s ([],s) :=
 ⟨h,rfl,Int.le_refl _,fun e=>⟨e,rfl,by show ((szL []:Nat):Int)≤0;rw [Xl];decide⟩,by show ((szL []:Nat):Int)≤3 * (s.at_ - s.at_) + C;rw [Xl];omega,fun _=>by show ((szL []:Nat):Int)≤3 * (s.at_ - s.at_);rw [Xl];omega⟩
theorem PostL.bnd {L:List TK} {E C:Int} {s:RS} {r:List PT×RS} (h:PostL L E C s r) (hs:RSOK L s) (hC:C≤100):szL r.1≤300100:=by
 have h1:=h.ss;have h2:=h.ok.a1;have h3:=h.ok.len;have h4:=hs.a0
 omega
theorem Zkd {n:Nat} {St:List TK→PF} (hS:GF n 3 4 St):GF (n + 1) 1 2 (blockM St):=by
 intro L s hp
 have hok:=hp.ok
 have hns:=hp.ns
 have hlf:=hp.lf
 have o:=JR (w:=wOpen) hok (show s.nest≤900 by omega)
 unfold blockM
 generalize (openR L s wOpen)=q at o ⊢
 have o1:=o.am;have o2:=o.ax;have o3:=o.eo;have o4:=o.ns;have o5:=o.er
 have g:=VF (E:=0) (C:=4) (by decide) hS (L:=L) (s0:=q.2) (fun z=>⟨o.ok,by have:=o3 z;omega,by have:=o3 z;omega⟩) (fuelN L) [] q.2 (XX o.ok (by decide))
 unfold blockX
 generalize (blockL St L (fuelN L) [] q.2)=r at g ⊢
 have g1:=g.am;have g2:=g.ss;have g3:=g.so;have g4:=g.er;have g5:=g.ns
 have f:=Yp (w:=wShut) g.ok
 generalize (signR L r.2 wShut).2=v at f ⊢
 have f1:=f.am;have f2:=f.ax;have f3:=f.eo;have f4:=f.er;have f5:=f.ns
 have hn0:=hok.n0
 refine ⟨Je f.ok (by omega),by show v.nest - 1=_;omega,by show s.at_≤v.at_;omega,fun e=>⟨by show v.err≠0;omega,by show v.at_=_;omega,?_⟩,?_,fun e2=>?_⟩
 ·show ((sz _:Nat):Int)≤1
  rw [QP];omega
 ·show ((sz _:Nat):Int)≤3 * (v.at_ - s.at_) + 2
  rw [QP];omega
 ·have e2:v.err=0:=e2
  show ((sz _:Nat):Int)≤3 * (v.at_ - s.at_)
  rw [QP];omega
end Go.Proofs.YtlmmbanfhjaioaaDoor
end
section
set_option maxRecDepth 100000
set_option maxHeartbeats 2000000
open Go Go.Ev
namespace Go.Proofs.YtlmmbanfhjaioaaDoor
structure LV where
 u:List TK→PF
 t:List TK→PF
 b:List TK→PF
noncomputable def tiL (x:LV):List TK→PF:=tightM x.t (firstM x.t x.b)
noncomputable def unL (x:LV):List TK→PF:=unaryM x.u (tiL x)
noncomputable def teL (x:LV):List TK→PF:=termM (rowM (rowM (unL x) [wMul]) [wAdd,wSub])
noncomputable def vaL (x:LV):List TK→PF:=varM (tiL x)
noncomputable def stL (x:LV):List TK→PF:=stmtM (fun L t=>setM (vaL x) (teL x) L t) (branchM (teL x) x.b) (postM (teL x) (vaL x)) (teL x)
noncomputable def nextL (x:LV):LV:=⟨unL x,teL x,blockM (stL x)⟩
noncomputable def lv:Nat→LV
 | 0=>⟨fun _ s=>(zPT,s),fun _ s=>(zPT,s),fun _ s=>(zPT,s)⟩
 | n + 1=>nextL (lv n)
structure LvG (n:Nat) (x:LV):Prop where
 u:GF n 1 2 x.u
 t:GF n 1 2 x.t
 b:GF n 1 2 x.b
theorem pre0 {L:List TK} {s:RS} (h:Pre L 0 s):False:=by
 have:=h.lf;have:=h.ok.a1;omega
theorem Zjm {L:List TK} {n m:Nat} {s:RS} (h:Pre L n s) (hm:n≤m):Pre L m s:=⟨h.ok,h.ns,by have:=h.lf;omega⟩
theorem lvg_zero:LvG 0 (lv 0):=⟨fun L s h=>(pre0 h).elim,fun L s h=>(pre0 h).elim,fun L s h=>(pre0 h).elim⟩
theorem lvg_next {n:Nat} {x:LV} (h:LvG n x):LvG (n + 1) (nextL x):=by
 have fi:=Zcl h.t h.b
 have ti:GF (n + 1) 1 2 (tiL x):=Za7 h.t fi
 have un:GF (n + 1) 1 2 (unL x):=Za0 h.u ti
 have pr:=KG (ws:=[wMul]) un
 have su:=KG (ws:=[wAdd,wSub]) pr
 have te:GF (n + 1) 1 2 (teL x):=Zee su
 have va:GF (n + 1) 1 2 (vaL x):=Zh6 ti
 have gs:GS n (fun L t=>setM (vaL x) (teL x) L t) (branchM (teL x) x.b) (postM (teL x) (vaL x)) (teL x) :=
  ⟨fun t=>Zgu va te t,fun L s hp=>QR te h.b hp,fun L s hp=>Gd te va hp,te⟩
 have st:GF (n + 1) 3 4 (stL x):=Zd4 gs
 have stn:GF n 3 4 (stL x):=fun L s hp=>st L s (Zjm hp (Nat.le_succ n))
 exact ⟨un,te,Zkd stn⟩
theorem Zfv:∀ n,LvG n (lv n)
 | 0=>lvg_zero
 | n + 1=>lvg_next (Zfv n)
end Go.Proofs.YtlmmbanfhjaioaaDoor
end
