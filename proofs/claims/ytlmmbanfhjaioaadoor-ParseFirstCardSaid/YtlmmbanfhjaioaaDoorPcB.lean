/- Laid by program out of its parts: PcB. -/
import Derived.Test.YtlmmbanfhjaioaaDoorPcA
set_option linter.unusedVariables false
set_option linter.unusedSimpArgs false
set_option maxRecDepth 100000
set_option maxHeartbeats 2000000
open Go Go.Ev
namespace Go.Proofs.YtlmmbanfhjaioaaDoor
def Re (m:Nat) (s:RS):Prop:=(s.err=0∧(m:Int)≤s.at_)∨(s.err≠0∧(m:Int)≤s.whr)
structure Pf (m:Nat) (L M:List TK):Prop where
 l:m≤L.length
 l':m≤M.length
 e:∀ i,i < m→L.getD i TK.zero=M.getD i TK.zero
structure In (L M:List TK) (s:RS):Prop where
 a:0≤s.at_
 b:s.at_≤L.length
 b':s.at_≤M.length
def Lo {α:Type} (m:Nat) (x y:α×RS):Prop:=x=y∨(Re m x.2∧Re m y.2)
structure BL (m:Nat) (L M:List TK) (F:List TK→PF):Prop where
 lo:∀ s,In L M s→Lo m (F L s) (F M s)
 m1:MF L (F L)
 m2:MF M (F M)
structure BLv (m:Nat) (L M:List TK) (x:LV):Prop where
 u:BL m L M x.u
 t:BL m L M x.t
 b:BL m L M x.b
theorem Mv.re {L:List TK} {s r:RS} {m:Nat} (h:Mv L s r) (hr:Re m s):Re m r:=by
 have h1:=h.a;have h2:=h.w;have h3:=h.k.e
 rcases hr with ⟨e,c⟩ | ⟨e,c⟩
 ·by_cases z:r.err=0
  ·exact .inl ⟨z,by omega⟩
  ·exact .inr ⟨z,by have:=h2 e z;omega⟩
 ·obtain ⟨h4,h5⟩:=h3 e
  exact .inr ⟨by rw [h4];exact e,by rw [h5];exact c⟩
theorem In.nx {L M:List TK} {s r:RS} (h:In L M s) (h1:Mv L s r) (h2:Mv M s r):In L M r:=⟨Int.le_trans h.a h1.a,h1.b h.b,h2.b h.b'⟩
theorem XE {m:Nat} {L M:List TK} {s:RS} (hP:Pf m L M) (h:In L M s) (hr:¬ Re m s):ahd L s=ahd M s:=by
 unfold ahd
 by_cases c:s.err=0
 ·have c1:s.at_ < m:=Int.not_le.1 fun z=>hr (.inl ⟨c,z⟩)
  have c2:=h.a;have c3:=hP.l;have c4:=hP.l'
  rw [if_neg (by rintro (z | z);exact z c;omega),if_neg (by rintro (z | z);exact z c;omega)]
  exact hP.e _ (by omega)
 ·rw [if_pos (.inl c),if_pos (.inl c)]
theorem WL {L M:List TK} {s:RS} (e:ahd L s=ahd M s):isS L s=isS M s:=funext fun w=>by unfold isS;rw [e]
theorem Zfw {L M:List TK} {s:RS} (e:ahd L s=ahd M s) (b:Bool):takeR L s b=takeR M s b:=by unfold takeR;rw [e]
theorem sign_eq {L M:List TK} {s:RS} (e:ahd L s=ahd M s) (w:List UInt8):signR L s w=signR M s w:=by unfold signR;rw [WL e,Zfw e]
theorem kind_eq {L M:List TK} {s:RS} (e:ahd L s=ahd M s) (k:Int):kindR L s k=kindR M s k:=by unfold kindR;rw [e,Zfw e]
theorem one_eq {L M:List TK} {s:RS} (e:ahd L s=ahd M s) (ws:List (List UInt8)):oneR L s ws=oneR M s ws:=by unfold oneR;rw [WL e,Zfw e]
theorem deep_eq {L M:List TK} {s:RS} (e:ahd L s=ahd M s) (w:List UInt8):deepR L s w=deepR M s w:=by unfold deepR;rw [WL e]
theorem WU {α:Type} {m:Nat} {L M:List TK} {s:RS} {x y:α×RS} (h1:Mv L s x.2) (h2:Mv M s y.2) (h:¬ Re m s→Lo m x y):Lo m x y:=by
 by_cases hr:Re m s
 ·exact .inr ⟨h1.re hr,h2.re hr⟩
 ·exact h hr
theorem YH {α β:Type} {m:Nat} {x y:α×RS} (h:Lo m x y) (f:α×RS→β):Lo m (f x,x.2) (f y,y.2):=by
 rcases h with e | h
 ·rw [e];exact .inl rfl
 ·exact .inr h
theorem ZE {α β:Type} {m:Nat} {L M:List TK} (F:List TK→α×RS→β×RS) {x y:α×RS} (h:Lo m x y) (h1:Mv L x.2 (F L x).2) (h2:Mv M y.2 (F M y).2) (k:x=y→Lo m (F L x) (F M x)):Lo m (F L x) (F M y):=by
 rcases h with e | ⟨r1,r2⟩
 ·rw [← e];exact k e
 ·exact .inr ⟨h1.re r1,h2.re r2⟩
theorem XN {α β:Type} {m:Nat} {L M:List TK} (f g:α×RS→β×RS) {x y:α×RS} (h:Lo m x y) (h1:Mv L x.2 (f x).2) (h2:Mv M y.2 (g y).2) (k:x=y→Lo m (f x) (g x)):Lo m (f x) (g y):=by
 rcases h with e | ⟨r1,r2⟩
 ·rw [← e];exact k e
 ·exact .inr ⟨h1.re r1,h2.re r2⟩
theorem ZJ {α:Type} {m:Nat} {p:Prop} [Decidable p] {a b c d:α×RS} (h1:p→Lo m a c) (h2:¬ p→Lo m b d):Lo m (if p then a else b) (if p then c else d):=by
 by_cases h:p
 ·rw [if_pos h,if_pos h];exact h1 h
 ·rw [if_neg h,if_neg h];exact h2 h
theorem YR {m:Nat} {L M:List TK} {s:RS} (hP:Pf m L M) (h:In L M s) (w:List UInt8):Lo m (signR L s w) (signR M s w):=WU (Zh L s w) (Zh M s w) fun hr=>.inl (sign_eq (XE hP h hr) w)
theorem WX {m:Nat} {L M:List TK} {s:RS} (hP:Pf m L M) (h:In L M s) {k:Int} (hk:k≠0):Lo m (kindR L s k) (kindR M s k):=WU (ZV L s hk) (ZV M s hk) fun hr=>.inl (kind_eq (XE hP h hr) k)
theorem Zj1 {m:Nat} {L M:List TK} {s:RS} (hP:Pf m L M) (h:In L M s) (ws:List (List UInt8)):Lo m (oneR L s ws) (oneR M s ws):=WU (VV L s ws) (VV M s ws) fun hr=>.inl (one_eq (XE hP h hr) ws)
theorem Zad {m:Nat} {L M:List TK} {s:RS} (hP:Pf m L M) (h:In L M s) (w:List UInt8):Lo m (openR L s w) (openR M s w):=WU (Vy L s w) (Vy M s w) fun hr=>by
 have e:=deep_eq (XE hP h hr) w
 unfold openR
 rw [← e]
 exact YR hP (h.nx (Zar L s w) (by rw [e];exact Zar M s w)) w
theorem Kd {L M:List TK} {s:RS} {w:List UInt8} (h:In L M s) (e:signR L s w=signR M s w):In L M (signR L s w).2:=h.nx (Zh L s w) (by rw [e];exact Zh M s w)
theorem Km {L M:List TK} {s:RS} {k:Int} (hk:k≠0) (h:In L M s) (e:kindR L s k=kindR M s k):In L M (kindR L s k).2:=h.nx (ZV L s hk) (by rw [e];exact ZV M s hk)
theorem Zjl {L M:List TK} {s:RS} {ws:List (List UInt8)} (h:In L M s) (e:oneR L s ws=oneR M s ws):In L M (oneR L s ws).2:=h.nx (VV L s ws) (by rw [e];exact VV M s ws)
theorem GX {L M:List TK} {s:RS} {w:List UInt8} (h:In L M s) (e:openR L s w=openR M s w):In L M (openR L s w).2:=h.nx (Vy L s w) (by rw [e];exact Vy M s w)
theorem US {L M:List TK} {s:RS} (h:In L M s) (h1:s.at_ < L.length) (h2:s.at_ < M.length):In L M (at1 s):=h.nx (Yg h1) (Yg h2)
theorem BL.nx {m:Nat} {L M:List TK} {F:List TK→PF} (h:BL m L M F) {s:RS} (hs:In L M s) (e:F L s=F M s):In L M (F L s).2:=hs.nx (h.m1 s) (by rw [e];exact h.m2 s)
theorem KW {m:Nat} {L M:List TK} {F:List TK→PF} (h:BL m L M F):BL m L M (ifE F):=⟨fun s hs=>ZJ (fun _=>.inl rfl) fun _=>h.lo s hs,XG h.m1,XG h.m2⟩
theorem Zcf {m:Nat} {L M:List TK} (hP:Pf m L M):BL m L M useM:=⟨fun s hs=>YH (WX hP hs (by decide)) fun q=>nd 29 q.1.text 0 q.1 [],UZ L,UZ M⟩
theorem KT {m:Nat} {L M:List TK} (hP:Pf m L M):BL m L M typM:=⟨fun s hs=>WU (VY L s) (VY M s) fun hr=>.inl (by
 have e:=XE hP hs hr
 unfold typM
 rw [e,one_eq e]),VY L,VY M⟩
theorem bl_first {m:Nat} {L M:List TK} {T B:List TK→PF} (hP:Pf m L M) (hT:BL m L M T) (hB:BL m L M B):BL m L M (firstM T B):=⟨fun s hs=>WU (QK hT.m1 hB.m1 s) (QK hT.m2 hB.m2 s) fun hr=>by
 have ea:=XE hP hs hr
 have es:=WL ea
 have i1:∀ {w:List UInt8},isS L s w=true→In L M (at1 s):=fun c=>US hs (Zl c) (Zl (by rw [← es];exact c))
 unfold firstM
 rw [← ea,← es]
 refine ZJ (fun _=>.inl rfl) fun _=>ZJ (fun _=>.inl rfl) fun _=>ZJ (fun _=>.inl rfl) fun _=>ZJ (fun c=>?_) fun _=>ZJ (fun c=>?_) fun _=>ZJ (fun c=>?_) fun _=>(Zcf hP).lo s hs
 ·exact YH (WX hP (i1 c) (by decide)) fun q=>nd 33 q.1.text 0 (ahd L s) []
 ·exact YH ((KW hB).lo _ (i1 c)) fun q=>nd 36 [] 0 (ahd L s) [q.1]
 ·refine ZE (fun M q=>((ifE T M q.2).1,down (signR M (ifE T M q.2).2 wRap).2)) (Zad hP hs wPar) ((XG hT.m1 _).tr ((Zh L _ _).tr (ZO L _))) ((XG hT.m2 _).tr ((Zh M _ _).tr (ZO M _))) fun e=>?_
  have j1:=GX hs e
  refine ZE (fun M q=>(q.1,down (signR M q.2 wRap).2)) ((KW hT).lo _ j1) ((Zh L _ _).tr (ZO L _)) ((Zh M _ _).tr (ZO M _)) fun e=>?_
  exact ZE (fun M q=>((ifE T L (openR L s wPar).2).1,down q.2)) (YR hP ((KW hT).nx j1 e) wRap) (ZO L _) (ZO M _) fun _=>.inl rfl,QK hT.m1 hB.m1,QK hT.m2 hB.m2⟩
theorem Zan {N:List TK} {s r:RS} (hl:s.at_ < N.length) (he:s.err=0) (m:Mv N s r) (q:Sr s r) (hr:r.at_≤N.length):meas N r < meas N s:=by
 have q1:=m.a
 have q4:=q he
 unfold meas
 rw [if_pos he]
 split
 ·rename_i z;have:=q4 z;omega
 ·omega
theorem lo_dot {m:Nat} {L M:List TK} (hP:Pf m L M) {x:PT} {s:RS} (hs:In L M s) (ea:ahd L s=ahd M s) (h1:s.at_ < L.length) (h2:s.at_ < M.length):Lo m (dotM L x s) (dotM M x s):=by
 unfold dotM
 rw [← ea]
 exact YH (WX hP (US hs h1 h2) (by decide)) fun q=>nd 30 q.1.text 0 (ahd L s) [x]
theorem lo_idx {m:Nat} {L M:List TK} {T:List TK→PF} (hP:Pf m L M) (hT:BL m L M T) {x:PT} {s:RS} (hs:In L M s):Lo m (idxM T L x s) (idxM T M x s):=by
 refine ZE (fun M q=>(nd 31 [] 0 q.1 [x,(ifE T M q.2).1],down (signR M (ifE T M q.2).2 wQs).2)) (Zad hP hs wSq) ((XG hT.m1 _).tr ((Zh L _ _).tr (ZO L _))) ((XG hT.m2 _).tr ((Zh M _ _).tr (ZO M _))) fun e=>?_
 have j1:=GX hs e
 refine ZE (fun M q=>(nd 31 [] 0 (openR L s wSq).1 [x,q.1],down (signR M q.2 wQs).2)) ((KW hT).lo _ j1) ((Zh L _ _).tr (ZO L _)) ((Zh M _ _).tr (ZO M _)) fun e=>?_
 exact ZE (fun M q=>(nd 31 [] 0 (openR L s wSq).1 [x,(ifE T L (openR L s wSq).2).1],down q.2)) (YR hP ((KW hT).nx j1 e) wQs) (ZO L _) (ZO M _) fun _=>.inl rfl
theorem sr_idx {T:List TK→PF} {L:List TK} (hT:MF L (T L)) (x:PT) (s:RS):Sr s (idxM T L x s).2:=(Zlv L s wSq).tr ((XG hT _).tr ((Zh L _ wQs).tr (ZO L _)))
theorem Zd3 {m:Nat} {L M:List TK} {T:List TK→PF} (hP:Pf m L M) (hT:BL m L M T):∀ (k k':Nat) (x:PT) (s:RS),In L M s→meas L s < k→meas M s < k'→Lo m (tightL T L k x s) (tightL T M k' x s)
 | 0,_,_,_,_,h,_=>absurd h (Nat.not_lt_zero _)
 | _,0,_,_,_,_,h=>absurd h (Nat.not_lt_zero _)
 | k + 1,k' + 1,x,s,hs,h,h'=>WU (Yx hT.m1 _ x s) (Yx hT.m2 _ x s) fun hr=>by
  have ea:=XE hP hs hr
  have es:=WL ea
  unfold tightL
  rw [← es]
  have step:∀ (r:PT×RS) (w:List UInt8),isS L s w=true→Mv L s r.2→Mv M s r.2→Sr s r.2→Lo m (tightL T L k r.1 r.2) (tightL T M k' r.1 r.2):=fun r w c m1 m2 sr=>by
   have c1:=Zl c
   have c2:s.at_ < M.length:=Zl (w:=w) (by rw [← es];exact c)
   have hi:=hs.nx m1 m2
   have he:=YC c
   have d1:=Zan c1 he m1 sr hi.b
   have d2:=Zan c2 he m2 sr hi.b'
   exact Zd3 hP hT k k' _ _ hi (by omega) (by omega)
  refine ZJ (fun c=>?_) fun _=>ZJ (fun c=>?_) fun _=>.inl rfl
  ·have c1:=Zl c
   have c2:s.at_ < M.length:=Zl (w:=wDot) (by rw [← es];exact c)
   exact XN (fun r=>tightL T L k r.1 r.2) (fun r=>tightL T M k' r.1 r.2) (lo_dot hP hs ea c1 c2) (Yx hT.m1 _ _ _) (Yx hT.m2 _ _ _) fun e=>step _ _ c (Zjc x c1) (by rw [e];exact Zjc x c2) ((XF s).tr (ZV L _ (by decide)))
  ·exact XN (fun r=>tightL T L k r.1 r.2) (fun r=>tightL T M k' r.1 r.2) (lo_idx hP hT hs) (Yx hT.m1 _ _ _) (Yx hT.m2 _ _ _) fun e=>step _ _ c (Zja hT.m1 x s) (by rw [e];exact Zja hT.m2 x s) (sr_idx hT.m1 x s)
theorem VH {L:List TK} {s:RS} (h:0≤s.at_):meas L s < fuelN L:=by
 unfold meas fuelN
 split <;> omega
theorem bl_tight {m:Nat} {L M:List TK} {T Fi:List TK→PF} (hP:Pf m L M) (hT:BL m L M T) (hF:BL m L M Fi):BL m L M (tightM T Fi):=⟨fun s hs=>XN (fun r=>tightL T L (fuelN L) r.1 r.2) (fun r=>tightL T M (fuelN M) r.1 r.2) (hF.lo s hs) (Yx hT.m1 _ _ _) (Yx hT.m2 _ _ _) fun e=>by
 have hi:=hF.nx hs e
 exact Zd3 hP hT _ _ _ _ hi (VH hi.a) (VH hi.a),Za6 hT.m1 hF.m1,Za6 hT.m2 hF.m2⟩
theorem lo_un {m:Nat} {L M:List TK} {U:List TK→PF} (hP:Pf m L M) (hU:BL m L M U) (k:Int) {s:RS} (hs:In L M s) (ea:ahd L s=ahd M s):Lo m (unM k U L s) (unM k U M s):=by
 unfold unM
 rw [← ea]
 refine ZE (fun N q=>(nd k [] 0 q.1 [(ifE U N q.2).1],down (ifE U N q.2).2)) (Zad hP hs _) ((XG hU.m1 _).tr (ZO L _)) ((XG hU.m2 _).tr (ZO M _)) fun e=>?_
 exact ZE (fun N q=>(nd k [] 0 (openR L s (ahd L s).text).1 [q.1],down q.2)) ((KW hU).lo _ (GX hs e)) (ZO L _) (ZO M _) fun _=>.inl rfl
theorem bl_unary {m:Nat} {L M:List TK} {U Ti:List TK→PF} (hP:Pf m L M) (hU:BL m L M U) (hT:BL m L M Ti):BL m L M (unaryM U Ti):=⟨fun s hs=>WU (QV hU.m1 hT.m1 s) (QV hU.m2 hT.m2 s) fun hr=>by
 have ea:=XE hP hs hr
 have es:=WL ea
 unfold unaryM
 rw [← es]
 exact ZJ (fun _=>lo_un hP hU 35 hs ea) fun _=>ZJ (fun _=>lo_un hP hU 34 hs ea) fun _=>hT.lo s hs,QV hU.m1 hT.m1,QV hU.m2 hT.m2⟩
theorem lo_op {m:Nat} {L M:List TK} {F:List TK→PF} (hF:BL m L M F) {x:PT} {s:RS} (hs:In L M s) (ea:ahd L s=ahd M s) (h1:s.at_ < L.length) (h2:s.at_ < M.length):Lo m (opM F L x s) (opM F M x s):=by
 unfold opM
 rw [← ea]
 exact YH (hF.lo _ (US hs h1 h2)) fun q=>nd 32 (ahd L s).text 0 (ahd L s) [x,q.1]
theorem lo_opL {m:Nat} {L M:List TK} {F:List TK→PF} {ws:List (List UInt8)} (hP:Pf m L M) (hF:BL m L M F):∀ (k k':Nat) (x:PT) (s:RS),In L M s→meas L s < k→meas M s < k'→Lo m (opL F ws L k x s) (opL F ws M k' x s)
 | 0,_,_,_,_,h,_=>absurd h (Nat.not_lt_zero _)
 | _,0,_,_,_,_,h=>absurd h (Nat.not_lt_zero _)
 | k + 1,k' + 1,x,s,hs,h,h'=>WU (QO hF.m1 _ x s) (QO hF.m2 _ x s) fun hr=>by
  have ea:=XE hP hs hr
  have es:=WL ea
  unfold opL
  rw [← es]
  refine ZJ (fun c=>?_) fun _=>.inl rfl
  obtain ⟨w,_,hw⟩:=List.any_eq_true.1 c
  have c1:=Zl hw
  have c2:s.at_ < M.length:=Zl (w:=w) (by rw [← es];exact hw)
  refine XN (fun r=>opL F ws L k r.1 r.2) (fun r=>opL F ws M k' r.1 r.2) (lo_op hF hs ea c1 c2) (QO hF.m1 _ _ _) (QO hF.m2 _ _ _) fun e=>?_
  have m1:=Zg4 hF.m1 x c1
  have m2:Mv M s (opM F L x s).2:=by rw [e];exact Zg4 hF.m2 x c2
  have sr:Sr s (opM F L x s).2:=(XF s).tr (hF.m1 _)
  have hi:=hs.nx m1 m2
  have d1:=Zan c1 (YC hw) m1 sr hi.b
  have d2:=Zan c2 (YC hw) m2 sr hi.b'
  exact lo_opL hP hF k k' _ _ hi (by omega) (by omega)
theorem bl_row {m:Nat} {L M:List TK} {F:List TK→PF} {ws:List (List UInt8)} (hP:Pf m L M) (hF:BL m L M F):BL m L M (rowM F ws):=⟨fun s hs=>XN (fun r=>opL F ws L (fuelN L) r.1 r.2) (fun r=>opL F ws M (fuelN M) r.1 r.2) (hF.lo s hs) (QO hF.m1 _ _ _) (QO hF.m2 _ _ _) fun e=>by
 have hi:=hF.nx hs e
 exact lo_opL hP hF _ _ _ _ hi (VH hi.a) (VH hi.a),Ze6 hF.m1,Ze6 hF.m2⟩
theorem bl_term {m:Nat} {L M:List TK} {F:List TK→PF} (hP:Pf m L M) (hF:BL m L M F):BL m L M (termM F):=⟨fun s hs=>by
 have o1:∀ {N:List TK},MF N (F N)→∀ q:PT×RS,Mv N q.2 (if [wLess,wEq].any (isS N q.2)=true then opM F N q.1 q.2 else q).2:=fun hm q=>ZL (fun c=>Zg4 hm _ (Gi c)) fun _=>Ye _ _
 refine XN (fun q=>if [wLess,wEq].any (isS L q.2)=true then opM F L q.1 q.2 else q) (fun q=>if [wLess,wEq].any (isS M q.2)=true then opM F M q.1 q.2 else q) (hF.lo s hs) (o1 hF.m1 _) (o1 hF.m2 _) fun e=>?_
 have hi:=hF.nx hs e
 refine WU (o1 hF.m1 _) (o1 hF.m2 _) fun hr=>?_
 have ea:=XE hP hi hr
 have es:=WL ea
 rw [← es]
 refine ZJ (fun c=>?_) fun _=>.inl rfl
 exact lo_op hF hi ea (Gi c) (Gi (by rw [← es];exact c)),Zfi hF.m1,Zfi hF.m2⟩
theorem bl_var {m:Nat} {L M:List TK} {F:List TK→PF} (hF:BL m L M F):BL m L M (varM F):=⟨fun s hs=>XN (fun q:PT×RS=>(q.1,if q.2.err=0∧q.1.kind≠29∧q.1.kind≠30∧q.1.kind≠31 then wrongR q.2 4 else q.2)) (fun q:PT×RS=>(q.1,if q.2.err=0∧q.1.kind≠29∧q.1.kind≠30∧q.1.kind≠31 then wrongR q.2 4 else q.2)) (hF.lo s hs)
  (Yh (P:=fun r:RS=>Mv L (F L s).2 r) (fun _=>Ug L _ (by decide)) fun _=>Ye L _) (Yh (P:=fun r:RS=>Mv M (F M s).2 r) (fun _=>Ug M _ (by decide)) fun _=>Ye M _) fun _=>.inl rfl,Zkb hF.m1,Zkb hF.m2⟩
theorem bl_set {m:Nat} {L M:List TK} {V T:List TK→PF} (hP:Pf m L M) (hV:BL m L M V) (hT:BL m L M T) (t:TK) {s:RS} (hs:In L M s):Lo m (setM V T L t s) (setM V T M t s):=by
 refine ZE (fun N v=>(nd 14 [] 0 t [v.1,(T N (signR N v.2 wSet).2).1],(signR N (T N (signR N v.2 wSet).2).2 wSemi).2)) (hV.lo s hs) ((Zh L _ _).tr ((hT.m1 _).tr (Zh L _ _))) ((Zh M _ _).tr ((hT.m2 _).tr (Zh M _ _))) fun e=>?_
 have i1:=hV.nx hs e
 refine ZE (fun N q=>(nd 14 [] 0 t [(V L s).1,(T N q.2).1],(signR N (T N q.2).2 wSemi).2)) (YR hP i1 wSet) ((hT.m1 _).tr (Zh L _ _)) ((hT.m2 _).tr (Zh M _ _)) fun e=>?_
 have i2:=Kd i1 e
 refine ZE (fun N r=>(nd 14 [] 0 t [(V L s).1,r.1],(signR N r.2 wSemi).2)) (hT.lo _ i2) (Zh L _ _) (Zh M _ _) fun e=>?_
 exact YH (YR hP (hT.nx i2 e) wSemi) fun _=>nd 14 [] 0 t [(V L s).1,(T L (signR L (V L s).2 wSet).2).1]
theorem lo_if {m:Nat} {L M:List TK} {T B:List TK→PF} (hP:Pf m L M) (hT:BL m L M T) (hB:BL m L M B) (t:TK) {s:RS} (hs:In L M s):Lo m (ifM T B L t s) (ifM T B M t s):=by
 have g1:∀ {N:List TK},MF N (T N)→MF N (B N)→∀ (x:PT) (r:RS),Mv N r (if t.text=wWhile then (nd 24 [] 0 t [x,(B N r).1],(B N r).2) else if isS N (B N r).2 wElse=true then (nd 23 [] 0 t [x,(B N r).1,(B N (at1 (B N r).2)).1],(B N (at1 (B N r).2)).2) else (nd 23 [] 0 t [x,(B N r).1,nd 12 [] 0 t []],(B N r).2)).2:=fun hT hB x r =>
  ZL (fun _=>hB _) fun _=>ZL (fun c=>(hB _).tr ((Yg (Zl c)).tr (hB _))) fun _=>hB _
 have g2:∀ {N:List TK},MF N (B N)→∀ (x:PT) (q:PT×RS),Mv N q.2 (if t.text=wWhile then (nd 24 [] 0 t [x,q.1],q.2) else if isS N q.2 wElse=true then (nd 23 [] 0 t [x,q.1,(B N (at1 q.2)).1],(B N (at1 q.2)).2) else (nd 23 [] 0 t [x,q.1,nd 12 [] 0 t []],q.2)).2:=fun hB x q =>
  ZL (fun _=>Ye _ _) fun _=>ZL (fun c=>(Yg (Zl c)).tr (hB _)) fun _=>Ye _ _
 refine ZE (fun N v=>if t.text=wWhile then (nd 24 [] 0 t [v.1,(B N v.2).1],(B N v.2).2) else if isS N (B N v.2).2 wElse=true then (nd 23 [] 0 t [v.1,(B N v.2).1,(B N (at1 (B N v.2).2)).1],(B N (at1 (B N v.2).2)).2) else (nd 23 [] 0 t [v.1,(B N v.2).1,nd 12 [] 0 t []],(B N v.2).2)) (hT.lo s hs) (g1 hT.m1 hB.m1 _ _) (g1 hT.m2 hB.m2 _ _) fun e=>?_
 have i1:=hT.nx hs e
 refine ZE (fun N q=>if t.text=wWhile then (nd 24 [] 0 t [(T L s).1,q.1],q.2) else if isS N q.2 wElse=true then (nd 23 [] 0 t [(T L s).1,q.1,(B N (at1 q.2)).1],(B N (at1 q.2)).2) else (nd 23 [] 0 t [(T L s).1,q.1,nd 12 [] 0 t []],q.2)) (hB.lo _ i1) (g2 hB.m1 _ _) (g2 hB.m2 _ _) fun e=>?_
 have i2:=hB.nx i1 e
 refine WU (g2 hB.m1 _ _) (g2 hB.m2 _ _) fun hr=>?_
 have ea:=XE hP i2 hr
 have es:=WL ea
 rw [← es]
 refine ZJ (fun _=>.inl rfl) fun _=>ZJ (fun c=>?_) fun _=>.inl rfl
 exact YH (hB.lo _ (US i2 (Zl c) (Zl (w:=wElse) (by rw [← es];exact c)))) fun q=>nd 23 [] 0 t [(T L s).1,(B L (T L s).2).1,q.1]
theorem Zmk {m:Nat} {L M:List TK} {T B:List TK→PF} (hP:Pf m L M) (hT:BL m L M T) (hB:BL m L M B) {s:RS} (hs:In L M s) (ea:ahd L s=ahd M s) (h1:s.at_ < L.length) (h2:s.at_ < M.length):Lo m (branchM T B L s) (branchM T B M s):=by
 unfold branchM
 rw [← ea]
 exact lo_if hP hT hB _ (US hs h1 h2)
theorem Zlo {m:Nat} {L M:List TK} {V:List TK→PF} (hP:Pf m L M) (hV:BL m L M V) (k:Int) (x:List UInt8) (n:Int) (t:TK) (y:PT) {s:RS} (hs:In L M s):Lo m (toM V L k x n t y s) (toM V M k x n t y s):=WU (VG hV.m1 k x n t y s) (VG hV.m2 k x n t y s) fun hr=>by
 have ea:=XE hP hs hr
 have es:=WL ea
 unfold toM
 rw [← es]
 exact ZJ (fun c=>YH (hV.lo _ (US hs (Zl c) (Zl (w:=wTo) (by rw [← es];exact c)))) fun q=>nd k x n t [y,q.1]) fun _=>.inl rfl
theorem lo_postX {m:Nat} {L M:List TK} {T V:List TK→PF} (hP:Pf m L M) (hT:BL m L M T) (hV:BL m L M V) (t q:TK) {s:RS} (hs:In L M s):Lo m (postX T V L t q s) (postX T V M t q s):=by
 have g1:∀ {N:List TK},MF N (V N)→∀ (v:PT×RS),Mv N v.2 (if isS N v.2 wAfter=true then toM V N 19 q.text (kindR N (at1 v.2) 3).1.num t v.1 (kindR N (at1 v.2) 3).2 else if isS N v.2 wFront=true then toM V N 19 q.text (-1) t v.1 (at1 v.2) else toM V N 19 q.text 0 t v.1 v.2).2:=fun hV v =>
  ZL (fun c=>(Yg (Zl c)).tr ((ZV _ _ (k:=3) (by decide)).tr (VG hV _ _ _ _ _ _))) fun _=>ZL (fun c=>(Yg (Zl c)).tr (VG hV _ _ _ _ _ _)) fun _=>VG hV _ _ _ _ _ _
 refine ZE (fun N v=>if isS N v.2 wAfter=true then toM V N 19 q.text (kindR N (at1 v.2) 3).1.num t v.1 (kindR N (at1 v.2) 3).2 else if isS N v.2 wFront=true then toM V N 19 q.text (-1) t v.1 (at1 v.2) else toM V N 19 q.text 0 t v.1 v.2) (hT.lo s hs) (g1 hV.m1 _) (g1 hV.m2 _) fun e=>?_
 have i1:=hT.nx hs e
 refine WU (g1 hV.m1 _) (g1 hV.m2 _) fun hr=>?_
 have ea:=XE hP i1 hr
 have es:=WL ea
 rw [← es]
 have i2:∀ {w:List UInt8},isS L (T L s).2 w=true→In L M (at1 (T L s).2):=fun {w} c=>US i1 (Zl c) (Zl (w:=w) (by rw [← es];exact c))
 refine ZJ (fun c=>?_) fun _=>ZJ (fun c=>Zlo hP hV _ _ _ _ _ (i2 c)) fun _=>Zlo hP hV _ _ _ _ _ i1
 refine ZE (fun N r=>toM V N 19 q.text r.1.num t (T L s).1 r.2) (WX hP (i2 c) (k:=3) (by decide)) (VG hV.m1 _ _ _ _ _ _) (VG hV.m2 _ _ _ _ _ _) fun e=>?_
 exact Zlo hP hV _ _ _ _ _ (Km (by decide) (i2 c) e)
theorem lo_post {m:Nat} {L M:List TK} {T V:List TK→PF} (hP:Pf m L M) (hT:BL m L M T) (hV:BL m L M V) {s:RS} (hs:In L M s) (ea:ahd L s=ahd M s) (h1:s.at_ < L.length) (h2:s.at_ < M.length):Lo m (postM T V L s) (postM T V M s):=by
 unfold postM
 rw [← ea]
 have i1:=US hs h1 h2
 refine ZJ (fun _=>?_) fun _=>?_
 ·refine ZE (fun N r=>postX T V N (ahd L s) r.1 r.2) (WX hP i1 (k:=1) (by decide)) (Kh hT.m1 hV.m1 _ _ _) (Kh hT.m2 hV.m2 _ _ _) fun e=>?_
  exact lo_postX hP hT hV _ _ (Km (by decide) i1 e)
 ·refine ZE (fun N r=>toM V N 20 [] 0 (ahd L s) r.1 r.2) (hT.lo _ i1) (VG hV.m1 _ _ _ _ _ _) (VG hV.m2 _ _ _ _ _ _) fun e=>?_
  exact Zlo hP hV _ _ _ _ _ (hT.nx i1 e)
theorem KL {m:Nat} {L M:List TK} (hP:Pf m L M) {x y:PT×RS} (h:Lo m x y) (hi:x=y→In L M x.2):Lo m (semi L x) (semi M y):=by
 refine ZE (fun N r=>semi N r) h (Zh L _ _) (Zh M _ _) fun e=>?_
 exact YH (YR hP (hi e) wSemi) fun _=>x.1
theorem lo_varS {m:Nat} {L M:List TK} {T:List TK→PF} (hP:Pf m L M) (hT:BL m L M T) (t:TK) {k:TK×RS} (hs:In L M k.2):Lo m (varS T L t k) (varS T M t k):=by
 refine ZE (fun N v=>(nd 13 k.1.text 0 t [v.1,(T N (signR N v.2 wSet).2).1],(T N (signR N v.2 wSet).2).2)) ((KT hP).lo _ hs) ((Zh L _ _).tr (hT.m1 _)) ((Zh M _ _).tr (hT.m2 _)) fun e=>?_
 have i1:=(KT hP).nx hs e
 refine ZE (fun N v=>(nd 13 k.1.text 0 t [(typM L k.2).1,(T N v.2).1],(T N v.2).2)) (YR hP i1 wSet) (hT.m1 _) (hT.m2 _) fun e=>?_
 exact YH (hT.lo _ (Kd i1 e)) fun q=>nd 13 k.1.text 0 t [(typM L k.2).1,q.1]
theorem bl_stmt {m:Nat} {L M:List TK} {T V B:List TK→PF} (hP:Pf m L M) (hT:BL m L M T) (hV:BL m L M V) (hB:BL m L M B):BL m L M (stmtM (fun L t=>setM V T L t) (branchM T B) (postM T V) T):=⟨fun s hs=>WU (Kk hT.m1 hV.m1 hB.m1 s) (Kk hT.m2 hV.m2 hB.m2 s) fun hr=>by
 have ea:=XE hP hs hr
 unfold stmtM
 rw [← ea]
 by_cases hk:(ahd L s).kind=2
 case neg=>rw [if_pos hk,if_pos hk];exact bl_set hP hV hT _ hs
 have c1:s.at_ < L.length:=Jd (by rw [hk];decide)
 have c2:s.at_ < M.length:=Jd (by rw [← ea,hk];decide)
 have i1:=US hs c1 c2
 have p1:∀ k,Lo m (semi L (oneS T L k (ahd L s) (at1 s))) (semi M (oneS T M k (ahd L s) (at1 s))):=fun k=>KL hP (YH (hT.lo _ i1) fun q=>nd k [] 0 (ahd L s) [q.1]) fun e=>i1.nx (hT.m1 _) (by
  have:(oneS T L k (ahd L s) (at1 s)).2=(T M (at1 s)).2:=by rw [e];rfl
  show Mv M (at1 s) (oneS T L k (ahd L s) (at1 s)).2
  rw [this];exact hT.m2 _)
 have p2:∀ k,Lo m (semi L (nmS L k (ahd L s) (at1 s))) (semi M (nmS M k (ahd L s) (at1 s))):=fun k=>KL hP (YH (WX hP i1 (by decide)) fun q=>nd k q.1.text 0 (ahd L s) []) fun e=>i1.nx (ZV L _ (by decide)) (by
  have:(nmS L k (ahd L s) (at1 s)).2=(kindR M (at1 s) 1).2:=by rw [e];rfl
  show Mv M (at1 s) (nmS L k (ahd L s) (at1 s)).2
  rw [this];exact ZV M _ (by decide))
 have p3:=Zmk hP hT hB hs ea c1 c2
 have p4:Lo m (semi L (postM T V L s)) (semi M (postM T V M s)):=KL hP (lo_post hP hT hV hs ea c1 c2) fun e=>hs.nx (Zab hT.m1 hV.m1 c1) (by rw [e];exact Zab hT.m2 hV.m2 c2)
 refine ZJ (fun h=>absurd hk h) fun _=>ZJ (fun _=>p3) fun _=>ZJ (fun _=>p3) fun _=>ZJ (fun _=>?_) fun _=>ZJ (fun _=>p1 15) fun _=>ZJ (fun _=>p1 16) fun _=>ZJ (fun _=>p1 17) fun _ =>
  ZJ (fun _=>p1 18) fun _=>ZJ (fun _=>p4) fun _=>ZJ (fun _=>p4) fun _=>ZJ (fun _=>p2 21) fun _=>ZJ (fun _=>p2 22) fun _=>ZJ (fun _=>?_) fun _=>bl_set hP hV hT _ hs
 ·refine ZE (fun N r=>semi N (varS T N (ahd L s) r)) (WX hP i1 (k:=1) (by decide)) (Vd (Jh hT.m1 _ _)) (Vd (Jh hT.m2 _ _)) fun e=>?_
  have i2:=Km (by decide) i1 e
  exact KL hP (lo_varS hP hT _ i2) fun e=>i2.nx (Jh hT.m1 _ _) (by rw [e];exact Jh hT.m2 _ _)
 ·exact KL hP (.inl rfl) fun _=>i1,Kk hT.m1 hV.m1 hB.m1,Kk hT.m2 hV.m2 hB.m2⟩
end Go.Proofs.YtlmmbanfhjaioaaDoor
