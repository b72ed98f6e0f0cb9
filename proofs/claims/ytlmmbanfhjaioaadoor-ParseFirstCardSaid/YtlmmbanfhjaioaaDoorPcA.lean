/- Laid by program out of its parts: PcA. -/
import Derived.Test.YtlmmbanfhjaioaaDoorPb5
set_option linter.unusedVariables false
set_option linter.unusedSimpArgs false
set_option maxRecDepth 100000
set_option maxHeartbeats 2000000
open Go Go.Ev
namespace Go.Proofs.YtlmmbanfhjaioaaDoor
def Iv (L:List TK) (s:RS):Prop:=s.err=0∨s.err=4∨(s.err=5∧s.whr < L.length)
structure Mv (L:List TK) (s r:RS):Prop where
 k:Kp s r
 a:s.at_≤r.at_
 w:s.err=0→r.err≠0→s.at_≤r.whr
 b:s.at_≤L.length→r.at_≤L.length
 i:Iv L s→Iv L r
def MF (L:List TK) (F:PF):Prop:=∀ s,Mv L s (F s).2
def Sr (s r:RS):Prop:=s.err=0→r.err=0→s.at_ < r.at_
structure MLv (L:List TK) (x:LV):Prop where
 u:MF L (x.u L)
 t:MF L (x.t L)
 b:MF L (x.b L)
theorem Ye (L:List TK) (s:RS):Mv L s s:=⟨Zy s,Int.le_refl _,fun h h'=>absurd h h',fun h=>h,fun h=>h⟩
theorem Mv.tr {L:List TK} {s r u:RS} (h:Mv L s r) (k:Mv L r u):Mv L s u:=by
 refine ⟨h.k.tr k.k,Int.le_trans h.a k.a,fun z z'=>?_,fun z=>k.b (h.b z),fun z=>k.i (h.i z)⟩
 by_cases c:r.err=0
 ·exact Int.le_trans h.a (k.w c z')
 ·have:=h.w z c
  have:=(k.k.e c).2
  omega
theorem ZL {L:List TK} {α:Type} {s:RS} {p:Prop} [Decidable p] {a b:α×RS} (h1:p→Mv L s a.2) (h2:¬ p→Mv L s b.2):Mv L s (if p then a else b).2:=by
 by_cases h:p
 ·rw [if_pos h];exact h1 h
 ·rw [if_neg h];exact h2 h
theorem Ug (L:List TK) (s:RS) {e:Int} (he:e≠0) (h4:e=4∨(e=5∧s.at_ < L.length):=by exact .inl rfl):Mv L s (wrongR s e):=by
 refine ⟨QU s he,?_,fun z _=>?_,fun z=>?_,fun z=>?_⟩
 ·unfold wrongR;split <;> exact Int.le_refl _
 ·unfold wrongR;rw [if_pos z];exact Int.le_refl _
 ·unfold wrongR;split <;> exact z
 ·unfold wrongR
  split
  ·rcases h4 with h | ⟨h,h'⟩
   ·exact .inr (.inl h)
   ·exact .inr (.inr ⟨h,h'⟩)
  ·exact z
theorem Zf8 {L:List TK} {s:RS} {b:Bool} (h:b=true→s.at_ < L.length):Mv L s (takeR L s b).2:=by
 unfold takeR
 split
 ·rename_i hb
  have:=h hb
  exact ⟨⟨fun _=>⟨rfl,rfl⟩,fun _=>rfl⟩,by show s.at_≤s.at_ + 1;omega,fun z z'=>absurd z z',fun _=>by show s.at_ + 1≤L.length;omega,fun z=>z⟩
 ·exact Ug L s (by decide)
theorem Jd {L:List TK} {s:RS} (h:(ahd L s).kind≠0):s.at_ < L.length:=by
 unfold ahd at h
 split at h
 ·exact absurd rfl h
 ·rename_i c;omega
theorem Zh (L:List TK) (s:RS) (w:List UInt8):Mv L s (signR L s w).2:=Zf8 fun h=>Zl h
theorem ZV (L:List TK) (s:RS) {k:Int} (hk:k≠0):Mv L s (kindR L s k).2:=Zf8 fun h=>Jd (by rw [of_decide_eq_true h];exact hk)
theorem Gi {L:List TK} {s:RS} {ws:List (List UInt8)} (h:ws.any (isS L s)=true):s.at_ < L.length:=by
 obtain ⟨w,_,hw⟩:=List.any_eq_true.1 h
 exact Zl hw
theorem VV (L:List TK) (s:RS) (ws:List (List UInt8)):Mv L s (oneR L s ws).2:=Zf8 fun h=>Gi h
theorem Yg {L:List TK} {s:RS} (h:s.at_ < L.length):Mv L s (at1 s) :=
 ⟨Ys s,by show s.at_≤s.at_ + 1;omega,fun z z'=>absurd z z',fun _=>by show s.at_ + 1≤L.length;omega,fun z=>z⟩
theorem ZO (L:List TK) (s:RS):Mv L s (down s):=⟨Xe s,Int.le_refl _,fun z z'=>absurd z z',fun z=>z,fun z=>z⟩
theorem Zar (L:List TK) (s:RS) (w:List UInt8):Mv L s (deepR L s w):=by
 unfold deepR
 split
 ·rename_i h
  have:=Ug L s (e:=5) (by decide) (.inr ⟨rfl,Zl h.1⟩)
  exact ⟨⟨this.k.e,this.k.o⟩,this.a,this.w,this.b,this.i⟩
 ·exact ⟨⟨fun _=>⟨rfl,rfl⟩,fun _=>rfl⟩,Int.le_refl _,fun z z'=>absurd z z',fun z=>z,fun z=>z⟩
theorem Vy (L:List TK) (s:RS) (w:List UInt8):Mv L s (openR L s w).2:=(Zar L s w).tr (Zh L (deepR L s w) w)
theorem XG {F:List TK→PF} {L:List TK} (h:MF L (F L)):MF L (ifE F L):=by
 intro s
 unfold ifE
 exact ZL (fun _=>Ye L s) fun _=>h s
theorem UZ (L:List TK):MF L (useM L):=fun s=>ZV L s (by decide)
theorem VY (L:List TK):MF L (typM L):=fun s=>ZL (fun c=>Yg (Jd (by rw [c];decide))) fun _=>VV L s _
theorem QK {T B:List TK→PF} {L:List TK} (hT:MF L (T L)) (hB:MF L (B L)):MF L (firstM T B L):=fun s =>
 ZL (fun c=>Yg (Jd (by rw [c];decide))) fun _=>ZL (fun c=>Yg (Zl c)) fun _=>ZL (fun c=>Yg (Zl c)) fun _=>ZL (fun c=>(Yg (Zl c)).tr (ZV L _ (by decide))) fun _=>ZL (fun c=>(Yg (Zl c)).tr (XG hB _)) fun _ =>
  ZL (fun _=>(Vy L s wPar).tr ((XG hT _).tr ((Zh L _ wRap).tr (ZO L _)))) fun _=>UZ L s
theorem Zja {T:List TK→PF} {L:List TK} (hT:MF L (T L)) (x:PT) (s:RS):Mv L s (idxM T L x s).2:=(Vy L s wSq).tr ((XG hT _).tr ((Zh L _ wQs).tr (ZO L _)))
theorem Zjc {L:List TK} (x:PT) {s:RS} (h:s.at_ < L.length):Mv L s (dotM L x s).2:=(Yg h).tr (ZV L _ (by decide))
theorem Yx {T:List TK→PF} {L:List TK} (hT:MF L (T L)):∀ (k:Nat) (x:PT) (s:RS),Mv L s (tightL T L k x s).2
 | 0,x,s=>Ye L s
 | k + 1,x,s=>by
  unfold tightL
  exact ZL (fun c=>(Zjc x (Zl c)).tr (Yx hT k _ _)) fun _=>ZL (fun _=>(Zja hT x s).tr (Yx hT k _ _)) fun _=>Ye L s
theorem Za6 {T Fi:List TK→PF} {L:List TK} (hT:MF L (T L)) (hF:MF L (Fi L)):MF L (tightM T Fi L):=fun s=>(hF s).tr (Yx hT _ _ _)
theorem mv_un {U:List TK→PF} {L:List TK} (hU:MF L (U L)) (k:Int) (s:RS):Mv L s (unM k U L s).2:=(Vy L s _).tr ((XG hU _).tr (ZO L _))
theorem QV {U Ti:List TK→PF} {L:List TK} (hU:MF L (U L)) (hT:MF L (Ti L)):MF L (unaryM U Ti L):=fun s =>
 ZL (fun _=>mv_un hU 35 s) fun _=>ZL (fun _=>mv_un hU 34 s) fun _=>hT s
theorem Zg4 {F:List TK→PF} {L:List TK} (hF:MF L (F L)) (x:PT) {s:RS} (h:s.at_ < L.length):Mv L s (opM F L x s).2:=(Yg h).tr (hF _)
theorem QO {F:List TK→PF} {L:List TK} {ws:List (List UInt8)} (hF:MF L (F L)):∀ (k:Nat) (x:PT) (s:RS),Mv L s (opL F ws L k x s).2
 | 0,x,s=>Ye L s
 | k + 1,x,s=>by
  unfold opL
  exact ZL (fun c=>(Zg4 hF x (Gi c)).tr (QO hF k _ _)) fun _=>Ye L s
theorem Ze6 {F:List TK→PF} {L:List TK} {ws:List (List UInt8)} (hF:MF L (F L)):MF L (rowM F ws L):=fun s=>(hF s).tr (QO hF _ _ _)
theorem Zfi {F:List TK→PF} {L:List TK} (hF:MF L (F L)):MF L (termM F L):=fun s=>ZL (fun c=>(hF s).tr (Zg4 hF _ (Gi c))) fun _=>hF s
theorem Zkb {Ti:List TK→PF} {L:List TK} (hT:MF L (Ti L)):MF L (varM Ti L):=fun s=>(hT s).tr (Yh (P:=fun r:RS=>Mv L (Ti L s).2 r) (fun _=>Ug L _ (by decide)) fun _=>Ye L _)
theorem mv_set {V T:List TK→PF} {L:List TK} (hV:MF L (V L)) (hT:MF L (T L)) (t:TK):MF L (setM V T L t):=fun s=>(hV s).tr ((Zh L _ _).tr ((hT _).tr (Zh L _ _)))
theorem mv_if {T B:List TK→PF} {L:List TK} (hT:MF L (T L)) (hB:MF L (B L)) (t:TK) (s:RS):Mv L s (ifM T B L t s).2 :=
 ZL (fun _=>(hT s).tr (hB _)) fun _=>ZL (fun c=>(hT s).tr ((hB _).tr ((Yg (Zl c)).tr (hB _)))) fun _=>(hT s).tr (hB _)
theorem VG {V:List TK→PF} {L:List TK} (hV:MF L (V L)) (k:Int) (x:List UInt8) (n:Int) (t:TK) (y:PT) (s:RS):Mv L s (toM V L k x n t y s).2:=ZL (fun c=>(Yg (Zl c)).tr (hV _)) fun _=>Ye L s
theorem Kh {T V:List TK→PF} {L:List TK} (hT:MF L (T L)) (hV:MF L (V L)) (t q:TK) (s:RS):Mv L s (postX T V L t q s).2 :=
 ZL (fun c=>(hT s).tr ((Yg (Zl c)).tr ((ZV L _ (by decide)).tr (VG hV _ _ _ _ _ _)))) fun _=>ZL (fun c=>(hT s).tr ((Yg (Zl c)).tr (VG hV _ _ _ _ _ _))) fun _=>(hT s).tr (VG hV _ _ _ _ _ _)
theorem Zd6 {T B:List TK→PF} {L:List TK} (hT:MF L (T L)) (hB:MF L (B L)) {s:RS} (h:s.at_ < L.length):Mv L s (branchM T B L s).2:=(Yg h).tr (mv_if hT hB _ _)
theorem Zab {T V:List TK→PF} {L:List TK} (hT:MF L (T L)) (hV:MF L (V L)) {s:RS} (h:s.at_ < L.length):Mv L s (postM T V L s).2 :=
 ZL (fun _=>(Yg h).tr ((ZV L _ (by decide)).tr (Kh hT hV _ _ _))) fun _=>(Yg h).tr ((hT _).tr (VG hV _ _ _ _ _ _))
theorem Vd {L:List TK} {s:RS} {r:PT×RS} (h:Mv L s r.2):Mv L s (semi L r).2:=h.tr (Zh L _ _)
theorem Jh {T:List TK→PF} {L:List TK} (hT:MF L (T L)) (t:TK) (k:TK×RS):Mv L k.2 (varS T L t k).2:=(VY L k.2).tr ((Zh L _ _).tr (hT _))
theorem Kk {T V B:List TK→PF} {L:List TK} (hT:MF L (T L)) (hV:MF L (V L)) (hB:MF L (B L)):MF L (stmtM (fun L t=>setM V T L t) (branchM T B) (postM T V) T L):=fun s=>by
 by_cases hk:(ahd L s).kind=2
 ·have hl:s.at_ < L.length:=Jd (by rw [hk];decide)
  have p1:∀ k,Mv L s (semi L (oneS T L k (ahd L s) (at1 s))).2:=fun k=>Vd ((Yg hl).tr (hT _))
  have p2:∀ k,Mv L s (semi L (nmS L k (ahd L s) (at1 s))).2:=fun k=>Vd ((Yg hl).tr (ZV L _ (by decide)))
  unfold stmtM
  exact ZL (fun h=>absurd hk h) fun _=>ZL (fun _=>Zd6 hT hB hl) fun _=>ZL (fun _=>Zd6 hT hB hl) fun _=>ZL (fun _=>Vd ((Yg hl).tr ((ZV L _ (by decide)).tr (Jh hT _ _)))) fun _=>ZL (fun _=>p1 15) fun _=>ZL (fun _=>p1 16) fun _=>ZL (fun _=>p1 17) fun _ =>
   ZL (fun _=>p1 18) fun _=>ZL (fun _=>Vd (Zab hT hV hl)) fun _=>ZL (fun _=>Vd (Zab hT hV hl)) fun _=>ZL (fun _=>p2 21) fun _=>ZL (fun _=>p2 22) fun _=>ZL (fun _=>Vd (Yg hl)) fun _=>mv_set hV hT _ s
 ·unfold stmtM
  exact ZL (fun _=>mv_set hV hT _ s) fun h=>absurd (Classical.not_not.1 h) hk
theorem Yb {St:List TK→PF} {L:List TK} (hS:MF L (St L)):∀ (k:Nat) (l:List PT) (s:RS),Mv L s (blockL St L k l s).2
 | 0,l,s=>Ye L s
 | k + 1,l,s=>by
  unfold blockL
  exact ZL (fun _=>(hS s).tr (Yb hS k _ _)) fun _=>Ye L s
theorem Zcn {St:List TK→PF} {L:List TK} (hS:MF L (St L)):MF L (blockM St L):=fun s=>(Vy L s _).tr ((Yb hS _ _ _).tr ((Zh L _ _).tr (ZO L _)))
theorem mv_ti {L:List TK} {x:LV} (h:MLv L x):MF L (tiL x L):=Za6 h.t (QK h.t h.b)
theorem mv_unL {L:List TK} {x:LV} (h:MLv L x):MF L (unL x L):=QV h.u (mv_ti h)
theorem mv_te {L:List TK} {x:LV} (h:MLv L x):MF L (teL x L):=Zfi (Ze6 (F:=rowM (unL x) [wMul]) (Ze6 (mv_unL h)))
theorem mv_va {L:List TK} {x:LV} (h:MLv L x):MF L (vaL x L):=Zkb (mv_ti h)
theorem mv_st {L:List TK} {x:LV} (h:MLv L x):MF L (stL x L):=Kk (mv_te h) (mv_va h) h.b
theorem Jp (L:List TK):∀ n,MLv L (lv n)
 | 0=>⟨fun s=>Ye L s,fun s=>Ye L s,fun s=>Ye L s⟩
 | n + 1=>⟨mv_unL (Jp L n),mv_te (Jp L n),Zcn (mv_st (Jp L n))⟩
theorem Zjx (L:List TK):MF L (memM L):=fun s=>(ZV L s (by decide)).tr ((VY L _).tr (Zh L _ _))
theorem Zaq {B:List TK→PF} {L:List TK} (hB:MF L (B L)):MF L (lifeM B L):=fun s=>(VV L s _).tr (hB _)
theorem QB {B:List TK→PF} {L:List TK} (hB:MF L (B L)) (t:TK) (x:List UInt8):MF L (declX B L t x):=fun s=>by
 unfold declX
 exact ZL (fun _=>Zh L _ _) fun _=>ZL (fun _=>(VY L _).tr (Zh L _ _)) fun _=>ZL (fun _=>hB _) fun _=>ZL (fun _=>(Zh L _ _).tr ((Yb (Zjx L) _ _ _).tr (Zh L _ _))) fun _ =>
   ZL (fun _=>(Zh L _ _).tr ((UZ L _).tr ((VV L _ _).tr (hB _)))) fun _=>(Zh L _ _).tr ((UZ L _).tr ((Zh L _ _).tr ((Yb (Zaq hB) _ _ _).tr (Zh L _ _))))
theorem Zf2 {B:List TK→PF} {L:List TK} (hB:MF L (B L)):MF L (declM B L):=fun s =>
 ZL (fun _=>(VV L s _).tr (hB _)) fun _=>(VV L s _).tr ((ZV L _ (by decide)).tr (QB hB _ _ _))
theorem Ui {D:List TK→PF} {L:List TK} (hD:MF L (D L)):∀ (k:Nat) (l:List PT) (s:RS),Mv L s (progL D L k l s).2
 | 0,l,s=>Ye L s
 | k + 1,l,s=>by
  unfold progL
  exact ZL (fun _=>(hD s).tr (Ui hD k _ _)) fun _=>Ye L s
theorem YF {α:Type} {s:RS} {p:Prop} [Decidable p] {a b:α×RS} (h1:p→Sr s a.2) (h2:¬ p→Sr s b.2):Sr s (if p then a else b).2:=by
 by_cases h:p
 ·rw [if_pos h];exact h1 h
 ·rw [if_neg h];exact h2 h
theorem Sr.tr {L:List TK} {s r u:RS} (h:Sr s r) (k:Mv L r u):Sr s u:=fun z z'=>by
 have:r.err=0:=Classical.byContradiction fun c=>absurd z' (by rw [(k.k.e c).1];exact c)
 have:=h z this
 have:=k.a
 omega
theorem Sr.of {L:List TK} {s r u:RS} (h:Mv L s r) (g:Mv L r u) (k:Sr r u):Sr s u:=fun z z'=>by
 have:r.err=0:=Classical.byContradiction fun c=>absurd z' (by rw [(g.k.e c).1];exact c)
 have:=k this z'
 have:=h.a
 omega
theorem XF (s:RS):Sr s (at1 s):=fun _ _=>by show s.at_ < s.at_ + 1;omega
theorem Zfd (L:List TK) (s:RS) (b:Bool):Sr s (takeR L s b).2:=by
 unfold takeR
 split
 ·exact XF s
 ·exact fun z z'=>by
   unfold wrongR at z'
   rw [if_pos z] at z'
   cases z'
theorem sr_sign (L:List TK) (s:RS) (w:List UInt8):Sr s (signR L s w).2:=Zfd L s _
theorem Zk3 (L:List TK) (s:RS) (k:Int):Sr s (kindR L s k).2:=Zfd L s _
theorem Zkg (L:List TK) (s:RS) (ws:List (List UInt8)):Sr s (oneR L s ws).2:=Zfd L s _
theorem Zlv (L:List TK) (s:RS) (w:List UInt8):Sr s (openR L s w).2:=Sr.of (Zar L s w) (Zh L _ w) (sr_sign L _ w)
def SF (L:List TK) (F:PF):Prop:=∀ s,Sr s (F s).2
theorem sr_first {T B:List TK→PF} {L:List TK} (hT:MF L (T L)) (hB:MF L (B L)):SF L (firstM T B L):=fun s =>
 YF (fun _=>XF s) fun _=>YF (fun _=>XF s) fun _=>YF (fun _=>XF s) fun _=>YF (fun c=>(XF s).tr (ZV L _ (by decide))) fun _=>YF (fun _=>(XF s).tr (XG hB _)) fun _ =>
  YF (fun _=>(Zlv L s wPar).tr ((XG hT _).tr ((Zh L _ wRap).tr (ZO L _)))) fun _=>Zk3 L s _
theorem sr_tight {T Fi:List TK→PF} {L:List TK} (hT:MF L (T L)) (hF:SF L (Fi L)):SF L (tightM T Fi L):=fun s=>(hF s).tr (Yx hT _ _ _)
theorem sr_var {Ti:List TK→PF} {L:List TK} (hT:SF L (Ti L)):SF L (varM Ti L):=fun s=>(hT s).tr (Yh (P:=fun r:RS=>Mv L (Ti L s).2 r) (fun _=>Ug L _ (by decide)) fun _=>Ye L _)
theorem sr_set {V T:List TK→PF} {L:List TK} (hV:SF L (V L)) (hT:MF L (T L)) (t:TK):SF L (setM V T L t):=fun s=>(hV s).tr ((Zh L _ _).tr ((hT _).tr (Zh L _ _)))
theorem sr_stmt {T V B:List TK→PF} {L:List TK} (hT:MF L (T L)) (hV:MF L (V L)) (sV:SF L (V L)) (hB:MF L (B L)):SF L (stmtM (fun L t=>setM V T L t) (branchM T B) (postM T V) T L):=fun s=>by
 have p1:∀ k,Sr s (semi L (oneS T L k (ahd L s) (at1 s))).2:=fun k=>(XF s).tr ((hT _).tr (Zh L _ _))
 have p2:∀ k,Sr s (semi L (nmS L k (ahd L s) (at1 s))).2:=fun k=>(XF s).tr ((ZV L _ (by decide)).tr (Zh L _ _))
 have p3:Sr s (branchM T B L s).2:=(XF s).tr (mv_if hT hB _ _)
 have p4:Sr s (semi L (postM T V L s)).2:=Sr.tr (L:=L) (r:=(postM T V L s).2) (YF (fun _=>(XF s).tr ((ZV L _ (by decide)).tr (Kh hT hV _ _ _))) fun _=>(XF s).tr ((hT _).tr (VG hV _ _ _ _ _ _))) (Zh L _ _)
 unfold stmtM
 exact YF (fun _=>sr_set sV hT _ s) fun _=>YF (fun _=>p3) fun _=>YF (fun _=>p3) fun _=>YF (fun _=>(XF s).tr ((ZV L _ (by decide)).tr (Vd (Jh hT _ _)))) fun _=>YF (fun _=>p1 15) fun _=>YF (fun _=>p1 16) fun _=>YF (fun _=>p1 17) fun _ =>
  YF (fun _=>p1 18) fun _=>YF (fun _=>p4) fun _=>YF (fun _=>p4) fun _=>YF (fun _=>p2 21) fun _=>YF (fun _=>p2 22) fun _=>YF (fun _=>(XF s).tr (Zh L _ _)) fun _=>sr_set sV hT _ s
theorem sr_st {L:List TK} {x:LV} (h:MLv L x):SF L (stL x L):=sr_stmt (mv_te h) (mv_va h) (sr_var (sr_tight h.t (sr_first h.t h.b))) h.b
theorem sr_mem (L:List TK):SF L (memM L):=fun s=>(Zk3 L s _).tr ((VY L _).tr (Zh L _ _))
theorem sr_life {B:List TK→PF} {L:List TK} (hB:MF L (B L)):SF L (lifeM B L):=fun s=>(Zkg L s _).tr (hB _)
theorem sr_decl {B:List TK→PF} {L:List TK} (hB:MF L (B L)):SF L (declM B L):=fun s =>
 YF (fun _=>(Zkg L s _).tr (hB _)) fun _=>(Zkg L s _).tr ((ZV L _ (by decide)).tr (QB hB _ _ _))
end Go.Proofs.YtlmmbanfhjaioaaDoor
