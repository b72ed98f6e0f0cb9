/- Laid by program out of its parts: PbQ, PbR, PbS. -/
import Derived.Test.YtlmmbanfhjaioaaDoorPb2
set_option linter.unusedVariables false
set_option linter.unusedSimpArgs false
section
set_option maxRecDepth 100000
set_option maxHeartbeats 2000000
open Go Go.Ev
namespace Go.Proofs.YtlmmbanfhjaioaaDoor
noncomputable def rowsU (a:List AV) (ks:List PT):AObj:=.cells 58 .leaf (.rows 1 fun i=>cond (Nat.beq i 0) [.pv a] ((pvL ks).getD (i - 1) [])) (ks.length + 1) true
def leafN:AObj:=.cells 66 .leaf (.per []) 7 false
noncomputable def livL (B:List TK→PF) (L:List TK) (s:RS):List PT×RS:=blockL (lifeM B) L (fuelN L) [] (oneR L s [[123]]).2
noncomputable def livR (B:List TK→PF) (L:List TK) (s:RS):List PT×RS:=((livL B L s).1,(oneR L (livL B L s).2 [[125]]).2)
noncomputable def oLiv (B:List TK→PF) (L:List TK) (s:RS) (k:Int) (x:List UInt8) (n a c:Int) (u:List AV):HO:=.gen (livR B L s) fun y=>.br (ieq y.2.err 0)
 (.br (Nat.beq y.1.length 0) (.ret (.ptr (4 + 1) 0) [objP L y.2,leafO k x n a c (.sl (4 + 2) 0 1 1),rowP [.pv u]] 0) (.ret (.ptr (4 + 1) 0) [objP L y.2,leafO k x n a c (.slg (4 + 3) (y.1.length + 1) 1),rowP [.pv u],rowsU u y.1] 1))
 (.pan (stopV L y.2) [objN,leafN,rowP [.pv u]] 0)
noncomputable def isSlk (s:St) (id:Nat):Bool:=match s.H.get id with
 | some (.cells el c z N op)=>match cellOf c z 6 with
  | some (.sl _ _ _ _)=>true
  | _=>false
 | _=>false
structure LpV (L:List TK) (f:Nat→List PT→RS→List PT×RS) (t:List PT×RS) (s0:RS) (x:List PT×RS):Prop where
 k:∃ k,meas L x.2 < k∧f k x.1 x.2=t
 p:PostL L 0 4 s0 x
 r:R0 L x.2
 n:1≤x.1.length
noncomputable def stnV (L:List TK) (u:List AV) (f:Nat→List PT→RS→List PT×RS) (t:List PT×RS) (s0:RS):Stn :=
 { X:=List PT×RS,T:=fun s _ x=>keepT s [0,1,5],H:=fun s n0 x=>(s.nx,rowsU u x.1) :: (4,objP L x.2) :: (4 + 1,lfK s (4 + 1) (.slg s.nx (x.1.length + 1) 1)) :: keepX s [4,4 + 1],nx:=fun s _=>s.nx + 1,I:=fun s x=>LpV L f t s0 x,m:=fun x=>meas L x.2 }
noncomputable def cxV (L:List TK) (n:Nat) (B:List TK→PF) (h:OkI 31 L n B) (u:List AV) (s:RS):Ctx :=
 { P:=Tryd.prog,tb:=[],ht:=htI 31 L n B,hok:=Zcq h,lp:=fun f r=>cond (Nat.beq f 36) (cond (Nat.beq r 3) (some (stnV L u (blockL (lifeM B) L) (livL B L s) (oneR L s [[123]]).2)) none) none,cut:=fun _ _=>none,pl:=fun f r s=>cond (Nat.beq r 3) (isSlk s (4 + 1)) false,fr:=fun f r=>cond (Nat.beq r 7) [7] [] }
theorem Zbf {L:List TK} {s:RS} {p:RS→Prop} {α:Type} {f:RS→α×RS} {K X:α×RS→Prop} (h:R0 L s) (hp:p s) (hK:(f s).2.err=0→K (f s)) (hX:(f s).2.err≠0→X (f s)):PreC L (cP L s) s.nest p∧∀ y,y=f (stP L (cP L s) s.nest)→brP (ieq y.2.err 0) (K y) (X y) :=
 ⟨preC h hp,fun y hy=>by rw [hy,WT h];exact Zc (fun e=>hK (ZC.1 e)) fun e=>hX (Zu.1 e)⟩
theorem Za3 {L:List TK} {y T:RS} {n:Nat} {P:Prop} (hK:Kp y T) (he:y.err≠0) (hP:P):brP (ieq T.err 0) (sdA (Nat.beq n 0) False) ((lnAt L y=lnAt L T∧clAt L y=clAt L T∧y.err=T.err)∧P):=by
 obtain ⟨h1,h2⟩:=hK.e he
 refine Zc (fun e=>absurd (ZC.1 e) (by rw [h1];exact he)) fun _=>⟨⟨?_,?_,h1.symm⟩,hP⟩
 ·unfold lnAt;rw [h2]
 ·unfold clAt;rw [h2]
theorem Zlg {F:List TK→PF} {L:List TK} {k:Nat} {l:List PT} {r:RS} {t:List PT×RS} (hk:meas L r < k) (hkt:blockL F L k l r=t) (he:r.err=0) (c:isS L r wShut=false):∃ k',k=k' + 1∧blockL F L k' (l ++ [(F L r).1]) (F L r).2=t:=by
 cases k with
 | zero=>omega
 | succ k =>
  unfold blockL at hkt
  rw [if_pos ⟨he,c⟩] at hkt
  exact ⟨k,rfl,hkt⟩
theorem Zjk {F:List TK→PF} {L:List TK} {k:Nat} {l:List PT} {r:RS} {t:List PT×RS} (hk:meas L r < k) (hkt:blockL F L k l r=t) (c:isS L r wShut=true):t=(l,r):=by
 cases k with
 | zero=>omega
 | succ k =>
  unfold blockL at hkt
  rw [if_neg (by rw [c];rintro ⟨_,h⟩;cases h)] at hkt
  exact hkt.symm
theorem Gr {L:List TK} {s:RS} {ws:List (List UInt8)} (h:R0 L s) (e:(oneR L s ws).2.err=0):(oneR L s ws).1.text∈ws:=by
 cases hb:ws.any (isS L s) with
 | false=>rw [show (oneR L s ws).2.err=4 from (Zaf h hb).2] at e;cases e
 | true =>
  obtain ⟨w,hw,hw2⟩:=List.any_eq_true.1 hb
  rw [show oneR L s ws=(ahd L s,at1 s) from (Uw h hb).1]
  show (ahd L s).text∈ws
  rw [Xh hw2];exact hw
theorem Ze9 {x:PT} {v:AV} (σ:List (Nat×Nat)) (h:VmE x v):Option.rec (motive:=fun _=>Prop) True (fun val=>vmP σ val v) ((pvL [x]).getD 0 [])[0]?:=by
 have:(pvL [x]).getD 0 []=[pvX x]:=Yk [x] 0 (by simp)
 rw [this]
 exact h.h σ
theorem Zli {k n:Int} {x:List UInt8} {tk:TK} {y:PT} {g:Nat→List AV} (hg:g 0=[pvX y]):VmE (nd k x n tk [y]) (.pv [.int .i64 k,.bs x,.int .i64 n,.int .i64 tk.line,.int .i64 tk.col,.sl0,.vec 1 1 g]):=Gg fun σ=>kidsN rfl fun i hi=>by
 obtain rfl:i=0:=by simp at hi;omega
 exact hg
theorem Zmu {σ:List (Nat×Nat)} {u:List AV} (hu:∀ σ,vmP σ (.pv u) (.pv u)) (l:List PT):∀ i,vmL σ (cond (Nat.beq i 0) [.pv u] ((pvL l).getD (i - 1) [])) (cond (Nat.beq i 0) [.pv u] ((pvL l).getD (i - 1) []))
 | 0=>⟨hu σ,trivial⟩
 | i + 1=>VZ σ l i
theorem Jk {σ:List (Nat×Nat)} {u:List AV} (hu:∀ σ,vmP σ (.pv u) (.pv u)) (l:List PT) (x:PT) {v:AV} {g:Nat→List AV} (hg:g 0=[v]) (hv:VmE x v):l.length + 1 + 1=(l ++ [x]).length + 1∧AllI fun i=>i.succ≤l.length + 1 + 1→vmL σ (cond (Nat.beq i 0) [.pv u] ((pvL (l ++ [x])).getD (i - 1) [])) (appF (l.length + 1) (fun i=>cond (Nat.beq i 0) [.pv u] ((pvL l).getD (i - 1) [])) g i):=by
 refine ⟨by rw [List.length_append,List.length_singleton],⟨fun i hi=>?_⟩⟩
 cases i with
 | zero =>
  have e:appF (l.length + 1) (fun i=>cond (Nat.beq i 0) [.pv u] ((pvL l).getD (i - 1) [])) g 0=[.pv u]:=Vh (fun _=>rfl) fun h=>absurd (Nat.succ_pos _) h
  rw [e]
  exact ⟨hu σ,trivial⟩
 | succ i =>
  have hlen:i < (l ++ [x]).length:=by rw [List.length_append,List.length_singleton];omega
  show vmL σ ((pvL (l ++ [x])).getD i []) _
  by_cases h:i < l.length
  ·have e:appF (l.length + 1) (fun i=>cond (Nat.beq i 0) [.pv u] ((pvL l).getD (i - 1) [])) g (i + 1)=[pvX l[i]]:=Vh (fun _=>Yk l i h) fun h'=>absurd (by omega) h'
   rw [e,Yk _ i hlen,List.getElem_append_left h]
   exact ⟨Qt σ _,trivial⟩
  ·have hi':i=l.length:=by omega
   subst hi'
   have e:appF (l.length + 1) (fun i=>cond (Nat.beq i 0) [.pv u] ((pvL l).getD (i - 1) [])) g (l.length + 1)=[v]:=Vh (fun h'=>absurd h' (by omega)) fun _=>by rw [Nat.sub_self];exact hg
   rw [e,Yk _ _ hlen,List.getElem_append_right (Nat.le_refl _)]
   exact ⟨by simpa using hv.h σ,trivial⟩
@[reducible] def Yu:List PT×RS→Prop:=fun (a:List PT×RS)=>a.1.length + 1 + 1≤9223372036854775807∧(a.1.length + 1 + 1) * 8≤140737488355328
@[reducible] def WF:TK×RS→Prop:=fun (a:TK×RS)=>((True∧True)∧True)∧((True∧True)∧True)∧((AV.agg [AV.int .i64 (TK.kind a.1),AV.bs (TK.text a.1),AV.int .i64 (TK.num a.1),AV.int .i64 (TK.line a.1),AV.int .i64 (TK.col a.1)]=AV.agg [AV.int .i64 (TK.kind a.1),AV.bs (TK.text a.1),AV.int .i64 (TK.num a.1),AV.int .i64 (TK.line a.1),AV.int .i64 (TK.col a.1)]∧True)∧True)∧True
@[reducible] def WS:List AV→Prop:=fun (u:List AV)=>true=true∧true=true∧true=true∧true=true∧True∧vmL [(0,0),(1,1),(2,2),(3,3),(4,4),(5,5),(6,6)] u u
@[reducible] def XD:List AV→Prop:=fun (u:List AV)=>WS u∧True
@[reducible] def Yf:List AV→Prop:=fun (u:List AV)=>True∧vmL [(27,25),(9,9),(0,0),(1,1),(2,2),(3,3),(4,4),(5,5),(6,6)] u u
@[reducible] def WN:List AV→Prop:=fun (u:List AV)=>(true=true∧true=true∧true=true∧true=true∧(True∧True)∧True)∧(true=true∧true=true∧true=true∧true=true∧((((((True∧True)∧True)∧True)∧True)∧True)∧True)∧True)∧XD u
@[reducible] def WP:List TK→PT×RS→List PT×RS→Prop:=fun (L:List TK) (a:PT×RS) (a_1:List PT×RS)=>true=true∧true=true∧true=true∧true=true∧(True∧true=true∧List.length (List.drop (Int.toNat (RS.at_ a.2)) L)=List.length (List.drop (Int.toNat (RS.at_ a_1.2)) L)∧AllI fun (i:Nat)=>Nat.le (Nat.succ i) (List.length (List.drop (Int.toNat (RS.at_ a.2)) L))→(true=true∧TK.kind (List.getD (List.drop (Int.toNat (RS.at_ a.2)) L) i TK.zero)=TK.kind (List.getD (List.drop (Int.toNat (RS.at_ a_1.2)) L) i TK.zero))∧TK.text (List.getD (List.drop (Int.toNat (RS.at_ a.2)) L) i TK.zero)=TK.text (List.getD (List.drop (Int.toNat (RS.at_ a_1.2)) L) i TK.zero)∧(true=true∧TK.num (List.getD (List.drop (Int.toNat (RS.at_ a.2)) L) i TK.zero)=TK.num (List.getD (List.drop (Int.toNat (RS.at_ a_1.2)) L) i TK.zero))∧(true=true∧TK.line (List.getD (List.drop (Int.toNat (RS.at_ a.2)) L) i TK.zero)=TK.line (List.getD (List.drop (Int.toNat (RS.at_ a_1.2)) L) i TK.zero))∧(true=true∧TK.col (List.getD (List.drop (Int.toNat (RS.at_ a.2)) L) i TK.zero)=TK.col (List.getD (List.drop (Int.toNat (RS.at_ a_1.2)) L) i TK.zero))∧True)∧true=true∧RS.nest a.2=RS.nest a_1.2
@[reducible] def XC:List TK→(List TK→PF)→RS→List AV→TK×RS→Prop:=fun (L:List TK) (B:List TK→PF) (s:RS) (u:List AV) (a:TK×RS)=>true=true∧((true=true∧(true=true∧lnAt L a.2=lnAt L (Prod.snd (oneR L (Prod.snd (livL B L s)) [[(125:UInt8)]])))∧(true=true∧clAt L a.2=clAt L (Prod.snd (oneR L (Prod.snd (livL B L s)) [[(125:UInt8)]])))∧(true=true∧RS.err a.2=RS.err (Prod.snd (oneR L (Prod.snd (livL B L s)) [[(125:UInt8)]])))∧True)∧True)∧WN u
@[reducible] def WI:List TK→(List TK→PF)→RS→List AV→PT×RS→Prop:=fun (L:List TK) (B:List TK→PF) (s:RS) (u:List AV) (a:PT×RS)=>(((True∧True)∧True)∧True)∧brP (ieq (RS.err (Prod.snd (oneR L (Prod.snd (livL B L s)) [[(125:UInt8)]]))) (0:Int)) (sdA (Nat.beq (List.length (Prod.fst (livL B L s))) 0) False) (true=true∧((true=true∧(true=true∧lnAt L a.2=lnAt L (Prod.snd (oneR L (Prod.snd (livL B L s)) [[(125:UInt8)]])))∧(true=true∧clAt L a.2=clAt L (Prod.snd (oneR L (Prod.snd (livL B L s)) [[(125:UInt8)]])))∧(true=true∧RS.err a.2=RS.err (Prod.snd (oneR L (Prod.snd (livL B L s)) [[(125:UInt8)]])))∧True)∧True)∧WN u)
@[reducible] def YW:List TK→(List TK→PF)→RS→TK×RS→Prop:=fun (L:List TK) (B:List TK→PF) (s:RS) (a:TK×RS)=>true=true∧true=true∧true=true∧true=true∧(True∧true=true∧List.length (List.drop (Int.toNat (RS.at_ a.2)) L)=List.length (List.drop (Int.toNat (RS.at_ (Prod.snd (oneR L (Prod.snd (livL B L s)) [[(125:UInt8)]])))) L)∧AllI fun (i:Nat)=>Nat.le (Nat.succ i) (List.length (List.drop (Int.toNat (RS.at_ a.2)) L))→(true=true∧TK.kind (List.getD (List.drop (Int.toNat (RS.at_ a.2)) L) i TK.zero)=TK.kind (List.getD (List.drop (Int.toNat (RS.at_ (Prod.snd (oneR L (Prod.snd (livL B L s)) [[(125:UInt8)]])))) L) i TK.zero))∧TK.text (List.getD (List.drop (Int.toNat (RS.at_ a.2)) L) i TK.zero)=TK.text (List.getD (List.drop (Int.toNat (RS.at_ (Prod.snd (oneR L (Prod.snd (livL B L s)) [[(125:UInt8)]])))) L) i TK.zero)∧(true=true∧TK.num (List.getD (List.drop (Int.toNat (RS.at_ a.2)) L) i TK.zero)=TK.num (List.getD (List.drop (Int.toNat (RS.at_ (Prod.snd (oneR L (Prod.snd (livL B L s)) [[(125:UInt8)]])))) L) i TK.zero))∧(true=true∧TK.line (List.getD (List.drop (Int.toNat (RS.at_ a.2)) L) i TK.zero)=TK.line (List.getD (List.drop (Int.toNat (RS.at_ (Prod.snd (oneR L (Prod.snd (livL B L s)) [[(125:UInt8)]])))) L) i TK.zero))∧(true=true∧TK.col (List.getD (List.drop (Int.toNat (RS.at_ a.2)) L) i TK.zero)=TK.col (List.getD (List.drop (Int.toNat (RS.at_ (Prod.snd (oneR L (Prod.snd (livL B L s)) [[(125:UInt8)]])))) L) i TK.zero))∧True)∧true=true∧RS.nest a.2=RS.nest (Prod.snd (oneR L (Prod.snd (livL B L s)) [[(125:UInt8)]]))
@[reducible] def Ym:List TK→Int→List UInt8→Int→Int→Int→List AV→PT×RS→List PT×RS→Prop:=fun (L:List TK) (k:Int) (x:List UInt8) (m a c:Int) (u:List AV) (a_1:PT×RS) (a_2:List PT×RS)=>WP L a_1 a_2∧(true=true∧true=true∧true=true∧true=true∧((((((True∧true=true∧k=k)∧x=x)∧true=true∧m=m)∧true=true∧a=a)∧true=true∧c=c)∧True)∧some 25=some 25∧true=true∧2=a_2.1.length + 1∧true=true)∧(true=true∧asciiTab=asciiTab)∧(true=true∧true=true∧true=true∧true=true∧Yf u)∧(true=true∧True)∧(true=true∧true=true∧true=true∧true=true∧List.length [[(99:UInt8),(114:UInt8),(101:UInt8),(97:UInt8),(116:UInt8),(101:UInt8)],[(115:UInt8),(116:UInt8),(97:UInt8),(114:UInt8),(116:UInt8)],[(115:UInt8),(116:UInt8),(111:UInt8),(112:UInt8)],[(100:UInt8),(101:UInt8),(115:UInt8),(116:UInt8),(114:UInt8),(111:UInt8),(121:UInt8)]]=List.length [[(99:UInt8),(114:UInt8),(101:UInt8),(97:UInt8),(116:UInt8),(101:UInt8)],[(115:UInt8),(116:UInt8),(97:UInt8),(114:UInt8),(116:UInt8)],[(115:UInt8),(116:UInt8),(111:UInt8),(112:UInt8)],[(100:UInt8),(101:UInt8),(115:UInt8),(116:UInt8),(114:UInt8),(111:UInt8),(121:UInt8)]]∧AllI fun (i:Nat)=>Nat.le (Nat.succ (i * 1)) (List.length [[(99:UInt8),(114:UInt8),(101:UInt8),(97:UInt8),(116:UInt8),(101:UInt8)],[(115:UInt8),(116:UInt8),(97:UInt8),(114:UInt8),(116:UInt8)],[(115:UInt8),(116:UInt8),(111:UInt8),(112:UInt8)],[(100:UInt8),(101:UInt8),(115:UInt8),(116:UInt8),(114:UInt8),(111:UInt8),(121:UInt8)]])→List.getD [[(99:UInt8),(114:UInt8),(101:UInt8),(97:UInt8),(116:UInt8),(101:UInt8)],[(115:UInt8),(116:UInt8),(97:UInt8),(114:UInt8),(116:UInt8)],[(115:UInt8),(116:UInt8),(111:UInt8),(112:UInt8)],[(100:UInt8),(101:UInt8),(115:UInt8),(116:UInt8),(114:UInt8),(111:UInt8),(121:UInt8)]] i []=List.getD [[(99:UInt8),(114:UInt8),(101:UInt8),(97:UInt8),(116:UInt8),(101:UInt8)],[(115:UInt8),(116:UInt8),(97:UInt8),(114:UInt8),(116:UInt8)],[(115:UInt8),(116:UInt8),(111:UInt8),(112:UInt8)],[(100:UInt8),(101:UInt8),(115:UInt8),(116:UInt8),(114:UInt8),(111:UInt8),(121:UInt8)]] i []∧True)∧(true=true∧True)∧(true=true∧True)∧(true=true∧True)∧(true=true∧True)∧True
@[reducible] def Yo:List TK→Int→List UInt8→Int→Int→Int→List AV→List PT×RS→PT×RS→List PT×RS→Prop:=fun (L:List TK) (k:Int) (x:List UInt8) (m a c:Int) (u:List AV) (a_1:List PT×RS) (a_2:PT×RS) (a_3:List PT×RS)=>WP L a_2 a_3∧(true=true∧true=true∧true=true∧true=true∧((((((True∧true=true∧k=k)∧x=x)∧true=true∧m=m)∧true=true∧a=a)∧true=true∧c=c)∧True)∧some 43=some 43∧a_1.1.length + 1 + 1=a_3.1.length + 1∧true=true)∧(true=true∧asciiTab=asciiTab)∧(true=true∧true=true∧true=true∧true=true∧True∧vmL [(27,43),(9,9),(0,0),(1,1),(2,2),(3,3),(4,4),(5,5),(6,6)] u u)∧(true=true∧True)∧(true=true∧true=true∧true=true∧true=true∧List.length [List.getD [[(99:UInt8),(114:UInt8),(101:UInt8),(97:UInt8),(116:UInt8),(101:UInt8)],[(115:UInt8),(116:UInt8),(97:UInt8),(114:UInt8),(116:UInt8)],[(115:UInt8),(116:UInt8),(111:UInt8),(112:UInt8)],[(100:UInt8),(101:UInt8),(115:UInt8),(116:UInt8),(114:UInt8),(111:UInt8),(121:UInt8)]] 0 [],List.getD [[(99:UInt8),(114:UInt8),(101:UInt8),(97:UInt8),(116:UInt8),(101:UInt8)],[(115:UInt8),(116:UInt8),(97:UInt8),(114:UInt8),(116:UInt8)],[(115:UInt8),(116:UInt8),(111:UInt8),(112:UInt8)],[(100:UInt8),(101:UInt8),(115:UInt8),(116:UInt8),(114:UInt8),(111:UInt8),(121:UInt8)]] 1 [],List.getD [[(99:UInt8),(114:UInt8),(101:UInt8),(97:UInt8),(116:UInt8),(101:UInt8)],[(115:UInt8),(116:UInt8),(97:UInt8),(114:UInt8),(116:UInt8)],[(115:UInt8),(116:UInt8),(111:UInt8),(112:UInt8)],[(100:UInt8),(101:UInt8),(115:UInt8),(116:UInt8),(114:UInt8),(111:UInt8),(121:UInt8)]] 2 [],List.getD [[(99:UInt8),(114:UInt8),(101:UInt8),(97:UInt8),(116:UInt8),(101:UInt8)],[(115:UInt8),(116:UInt8),(97:UInt8),(114:UInt8),(116:UInt8)],[(115:UInt8),(116:UInt8),(111:UInt8),(112:UInt8)],[(100:UInt8),(101:UInt8),(115:UInt8),(116:UInt8),(114:UInt8),(111:UInt8),(121:UInt8)]] 3 []]=List.length [[(99:UInt8),(114:UInt8),(101:UInt8),(97:UInt8),(116:UInt8),(101:UInt8)],[(115:UInt8),(116:UInt8),(97:UInt8),(114:UInt8),(116:UInt8)],[(115:UInt8),(116:UInt8),(111:UInt8),(112:UInt8)],[(100:UInt8),(101:UInt8),(115:UInt8),(116:UInt8),(114:UInt8),(111:UInt8),(121:UInt8)]]∧AllI fun (i:Nat)=>Nat.le (Nat.succ (i * 1)) (List.length [List.getD [[(99:UInt8),(114:UInt8),(101:UInt8),(97:UInt8),(116:UInt8),(101:UInt8)],[(115:UInt8),(116:UInt8),(97:UInt8),(114:UInt8),(116:UInt8)],[(115:UInt8),(116:UInt8),(111:UInt8),(112:UInt8)],[(100:UInt8),(101:UInt8),(115:UInt8),(116:UInt8),(114:UInt8),(111:UInt8),(121:UInt8)]] 0 [],List.getD [[(99:UInt8),(114:UInt8),(101:UInt8),(97:UInt8),(116:UInt8),(101:UInt8)],[(115:UInt8),(116:UInt8),(97:UInt8),(114:UInt8),(116:UInt8)],[(115:UInt8),(116:UInt8),(111:UInt8),(112:UInt8)],[(100:UInt8),(101:UInt8),(115:UInt8),(116:UInt8),(114:UInt8),(111:UInt8),(121:UInt8)]] 1 [],List.getD [[(99:UInt8),(114:UInt8),(101:UInt8),(97:UInt8),(116:UInt8),(101:UInt8)],[(115:UInt8),(116:UInt8),(97:UInt8),(114:UInt8),(116:UInt8)],[(115:UInt8),(116:UInt8),(111:UInt8),(112:UInt8)],[(100:UInt8),(101:UInt8),(115:UInt8),(116:UInt8),(114:UInt8),(111:UInt8),(121:UInt8)]] 2 [],List.getD [[(99:UInt8),(114:UInt8),(101:UInt8),(97:UInt8),(116:UInt8),(101:UInt8)],[(115:UInt8),(116:UInt8),(97:UInt8),(114:UInt8),(116:UInt8)],[(115:UInt8),(116:UInt8),(111:UInt8),(112:UInt8)],[(100:UInt8),(101:UInt8),(115:UInt8),(116:UInt8),(114:UInt8),(111:UInt8),(121:UInt8)]] 3 []])→List.getD [List.getD [[(99:UInt8),(114:UInt8),(101:UInt8),(97:UInt8),(116:UInt8),(101:UInt8)],[(115:UInt8),(116:UInt8),(97:UInt8),(114:UInt8),(116:UInt8)],[(115:UInt8),(116:UInt8),(111:UInt8),(112:UInt8)],[(100:UInt8),(101:UInt8),(115:UInt8),(116:UInt8),(114:UInt8),(111:UInt8),(121:UInt8)]] 0 [],List.getD [[(99:UInt8),(114:UInt8),(101:UInt8),(97:UInt8),(116:UInt8),(101:UInt8)],[(115:UInt8),(116:UInt8),(97:UInt8),(114:UInt8),(116:UInt8)],[(115:UInt8),(116:UInt8),(111:UInt8),(112:UInt8)],[(100:UInt8),(101:UInt8),(115:UInt8),(116:UInt8),(114:UInt8),(111:UInt8),(121:UInt8)]] 1 [],List.getD [[(99:UInt8),(114:UInt8),(101:UInt8),(97:UInt8),(116:UInt8),(101:UInt8)],[(115:UInt8),(116:UInt8),(97:UInt8),(114:UInt8),(116:UInt8)],[(115:UInt8),(116:UInt8),(111:UInt8),(112:UInt8)],[(100:UInt8),(101:UInt8),(115:UInt8),(116:UInt8),(114:UInt8),(111:UInt8),(121:UInt8)]] 2 [],List.getD [[(99:UInt8),(114:UInt8),(101:UInt8),(97:UInt8),(116:UInt8),(101:UInt8)],[(115:UInt8),(116:UInt8),(97:UInt8),(114:UInt8),(116:UInt8)],[(115:UInt8),(116:UInt8),(111:UInt8),(112:UInt8)],[(100:UInt8),(101:UInt8),(115:UInt8),(116:UInt8),(114:UInt8),(111:UInt8),(121:UInt8)]] 3 []] i []=List.getD [[(99:UInt8),(114:UInt8),(101:UInt8),(97:UInt8),(116:UInt8),(101:UInt8)],[(115:UInt8),(116:UInt8),(97:UInt8),(114:UInt8),(116:UInt8)],[(115:UInt8),(116:UInt8),(111:UInt8),(112:UInt8)],[(100:UInt8),(101:UInt8),(115:UInt8),(116:UInt8),(114:UInt8),(111:UInt8),(121:UInt8)]] i []∧True)∧(true=true∧True)∧(true=true∧True)∧(true=true∧True)∧(true=true∧True)∧True
@[reducible] def Yn:List TK→Nat→(List TK→PF)→RS→Int→List UInt8→Int→Int→Int→List AV→List PT×RS→Prop:=fun (L:List TK) (n:Nat) (B:List TK→PF) (s:RS) (k:Int) (x:List UInt8) (m a c:Int) (u:List AV) (a_1:List PT×RS)=>(True∧PreC L (cP L a_1.2) (RS.nest a_1.2) fun (s:RS)=>WsP [[(125:UInt8)]])∧∀ (y:RS),y=stP L (cP L a_1.2) (RS.nest a_1.2)→brP (!bar (List.any [[(125:UInt8)]] (isS L y))) ((True∧PreC L (cP L y) (RS.nest y) fun (s:RS)=>WsP [List.getD [[(99:UInt8),(114:UInt8),(101:UInt8),(97:UInt8),(116:UInt8),(101:UInt8)],[(115:UInt8),(116:UInt8),(97:UInt8),(114:UInt8),(116:UInt8)],[(115:UInt8),(116:UInt8),(111:UInt8),(112:UInt8)],[(100:UInt8),(101:UInt8),(115:UInt8),(116:UInt8),(114:UInt8),(111:UInt8),(121:UInt8)]] 0 [],List.getD [[(99:UInt8),(114:UInt8),(101:UInt8),(97:UInt8),(116:UInt8),(101:UInt8)],[(115:UInt8),(116:UInt8),(97:UInt8),(114:UInt8),(116:UInt8)],[(115:UInt8),(116:UInt8),(111:UInt8),(112:UInt8)],[(100:UInt8),(101:UInt8),(115:UInt8),(116:UInt8),(114:UInt8),(111:UInt8),(121:UInt8)]] 1 [],List.getD [[(99:UInt8),(114:UInt8),(101:UInt8),(97:UInt8),(116:UInt8),(101:UInt8)],[(115:UInt8),(116:UInt8),(97:UInt8),(114:UInt8),(116:UInt8)],[(115:UInt8),(116:UInt8),(111:UInt8),(112:UInt8)],[(100:UInt8),(101:UInt8),(115:UInt8),(116:UInt8),(114:UInt8),(111:UInt8),(121:UInt8)]] 2 [],List.getD [[(99:UInt8),(114:UInt8),(101:UInt8),(97:UInt8),(116:UInt8),(101:UInt8)],[(115:UInt8),(116:UInt8),(97:UInt8),(114:UInt8),(116:UInt8)],[(115:UInt8),(116:UInt8),(111:UInt8),(112:UInt8)],[(100:UInt8),(101:UInt8),(115:UInt8),(116:UInt8),(114:UInt8),(111:UInt8),(121:UInt8)]] 3 []])∧∀ (y_1:TK×RS),y_1=oneR L (stP L (cP L y) (RS.nest y)) [List.getD [[(99:UInt8),(114:UInt8),(101:UInt8),(97:UInt8),(116:UInt8),(101:UInt8)],[(115:UInt8),(116:UInt8),(97:UInt8),(114:UInt8),(116:UInt8)],[(115:UInt8),(116:UInt8),(111:UInt8),(112:UInt8)],[(100:UInt8),(101:UInt8),(115:UInt8),(116:UInt8),(114:UInt8),(111:UInt8),(121:UInt8)]] 0 [],List.getD [[(99:UInt8),(114:UInt8),(101:UInt8),(97:UInt8),(116:UInt8),(101:UInt8)],[(115:UInt8),(116:UInt8),(97:UInt8),(114:UInt8),(116:UInt8)],[(115:UInt8),(116:UInt8),(111:UInt8),(112:UInt8)],[(100:UInt8),(101:UInt8),(115:UInt8),(116:UInt8),(114:UInt8),(111:UInt8),(121:UInt8)]] 1 [],List.getD [[(99:UInt8),(114:UInt8),(101:UInt8),(97:UInt8),(116:UInt8),(101:UInt8)],[(115:UInt8),(116:UInt8),(97:UInt8),(114:UInt8),(116:UInt8)],[(115:UInt8),(116:UInt8),(111:UInt8),(112:UInt8)],[(100:UInt8),(101:UInt8),(115:UInt8),(116:UInt8),(114:UInt8),(111:UInt8),(121:UInt8)]] 2 [],List.getD [[(99:UInt8),(114:UInt8),(101:UInt8),(97:UInt8),(116:UInt8),(101:UInt8)],[(115:UInt8),(116:UInt8),(97:UInt8),(114:UInt8),(116:UInt8)],[(115:UInt8),(116:UInt8),(111:UInt8),(112:UInt8)],[(100:UInt8),(101:UInt8),(115:UInt8),(116:UInt8),(114:UInt8),(111:UInt8),(121:UInt8)]] 3 []]→brP (ieq (RS.err y_1.2) (0:Int)) ((PreC L (cP L y_1.2) (RS.nest y_1.2) fun (s:RS)=>Pre L n s)∧∀ (y:PT×RS),y=B L (stP L (cP L y_1.2) (RS.nest y_1.2))→brP (ieq (RS.err y.2) (0:Int)) (SelfL [AV.pv [AV.int .i64 (PT.kind y.1),AV.bs (PT.text y.1),AV.int .i64 (PT.num y.1),AV.int .i64 (PT.line y.1),AV.int .i64 (PT.col y.1),AV.sl0,AV.vec 1 (List.length (PT.ks y.1)) fun (i:Nat)=>List.getD (pvL (PT.ks y.1)) i []]]∧WF y_1∧brP (decide (TK.text y_1.1=List.getD [List.getD [[(99:UInt8),(114:UInt8),(101:UInt8),(97:UInt8),(116:UInt8),(101:UInt8)],[(115:UInt8),(116:UInt8),(97:UInt8),(114:UInt8),(116:UInt8)],[(115:UInt8),(116:UInt8),(111:UInt8),(112:UInt8)],[(100:UInt8),(101:UInt8),(115:UInt8),(116:UInt8),(114:UInt8),(111:UInt8),(121:UInt8)]] 0 [],List.getD [[(99:UInt8),(114:UInt8),(101:UInt8),(97:UInt8),(116:UInt8),(101:UInt8)],[(115:UInt8),(116:UInt8),(97:UInt8),(114:UInt8),(116:UInt8)],[(115:UInt8),(116:UInt8),(111:UInt8),(112:UInt8)],[(100:UInt8),(101:UInt8),(115:UInt8),(116:UInt8),(114:UInt8),(111:UInt8),(121:UInt8)]] 1 [],List.getD [[(99:UInt8),(114:UInt8),(101:UInt8),(97:UInt8),(116:UInt8),(101:UInt8)],[(115:UInt8),(116:UInt8),(97:UInt8),(114:UInt8),(116:UInt8)],[(115:UInt8),(116:UInt8),(111:UInt8),(112:UInt8)],[(100:UInt8),(101:UInt8),(115:UInt8),(116:UInt8),(114:UInt8),(111:UInt8),(121:UInt8)]] 2 [],List.getD [[(99:UInt8),(114:UInt8),(101:UInt8),(97:UInt8),(116:UInt8),(101:UInt8)],[(115:UInt8),(116:UInt8),(97:UInt8),(114:UInt8),(116:UInt8)],[(115:UInt8),(116:UInt8),(111:UInt8),(112:UInt8)],[(100:UInt8),(101:UInt8),(115:UInt8),(116:UInt8),(114:UInt8),(111:UInt8),(121:UInt8)]] 3 []] 0 [])) (sdA (bif bif Nat.ble ((a_1.1.length + 1) * 1) (a_1.1.length + 1) then true else false then decide (Yu a_1) else false) (∃ (x':List PT×RS),LpV L (blockL (lifeM B) L) (livL B L s) (Prod.snd (oneR L s [[(123:UInt8)]])) x'∧Nat.le (Nat.succ (meas L x'.2)) (meas L a_1.2)∧true=true∧((some 4=some 4∧true=true)∧(some 5=some 5∧true=true)∧(some 9=some 9∧0=0∧4=4∧4=4)∧True)∧(true=true∧true=true∧true=true∧true=true∧(a_1.1.length + 1 + 1) * 1=x'.1.length + 1∧AllI fun (i:Nat)=>Nat.le (Nat.succ (i * 1)) ((a_1.1.length + 1 + 1) * 1)→vmL [(27,43),(9,9),(0,0),(1,1),(2,2),(3,3),(4,4),(5,5),(6,6)] (bif Nat.beq i 0 then [AV.pv u] else List.getD (pvL x'.1) (i - 1) []) (appF (a_1.1.length + 1) (fun (i:Nat)=>bif Nat.beq i 0 then [AV.pv u] else List.getD (pvL a_1.1) (i - 1) []) (fun (x:Nat)=>[AV.pv [AV.int .i64 (9:Int),AV.bs [],AV.int .i64 (0:Int),AV.int .i64 (TK.line y_1.1),AV.int .i64 (TK.col y_1.1),AV.sl0,AV.vec 1 1 fun (x:Nat)=>[AV.pv [AV.int .i64 (PT.kind y.1),AV.bs (PT.text y.1),AV.int .i64 (PT.num y.1),AV.int .i64 (PT.line y.1),AV.int .i64 (PT.col y.1),AV.sl0,AV.vec 1 (List.length (PT.ks y.1)) fun (i:Nat)=>List.getD (pvL (PT.ks y.1)) i []]]]]) i))∧Yo L k x m a c u a_1 y x')) (brP (decide (TK.text y_1.1=List.getD [List.getD [[(99:UInt8),(114:UInt8),(101:UInt8),(97:UInt8),(116:UInt8),(101:UInt8)],[(115:UInt8),(116:UInt8),(97:UInt8),(114:UInt8),(116:UInt8)],[(115:UInt8),(116:UInt8),(111:UInt8),(112:UInt8)],[(100:UInt8),(101:UInt8),(115:UInt8),(116:UInt8),(114:UInt8),(111:UInt8),(121:UInt8)]] 0 [],List.getD [[(99:UInt8),(114:UInt8),(101:UInt8),(97:UInt8),(116:UInt8),(101:UInt8)],[(115:UInt8),(116:UInt8),(97:UInt8),(114:UInt8),(116:UInt8)],[(115:UInt8),(116:UInt8),(111:UInt8),(112:UInt8)],[(100:UInt8),(101:UInt8),(115:UInt8),(116:UInt8),(114:UInt8),(111:UInt8),(121:UInt8)]] 1 [],List.getD [[(99:UInt8),(114:UInt8),(101:UInt8),(97:UInt8),(116:UInt8),(101:UInt8)],[(115:UInt8),(116:UInt8),(97:UInt8),(114:UInt8),(116:UInt8)],[(115:UInt8),(116:UInt8),(111:UInt8),(112:UInt8)],[(100:UInt8),(101:UInt8),(115:UInt8),(116:UInt8),(114:UInt8),(111:UInt8),(121:UInt8)]] 2 [],List.getD [[(99:UInt8),(114:UInt8),(101:UInt8),(97:UInt8),(116:UInt8),(101:UInt8)],[(115:UInt8),(116:UInt8),(97:UInt8),(114:UInt8),(116:UInt8)],[(115:UInt8),(116:UInt8),(111:UInt8),(112:UInt8)],[(100:UInt8),(101:UInt8),(115:UInt8),(116:UInt8),(114:UInt8),(111:UInt8),(121:UInt8)]] 3 []] 1 [])) (sdA (bif bif Nat.ble ((a_1.1.length + 1) * 1) (a_1.1.length + 1) then true else false then decide (Yu a_1) else false) (∃ (x':List PT×RS),LpV L (blockL (lifeM B) L) (livL B L s) (Prod.snd (oneR L s [[(123:UInt8)]])) x'∧Nat.le (Nat.succ (meas L x'.2)) (meas L a_1.2)∧true=true∧((some 4=some 4∧true=true)∧(some 5=some 5∧true=true)∧(some 9=some 9∧0=0∧4=4∧4=4)∧True)∧(true=true∧true=true∧true=true∧true=true∧(a_1.1.length + 1 + 1) * 1=x'.1.length + 1∧AllI fun (i:Nat)=>Nat.le (Nat.succ (i * 1)) ((a_1.1.length + 1 + 1) * 1)→vmL [(27,43),(9,9),(0,0),(1,1),(2,2),(3,3),(4,4),(5,5),(6,6)] (bif Nat.beq i 0 then [AV.pv u] else List.getD (pvL x'.1) (i - 1) []) (appF (a_1.1.length + 1) (fun (i:Nat)=>bif Nat.beq i 0 then [AV.pv u] else List.getD (pvL a_1.1) (i - 1) []) (fun (x:Nat)=>[AV.pv [AV.int .i64 (9:Int),AV.bs [],AV.int .i64 (1:Int),AV.int .i64 (TK.line y_1.1),AV.int .i64 (TK.col y_1.1),AV.sl0,AV.vec 1 1 fun (x:Nat)=>[AV.pv [AV.int .i64 (PT.kind y.1),AV.bs (PT.text y.1),AV.int .i64 (PT.num y.1),AV.int .i64 (PT.line y.1),AV.int .i64 (PT.col y.1),AV.sl0,AV.vec 1 (List.length (PT.ks y.1)) fun (i:Nat)=>List.getD (pvL (PT.ks y.1)) i []]]]]) i))∧Yo L k x m a c u a_1 y x')) (brP (decide (TK.text y_1.1=List.getD [List.getD [[(99:UInt8),(114:UInt8),(101:UInt8),(97:UInt8),(116:UInt8),(101:UInt8)],[(115:UInt8),(116:UInt8),(97:UInt8),(114:UInt8),(116:UInt8)],[(115:UInt8),(116:UInt8),(111:UInt8),(112:UInt8)],[(100:UInt8),(101:UInt8),(115:UInt8),(116:UInt8),(114:UInt8),(111:UInt8),(121:UInt8)]] 0 [],List.getD [[(99:UInt8),(114:UInt8),(101:UInt8),(97:UInt8),(116:UInt8),(101:UInt8)],[(115:UInt8),(116:UInt8),(97:UInt8),(114:UInt8),(116:UInt8)],[(115:UInt8),(116:UInt8),(111:UInt8),(112:UInt8)],[(100:UInt8),(101:UInt8),(115:UInt8),(116:UInt8),(114:UInt8),(111:UInt8),(121:UInt8)]] 1 [],List.getD [[(99:UInt8),(114:UInt8),(101:UInt8),(97:UInt8),(116:UInt8),(101:UInt8)],[(115:UInt8),(116:UInt8),(97:UInt8),(114:UInt8),(116:UInt8)],[(115:UInt8),(116:UInt8),(111:UInt8),(112:UInt8)],[(100:UInt8),(101:UInt8),(115:UInt8),(116:UInt8),(114:UInt8),(111:UInt8),(121:UInt8)]] 2 [],List.getD [[(99:UInt8),(114:UInt8),(101:UInt8),(97:UInt8),(116:UInt8),(101:UInt8)],[(115:UInt8),(116:UInt8),(97:UInt8),(114:UInt8),(116:UInt8)],[(115:UInt8),(116:UInt8),(111:UInt8),(112:UInt8)],[(100:UInt8),(101:UInt8),(115:UInt8),(116:UInt8),(114:UInt8),(111:UInt8),(121:UInt8)]] 3 []] 2 [])) (sdA (bif bif Nat.ble ((a_1.1.length + 1) * 1) (a_1.1.length + 1) then true else false then decide (Yu a_1) else false) (∃ (x':List PT×RS),LpV L (blockL (lifeM B) L) (livL B L s) (Prod.snd (oneR L s [[(123:UInt8)]])) x'∧Nat.le (Nat.succ (meas L x'.2)) (meas L a_1.2)∧true=true∧((some 4=some 4∧true=true)∧(some 5=some 5∧true=true)∧(some 9=some 9∧0=0∧4=4∧4=4)∧True)∧(true=true∧true=true∧true=true∧true=true∧(a_1.1.length + 1 + 1) * 1=x'.1.length + 1∧AllI fun (i:Nat)=>Nat.le (Nat.succ (i * 1)) ((a_1.1.length + 1 + 1) * 1)→vmL [(27,43),(9,9),(0,0),(1,1),(2,2),(3,3),(4,4),(5,5),(6,6)] (bif Nat.beq i 0 then [AV.pv u] else List.getD (pvL x'.1) (i - 1) []) (appF (a_1.1.length + 1) (fun (i:Nat)=>bif Nat.beq i 0 then [AV.pv u] else List.getD (pvL a_1.1) (i - 1) []) (fun (x:Nat)=>[AV.pv [AV.int .i64 (9:Int),AV.bs [],AV.int .i64 (2:Int),AV.int .i64 (TK.line y_1.1),AV.int .i64 (TK.col y_1.1),AV.sl0,AV.vec 1 1 fun (x:Nat)=>[AV.pv [AV.int .i64 (PT.kind y.1),AV.bs (PT.text y.1),AV.int .i64 (PT.num y.1),AV.int .i64 (PT.line y.1),AV.int .i64 (PT.col y.1),AV.sl0,AV.vec 1 (List.length (PT.ks y.1)) fun (i:Nat)=>List.getD (pvL (PT.ks y.1)) i []]]]]) i))∧Yo L k x m a c u a_1 y x')) (brP (decide (TK.text y_1.1=List.getD [List.getD [[(99:UInt8),(114:UInt8),(101:UInt8),(97:UInt8),(116:UInt8),(101:UInt8)],[(115:UInt8),(116:UInt8),(97:UInt8),(114:UInt8),(116:UInt8)],[(115:UInt8),(116:UInt8),(111:UInt8),(112:UInt8)],[(100:UInt8),(101:UInt8),(115:UInt8),(116:UInt8),(114:UInt8),(111:UInt8),(121:UInt8)]] 0 [],List.getD [[(99:UInt8),(114:UInt8),(101:UInt8),(97:UInt8),(116:UInt8),(101:UInt8)],[(115:UInt8),(116:UInt8),(97:UInt8),(114:UInt8),(116:UInt8)],[(115:UInt8),(116:UInt8),(111:UInt8),(112:UInt8)],[(100:UInt8),(101:UInt8),(115:UInt8),(116:UInt8),(114:UInt8),(111:UInt8),(121:UInt8)]] 1 [],List.getD [[(99:UInt8),(114:UInt8),(101:UInt8),(97:UInt8),(116:UInt8),(101:UInt8)],[(115:UInt8),(116:UInt8),(97:UInt8),(114:UInt8),(116:UInt8)],[(115:UInt8),(116:UInt8),(111:UInt8),(112:UInt8)],[(100:UInt8),(101:UInt8),(115:UInt8),(116:UInt8),(114:UInt8),(111:UInt8),(121:UInt8)]] 2 [],List.getD [[(99:UInt8),(114:UInt8),(101:UInt8),(97:UInt8),(116:UInt8),(101:UInt8)],[(115:UInt8),(116:UInt8),(97:UInt8),(114:UInt8),(116:UInt8)],[(115:UInt8),(116:UInt8),(111:UInt8),(112:UInt8)],[(100:UInt8),(101:UInt8),(115:UInt8),(116:UInt8),(114:UInt8),(111:UInt8),(121:UInt8)]] 3 []] 3 [])) (sdA (bif bif Nat.ble ((a_1.1.length + 1) * 1) (a_1.1.length + 1) then true else false then decide (Yu a_1) else false) (∃ (x':List PT×RS),LpV L (blockL (lifeM B) L) (livL B L s) (Prod.snd (oneR L s [[(123:UInt8)]])) x'∧Nat.le (Nat.succ (meas L x'.2)) (meas L a_1.2)∧true=true∧((some 4=some 4∧true=true)∧(some 5=some 5∧true=true)∧(some 9=some 9∧0=0∧4=4∧4=4)∧True)∧(true=true∧true=true∧true=true∧true=true∧(a_1.1.length + 1 + 1) * 1=x'.1.length + 1∧AllI fun (i:Nat)=>Nat.le (Nat.succ (i * 1)) ((a_1.1.length + 1 + 1) * 1)→vmL [(27,43),(9,9),(0,0),(1,1),(2,2),(3,3),(4,4),(5,5),(6,6)] (bif Nat.beq i 0 then [AV.pv u] else List.getD (pvL x'.1) (i - 1) []) (appF (a_1.1.length + 1) (fun (i:Nat)=>bif Nat.beq i 0 then [AV.pv u] else List.getD (pvL a_1.1) (i - 1) []) (fun (x:Nat)=>[AV.pv [AV.int .i64 (9:Int),AV.bs [],AV.int .i64 (3:Int),AV.int .i64 (TK.line y_1.1),AV.int .i64 (TK.col y_1.1),AV.sl0,AV.vec 1 1 fun (x:Nat)=>[AV.pv [AV.int .i64 (PT.kind y.1),AV.bs (PT.text y.1),AV.int .i64 (PT.num y.1),AV.int .i64 (PT.line y.1),AV.int .i64 (PT.col y.1),AV.sl0,AV.vec 1 (List.length (PT.ks y.1)) fun (i:Nat)=>List.getD (pvL (PT.ks y.1)) i []]]]]) i))∧Yo L k x m a c u a_1 y x')) (sdA (bif bif Nat.ble ((a_1.1.length + 1) * 1) (a_1.1.length + 1) then true else false then decide (Yu a_1) else false) (∃ (x':List PT×RS),LpV L (blockL (lifeM B) L) (livL B L s) (Prod.snd (oneR L s [[(123:UInt8)]])) x'∧Nat.le (Nat.succ (meas L x'.2)) (meas L a_1.2)∧true=true∧((some 4=some 4∧true=true)∧(some 5=some 5∧true=true)∧(some 9=some 9∧0=0∧4=4∧4=4)∧True)∧(true=true∧true=true∧true=true∧true=true∧(a_1.1.length + 1 + 1) * 1=x'.1.length + 1∧AllI fun (i:Nat)=>Nat.le (Nat.succ (i * 1)) ((a_1.1.length + 1 + 1) * 1)→vmL [(27,43),(9,9),(0,0),(1,1),(2,2),(3,3),(4,4),(5,5),(6,6)] (bif Nat.beq i 0 then [AV.pv u] else List.getD (pvL x'.1) (i - 1) []) (appF (a_1.1.length + 1) (fun (i:Nat)=>bif Nat.beq i 0 then [AV.pv u] else List.getD (pvL a_1.1) (i - 1) []) (fun (x:Nat)=>[AV.pv [AV.int .i64 (9:Int),AV.bs [],AV.int .i64 (Int.negSucc 0),AV.int .i64 (TK.line y_1.1),AV.int .i64 (TK.col y_1.1),AV.sl0,AV.vec 1 1 fun (x:Nat)=>[AV.pv [AV.int .i64 (PT.kind y.1),AV.bs (PT.text y.1),AV.int .i64 (PT.num y.1),AV.int .i64 (PT.line y.1),AV.int .i64 (PT.col y.1),AV.sl0,AV.vec 1 (List.length (PT.ks y.1)) fun (i:Nat)=>List.getD (pvL (PT.ks y.1)) i []]]]]) i))∧Yo L k x m a c u a_1 y x')))))) (WI L B s u y)) (brP (ieq (RS.err (Prod.snd (oneR L (Prod.snd (livL B L s)) [[(125:UInt8)]]))) (0:Int)) (sdA (Nat.beq (List.length (Prod.fst (livL B L s))) 0) False) (XC L B s u y_1))) ((PreC L (cP L y) (RS.nest y) fun (s:RS)=>RS.at_ s < (↑L.length:Int))∧∀ (y_1:TK×RS),y_1=(ahd L (stP L (cP L y) (RS.nest y)),at1 (stP L (cP L y) (RS.nest y)))→sdA (ieq (RS.err (Prod.snd (oneR L (Prod.snd (livL B L s)) [[(125:UInt8)]]))) (0:Int)) (brP (Nat.beq (List.length (Prod.fst (livL B L s))) 0) (true=true∧((some 5=some 5∧true=true)∧True)∧YW L B s y_1∧(true=true∧true=true∧true=true∧true=true∧((((((True∧true=true∧k=k)∧x=x)∧true=true∧m=m)∧true=true∧a=a)∧true=true∧c=c)∧True)∧False)∧XD u) (true=true∧((some 5=some 5∧true=true)∧True)∧YW L B s y_1∧(true=true∧true=true∧true=true∧true=true∧((((((True∧true=true∧k=k)∧x=x)∧true=true∧m=m)∧true=true∧a=a)∧true=true∧c=c)∧True)∧some 27=some 27∧a_1.1.length + 1=List.length (Prod.fst (livL B L s)) + 1∧true=true)∧(true=true∧true=true∧true=true∧true=true∧True∧vmL [(7,27),(0,0),(1,1),(2,2),(3,3),(4,4),(5,5),(6,6)] u u)∧(true=true∧true=true∧true=true∧true=true∧a_1.1.length + 1=List.length (Prod.fst (livL B L s)) + 1∧AllI fun (i:Nat)=>Nat.le (Nat.succ (i * 1)) (a_1.1.length + 1)→vmL [(7,27),(0,0),(1,1),(2,2),(3,3),(4,4),(5,5),(6,6)] (bif Nat.beq i 0 then [AV.pv u] else List.getD (pvL (Prod.fst (livL B L s))) (i - 1) []) (bif Nat.beq i 0 then [AV.pv u] else List.getD (pvL a_1.1) (i - 1) []))∧True)))
noncomputable def qm:=[[(99:UInt8),(114:UInt8),(101:UInt8),(97:UInt8),(116:UInt8),(101:UInt8)],[(115:UInt8),(116:UInt8),(97:UInt8),(114:UInt8),(116:UInt8)],[(115:UInt8),(116:UInt8),(111:UInt8),(112:UInt8)],[(100:UInt8),(101:UInt8),(115:UInt8),(116:UInt8),(114:UInt8),(111:UInt8),(121:UInt8)]]
noncomputable def qH (a:List TK) (b:List TK→PF) (c:RS):=LpV a (blockL (lifeM b) a) (livL b a c) (Prod.snd (oneR a c [[(123:UInt8)]]))
noncomputable def qac:=(qQ∧(some 5=some 5∧true=true)∧(some 9=some 9∧0=0∧4=4∧4=4)∧True)
noncomputable def qat:=vmP [(27,25),(9,9),(0,0),(1,1),(2,2),(3,3),(4,4),(5,5),(6,6)]
noncomputable def qbT (a:List TK) (b:List TK→PF) (c:RS):=brP (ieq (RS.err (Prod.snd (oneR a (Prod.snd (livL b a c)) qbv))) (0:Int)) (sdA (Nat.beq (List.length (Prod.fst (livL b a c))) 0) False)
noncomputable def qb8:=AV.int .i64 (9:Int)
noncomputable def qcj:=AV.int .i64 (1:Int)
noncomputable def qcv (a:List PT):=List.getD (pvL a) 0 []
theorem Zkj:∀ (L:List TK) (n:Nat) (B:List TK→PF),OkI (31:FuncId) L n B→∀ (s:RS) (k:Int) (x:List UInt8) (m a c:Int) (u:List AV),R0 L s→Pre L n s→FG L n B→SelfL [AV.pv u]→(True∧qd L s fun (s:RS)=>WsP qcq)∧∀ (y:TK×RS),y=qcC L s qcq→qh y.2 ((True∧qd L y.2 fun (s:RS)=>WsP qbv)∧∀ (y_1:RS),y_1=qb L y.2→brP (!bar (List.any qbv (isS L y_1))) ((True∧qd L y_1 fun (s:RS)=>WsP qm)∧∀ (y:TK×RS),y=qcC L y_1 qm→qh y.2 ((qag L y.2 n)∧∀ (y_2:PT×RS),y_2=B L (qb L y.2)→qh y_2.2 (qaN y_2.1∧WF y∧brP (decide (TK.text y.1=List.getD qm 0 [])) ((∃ (x0:List PT×RS),qH L B s x0∧true=true∧qac∧(true=true∧true=true∧true=true∧2=x0.1.length + 1∧Yf u∧Option.rec True (fun (val:AV)=>qat val (AV.pv [qb8,AV.bs [],qB,qy y.1,qI y.1,AV.sl0,AV.vec 1 1 fun (x:Nat)=>[qa y_2.1]])) (qcv x0.1)[0]?)∧Ym L k x m a c u y_2 x0)∧∀ (x_1:List PT×RS),qH L B s x_1→Yn L n B s k x m a c u x_1) (brP (decide (TK.text y.1=List.getD qm 1 [])) ((∃ (x0:List PT×RS),qH L B s x0∧true=true∧qac∧(true=true∧true=true∧true=true∧2=x0.1.length + 1∧Yf u∧Option.rec True (fun (val:AV)=>qat val (AV.pv [qb8,AV.bs [],qcj,qy y.1,qI y.1,AV.sl0,AV.vec 1 1 fun (x:Nat)=>[qa y_2.1]])) (qcv x0.1)[0]?)∧Ym L k x m a c u y_2 x0)∧∀ (x_1:List PT×RS),qH L B s x_1→Yn L n B s k x m a c u x_1) (brP (decide (TK.text y.1=List.getD qm 2 [])) ((∃ (x0:List PT×RS),qH L B s x0∧true=true∧qac∧(true=true∧true=true∧true=true∧2=x0.1.length + 1∧Yf u∧Option.rec True (fun (val:AV)=>qat val (AV.pv [qb8,AV.bs [],AV.int .i64 (2:Int),qy y.1,qI y.1,AV.sl0,AV.vec 1 1 fun (x:Nat)=>[qa y_2.1]])) (qcv x0.1)[0]?)∧Ym L k x m a c u y_2 x0)∧∀ (x_1:List PT×RS),qH L B s x_1→Yn L n B s k x m a c u x_1) (brP (decide (TK.text y.1=List.getD qm 3 [])) ((∃ (x0:List PT×RS),qH L B s x0∧true=true∧qac∧(true=true∧true=true∧true=true∧2=x0.1.length + 1∧Yf u∧Option.rec True (fun (val:AV)=>qat val (AV.pv [qb8,AV.bs [],qcV,qy y.1,qI y.1,AV.sl0,AV.vec 1 1 fun (x:Nat)=>[qa y_2.1]])) (qcv x0.1)[0]?)∧Ym L k x m a c u y_2 x0)∧∀ (x_1:List PT×RS),qH L B s x_1→Yn L n B s k x m a c u x_1) ((∃ (x0:List PT×RS),qH L B s x0∧true=true∧qac∧(true=true∧true=true∧true=true∧2=x0.1.length + 1∧Yf u∧Option.rec True (fun (val:AV)=>qat val (AV.pv [qb8,AV.bs [],qcM,qy y.1,qI y.1,AV.sl0,AV.vec 1 1 fun (x:Nat)=>[qa y_2.1]])) (qcv x0.1)[0]?)∧Ym L k x m a c u y_2 x0)∧∀ (x_1:List PT×RS),qH L B s x_1→Yn L n B s k x m a c u x_1))))) (WI L B s u y_2)) (qbT L B s (XC L B s u y))) ((qn L y_1)∧∀ (y:TK×RS),y=(qC L y_1)→sdA (ieq (RS.err (Prod.snd (oneR L (Prod.snd (livL B L s)) qbv))) (0:Int)) (brP (Nat.beq (List.length (Prod.fst (livL B L s))) 0) (true=true∧(qa9∧True)∧YW L B s y∧(true=true∧true=true∧true=true∧true=true∧(qah k x m a c)∧some 6=some 6∧0=0∧1=1∧1=1)∧XD u) (true=true∧(qa9∧True)∧YW L B s y∧(true=true∧true=true∧true=true∧true=true∧(qah k x m a c)∧False)∧WS u∧qbj∧True)))) (qbT L B s (XC L B s u y))
:= by
 delta qa qb qd qh qm qn qy qB qC qH qI qQ qac qag qah qat qaN qa9 qbj qbv qbT qb8 qcj qcq qcv qcC qcM qcV
 intro L n B hok s k x m a c u hs hp hB hu
 simp only [Zi,Zs,true_and,and_true,eq_self,implies_true,Nat.le_eq,ZA,Zz,ZK,Int.toNat_natCast,Int.ofNat_eq_natCast,Nat.ble_eq,Nat.ble_self_eq_true,Bool.true_and,Bool.and_true,Bool.and_self,Option.some.injEq,AV.int.injEq,Zo,Zj,Nat.mul_one,Nat.beq_refl,Zn,cond_true,cond_false,Zp,Bool.not_true,Bool.not_false,decide_true,ZY,Ya,ZZ,Zf,List.nil_append,Yu,WF,WS,XD,Yf,WN,WP,XC,WI,YW,Ym,Yo,Yn]
 have hsu':∀ σ,vmP σ (.pv u) (.pv u):=fun σ=>(hu.h _ (List.mem_cons_self ..)).vm σ
 have hsu:∀ σ,vmL σ u u:=hsu'
 have kB:=JT (L:=L) hB.k
 have kL:∀ (k:Nat) (l:List PT) (r:RS),Kp r (blockL (lifeM B) L k l r).2:=Yv kB
 have kT:Kp (livL B L s).2 (oneR L (livL B L s).2 [[125]]).2:=YI L _ _
 have hle:=Zdp (n:=n) hB.g
 refine Zbf (f:=fun s=>oneR L s [[123]]) hs (Xf rfl) (fun e1=>?_) fun e1=>Za3 ((kL _ _ _).tr kT) e1 (hsu _)
 have s1:=Xc (L:=L) (ws:=[[123]]) hs.ok
 have r1:=Xs hs s1 (YI L _ _) e1
 have p1:=Xz hp s1
 have round:∀ (k:Nat) (l:List PT) (r:RS),R0 L r→PostL L 0 4 (oneR L s [[123]]).2 (l,r)→meas L r < k→blockL (lifeM B) L k l r=livL B L s→isS L r wShut=false →
   Kp (oneR L r wsL).2 (oneR L (livL B L s).2 [[125]]).2∧((oneR L r wsL).2.err=0→R0 L (oneR L r wsL).2∧Pre L n (oneR L r wsL).2∧Kp (B L (oneR L r wsL).2).2 (oneR L (livL B L s).2 [[125]]).2∧((B L (oneR L r wsL).2).2.err=0 →
    LpV L (blockL (lifeM B) L) (livL B L s) (oneR L s [[123]]).2 (l ++ [(lifeM B L r).1],(B L (oneR L r wsL).2).2)∧meas L (B L (oneR L r wsL).2).2 < meas L r)):=fun k l r hr px hk hkt c=>by
  obtain ⟨k',rfl,h2⟩:=Zlg hk hkt hr.e c
  obtain ⟨d0,d1,d2⟩:=Ur (by decide) hle (l:=l) (s:=r) px (fun _=>p1) hr.e
  have k2:Kp (B L (oneR L r wsL).2).2 (oneR L (livL B L s).2 [[125]]).2:=by
   refine Kp.tr ?_ kT
   rw [← h2]
   exact kL _ _ _
  refine ⟨(hB.k _).tr k2,fun e=>?_⟩
  have s2:=Xc (L:=L) (ws:=wsL) hr.ok
  have r2:=Xs hr s2 (YI L _ _) e
  have p2:=Xz d0 s2
  refine ⟨r2,p2,k2,fun e'=>⟨⟨⟨k',by have:meas L (B L (oneR L r wsL).2).2 < meas L r:=d2;show meas L (B L (oneR L r wsL).2).2 < k';omega,h2⟩,d1,ZS r2 (hB.g L _ p2) (hB.k _) e',by rw [List.length_append,List.length_singleton];omega⟩,d2⟩⟩
 have px0:PostL L 0 4 (oneR L s [[123]]).2 ([],(oneR L s [[123]]).2):=XX r1.ok (by decide)
 refine Yj r1 rfl (Zc (fun c=>?_) fun c=>?_)
 ·have c:isS L (oneR L s [[123]]).2 wShut=false:=by rwa [Bool.not_eq_true',any1 rfl] at c
  obtain ⟨k1,k2⟩:=round (fuelN L) [] _ r1 px0 (XZ r1.ok) rfl c
  refine Zbf (f:=fun s=>oneR L s wsL) r1 (Xf rfl) (fun e2=>?_) fun e2=>Za3 k1 e2 (hsu _)
  obtain ⟨r2,p2,k3,k4⟩:=k2 e2
  have ht:=Gr r1 e2
  refine Zbf (f:=B L) r2 p2 (fun e3=>⟨self1 _,?_⟩) fun e3=>Za3 k3 e3 (hsu _)
  obtain ⟨k5,_⟩:=k4 e3
  have way:∀ (r:RS) (i:Int) (y:PT×RS),R0 L r→(oneR L r wsL).2.err=0→y=B L (oneR L r wsL).2→lifeN (oneR L r wsL).1.text=i→∀ g:Nat→List AV,g 0=[pvX y.1]→VmE (lifeM B L r).1 (.pv [.int .i64 9,.bs [],.int .i64 i,.int .i64 (oneR L r wsL).1.line,.int .i64 (oneR L r wsL).1.col,.sl0,.vec 1 1 g]):=fun r i y _ _ hy hi g hg=>by
   subst hi;subst hy
   exact Zli hg
  have no:∀ (r:RS),R0 L r→(oneR L r wsL).2.err=0→(oneR L r wsL).1.text≠wCreate→(oneR L r wsL).1.text≠wStart→(oneR L r wsL).1.text≠wStop→(oneR L r wsL).1.text≠wDestroy→False:=fun r hr e n1 n2 n3 n4=>by
   have:=Gr hr e
   simp only [wsL,List.mem_cons,List.not_mem_nil,or_false] at this
   rcases this with h | h | h | h
   ·exact n1 h
   ·exact n2 h
   ·exact n3 h
   ·exact n4 h
  refine Zc (fun w0=>⟨⟨([(lifeM B L (oneR L s [[123]]).2).1],(B L (oneR L (oneR L s [[123]]).2 wsL).2).2),k5,⟨rfl,hsu _,Ze9 _ (way (oneR L s [[123]]).2 0 _ r1 e2 rfl (by rw [show (oneR L (oneR L s [[123]]).2 wsL).1.text=wCreate from of_decide_eq_true w0];rfl) _ rfl)⟩,Yd (s:=(B L (oneR L (oneR L s [[123]]).2 wsL).2).2) rfl,rfl,hsu _⟩,fun q hq=>?_⟩) fun w0=>Zc (fun w1=>⟨⟨([(lifeM B L (oneR L s [[123]]).2).1],(B L (oneR L (oneR L s [[123]]).2 wsL).2).2),k5,⟨rfl,hsu _,Ze9 _ (way (oneR L s [[123]]).2 1 _ r1 e2 rfl (by rw [show (oneR L (oneR L s [[123]]).2 wsL).1.text=wStart from of_decide_eq_true w1];rfl) _ rfl)⟩,Yd (s:=(B L (oneR L (oneR L s [[123]]).2 wsL).2).2) rfl,rfl,hsu _⟩,fun q hq=>?_⟩) fun w1=>Zc (fun w2=>⟨⟨([(lifeM B L (oneR L s [[123]]).2).1],(B L (oneR L (oneR L s [[123]]).2 wsL).2).2),k5,⟨rfl,hsu _,Ze9 _ (way (oneR L s [[123]]).2 2 _ r1 e2 rfl (by rw [show (oneR L (oneR L s [[123]]).2 wsL).1.text=wStop from of_decide_eq_true w2];rfl) _ rfl)⟩,Yd (s:=(B L (oneR L (oneR L s [[123]]).2 wsL).2).2) rfl,rfl,hsu _⟩,fun q hq=>?_⟩) fun w2=>Zc (fun w3=>⟨⟨([(lifeM B L (oneR L s [[123]]).2).1],(B L (oneR L (oneR L s [[123]]).2 wsL).2).2),k5,⟨rfl,hsu _,Ze9 _ (way (oneR L s [[123]]).2 3 _ r1 e2 rfl (by rw [show (oneR L (oneR L s [[123]]).2 wsL).1.text=wDestroy from of_decide_eq_true w3];rfl) _ rfl)⟩,Yd (s:=(B L (oneR L (oneR L s [[123]]).2 wsL).2).2) rfl,rfl,hsu _⟩,fun q hq=>?_⟩) fun w3=>(no _ r1 e2 (of_decide_eq_false w0) (of_decide_eq_false w1) (of_decide_eq_false w2) (of_decide_eq_false w3)).elim
  all_goals
   obtain ⟨⟨k',hk',hkt'⟩,pq,rq,nq⟩:=hq
   have b1:=pq.bnd s1.ok (by decide)
   have b2:=Vw q.1
   refine Yj rq rfl (Zc (fun d=>?_) fun d=>?_)
   ·have d:isS L q.2 wShut=false:=by rwa [Bool.not_eq_true',any1 rfl] at d
    obtain ⟨j1,j2⟩:=round k' q.1 q.2 rq pq hk' hkt' d
    refine Zbf (f:=fun s=>oneR L s wsL) rq (Xf rfl) (fun f2=>?_) fun f2=>Za3 j1 f2 (hsu _)
    obtain ⟨q2,pp2,j3,j4⟩:=j2 f2
    refine Zbf (f:=B L) q2 pp2 (fun f3=>⟨self1 _,?_⟩) fun f3=>Za3 j3 f3 (hsu _)
    obtain ⟨j5,j6⟩:=j4 f3
    exact Zc (fun v0=>Zd (decide_eq_true (by omega)) ⟨(q.1 ++ [(lifeM B L q.2).1],(B L (oneR L q.2 wsL).2).2),j5,j6,Jk hsu' q.1 (lifeM B L q.2).1 rfl (way q.2 0 _ rq f2 rfl (by rw [show (oneR L q.2 wsL).1.text=wCreate from of_decide_eq_true v0];rfl) _ rfl),Yd (s:=(B L (oneR L q.2 wsL).2).2) rfl,by rw [List.length_append,List.length_singleton],hsu _,rfl,⟨fun _ _=>rfl⟩⟩) fun v0=>Zc (fun v1=>Zd (decide_eq_true (by omega)) ⟨(q.1 ++ [(lifeM B L q.2).1],(B L (oneR L q.2 wsL).2).2),j5,j6,Jk hsu' q.1 (lifeM B L q.2).1 rfl (way q.2 1 _ rq f2 rfl (by rw [show (oneR L q.2 wsL).1.text=wStart from of_decide_eq_true v1];rfl) _ rfl),Yd (s:=(B L (oneR L q.2 wsL).2).2) rfl,by rw [List.length_append,List.length_singleton],hsu _,rfl,⟨fun _ _=>rfl⟩⟩) fun v1=>Zc (fun v2=>Zd (decide_eq_true (by omega)) ⟨(q.1 ++ [(lifeM B L q.2).1],(B L (oneR L q.2 wsL).2).2),j5,j6,Jk hsu' q.1 (lifeM B L q.2).1 rfl (way q.2 2 _ rq f2 rfl (by rw [show (oneR L q.2 wsL).1.text=wStop from of_decide_eq_true v2];rfl) _ rfl),Yd (s:=(B L (oneR L q.2 wsL).2).2) rfl,by rw [List.length_append,List.length_singleton],hsu _,rfl,⟨fun _ _=>rfl⟩⟩) fun v2=>Zc (fun v3=>Zd (decide_eq_true (by omega)) ⟨(q.1 ++ [(lifeM B L q.2).1],(B L (oneR L q.2 wsL).2).2),j5,j6,Jk hsu' q.1 (lifeM B L q.2).1 rfl (way q.2 3 _ rq f2 rfl (by rw [show (oneR L q.2 wsL).1.text=wDestroy from of_decide_eq_true v3];rfl) _ rfl),Yd (s:=(B L (oneR L q.2 wsL).2).2) rfl,by rw [List.length_append,List.length_singleton],hsu _,rfl,⟨fun _ _=>rfl⟩⟩) fun v3=>(no _ rq f2 (of_decide_eq_false v0) (of_decide_eq_false v1) (of_decide_eq_false v2) (of_decide_eq_false v3)).elim
   ·have d:isS L q.2 wShut=true:=by rwa [Bool.not_eq_false',any1 rfl] at d
    have hX:livL B L s=(q.1,q.2):=Zjk hk' hkt' d
    have hT:(oneR L (livL B L s).2 [[125]]).2=at1 q.2:=by
     rw [hX]
     exact congrArg Prod.snd (Uw rq (any1 (a:=[125]) d)).1
    refine YN rq (Zl d) ?_
    rw [hT,hX]
    exact Zd (ZC.2 rq.e) (Zc (fun h=>absurd (Nat.eq_of_beq_eq_true h) (by show q.1.length≠0;omega)) fun _=>⟨Yd (s:=at1 q.2) rfl,rfl,hsu _,rfl,⟨fun i _=>Zmu hsu' q.1 i⟩⟩)
 ·have c:isS L (oneR L s [[123]]).2 wShut=true:=by rwa [Bool.not_eq_false',any1 rfl] at c
  have hX:livL B L s=([],(oneR L s [[123]]).2):=Zjk (XZ r1.ok) rfl c
  have hT:(oneR L (livL B L s).2 [[125]]).2=at1 (oneR L s [[123]]).2:=by
   rw [hX]
   exact congrArg Prod.snd (Uw r1 (any1 (a:=[125]) c)).1
  refine YN r1 (Zl c) ?_
  rw [hT,hX]
  exact Zd (ZC.2 r1.e) (Zc (fun _=>⟨Yd (s:=at1 (oneR L s [[123]]).2) rfl,hsu _⟩) fun h=>by cases h)
theorem runLives:∀ (L:List TK) (n:Nat) (B:List TK→PF) (hok:OkI 31 L n B) (s:RS) (k:Int) (x:List UInt8) (m a c:Int) (u:List AV),R0 L s→Pre L n s→FG L n B→SelfL [.pv u]→(cRun (cxV L n B hok u s) 60).call 36 [.ptr 4 0,.ptr (4 + 1) 0] (mkH (glT ++ numL [objP L s,leafO k x m a c (.sl (4 + 2) 0 1 1),rowP [.pv u]] 4)) (4 + 3) (ResO Tryd.prog 0 4 (4 + 3) (oLiv B L s k x m a c u)) :=
 Eq.mpr (by kernel_rfl) Zkj
end Go.Proofs.YtlmmbanfhjaioaaDoor
end
section
set_option maxRecDepth 100000
set_option maxHeartbeats 2000000
open Go Go.Ev
namespace Go.Proofs.YtlmmbanfhjaioaaDoor
noncomputable def hLv (L:List TK) (n:Nat) (B:List TK→PF) (k:Int) (x:List UInt8) (m a c:Int) (u:List AV):HSpec :=
 { X:=RS,gl:=glT,sel:=globB,ng:=4,k:=3,args:=fun _=>[.ptr 4 0,.ptr (4 + 1) 0],objs:=fun s=>[objP L s,leafO k x m a c (.sl (4 + 2) 0 1 1),rowP [.pv u]],pre:=fun s=>R0 L s∧Pre L n s∧SelfL [.pv u],out:=fun s=>oLiv B L s k x m a c u,fz:=0,find:=fun _ _=>none }
noncomputable def cLiv (B:List TK→PF) (L:List TK) (s:RS) (k:Int) (x:List UInt8) (n a c:Int) (u:List AV) (pid id r nx:Nat):HCt:=.gen (livR B L s) fun y=>.br (ieq y.2.err 0)
 (.br (Nat.beq y.1.length 0) (.ret (.ptr id 0) [(pid,objP L y.2),(id,leafO k x n a c (.sl r 0 1 1)),(r,rowP [.pv u])] nx) (.ret (.ptr id 0) [(pid,objP L y.2),(id,leafO k x n a c (.slg nx (y.1.length + 1) 1)),(r,rowP [.pv u]),(nx,rowsU u y.1)] (nx + 1)))
 (.pan (stopV L y.2) [(pid,objN),(id,leafN),(r,rowP [.pv u])] nx)
noncomputable def eLiv (L:List TK) (n:Nat) (B:List TK→PF):HEnt:=fun H nx args=>cond (globB H) (match args with
 | [p,.ptr id 0]=>ob (findP H p) fun q=>ob (leafIn H id nx) fun lf=>match lf.2 with
  | .sl r 0 1 m'=>ob (rowIn H r 1 m' nx) fun l=>match l with
   | [.pv u]=>cond (cond (Nat.blt q.2 nx) (cond (neB q.2 id) (cond (neB q.2 r) (neB id r) false) false) false) (some (.need (PreC L q.1.1 q.1.2 (fun s=>Pre L n s)∧SelfL [.pv u]) (cLiv B L (stP L q.1.1 q.1.2) lf.1.1.1.1.1 lf.1.1.1.1.2 lf.1.1.1.2 lf.1.1.2 lf.1.2 u q.2 id r nx))) none
   | _=>none
  | _=>none
 | _=>none) none
theorem VI {α:Type} {p:α→Prop} {a b c:α} (h1:p a) (h2:p b) (h3:p c):∀ o∈[a,b,c],p o:=fun o ho=>by
 rcases List.mem_cons.1 ho with rfl | ho
 ·exact h1
 ·exact JD h2 h3 o ho
theorem four_o {α:Type} {p:α→Prop} {a b c d:α} (h1:p a) (h2:p b) (h3:p c) (h4:p d):∀ o∈[a,b,c,d],p o:=fun o ho=>by
 rcases List.mem_cons.1 ho with rfl | ho
 ·exact h1
 ·exact VI h2 h3 h4 o ho
theorem clRowU {u:List AV} (h:SelfL [.pv u]) (ks:List PT):clO (rowsU u ks):=fun i hi=>by
 cases i with
 | zero=>exact ⟨(h.h _ (List.mem_cons_self ..)).cl,trivial⟩
 | succ i =>
  show vmL [] ((pvL ks).getD i []) ((pvL ks).getD i [])
  exact VZ [] ks i
theorem clLeafN:clO leafN:=fun a ha=>by cases ha
theorem okLv0 {L:List TK} {n:Nat} {B:List TK→PF} (h:OkI 31 L n B) (hB:FG L n B) (k:Int) (x:List UInt8) (m a c:Int) (u:List AV) (s:RS) (ids:List Nat):HEntOK Tryd.prog 36 ((hLv L n B k x m a c u).at s ids).ent:=by
 refine Xv _ Ze7 (fun H hh=>Zai H hh) (fun x=>rfl) (fun y o ho=>?_) (fun y hp=>?_) fun y hp=>⟨(cRun (cxV L n B h u y) 60).call,Xr fol ZN 60,runLives L n B h y k x m a c u hp.1 hp.2.1 hB hp.2.2⟩
 ·exact VI (p:=fun o=>isGl o=false) rfl rfl rfl o ho
 ·have hu:=hp.2.2
  exact ⟨fun _=>⟨fun _=>⟨trivial,rfl,VI (clP L _) (clLeaf _ _ _ _ _ trivial) (clRow hu)⟩,fun _=>⟨trivial,rfl,four_o (clP L _) (clLeaf _ _ _ _ _ trivial) (clRow hu) (clRowU hu _)⟩⟩,fun _=>⟨clStop L _,rfl,VI clN clLeafN (clRow hu)⟩⟩
theorem Zfh {H:Tr AObj} {id nx:Nat} {q:((((Int×List UInt8)×Int)×Int)×Int)×AV} (h:leafIn H id nx=some q):∃ ty c z n op,H.get id=some (.cells ty c z n op):=by
 obtain ⟨o,ho,h⟩:=Za.1 h
 split at h
 ·exact ⟨_,_,_,_,_,ho⟩
 ·cases h
theorem Zgr {H:Tr AObj} {r m m' nx:Nat} {l:List AV} (h:rowIn H r m m' nx=some l):∃ ty c z n op,H.get r=some (.cells ty c z n op):=by
 obtain ⟨o,ho,h⟩:=Za.1 h
 split at h
 ·exact ⟨_,_,_,_,_,ho⟩
 ·cases h
theorem rnRowU {u:List AV} (h:SelfL [.pv u]) (ks:List PT) (τ:Nat→Nat):rnO τ (rowsU u ks)=rowsU u ks:=rfl
theorem liv_out {L:List TK} {B:List TK→PF} {s:RS} {k:Int} {x:List UInt8} {m a c:Int} {u:List AV} (h:SelfL [.pv u]) (pid id r nx:Nat):hOut (instH 4 [pid,id,r] nx (oLiv B L s k x m a c u))=hOut (cLiv B L s k x m a c u pid id r nx):=by
 have hr:=rnRow h
 show cond (ieq (livR B L s).2.err 0) (cond (Nat.beq (livR B L s).1.length 0) (hOut (instH 4 [pid,id,r] nx (.ret (.ptr (4 + 1) 0) [objP L (livR B L s).2,leafO k x m a c (.sl (4 + 2) 0 1 1),rowP [.pv u]] 0)))
   (hOut (instH 4 [pid,id,r] nx (.ret (.ptr (4 + 1) 0) [objP L (livR B L s).2,leafO k x m a c (.slg (4 + 3) ((livR B L s).1.length + 1) 1),rowP [.pv u],rowsU u (livR B L s).1] 1))))
   (hOut (instH 4 [pid,id,r] nx (.pan (stopV L (livR B L s).2) [objN,leafN,rowP [.pv u]] 0)))=cond (ieq (livR B L s).2.err 0) (cond (Nat.beq (livR B L s).1.length 0) (some (false,.ptr id 0,[(pid,objP L (livR B L s).2),(id,leafO k x m a c (.sl r 0 1 1)),(r,rowP [.pv u])],nx))
   (some (false,.ptr id 0,[(pid,objP L (livR B L s).2),(id,leafO k x m a c (.slg nx ((livR B L s).1.length + 1) 1)),(r,rowP [.pv u]),(nx,rowsU u (livR B L s).1)],nx + 1))) (some (true,stopV L (livR B L s).2,[(pid,objN),(id,leafN),(r,rowP [.pv u])],nx))
 generalize livR B L s=y
 have e0:hOut (instH 4 [pid,id,r] nx (.ret (.ptr (4 + 1) 0) [objP L y.2,leafO k x m a c (.sl (4 + 2) 0 1 1),rowP [.pv u]] 0))=some (false,.ptr id 0,[(pid,objP L y.2),(id,leafO k x m a c (.sl r 0 1 1)),(r,rowP [.pv u])],nx):=by
  show hOut (fN1 (nx + 0) fun n=>(fun ts=>HCt.ret (rnF (tauN 4 ts) 4 (.ptr (4 + 1) 0)) (ts.zip ([objP L y.2,leafO k x m a c (.sl (4 + 2) 0 1 1),rowP [.pv u]].map (rnO (tauN 4 ts)))) n) ([pid,id,r] ++ List.range' nx 0))=_
  rw [YG]
  show some (false,AV.ptr id 0,[(pid,objP L y.2),(id,leafO k x m a c (.sl r 0 1 1)),(r,rnO (tauN 4 [pid,id,r]) (rowP [.pv u]))],nx)=_
  rw [hr]
 have e1:hOut (instH 4 [pid,id,r] nx (.ret (.ptr (4 + 1) 0) [objP L y.2,leafO k x m a c (.slg (4 + 3) (y.1.length + 1) 1),rowP [.pv u],rowsU u y.1] 1))=some (false,.ptr id 0,[(pid,objP L y.2),(id,leafO k x m a c (.slg nx (y.1.length + 1) 1)),(r,rowP [.pv u]),(nx,rowsU u y.1)],nx + 1):=by
  show hOut (fN1 (nx + 1) fun n=>(fun ts=>HCt.ret (rnF (tauN 4 ts) 4 (.ptr (4 + 1) 0)) (ts.zip ([objP L y.2,leafO k x m a c (.slg (4 + 3) (y.1.length + 1) 1),rowP [.pv u],rowsU u y.1].map (rnO (tauN 4 ts)))) n) ([pid,id,r] ++ List.range' nx 1))=_
  rw [YG]
  show some (false,AV.ptr id 0,[(pid,objP L y.2),(id,leafO k x m a c (.slg nx (y.1.length + 1) 1)),(r,rnO (tauN 4 [pid,id,r,nx]) (rowP [.pv u])),(nx,rnO (tauN 4 [pid,id,r,nx]) (rowsU u y.1))],nx + 1)=_
  rw [hr,rnRowU h]
 have e2:hOut (instH 4 [pid,id,r] nx (.pan (stopV L y.2) [objN,leafN,rowP [.pv u]] 0))=some (true,stopV L y.2,[(pid,objN),(id,leafN),(r,rowP [.pv u])],nx):=by
  show hOut (fN1 (nx + 0) fun n=>(fun ts=>HCt.pan (rnF (tauN 4 ts) 4 (stopV L y.2)) (ts.zip ([objN,leafN,rowP [.pv u]].map (rnO (tauN 4 ts)))) n) ([pid,id,r] ++ List.range' nx 0))=_
  rw [YG]
  show some (true,stopV L y.2,[(pid,objN),(id,leafN),(r,rnO (tauN 4 [pid,id,r]) (rowP [.pv u]))],nx)=_
  rw [hr]
 rw [e0,e1,e2]
theorem liv_ids {L:List TK} {B:List TK→PF} {s:RS} {k:Int} {x:List UInt8} {m a c:Int} {u:List AV} {pid id r nx:Nat} {p:Bool} {v:AV} {up:List (Nat×AObj)} {nx':Nat} (h:hOut (cLiv B L s k x m a c u pid id r nx)=some (p,v,up,nx')):∀ i∈[pid,id,r],∃ q∈up,q.1=i:=by
 have h:cond (ieq (livR B L s).2.err 0) (cond (Nat.beq (livR B L s).1.length 0) (some (false,AV.ptr id 0,[(pid,objP L (livR B L s).2),(id,leafO k x m a c (.sl r 0 1 1)),(r,rowP [.pv u])],nx))
   (some (false,AV.ptr id 0,[(pid,objP L (livR B L s).2),(id,leafO k x m a c (.slg nx ((livR B L s).1.length + 1) 1)),(r,rowP [.pv u]),(nx,rowsU u (livR B L s).1)],nx + 1))) (some (true,stopV L (livR B L s).2,[(pid,objN),(id,leafN),(r,rowP [.pv u])],nx))=some (p,v,up,nx'):=h
 have fin:∀ {A1 A2 A3:AObj} {rest:List (Nat×AObj)} {p0:Bool} {v0:AV} {n0:Nat},some (p0,v0,(pid,A1) :: (id,A2) :: (r,A3) :: rest,n0)=some (p,v,up,nx')→∀ i∈[pid,id,r],∃ q∈up,q.1=i:=fun {A1 A2 A3 rest p0 v0 n0} e=>by
  injection e with e;injection e with _ e;injection e with _ e;injection e with e _
  subst e
  exact VI ⟨_,List.mem_cons_self ..,rfl⟩ ⟨_,List.mem_cons_of_mem _ (List.mem_cons_self ..),rfl⟩ ⟨_,List.mem_cons_of_mem _ (List.mem_cons_of_mem _ (List.mem_cons_self ..)),rfl⟩
 cases h1:ieq (livR B L s).2.err 0 with
 | false=>rw [h1] at h;exact fin h
 | true =>
  rw [h1,cond_true] at h
  cases h2:Nat.beq (livR B L s).1.length 0 with
  | false=>rw [h2] at h;exact fin h
  | true=>rw [h2] at h;exact fin h
theorem okLiv {L:List TK} {n:Nat} {B:List TK→PF} (hok:OkI 31 L n B) (hB:FG L n B):HEntOK Tryd.prog 36 (eLiv L n B):=by
 intro H nx args hc he
 unfold eLiv at he
 cases hg:globB H with
 | false=>rw [hg] at he;cases he
 | true =>
 rw [hg,cond_true] at he
 split at he
 case h_2=>cases he
 rename_i p id
 obtain ⟨⟨⟨c0,m0⟩,pid⟩,hq,he⟩:=Za.1 he
 obtain ⟨⟨⟨⟨⟨⟨k,x⟩,m⟩,a⟩,b⟩,w⟩,hl,he⟩:=Za.1 he
 simp only at he
 split at he
 case h_2=>cases he
 rename_i r m'
 obtain ⟨l,hr,he⟩:=Za.1 he
 split at he
 case h_2=>cases he
 rename_i u
 obtain ⟨hcond,he⟩:=Xg he
 injection he with he;subst he
 obtain ⟨b1,hcond⟩:=Ze hcond
 obtain ⟨b2,hcond⟩:=Ze hcond
 obtain ⟨b3,b4⟩:=Ze hcond
 rw [Nat.blt_eq] at b1
 have n2:=VL b2
 have n3:=VL b3
 have n4:=VL b4
 obtain ⟨hp0,hdp,cp⟩:=JK hq
 obtain ⟨hlt,hdl⟩:=Gz hl
 obtain ⟨rfl,hltr,hdr,_⟩:=JB hr
 intro pb v up nx' hout E F ρ w0 rel
 obtain ⟨⟨⟨s,hc1,hm1,hs,hps⟩,hself⟩,hout⟩:=Xn hout
 subst hc1;subst hm1
 rw [WT hs] at hout
 refine YV (S:=hLv L n B k x m a b u) (x:=s) (ids:=[pid,id,r]) (os:=[objP L s,leafO k x m a b (.sl r 0 1 1),rowP [.pv u]]) (args':=[.ptr pid 0,.ptr id 0]) (okLv0 hok hB k x m a b u s [pid,id,r]) ⟨hs,hps,hself⟩ ?_ rfl ?_ ?_ rfl ?_ ?_ ?_ ?_ ?_ rel ?_
 ·exact Zb4 hg (VI (p:=fun q:Nat×AObj=>∃ ty c z n op,H.get q.1=some (.cells ty c z n op)) cp (Zfh hl) (Zgr hr))
 ·have e2:Nat.beq pid id=false:=by unfold neB at b2;simpa using b2
  have e3:Nat.beq pid r=false:=by unfold neB at b3;simpa using b3
  have e4:Nat.beq id r=false:=by unfold neB at b4;simpa using b4
  show cond (List.any [id,r] (Nat.beq pid)) false (cond (List.any [r] (Nat.beq id)) false true)=true
  simp only [List.any_cons,List.any_nil,e2,e3,e4,Bool.or_false,cond_false]
 ·show (List.all [pid,id,r] fun j=>Nat.blt j nx)=true
  simp [Nat.blt_eq,b1,hlt,hltr]
 ·exact VI (p:=fun q:Nat×AObj=>Desc H q.1 q.2) hdp hdl hdr
 ·exact ⟨⟨rfl,rfl⟩,⟨rfl,rfl⟩,trivial⟩
 ·refine ⟨?_,?_,?_,trivial⟩
  ·show (match (((H.set r (rowP [.pv u])).set id (leafO k x m a b (.sl r 0 1 1))).set pid (objP L s)).get pid with
    | none=>False
    | some o=>omP [(4,pid),(4 + 1,id),(4 + 2,r)] (objP L s) o)
   rw [Tr.get_set_same]
   exact om_P _ L s
  ·show (match (((H.set r (rowP [.pv u])).set id (leafO k x m a b (.sl r 0 1 1))).set pid (objP L s)).get id with
    | none=>False
    | some o=>omP [(4,pid),(4 + 1,id),(4 + 2,r)] (leafO k x m a b (.sl (4 + 2) 0 1 1)) o)
   rw [Tr.get_set_ne _ n2,Tr.get_set_same]
   exact ⟨rfl,rfl,rfl,⟨⟨⟨⟨⟨⟨trivial,rfl,rfl⟩,rfl⟩,rfl,rfl⟩,rfl,rfl⟩,rfl,rfl⟩,trivial⟩,⟨rfl,rfl,rfl,rfl⟩⟩
  ·show (match (((H.set r (rowP [.pv u])).set id (leafO k x m a b (.sl r 0 1 1))).set pid (objP L s)).get r with
    | none=>False
    | some o=>omP [(4,pid),(4 + 1,id),(4 + 2,r)] (rowP [.pv u]) o)
   rw [Tr.get_set_ne _ n3,Tr.get_set_ne _ n4,Tr.get_set_same]
   exact Zj9 _ hself (.inl ⟨_,rfl,rfl⟩)
 ·exact (liv_out hself pid id r nx).trans hout
 ·exact liv_ids hout
 ·subst hp0
  exact fun vs h=>h
end Go.Proofs.YtlmmbanfhjaioaaDoor
end
section
set_option maxRecDepth 100000
set_option maxHeartbeats 2000000
open Go Go.Ev
namespace Go.Proofs.YtlmmbanfhjaioaaDoor
structure OkSd (L:List TK) (n:Nat) (B:List TK→PF):Prop where
 b:HEntOK Tryd.prog 31 (mF L n B)
 l:HEntOK Tryd.prog 36 (eLiv L n B)
noncomputable def htSd (L:List TK) (n:Nat) (B:List TK→PF):HTbl:=(31,mF L n B) :: (36,eLiv L n B) :: htF' L
theorem htS_okP {L:List TK} {n:Nat} {B:List TK→PF} (h:OkSd L n B):HtOK Tryd.prog (htSd L n B):=ZI h.b (ZI h.l (htF'_ok L))
noncomputable def cxSd (L:List TK) (n:Nat) (B:List TK→PF) (h:OkSd L n B) (s:RS):Ctx :=
 { P:=Tryd.prog,tb:=[],ht:=htSd L n B,hok:=htS_okP h,lp:=fun f r=>cond (Nat.beq f 35) (cond (Nat.beq r 2) (some (stnB L (blockL memM L) (blockL memM L (fuelN L) [] (signR L (dS L s) wOpen).2) (signR L (dS L s) wOpen).2 [0,1] 1)) none) none,cut:=fun _ _=>none }
theorem Zhv {B:List TK→PF} {L:List TK} (hB:KF (B L)) (t:TK) (x:List UInt8):KF (declX B L t x):=fun s=>by
 unfold declX
 exact ZQ (fun _=>ZB L _ _) fun _=>ZQ (fun _=>(UT L _).tr (ZB L _ _)) fun _=>ZQ (fun _=>hB _) fun _=>ZQ (fun _=>(ZB L _ _).tr ((Yv (Zep L) _ _ _).tr (ZB L _ _))) fun _ =>
   ZQ (fun _=>(ZB L _ _).tr ((UW L _).tr ((YI L _ _).tr (hB _)))) fun _=>(ZB L _ _).tr ((UW L _).tr ((ZB L _ _).tr ((Yv (JT hB) _ _ _).tr (ZB L _ _))))
theorem Gw {F:List TK→PF} {L:List TK} (u:PT):∀ (k:Nat) (l:List PT) (r:RS),blockL F L k (u :: l) r=(u :: (blockL F L k l r).1,(blockL F L k l r).2)
 | 0,l,r=>rfl
 | k + 1,l,r=>by
  unfold blockL
  by_cases c:r.err=0∧isS L r wShut=false
  ·rw [if_pos c,if_pos c];exact Gw u k _ _
  ·rw [if_neg c,if_neg c]
theorem pv_snocV {σ:List (Nat×Nat)} (l:List PT) (x:PT) {v:AV} {g:Nat→List AV} (hg:g 0=[v]) (hv:VmE x v):l.length + 1=(l ++ [x]).length∧AllI fun i=>i.succ≤l.length + 1→vmL σ ((pvL (l ++ [x])).getD i []) (appF l.length (fun i=>(pvL l).getD i []) g i):=by
 refine ⟨by rw [List.length_append,List.length_singleton],⟨fun i hi=>?_⟩⟩
 have hlen:i < (l ++ [x]).length:=by rw [List.length_append,List.length_singleton];omega
 by_cases h:i < l.length
 ·have e:appF l.length (fun i=>(pvL l).getD i []) g i=[pvX l[i]]:=Vh (fun _=>Yk l i h) fun h'=>absurd h (by omega)
  rw [e,Yk _ i hlen,List.getElem_append_left h]
  exact ⟨Qt σ _,trivial⟩
 ·have hi':i=l.length:=by omega
  subst hi'
  have e:appF l.length (fun i=>(pvL l).getD i []) g l.length=[v]:=Vh (fun h'=>absurd h' (by omega)) fun _=>by rw [Nat.sub_self];exact hg
  rw [e,Yk _ _ hlen,List.getElem_append_right (Nat.le_refl _)]
  exact ⟨by simpa using hv.h σ,trivial⟩
theorem eqR_rowU {L:List TK} {k n:Int} {x:List UInt8} {tk:TK} {s:RS} {t:PT×RS} {u:PT} {ks:List PT} (h:t=(nd k x n tk (u :: ks),s)) (he:s.err=0):EqR L (cP L s) s.nest (.pv [.int .i64 k,.bs x,.int .i64 n,.int .i64 tk.line,.int .i64 tk.col,.sl0,.vec 1 (ks.length + 1) fun i=>cond (Nat.beq i 0) [pvX u] ((pvL ks).getD (i - 1) [])]) t :=
 Zfg h he rfl fun i hi=>by
  cases i with
  | zero=>exact ⟨pvX u,rfl,Ku _⟩
  | succ i=>exact ⟨pvX (ks[i]'(by simpa using hi)),Yk ks i (by simpa using hi),Ku _⟩
theorem Zmg (u:PT) (l:List PT):goodR 1 (l.length + 1) (fun i=>cond (Nat.beq i 0) [pvX u] ((pvL l).getD (i - 1) []))=true:=XT fun i hi=>by
 cases i with
 | zero=>rfl
 | succ i =>
  show rowOk 1 ((pvL l).getD i [])=true
  rw [Yk l i (by omega)];rfl
@[reducible] def WJ:TK×RS→TK×RS→Prop:=fun (a a_1:TK×RS)=>(((((True∧true=true∧(3:Int)=(3:Int))∧TK.text a_1.1=TK.text a_1.1)∧true=true∧(0:Int)=(0:Int))∧true=true∧TK.line a.1=TK.line a.1)∧true=true∧TK.col a.1=TK.col a.1)∧True
@[reducible] def WM:TK×RS→Prop:=fun (a:TK×RS)=>((True∧True)∧True)∧((True∧True)∧True)∧((AV.agg [AV.int .i64 (TK.kind a.1),AV.bs (TK.text a.1),AV.int .i64 (TK.num a.1),AV.int .i64 (TK.line a.1),AV.int .i64 (TK.col a.1)]=AV.agg [AV.int .i64 (TK.kind a.1),AV.bs (TK.text a.1),AV.int .i64 (TK.num a.1),AV.int .i64 (TK.line a.1),AV.int .i64 (TK.col a.1)]∧True)∧True)∧True
@[reducible] def Yw:TK×RS→Prop:=fun (a:TK×RS)=>((True∧True)∧True)∧WM a
@[reducible] def WO:TK×RS→Prop:=fun (a:TK×RS)=>((True∧True)∧True)∧Yw a
@[reducible] def WR:List TK→TK×RS→List PT×RS→Prop:=fun (L:List TK) (a:TK×RS) (a_1:List PT×RS)=>true=true∧true=true∧true=true∧true=true∧(True∧true=true∧List.length (List.drop (Int.toNat (RS.at_ a.2)) L)=List.length (List.drop (Int.toNat (RS.at_ a_1.2)) L)∧AllI fun (i:Nat)=>Nat.le (Nat.succ i) (List.length (List.drop (Int.toNat (RS.at_ a.2)) L))→(true=true∧TK.kind (List.getD (List.drop (Int.toNat (RS.at_ a.2)) L) i TK.zero)=TK.kind (List.getD (List.drop (Int.toNat (RS.at_ a_1.2)) L) i TK.zero))∧TK.text (List.getD (List.drop (Int.toNat (RS.at_ a.2)) L) i TK.zero)=TK.text (List.getD (List.drop (Int.toNat (RS.at_ a_1.2)) L) i TK.zero)∧(true=true∧TK.num (List.getD (List.drop (Int.toNat (RS.at_ a.2)) L) i TK.zero)=TK.num (List.getD (List.drop (Int.toNat (RS.at_ a_1.2)) L) i TK.zero))∧(true=true∧TK.line (List.getD (List.drop (Int.toNat (RS.at_ a.2)) L) i TK.zero)=TK.line (List.getD (List.drop (Int.toNat (RS.at_ a_1.2)) L) i TK.zero))∧(true=true∧TK.col (List.getD (List.drop (Int.toNat (RS.at_ a.2)) L) i TK.zero)=TK.col (List.getD (List.drop (Int.toNat (RS.at_ a_1.2)) L) i TK.zero))∧True)∧true=true∧RS.nest a.2=RS.nest a_1.2
@[reducible] def WG:TK×RS→Prop:=fun (a:TK×RS)=>(true=true∧asciiTab=asciiTab)∧(true=true∧true=true∧true=true∧true=true∧List.length [[(108:UInt8),(111:UInt8),(111:UInt8),(112:UInt8),(101:UInt8),(114:UInt8)],[(99:UInt8),(108:UInt8),(97:UInt8),(115:UInt8),(115:UInt8)],[(118:UInt8),(97:UInt8),(114:UInt8)],[(102:UInt8),(110:UInt8)],[(99:UInt8),(111:UInt8),(109:UInt8),(112:UInt8)],[(101:UInt8),(118:UInt8),(101:UInt8),(110:UInt8),(116:UInt8)],[(109:UInt8),(97:UInt8),(105:UInt8),(110:UInt8)]]=List.length [[(108:UInt8),(111:UInt8),(111:UInt8),(112:UInt8),(101:UInt8),(114:UInt8)],[(99:UInt8),(108:UInt8),(97:UInt8),(115:UInt8),(115:UInt8)],[(118:UInt8),(97:UInt8),(114:UInt8)],[(102:UInt8),(110:UInt8)],[(99:UInt8),(111:UInt8),(109:UInt8),(112:UInt8)],[(101:UInt8),(118:UInt8),(101:UInt8),(110:UInt8),(116:UInt8)],[(109:UInt8),(97:UInt8),(105:UInt8),(110:UInt8)]]∧AllI fun (i:Nat)=>Nat.le (Nat.succ (i * 1)) (List.length [[(108:UInt8),(111:UInt8),(111:UInt8),(112:UInt8),(101:UInt8),(114:UInt8)],[(99:UInt8),(108:UInt8),(97:UInt8),(115:UInt8),(115:UInt8)],[(118:UInt8),(97:UInt8),(114:UInt8)],[(102:UInt8),(110:UInt8)],[(99:UInt8),(111:UInt8),(109:UInt8),(112:UInt8)],[(101:UInt8),(118:UInt8),(101:UInt8),(110:UInt8),(116:UInt8)],[(109:UInt8),(97:UInt8),(105:UInt8),(110:UInt8)]])→List.getD [[(108:UInt8),(111:UInt8),(111:UInt8),(112:UInt8),(101:UInt8),(114:UInt8)],[(99:UInt8),(108:UInt8),(97:UInt8),(115:UInt8),(115:UInt8)],[(118:UInt8),(97:UInt8),(114:UInt8)],[(102:UInt8),(110:UInt8)],[(99:UInt8),(111:UInt8),(109:UInt8),(112:UInt8)],[(101:UInt8),(118:UInt8),(101:UInt8),(110:UInt8),(116:UInt8)],[(109:UInt8),(97:UInt8),(105:UInt8),(110:UInt8)]] i []=List.getD [[(108:UInt8),(111:UInt8),(111:UInt8),(112:UInt8),(101:UInt8),(114:UInt8)],[(99:UInt8),(108:UInt8),(97:UInt8),(115:UInt8),(115:UInt8)],[(118:UInt8),(97:UInt8),(114:UInt8)],[(102:UInt8),(110:UInt8)],[(99:UInt8),(111:UInt8),(109:UInt8),(112:UInt8)],[(101:UInt8),(118:UInt8),(101:UInt8),(110:UInt8),(116:UInt8)],[(109:UInt8),(97:UInt8),(105:UInt8),(110:UInt8)]] i []∧True)∧(true=true∧true=true∧true=true∧true=true∧((((True∧true=true∧TK.kind a.1=TK.kind a.1)∧TK.text a.1=TK.text a.1)∧true=true∧TK.num a.1=TK.num a.1)∧true=true∧TK.line a.1=TK.line a.1)∧true=true∧TK.col a.1=TK.col a.1)∧(true=true∧True)∧True
noncomputable def qJ:=[(108:UInt8),(111:UInt8),(111:UInt8),(112:UInt8),(101:UInt8),(114:UInt8)]
noncomputable def qad:=[qJ,[(99:UInt8),(108:UInt8),(97:UInt8),(115:UInt8),(115:UInt8)],[(118:UInt8),(97:UInt8),(114:UInt8)],[(102:UInt8),(110:UInt8)],[(99:UInt8),(111:UInt8),(109:UInt8),(112:UInt8)],[(101:UInt8),(118:UInt8),(101:UInt8),(110:UInt8),(116:UInt8)],[(109:UInt8),(97:UInt8),(105:UInt8),(110:UInt8)]]
noncomputable def qas (a:List TK) (b:RS):=LpB a (blockL memM a) (blockL memM a (fuelN a) [] (Prod.snd (signR a (dS a b) [(123:UInt8)]))) (Prod.snd (signR a (dS a b) [(123:UInt8)]))
noncomputable def qbC:=[(111:UInt8),(110:UInt8)]
noncomputable def qb1 (a:List PT×RS):=AV.slg 16 a.1.length 1
noncomputable def qb2 (a:TK) (b:PT):=AV.pv [AV.int .i64 (4:Int),qP a,qB,qy a,qI a,AV.sl0,AV.vec 1 1 fun (v1:Nat)=>[qa b]]
noncomputable def qcc:=(ql∧ql∧ql∧((AV.sl 15 0 1 1=AV.sl 15 0 1 1∧True)∧True)∧True)
noncomputable def qcT:=[qbC,[(111:UInt8),(102:UInt8),(102:UInt8)]]
theorem Zjn:∀ (L:List TK) (n:Nat) (B:List TK→PF),OkSd L n B→∀ (s:RS) (t:PT×RS),R0 L s→Pre L n s→FG L n B→t=declM B L s→(True∧qd L s fun (s:RS)=>WsP qad)∧∀ (y:TK×RS),y=qcC L s qad→qh y.2 (brP (decide (TK.text y.1=[(109:UInt8),(97:UInt8),(105:UInt8),(110:UInt8)])) ((qag L y.2 n)∧∀ (y_1:PT×RS),y_1=B L (qb L y.2)→qh y_1.2 (qaN y_1.1∧WM y∧qt L y_1.2 (AV.pv [AV.int .i64 (11:Int),AV.bs [],qB,qy y.1,qI y.1,AV.sl0,AV.vec 1 1 fun (x:Nat)=>[qa y_1.1]]) t∧True) (qaq L y_1.2 t.2)) ((qaV L y.2)∧∀ (y_1:TK×RS),y_1=qbf L y.2→qh y_1.2 (brP (decide (TK.text y.1=qJ)) ((qO L y_1.2)∧∀ (y_2:TK×RS),y_2=qam L y_1.2→qh y_2.2 (qt L y_2.2 (AV.pv [AV.int .i64 (2:Int),qP y_1.1,qB,qy y.1,qI y.1,AV.sl0,AV.sl0]) t∧True) (qA L y_2.2 t.2)) (brP (decide (TK.text y.1=qca)) ((qaV L y_1.2)∧∀ (y_2:PT×RS),y_2=typM L (qb L y_1.2)→qh y_2.2 (qaN y_2.1∧qaN y_2.1∧Yw y∧(qO L y_2.2)∧∀ (y_3:TK×RS),y_3=qam L y_2.2→qh y_3.2 (qt L y_3.2 (AV.pv [AV.int .i64 (6:Int),qP y_1.1,qB,qy y.1,qI y.1,AV.sl0,AV.vec 1 1 fun (x:Nat)=>[qa y_2.1]]) t∧True) (qA L y_3.2 t.2)) (qaq L y_2.2 t.2)) (brP (decide (TK.text y.1=qcP)) ((qag L y_1.2 n)∧∀ (y_2:PT×RS),y_2=B L (qb L y_1.2)→qh y_2.2 (qaN y_2.1∧qaN y_2.1∧Yw y∧qt L y_2.2 (AV.pv [AV.int .i64 (7:Int),qP y_1.1,qB,qy y.1,qI y.1,AV.sl0,AV.vec 1 1 fun (x:Nat)=>[qa y_2.1]]) t∧True) (qaq L y_2.2 t.2)) (brP (decide (TK.text y.1=[(99:UInt8),(108:UInt8),(97:UInt8),(115:UInt8),(115:UInt8)])) ((True∧qd L y_1.2 fun (s:RS)=>WsP qcq)∧∀ (y_2:TK×RS),y_2=qcC L y_1.2 qcq→qh y_2.2 ((∃ (x0:List PT×RS),qas L s x0∧true=true∧(qQ∧(some 11=some 11∧true=true)∧True)∧qbj∧WR L y_2 x0∧(true=true∧true=true∧true=true∧true=true∧WJ y y_1∧x0.1.length=0)∧WG y)∧∀ (x:List PT×RS),qas L s x→(True∧qd L x.2 fun (s:RS)=>WsP qbv)∧∀ (y_3:RS),y_3=qb L x.2→brP (!bar (List.any qbv (isS L y_3))) ((qd L y_3 fun (s:RS)=>(1:Int)≠(0:Int))∧∀ (y_4:TK×RS),y_4=qbf L y_3→qh y_4.2 ((qaV L y_4.2)∧∀ (y_5:PT×RS),y_5=typM L (qb L y_4.2)→qh y_5.2 (qaN y_5.1∧qaN y_5.1∧sdA (bif bif Nat.ble (x.1.length * 1) x.1.length then goodR 1 1 fun (x:Nat)=>[qb2 y_4.1 y_5.1] else false then decide (x.1.length + 1≤9223372036854775807∧(x.1.length + 1) * 8≤140737488355328) else false) ((((qP y_4.1=qP y_4.1∧True∧True∧True)∧True)∧qW∧qW∧((True∧True∧qb1 x=qb1 x∧True)∧True)∧((True∧True∧qb1 x=qb1 x∧True)∧True)∧((qP y_4.1=qP y_4.1∧qf y_4.1=qf y_4.1∧qb1 x=qb1 x∧True)∧True)∧True)∧(qO L y_5.2)∧∀ (y_6:TK×RS),y_6=qam L y_5.2→qh y_6.2 (∃ (x':List PT×RS),qas L s x'∧qa7 L x'.2 x.2∧true=true∧(qQ∧(some 11=some 11∧true=true)∧True)∧(true=true∧true=true∧true=true∧true=true∧(qck x) * 1=x'.1.length∧AllI fun (i:Nat)=>qby i ((qck x) * 1)→vmL [(16,36),(0,0),(1,1),(2,2),(3,3),(4,4),(5,5),(6,6),(7,7),(8,8),(9,9),(10,10),(11,11),(12,12),(13,13)] (qbA x'.1 i) (appF x.1.length (fun (i:Nat)=>qbA x.1 i) (fun (x:Nat)=>[qb2 y_4.1 y_5.1]) i))∧WR L y_6 x'∧(true=true∧true=true∧true=true∧true=true∧WJ y y_1∧some 36=some 36∧x.1.length + 1=x'.1.length∧true=true)∧WG y) (qA L y_6.2 t.2))) ((qW∧True)∧qA L y_5.2 t.2)) (qA L y_4.2 t.2)) ((qn L y_3)∧∀ (y_4:TK×RS),y_4=(qC L y_3)→qax x x.1 (qt L y_4.2 (AV.pv [qcV,qP y_1.1,qB,qy y.1,qI y.1,AV.sl0,AV.vec 1 x.1.length fun (i:Nat)=>qbA x.1 i]) t∧True))) (qA L y_2.2 t.2)) ((True∧qd L y_1.2 fun (s:RS)=>WsP [qbC])∧∀ (y_2:TK×RS),y_2=qcC L y_1.2 [qbC]→qh y_2.2 (brP (decide (TK.text y.1=[(99:UInt8),(111:UInt8),(109:UInt8),(112:UInt8)])) ((qaV L y_2.2)∧∀ (y_3:PT×RS),y_3=useM L (qb L y_2.2)→qh y_3.2 (qaN y_3.1∧qaN y_3.1∧((qag L y_3.2 n)∧qaN y_3.1)∧∀ (y_4:List PT×RS),y_4=livR B L (qb L y_3.2)→qh y_4.2 (brP (Nat.beq y_4.1.length 0) (WO y∧qt L y_4.2 (AV.pv [AV.int .i64 (8:Int),qP y_1.1,qB,qy y.1,qI y.1,AV.sl0,AV.vec 1 1 fun (x:Nat)=>[qa y_3.1]]) t∧True) (WO y∧sdA (bif bif Nat.ble ((qck y_4) * 1) (qck y_4) then goodR 1 (qck y_4) fun (i:Nat)=>bif Nat.beq i 0 then [qa y_3.1] else List.getD (pvL y_4.1) (i - 1) [] else false then true else false) (qt L y_4.2 (AV.pv [AV.int .i64 (8:Int),qP y_1.1,qB,qy y.1,qI y.1,AV.sl0,AV.vec 1 (qck y_4) fun (i:Nat)=>bif Nat.beq i 0 then [qa y_3.1] else List.getD (pvL y_4.1) (i - 1) []]) t∧True))) (Yw y∧qA L y_4.2 t.2)) (qaq L y_3.2 t.2)) ((qaV L y_2.2)∧∀ (y_3:PT×RS),y_3=useM L (qb L y_2.2)→qh y_3.2 (qaN y_3.1∧qaN y_3.1∧Yw y∧(True∧qd L y_3.2 fun (s:RS)=>WsP qcT)∧∀ (y_4:TK×RS),y_4=qcC L y_3.2 qcT→qh y_4.2 (brP (decide (TK.text y_4.1=qbC)) ((qag L y_4.2 n)∧∀ (y_5:PT×RS),y_5=B L (qb L y_4.2)→qh y_5.2 (qcc∧qt L y_5.2 (AV.pv [AV.int .i64 (10:Int),qP y_1.1,qcj,qy y.1,qI y.1,AV.sl0,AV.vec 1 2 fun (i:Nat)=>qX i y_3.1 y_5.1]) t∧True) (qaq L y_5.2 t.2)) ((qag L y_4.2 n)∧∀ (y_5:PT×RS),y_5=B L (qb L y_4.2)→qh y_5.2 (qcc∧qt L y_5.2 (AV.pv [AV.int .i64 (10:Int),qP y_1.1,qB,qy y.1,qI y.1,AV.sl0,AV.vec 1 2 fun (i:Nat)=>qX i y_3.1 y_5.1]) t∧True) (qaq L y_5.2 t.2))) (qA L y_4.2 t.2)) (qaq L y_3.2 t.2))) (qA L y_2.2 t.2)))))) (qA L y_1.2 t.2))) (qA L y.2 t.2)
:= by
 delta qa qb qd qf qh ql qn qt qy qA qB qC qI qJ qO qP qQ qW qX qad qag qam qaq qas qax qaN qaV qa7 qbf qbj qbv qby qbA qbC qb1 qb2 qca qcc qcj qck qcq qcC qcP qcT qcV
 intro L n B hok s t hs hp hB ht
 simp only [Zi,Zs,true_and,and_true,eq_self,implies_true,Nat.le_eq,ZA,Zz,ZK,Int.toNat_natCast,Int.ofNat_eq_natCast,Nat.ble_eq,Nat.ble_self_eq_true,Bool.true_and,Bool.and_true,Bool.and_self,Option.some.injEq,AV.int.injEq,Zo,Zj,Nat.mul_one,Nat.beq_refl,Zn,cond_true,cond_false,Zp,Bool.not_true,Bool.not_false,decide_true,ZY,Ya,ZZ,Zf,List.nil_append,WJ,WM,Yw,WO,WR,WG]
 have s1:=Xc (L:=L) (ws:=wsD) hs.ok
 have kt:Kp (oneR L s wsD).2 t.2:=by
  rw [ht];unfold declM
  exact Yh (P:=fun r:PT×RS=>Kp (oneR L s wsD).2 r.2) (fun _=>hB.k _) fun _=>(Yt L _ 1).tr (Zhv hB.k _ _ _)
 refine ZG (f:=fun s=>oneR L s wsD) hs (Xf rfl) kt fun e1=>?_
 have r1:=Xs hs s1 (YI L _ _) e1
 have p1:=Xz hp s1
 have hm:=Gr (ws:=wsD) hs e1
 unfold declM at ht
 refine Zc (fun c=>?_) fun c=>?_
 ·rw [if_pos (show (oneR L s wsD).1.text=wMain from of_decide_eq_true c)] at ht
  exact ZG (f:=B L) r1 p1 (by rw [ht];exact Zy _) fun e=>WY ht e rfl
 rw [if_neg (show ¬ (oneR L s wsD).1.text=wMain from of_decide_eq_false c)] at ht
 have cM:¬ (oneR L s wsD).1.text=wMain:=of_decide_eq_false c
 clear c
 have s2:=Yi (L:=L) (k:=1) r1.ok (by decide)
 refine ZG (f:=fun s=>kindR L s 1) r1 trivial (by rw [ht];exact Zhv hB.k _ _ _) fun e2=>?_
 have r2:=Xs r1 s2 (Yt L _ 1) e2
 have p2:=Xz p1 s2
 unfold declX at ht
 refine Zc (fun c=>?_) fun c=>?_
 ·rw [if_pos (show (oneR L s wsD).1.text=wLooper from of_decide_eq_true c),Yr] at ht
  exact ZG (f:=fun s=>oneR L s [[59]]) r2 (Xf rfl) (by rw [ht];exact Zy _) fun e=>Xu ht e
 rw [if_neg (show ¬ (oneR L s wsD).1.text=wLooper from of_decide_eq_false c)] at ht
 have cL:¬ (oneR L s wsD).1.text=wLooper:=of_decide_eq_false c
 clear c
 refine Zc (fun c=>?_) fun c=>?_
 ·rw [if_pos (show (oneR L s wsD).1.text=wVar from of_decide_eq_true c),Yr] at ht
  have tS:=Ut (L:=L) r2.ok
  refine ZG (f:=typM L) r2 trivial (by rw [ht];exact YI L _ _) fun e3=>⟨self1 _,self1 _,?_⟩
  have r3:=ZS r2 tS (UT L _) e3
  exact ZG (f:=fun s=>oneR L s [[59]]) r3 (Xf rfl) (by rw [ht];exact Zy _) fun e=>(WY ht e rfl).2
 rw [if_neg (show ¬ (oneR L s wsD).1.text=wVar from of_decide_eq_false c)] at ht
 have cV:¬ (oneR L s wsD).1.text=wVar:=of_decide_eq_false c
 clear c
 refine Zc (fun c=>?_) fun c=>?_
 ·rw [if_pos (show (oneR L s wsD).1.text=wFn from of_decide_eq_true c)] at ht
  exact ZG (f:=B L) r2 p2 (by rw [ht];exact Zy _) fun e=>⟨self1 _,WY ht e rfl⟩
 rw [if_neg (show ¬ (oneR L s wsD).1.text=wFn from of_decide_eq_false c)] at ht
 have cF:¬ (oneR L s wsD).1.text=wFn:=of_decide_eq_false c
 clear c
 refine Zc (fun c=>?_) fun c=>?_
 ·rw [if_pos (show (oneR L s wsD).1.text=wClass from of_decide_eq_true c)] at ht
  unfold classM at ht
  have kL:∀ (k:Nat) (l:List PT) (r:RS),Kp r (blockL memM L k l r).2:=Yv (Zep L)
  have kT:Kp (blockL memM L (fuelN L) [] (oneR L (dS L s) [[123]]).2).2 t.2:=by
   rw [ht,← Yr];exact ZB L _ _
  have s3:=Xc (L:=L) (ws:=[[123]]) r2.ok
  refine ZG (f:=fun s=>oneR L s [[123]]) r2 (Xf rfl) ((kL _ _ _).tr kT) fun e3=>?_
  have r3:=Xs r2 s3 (YI L _ _) e3
  have p3:=Xz p2 s3
  rw [show signR L (dS L s) [123]=oneR L (dS L s) [[123]] from Yr _ _ _]
  refine ⟨⟨([],(oneR L (dS L s) [[123]]).2),⟨⟨fuelN L,XZ r3.ok,rfl⟩,XX r3.ok (by decide),r3⟩,Yd (s:=(oneR L (dS L s) [[123]]).2) rfl,rfl⟩,fun x hx=>?_⟩
  obtain ⟨⟨k,hk,hkt⟩,px,rx⟩:=hx
  have b1:=px.bnd r3.ok (by decide)
  have b2:=Vw x.1
  refine Yj rx rfl (Zc (fun d=>?_) fun d=>?_)
  ·have d:isS L x.2 wShut=false:=by rwa [Bool.not_eq_true',any1 rfl] at d
   obtain ⟨k',rfl,h2⟩:=Zlg hk hkt rx.e d
   obtain ⟨d0,d1,d2⟩:=Ur (by decide) (Zax (n:=n)) (l:=x.1) (s:=x.2) px (fun _=>p3) rx.e
   have k2:Kp (memM L x.2).2 t.2:=by
    refine Kp.tr ?_ kT
    rw [← h2]
    exact kL _ _ _
   have q1:=Yi (L:=L) (k:=1) rx.ok (by decide)
   refine ZG (f:=fun s=>kindR L s 1) rx (by decide) (((UT L _).tr (ZB L _ _)).tr k2) fun f1=>?_
   have g1:=Xs rx q1 (Yt L _ 1) f1
   have tS:=Ut (L:=L) g1.ok
   refine ZG (f:=typM L) g1 trivial ((ZB L _ _).tr k2) fun f2=>⟨self1 _,self1 _,Zd ?_ ?_⟩
   ·rw [Bool.and_eq_true];exact ⟨rfl,decide_eq_true (by omega)⟩
   have g2:=ZS g1 tS (UT L _) f2
   have e':oneR L (typM L (kindR L x.2 1).2).2 [[59]]=signR L (typM L (kindR L x.2 1).2).2 wSemi:=(Yr _ _ _).symm
   refine ZG (f:=fun s=>oneR L s [[59]]) g2 (Xf rfl) (by rw [e'];exact k2) fun f3=>?_
   have f3':(memM L x.2).2.err=0:=by show (signR L (typM L (kindR L x.2 1).2).2 wSemi).2.err=0;rw [← e'];exact f3
   exact ⟨(x.1 ++ [(memM L x.2).1],(memM L x.2).2),⟨⟨k',by have:meas L (memM L x.2).2 < meas L x.2:=d2;show meas L (memM L x.2).2 < k';omega,h2⟩,d1,ZS rx (Zax (n:=n) L _ d0) (Zep L _) f3'⟩,d2,pv_snocV x.1 (memM L x.2).1 rfl (Zli rfl),Yd (by rw [e'];rfl),by rw [List.length_append,List.length_singleton]⟩
  ·have d:isS L x.2 wShut=true:=by rwa [Bool.not_eq_false',any1 rfl] at d
   have hX:=Zjk hk hkt d
   have hX:blockL memM L (fuelN L) [] (signR L (dS L s) wOpen).2=(x.1,x.2):=by rw [Yr];exact hX
   have ht:t=(nd 3 (kindR L (oneR L s wsD).2 1).1.text 0 (oneR L s wsD).1 x.1,at1 x.2):=by
    rw [ht]
    show (nd 3 _ 0 _ (blockL memM L (fuelN L) [] (signR L (dS L s) wOpen).2).1,(signR L (blockL memM L (fuelN L) [] (signR L (dS L s) wOpen).2).2 wShut).2)=_
    rw [hX]
    show (nd 3 _ 0 _ x.1,(signR L x.2 wShut).2)=_
    rw [Zh0 rx d]
   exact YN rx (Zl d) (Zd (Za2 x.1) (Zfj (s:=at1 x.2) ht rx.e))
 rw [if_neg (show ¬ (oneR L s wsD).1.text=wClass from of_decide_eq_false c)] at ht
 have cC:¬ (oneR L s wsD).1.text=wClass:=of_decide_eq_false c
 clear c
 have s3:=Xc (L:=L) (ws:=[[111,110]]) r2.ok
 rw [Yr,show ([wOn]:List (List UInt8))=[[111,110]] from rfl] at ht
 refine ZG (f:=fun s=>oneR L s [[111,110]]) r2 (Xf rfl) (by
  rw [ht]
  exact ZQ (fun _=>(UW L _).tr ((YI L _ _).tr (hB.k _))) fun _=>(UW L _).tr ((ZB L _ _).tr ((Yv (JT hB.k) _ _ _).tr (ZB L _ _)))) fun e3=>?_
 have r3:=Xs r2 s3 (YI L _ _) e3
 have p3:=Xz p2 s3
 have uS:=Ka (L:=L) r3.ok
 refine Zc (fun c=>?_) fun c=>?_
 ·have cc:(oneR L s wsD).1.text=wComp:=of_decide_eq_true c
  rw [if_neg (by rw [cc];decide)] at ht
  unfold compM at ht
  refine ZG (f:=useM L) r3 trivial (by
   rw [ht]
   exact (ZB L _ _).tr ((Yv (JT hB.k) _ _ _).tr (ZB L _ _))) fun e4=>⟨self1 _,self1 _,?_⟩
  have r4:=ZS r3 uS (UW L _) e4
  have p4:=WC p3 uS
  have ht:t=(nd 8 (kindR L (oneR L s wsD).2 1).1.text 0 (oneR L s wsD).1 ((useM L (oneR L (dS L s) [[111,110]]).2).1 :: (livR B L (useM L (oneR L (dS L s) [[111,110]]).2).2).1),(livR B L (useM L (oneR L (dS L s) [[111,110]]).2).2).2):=by
   rw [ht,Gw,Yr,Yr]
   rfl
  have hl:(livR B L (useM L (oneR L (dS L s) [[111,110]]).2).2).2=t.2:=by rw [ht]
  refine ⟨⟨preC r4 p4,self1 _⟩,fun y hy=>?_⟩
  rw [WT r4] at hy
  subst hy
  refine Zc (fun e5=>Zc (fun c=>?_) fun c=>?_) fun e5=>?_
  ·have:(livR B L (useM L (oneR L (dS L s) [[111,110]]).2).2).1=[]:=List.eq_nil_of_length_eq_zero (Nat.eq_of_beq_eq_true c)
   refine (WY (y:=(useM L (oneR L (dS L s) [[111,110]]).2).1) ?_ (ZC.1 e5) rfl).2
   rw [ht,this]
   rfl
  ·exact Zd (Zmg _ _) (eqR_rowU ht (ZC.1 e5))
  ·exact Zbv (hl ▸ Zy _) (Zu.1 e5)
 ·have cc:(oneR L s wsD).1.text=wEvent:=by
   have c:=of_decide_eq_false c
   simp only [wsD,List.mem_cons,List.not_mem_nil,or_false] at hm
   rcases hm with h | h | h | h | h | h | h
   ·exact absurd h cL
   ·exact absurd h cC
   ·exact absurd h cV
   ·exact absurd h cF
   ·exact absurd h c
   ·exact h
   ·exact absurd h cM
  rw [if_pos cc] at ht
  unfold eventM at ht
  refine ZG (f:=useM L) r3 trivial (by rw [ht];exact (YI L _ _).tr (hB.k _)) fun e4=>⟨self1 _,self1 _,?_⟩
  have r4:=ZS r3 uS (UW L _) e4
  have p4:=WC p3 uS
  have s5:=Xc (L:=L) (ws:=wsO) r4.ok
  refine ZG (f:=fun s=>oneR L s wsO) r4 (Xf rfl) (by rw [ht];exact hB.k _) fun e5=>?_
  have r5:=Xs r4 s5 (YI L _ _) e5
  have p5:=Xz p4 s5
  refine Zc (fun c=>?_) fun c=>?_
  ·rw [if_pos (show _=wOn from of_decide_eq_true c)] at ht
   exact ZG (f:=B L) r5 p5 (by rw [ht];exact Zy _) fun e=>(VJ ht e rfl rfl).2
  ·rw [if_neg (show ¬ _=wOn from of_decide_eq_false c)] at ht
   exact ZG (f:=B L) r5 p5 (by rw [ht];exact Zy _) fun e=>(VJ ht e rfl rfl).2
theorem runDeclP:∀ (L:List TK) (n:Nat) (B:List TK→PF) (hok:OkSd L n B) (s:RS) (t:PT×RS),R0 L s→Pre L n s→FG L n B→t=declM B L s→(cRun (cxSd L n B hok s) 60).call 22 [.ptr 4 0] (mkH (glT ++ numL [objP L s] 4)) (4 + 1) (ResP L t) :=
 Eq.mpr (by kernel_rfl) Zjn
theorem okDeclP {L:List TK} {n:Nat} {B:List TK→PF} (h:OkI 31 L n B) (hB:FG L n B):HEntOK Tryd.prog 22 (mF L n (declM B)) :=
 Xa fun s h1 h2=>⟨cxSd L n B ⟨h.f,okLiv h hB⟩ s,60,rfl,fol,ZN,fun t ht=>runDeclP L n B ⟨h.f,okLiv h hB⟩ s t h1 h2 hB ht⟩
end Go.Proofs.YtlmmbanfhjaioaaDoor
end
