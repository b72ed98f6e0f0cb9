/- Laid by program out of its parts: PcC. -/
import Derived.Test.YtlmmbanfhjaioaaDoorPcB
set_option linter.unusedVariables false
set_option linter.unusedSimpArgs false
set_option maxRecDepth 100000
set_option maxHeartbeats 2000000
open Go Go.Ev
namespace Go.Proofs.YtlmmbanfhjaioaaDoor
theorem JQ {N:List TK} {s r:RS} (he:s.err=0) (m:Mv N s r) (q:Sr s r) (hr:r.at_≤N.length):meas N r < meas N s:=by
 have q1:=m.a
 have q4:=q he
 unfold meas
 rw [if_pos he]
 split
 ·rename_i z;have:=q4 z;omega
 ·omega
theorem Zel {m:Nat} {L M:List TK} {F:List TK→PF} (hP:Pf m L M) (hF:BL m L M F) (zF:SF L (F L)):∀ (k k':Nat) (l:List PT) (s:RS),In L M s→meas L s < k→meas M s < k'→Lo m (blockL F L k l s) (blockL F M k' l s)
 | 0,_,_,_,_,h,_=>absurd h (Nat.not_lt_zero _)
 | _,0,_,_,_,_,h=>absurd h (Nat.not_lt_zero _)
 | k + 1,k' + 1,l,s,hs,h,h'=>WU (Yb hF.m1 _ l s) (Yb hF.m2 _ l s) fun hr=>by
  have ea:=XE hP hs hr
  have es:=WL ea
  unfold blockL
  rw [← es]
  refine ZJ (fun c=>?_) fun _=>.inl rfl
  refine XN (fun r:PT×RS=>blockL F L k (l ++ [r.1]) r.2) (fun r:PT×RS=>blockL F M k' (l ++ [r.1]) r.2) (hF.lo s hs) (Yb hF.m1 _ _ _) (Yb hF.m2 _ _ _) fun e=>?_
  have hi:=hF.nx hs e
  have d1:=JQ c.1 (hF.m1 s) (zF s) hi.b
  have d2:=JQ (N:=M) c.1 (by rw [e];exact hF.m2 s) (zF s) hi.b'
  exact Zel hP hF zF k k' _ _ hi (by omega) (by omega)
theorem Zd2 {m:Nat} {L M:List TK} {F:List TK→PF} (hP:Pf m L M) (hF:BL m L M F) (zF:SF L (F L)) (l:List PT) {s:RS} (hs:In L M s):Lo m (blockL F L (fuelN L) l s) (blockL F M (fuelN M) l s):=Zel hP hF zF _ _ l s hs (VH hs.a) (VH hs.a)
theorem Zeh {m:Nat} {L M:List TK} {F:List TK→PF} (hF:BL m L M F) (l:List PT) {s:RS} (hs:In L M s) (e:blockL F L (fuelN L) l s=blockL F M (fuelN M) l s):In L M (blockL F L (fuelN L) l s).2:=hs.nx (Yb hF.m1 _ _ _) (by rw [e];exact Yb hF.m2 _ _ _)
theorem bl_block {m:Nat} {L M:List TK} {F:List TK→PF} (hP:Pf m L M) (hF:BL m L M F) (zF:SF L (F L)):BL m L M (blockM F):=⟨fun s hs=>by
 refine ZE (fun N q=>(nd 12 [] 0 q.1 (blockL F N (fuelN N) [] q.2).1,down (signR N (blockL F N (fuelN N) [] q.2).2 wShut).2)) (Zad hP hs wOpen) ((Yb hF.m1 _ _ _).tr ((Zh L _ _).tr (ZO L _))) ((Yb hF.m2 _ _ _).tr ((Zh M _ _).tr (ZO M _))) fun e=>?_
 have j1:=GX hs e
 refine ZE (fun N q=>(nd 12 [] 0 (openR L s wOpen).1 q.1,down (signR N q.2 wShut).2)) (Zd2 hP hF zF [] j1) ((Zh L _ _).tr (ZO L _)) ((Zh M _ _).tr (ZO M _)) fun e=>?_
 exact ZE (fun N q=>(nd 12 [] 0 (openR L s wOpen).1 (blockL F L (fuelN L) [] (openR L s wOpen).2).1,down q.2)) (YR hP (Zeh hF [] j1 e) wShut) (ZO L _) (ZO M _) fun _=>.inl rfl,Zcn hF.m1,Zcn hF.m2⟩
theorem BLv.l1 {m:Nat} {L M:List TK} {x:LV} (h:BLv m L M x):MLv L x:=⟨h.u.m1,h.t.m1,h.b.m1⟩
theorem blv_next {m:Nat} {L M:List TK} {x:LV} (hP:Pf m L M) (h:BLv m L M x):BLv m L M (nextL x):=by
 have fi:=bl_first hP h.t h.b
 have ti:BL m L M (tiL x):=bl_tight hP h.t fi
 have un:BL m L M (unL x):=bl_unary hP h.u ti
 have te:BL m L M (teL x):=bl_term hP (bl_row (F:=rowM (unL x) [wMul]) hP (bl_row hP un))
 have va:BL m L M (vaL x):=bl_var ti
 have st:BL m L M (stL x):=bl_stmt hP te va h.b
 exact ⟨un,te,bl_block hP st (sr_st h.l1)⟩
theorem blv_ok {m:Nat} {L M:List TK} (hP:Pf m L M):∀ n,BLv m L M (lv n)
 | 0=>⟨⟨fun s _=>.inl rfl,(Jp L 0).u,(Jp M 0).u⟩,⟨fun s _=>.inl rfl,(Jp L 0).t,(Jp M 0).t⟩,⟨fun s _=>.inl rfl,(Jp L 0).b,(Jp M 0).b⟩⟩
 | n + 1=>blv_next hP (blv_ok hP n)
theorem bl_mem {m:Nat} {L M:List TK} (hP:Pf m L M):BL m L M memM:=⟨fun s hs=>by
 refine ZE (fun N k=>(nd 4 k.1.text 0 k.1 [(typM N k.2).1],(signR N (typM N k.2).2 wSemi).2)) (WX hP hs (k:=1) (by decide)) ((VY L _).tr (Zh L _ _)) ((VY M _).tr (Zh M _ _)) fun e=>?_
 have i1:=Km (by decide) hs e
 refine ZE (fun N q=>(nd 4 (kindR L s 1).1.text 0 (kindR L s 1).1 [q.1],(signR N q.2 wSemi).2)) ((KT hP).lo _ i1) (Zh L _ _) (Zh M _ _) fun e=>?_
 exact YH (YR hP ((KT hP).nx i1 e) wSemi) fun _=>nd 4 (kindR L s 1).1.text 0 (kindR L s 1).1 [(typM L (kindR L s 1).2).1],Zjx L,Zjx M⟩
theorem bl_life {m:Nat} {L M:List TK} {B:List TK→PF} (hP:Pf m L M) (hB:BL m L M B):BL m L M (lifeM B):=⟨fun s hs=>by
 refine ZE (fun N q=>(nd 9 [] (lifeN q.1.text) q.1 [(B N q.2).1],(B N q.2).2)) (Zj1 hP hs wsL) (hB.m1 _) (hB.m2 _) fun e=>?_
 exact YH (hB.lo _ (Zjl hs e)) fun q=>nd 9 [] (lifeN (oneR L s wsL).1.text) (oneR L s wsL).1 [q.1],Zaq hB.m1,Zaq hB.m2⟩
theorem Zk0 {m:Nat} {L M:List TK} {F:List TK→PF} (hP:Pf m L M) (hF:BL m L M F) (zF:SF L (F L)) (k:Int) (x:List UInt8) (t:TK) (l:List PT) {s:RS} (hs:In L M s) :
  Lo m (nd k x 0 t (blockL F L (fuelN L) l (signR L s wOpen).2).1,(signR L (blockL F L (fuelN L) l (signR L s wOpen).2).2 wShut).2) (nd k x 0 t (blockL F M (fuelN M) l (signR M s wOpen).2).1,(signR M (blockL F M (fuelN M) l (signR M s wOpen).2).2 wShut).2):=by
 refine ZE (fun (N:List TK) (q:TK×RS)=>(nd k x 0 t (blockL F N (fuelN N) l q.2).1,(signR N (blockL F N (fuelN N) l q.2).2 wShut).2)) (YR hP hs wOpen) ((Yb hF.m1 _ _ _).tr (Zh L _ _)) ((Yb hF.m2 _ _ _).tr (Zh M _ _)) fun e=>?_
 have i1:=Kd hs e
 refine ZE (fun (N:List TK) (q:List PT×RS)=>(nd k x 0 t q.1,(signR N q.2 wShut).2)) (Zd2 hP hF zF l i1) (Zh L _ _) (Zh M _ _) fun e=>?_
 exact YH (YR hP (Zeh hF l i1 e) wShut) fun _=>nd k x 0 t (blockL F L (fuelN L) l (signR L s wOpen).2).1
theorem lo_event {m:Nat} {L M:List TK} {B:List TK→PF} (hP:Pf m L M) (hB:BL m L M B) (t:TK) (x:List UInt8) (u:PT) {s:RS} (hs:In L M s):Lo m (eventM B L t x u s) (eventM B M t x u s):=by
 refine ZE (fun (N:List TK) (q:TK×RS)=>(nd 10 x (if q.1.text=wOn then 1 else 0) t [u,(B N q.2).1],(B N q.2).2)) (Zj1 hP hs wsO) (hB.m1 _) (hB.m2 _) fun e=>?_
 exact YH (hB.lo _ (Zjl hs e)) fun q=>nd 10 x (if (oneR L s wsO).1.text=wOn then 1 else 0) t [u,q.1]
theorem lo_declX {m:Nat} {L M:List TK} {B:List TK→PF} (hP:Pf m L M) (hB:BL m L M B) (t:TK) (x:List UInt8) {s:RS} (hs:In L M s):Lo m (declX B L t x s) (declX B M t x s):=by
 have g1:∀ {N:List TK},MF N (B N)→∀ u:PT×RS,Mv N u.2 (eventM B N t x u.1 u.2).2:=fun h u=>(VV _ _ _).tr (h _)
 have g2:∀ {N:List TK},MF N (B N)→∀ u:PT×RS,Mv N u.2 (compM B N t x u.1 u.2).2:=fun h u=>(Zh _ _ _).tr ((Yb (Zaq h) _ _ _).tr (Zh _ _ _))
 unfold declX
 refine ZJ (fun _=>YH (YR hP hs wSemi) fun _=>nd 2 x 0 t []) fun _=>ZJ (fun _=>?_) fun _=>ZJ (fun _=>YH (hB.lo _ hs) fun q=>nd 7 x 0 t [q.1]) fun _=>ZJ (fun _=>Zk0 hP (bl_mem hP) (sr_mem L) 3 x t [] hs) fun _=>ZJ (fun _=>?_) fun _=>?_
 ·refine ZE (fun (N:List TK) (q:PT×RS)=>(nd 6 x 0 t [q.1],(signR N q.2 wSemi).2)) ((KT hP).lo _ hs) (Zh L _ _) (Zh M _ _) fun e=>?_
  exact YH (YR hP ((KT hP).nx hs e) wSemi) fun _=>nd 6 x 0 t [(typM L s).1]
 ·refine ZE (fun (N:List TK) (q:TK×RS)=>eventM B N t x (useM N q.2).1 (useM N q.2).2) (YR hP hs wOn) ((UZ L _).tr (g1 hB.m1 _)) ((UZ M _).tr (g1 hB.m2 _)) fun e=>?_
  have i1:=Kd hs e
  refine ZE (fun (N:List TK) (u:PT×RS)=>eventM B N t x u.1 u.2) ((Zcf hP).lo _ i1) (g1 hB.m1 _) (g1 hB.m2 _) fun e=>?_
  exact lo_event hP hB t x _ ((Zcf hP).nx i1 e)
 ·refine ZE (fun (N:List TK) (q:TK×RS)=>compM B N t x (useM N q.2).1 (useM N q.2).2) (YR hP hs wOn) ((UZ L _).tr (g2 hB.m1 _)) ((UZ M _).tr (g2 hB.m2 _)) fun e=>?_
  have i1:=Kd hs e
  refine ZE (fun (N:List TK) (u:PT×RS)=>compM B N t x u.1 u.2) ((Zcf hP).lo _ i1) (g2 hB.m1 _) (g2 hB.m2 _) fun e=>?_
  exact Zk0 hP (bl_life hP hB) (sr_life hB.m1) 8 x t _ ((Zcf hP).nx i1 e)
theorem bl_decl {m:Nat} {L M:List TK} {B:List TK→PF} (hP:Pf m L M) (hB:BL m L M B):BL m L M (declM B):=⟨fun s hs=>by
 have g1:∀ {N:List TK},MF N (B N)→∀ o:TK×RS,Mv N o.2 (if o.1.text=wMain then (nd 11 [] 0 o.1 [(B N o.2).1],(B N o.2).2) else declX B N o.1 (kindR N o.2 1).1.text (kindR N o.2 1).2).2:=fun h o=>ZL (fun _=>h _) fun _=>(ZV _ _ (k:=1) (by decide)).tr (QB h _ _ _)
 refine ZE (fun (N:List TK) (o:TK×RS)=>if o.1.text=wMain then (nd 11 [] 0 o.1 [(B N o.2).1],(B N o.2).2) else declX B N o.1 (kindR N o.2 1).1.text (kindR N o.2 1).2) (Zj1 hP hs wsD) (g1 hB.m1 _) (g1 hB.m2 _) fun e=>?_
 have i1:=Zjl hs e
 refine ZJ (fun _=>YH (hB.lo _ i1) fun q=>nd 11 [] 0 (oneR L s wsD).1 [q.1]) fun _=>?_
 refine ZE (fun (N:List TK) (q:TK×RS)=>declX B N (oneR L s wsD).1 q.1.text q.2) (WX hP i1 (k:=1) (by decide)) (QB hB.m1 _ _ _) (QB hB.m2 _ _ _) fun e=>?_
 exact lo_declX hP hB _ _ (Km (by decide) i1 e),Zf2 hB.m1,Zf2 hB.m2⟩
theorem Zhh {m:Nat} {L M:List TK} {F:List TK→PF} (hP:Pf m L M) (hF:BL m L M F) (zF:SF L (F L)):∀ (k k':Nat) (l:List PT) (s:RS),In L M s→meas L s < k→meas M s < k'→Lo m (progL F L k l s) (progL F M k' l s)
 | 0,_,_,_,_,h,_=>absurd h (Nat.not_lt_zero _)
 | _,0,_,_,_,_,h=>absurd h (Nat.not_lt_zero _)
 | k + 1,k' + 1,l,s,hs,h,h'=>WU (Ui hF.m1 _ l s) (Ui hF.m2 _ l s) fun hr=>by
  unfold progL
  by_cases c:s.err=0
  ·have c1:s.at_ < m:=Int.not_le.1 fun z=>hr (.inl ⟨c,z⟩)
   have c3:=hP.l;have c4:=hP.l'
   rw [if_pos ⟨c,by omega⟩,if_pos ⟨c,by omega⟩]
   refine XN (fun r:PT×RS=>progL F L k (l ++ [r.1]) r.2) (fun r:PT×RS=>progL F M k' (l ++ [r.1]) r.2) (hF.lo s hs) (Ui hF.m1 _ _ _) (Ui hF.m2 _ _ _) fun e=>?_
   have hi:=hF.nx hs e
   have d1:=JQ c (hF.m1 s) (zF s) hi.b
   have d2:=JQ (N:=M) c (by rw [e];exact hF.m2 s) (zF s) hi.b'
   exact Zhh hP hF zF k k' _ _ hi (by omega) (by omega)
  ·rw [if_neg (fun h=>c h.1),if_neg (fun h=>c h.1)];exact .inl rfl
theorem lo_tok {m:Nat} {L M:List TK} (hP:Pf m L M) (n:Nat):Lo m (tokP n L rs0) (tokP n M rs0):=by
 have hB:=(blv_ok hP n).b
 have hD:=bl_decl hP hB
 have hi:In L M rs0:=⟨Int.le_refl 0,Int.natCast_nonneg _,Int.natCast_nonneg _⟩
 exact YH (Zhh hP hD (sr_decl hB.m1) _ _ [] rs0 hi (VH hi.a) (VH hi.a)) fun q=>nd 1 [] 0 tk11 q.1
end Go.Proofs.YtlmmbanfhjaioaaDoor
