/- Laid by program out of its parts: PgL, PgM, PgN, PgO. -/
import Derived.Test.YtlmmbanfhjaioaaGreatDoorPg3
import Derived.Test.YtlmmbanfhjaioaaGreatDoorPb5
noncomputable section
set_option linter.unusedVariables false
set_option linter.unusedSimpArgs false
section
set_option maxRecDepth 100000
set_option maxHeartbeats 4000000
open Go Go.Ev
namespace Go.Proofs.YtlmmbanfhjaioaaGreatDoor
def WI (t:TK):Sp:=(t.kind,t.text,t.num)
structure A3 (L:List TK) (s:RS) (R:List Sp) (d:Int):Prop where
 err:s.err=0
 RP:0<=s.at_
 rem:(L.drop s.at_.toNat).map WI=R
 nest:s.nest=d
def Qp (R:List Sp):Sp:=R.headD (0,[],0)
def CT (w:Ac) (R:List Sp):Bool:=decide ((Qp R).1=Fl w)&&decide ((Qp R).2.1=w)
mutual
def Bc:PT->PT
 |.mk k s n _ _ ks=>.mk k s n 0 0 (Hp ks)
def Hp:Av->Av
 | []=>[]
 |y::q=>Bc y::Hp q
end
structure Db (L:List TK) (r:PT×RS) (x:PT) (R:List Sp) (d:Int):Prop where
 x:Bc r.1=Bc x
 st:A3 L r.2 R d
theorem DO (k:Int) (s:Ac) (n:Int) (t:TK) (ks:Av):Bc (nd k s n t ks)=.mk k s n 0 0 (Hp ks):=by unfold nd Bc;rfl
theorem Dl (k:Int) (s:Ac) (n l c:Int) (ks:Av):Bc (.mk k s n l c ks)=.mk k s n 0 0 (Hp ks):=by conv=>lhs;unfold Bc
theorem SZ:Hp []=[]:=by unfold Hp;rfl
theorem Bm (y:PT) (q:Av):Hp (y::q)=Bc y::Hp q:=by conv=>lhs;unfold Hp
theorem QG (a b:Av):Hp (a++b)=Hp a++Hp b:=by
 induction a with
 |nil=>rw[SZ];rfl
 |cons y B q=>rw[List.cons_append,Bm,Bm,q];rfl
theorem AeZ {y x:PT} (h:Bc y=Bc x):y.kind=x.kind/\y.text=x.text:=by cases y;cases x;rw[Dl,Dl]at h;injection h with B q;exact⟨B,q⟩
theorem cG {L:Ab} {s:RS} {R:List Sp} {d:Int} (h:A3 L s R d):WI (Ar L s)=Qp R:=by
 have B:=h.err;have C:=h.RP;unfold Ar;by_cases g:(L.length:Int)<=s.at_
 ·rw[Am (.inr g)];have:R=[]:=by rw[<-h.rem,List.drop_eq_nil_of_le (by omega)];rfl
  rw[this];rfl
 ·rw[Ad (by rintro(q|q);exact q B;exact g q)];have y:s.at_.toNat<L.length:=by omega
  rw[<-h.rem,List.drop_eq_getElem_cons y,B2,CC y];rfl
theorem Cn {L:Ab} {s:RS} {q:Sp} {R:List Sp} {d:Int} (h:A3 L s (q::R) d):A3 L (Au s) R d:=by have y:=h.RP;refine⟨h.err,by show 0<=s.at_+1;omega,?_,h.nest⟩;show(L.drop (s.at_+1).toNat).map WI=R;rw[show(s.at_+1).toNat=s.at_.toNat+1 by omega,<-List.drop_drop,List.map_drop,h.rem];rfl
theorem CH {L:Ab} {s:RS} {R:List Sp} {d:Int} (h:A3 L s R d) (w:Ac):As L s w=CT w R:=by have e:=cG h;unfold As CT;rw[<-e];rfl
theorem HR {L:Ab} {s:RS} {R:List Sp} {d:Int} (h:A3 L s R d):(Ar L s).kind=(Qp R).1:=by rw[<-cG h];rfl
theorem Es {L:Ab} {s:RS} {R:List Sp} {d:Int} (h:A3 L s R d):(Ar L s).text=(Qp R).2.1:=by rw[<-cG h];rfl
theorem yZ {L:Ab} {s:RS} {R:List Sp} {d:Int} (h:A3 L s R d):(Ar L s).num=(Qp R).2.2:=by rw[<-cG h];rfl
theorem IH {L:Ab} {s:RS} {q:Sp} {R:List Sp} {d:Int} (h:A3 L s (q::R) d) {w:Ac} (y:CT w (q::R)=true):BE L s w=(Ar L s,Au s):=by unfold BE FI;rw[CH h,Am y];rfl
theorem Nr {L:Ab} {s:RS} {q:Sp} {R:List Sp} {d:Int} (h:A3 L s (q::R) d) {k:Int} (y:q.1=k):A6 L s k=(Ar L s,Au s):=by unfold A6 FI;rw[HR h,Am (show decide ((Qp (q::R)).1=k)=true from Bi y)];rfl
theorem Akv {L:Ab} {s:RS} {R:List Sp} {d:Int} (h:A3 L s R d) (hd:d<64) (w:Ac):A3 L (GA L s w) R (d+1):=by unfold GA;have hn:=h.nest;rw[Ad λg=>by have:=g.2;omega];exact⟨h.err,h.RP,h.rem,by show s.nest+1=d+1;omega⟩
theorem cI {L:Ab} {s:RS} {q:Sp} {R:List Sp} {d:Int} (h:A3 L s (q::R) d) (hd:d<64) {w:Ac} (B:CT w (q::R)=true):A3 L (B7 L s w).2 R (d+1):=by have y:=Akv h hd w;unfold B7;rw[IH y B];exact Cn y
theorem cE {L:Ab} {s:RS} {R:List Sp} {d:Int} (h:A3 L s R d):A3 L (down s) R (d-1):=⟨h.err,h.RP,h.rem,by show s.nest-1=d-1;rw[h.nest]⟩
theorem cH {L:Ab} {s:RS} {R:List Sp} {d:Int} (h:A3 L s R d) (F:Ab->PF):Fk F L s=F L s:=by unfold Fk;rw[Ad λg=>g h.err]
theorem Ow {L:Ab} {s:RS} {R:List Sp} {d:Int} (h:A3 L s R d):R.length<=L.length:=by rw[<-h.rem,FL,HC];omega
theorem kD {ks:Av} {x:Int} (h:ks.map PT.kind=[x]):∃a,ks=[a]/\a.kind=x:=by
 cases ks with
 |nil=>cases h
 |cons a t=>
  cases t with
  |nil=>injection h with h;exact⟨a,rfl,h⟩
  |cons b t=>injection h with _ h;cases h
theorem kE {ks:Av} {x y:Int} (h:ks.map PT.kind=[x,y]):∃a b,ks=[a,b]/\a.kind=x/\b.kind=y:=by
 cases ks with
 |nil=>cases h
 |cons a t=>injection h with B h;obtain⟨b,rfl,q⟩:=kD h;exact⟨a,b,rfl,B,q⟩
theorem AeK {ks:Av} {x y z:Int} (h:ks.map PT.kind=[x,y,z]):∃a b c,ks=[a,b,c]/\a.kind=x/\b.kind=y/\c.kind=z:=by
 cases ks with
 |nil=>cases h
 |cons a t=>injection h with C h;obtain⟨b,c,rfl,B,q⟩:=kE h;exact⟨a,b,c,rfl,C,B,q⟩
theorem Mb {l:AP} (h:Cq [] l=true):l=[]:=by rw[uT]at h;exact List.isEmpty_iff.1 h
theorem Kg {c:UInt8} {ks:Av} (h:Cq [c] (ks.map PT.kind)=true) (B:c≠42) (y:c≠63):∃a,ks=[a]/\BQ (c.toNat:Int) a.kind=true:=by obtain⟨x,t,e,q,ht⟩:=Jr h B y;rw[Mb ht]at e;obtain⟨a,rfl,rfl⟩:=kD e;exact⟨a,rfl,q⟩
theorem Ou {c d:UInt8} {ks:Av} (h:Cq [c,d] (ks.map PT.kind)=true) (K:c≠42) (J:c≠63) (E:d≠42) (C:d≠63):∃a b,ks=[a,b]/\BQ (c.toNat:Int) a.kind=true/\BQ (d.toNat:Int) b.kind=true:=by obtain⟨x,t,e,q,ht⟩:=Jr h K J;obtain⟨y,u,rfl,hy,B⟩:=Jr ht E C;rw[Mb B]at e;obtain⟨a,b,rfl,rfl,rfl⟩:=kE e;exact⟨a,b,rfl,q,hy⟩
theorem sh3 {c d g:UInt8} {ks:Av} (h:Cq [c,d,g] (ks.map PT.kind)=true) (M:c≠42) (L:c≠63) (K:d≠42) (J:d≠63) (E:g≠42) (C:g≠63):∃a b e,ks=[a,b,e]/\BQ (c.toNat:Int) a.kind=true/\BQ (d.toNat:Int) b.kind=true/\BQ (g.toNat:Int) e.kind=true:=by obtain⟨x,t,e,q,ht⟩:=Jr h M L;obtain⟨y,u,rfl,hy,B⟩:=Jr ht K J;obtain⟨z,v,rfl,hz,hv⟩:=Jr B E C;rw[Mb hv]at e;obtain⟨a,b,c,rfl,rfl,rfl,rfl⟩:=AeK e;exact⟨a,b,c,rfl,q,hy,hz⟩
theorem yM {c d:UInt8} {ks:Av} (h:Cq [c,63,d] (ks.map PT.kind)=true) (E:c≠42) (C:c≠63):(∃a,ks=[a]/\BQ (c.toNat:Int) a.kind=true)\/∃a b,ks=[a,b]/\BQ (c.toNat:Int) a.kind=true/\BQ (d.toNat:Int) b.kind=true:=by
 obtain⟨x,t,e,B,ht⟩:=Jr h E C;rw[jl]at ht;cases t with
 |nil=>obtain⟨a,rfl,rfl⟩:=kD e;exact .inl ⟨a,rfl,B⟩
 |cons y t=>
  have q:(if BQ (d.toNat:Int) y=true then t else y::t)=[]:=Mb ht;by_cases g:BQ (d.toNat:Int) y=true
  ·rw[Am g]at q;subst q;obtain⟨a,b,rfl,rfl,rfl⟩:=kE e;exact .inr ⟨a,b,rfl,B,g⟩
  ·rw[Ad g]at q;cases q
theorem dropWhile_nil {f:Int->Bool}:∀ {l:AP},l.dropWhile f=[]->∀x∈l,f x=true
 | [],_,x,q=>nomatch q
 |y::l,h,x,q=>by
  rw[List.dropWhile_cons]at h;split at h
  ·rename_i g;rcases CS.1 q with rfl|q
   ·exact g
   ·exact dropWhile_nil h x q
  ·cases h
theorem Uo {d:UInt8} {ks:Av} (h:Cq [42,d] (ks.map PT.kind)=true):∀y∈ks,BQ (d.toNat:Int) y.kind=true:=λy hy=>by rw[jm]at h;exact dropWhile_nil (Mb h) _ (List.mem_map.2 ⟨y,hy,rfl⟩)
theorem yN {c d:UInt8} {ks:Av} (h:Cq [c,42,d] (ks.map PT.kind)=true) (B:c≠42) (q:c≠63):∃a t,ks=a::t/\BQ (c.toNat:Int) a.kind=true/\∀y∈t,BQ (d.toNat:Int) y.kind=true:=by
 cases ks with
 |nil=>rw[List.map_nil,jk _ B q]at h;cases h
 |cons a t=>obtain⟨x,u,e,C,E⟩:=Jr h B q;injection e with K J;subst K;subst J;exact⟨a,t,rfl,C,Uo E⟩
structure F5 (R:List Sp):Prop where
 a:CT Ro R=false
 b:CT HU R=false
structure F3 (R:List Sp):Prop extends F5 R where
 c:CT IL R=false
structure F2 (R:List Sp):Prop extends F3 R where
 d:CT Ip R=false
 e:CT Ir R=false
structure F1 (R:List Sp):Prop extends F2 R where
 f:CT nU R=false
 g:CT nT R=false
structure H5 (q:List Sp):Prop where
 ne:q≠[]
 a:∀R,CT LM (q++R)=false
 b:∀R,CT LL (q++R)=false
def R5 (m:Nat) (L:Ab) (d:Int) (q:List Sp) (x:PT):Prop:=∀s R,A3 L s (q++R) d->(q++R).length<=m->∃(k:Nat) (y:PT) (s':RS),k<=q.length/\ EW (lv m).t L (B3 L) (firstM (lv m).t (lv m).b L s).1 (firstM (lv m).t (lv m).b L s).2=EW (lv m).t L (B3 L-k) y s'/\Bc y=Bc x/\A3 L s' R d
def G4 (m:Nat) (L:Ab) (d:Int) (q:List Sp) (x:PT):Prop:=∀s R,A3 L s (q++R) d->(q++R).length<=m->F5 R->Db L (GW (lv m) L s) x R d
def R3 (m:Nat) (L:Ab) (d:Int) (q:List Sp) (x:PT):Prop:=∀s R,A3 L s (q++R) d->(q++R).length<=m->F5 R->∃(k:Nat) (y:PT) (s':RS),k<=q.length/\ Ee (GW (lv m)) [IL] L (B3 L) (GW (lv m) L s).1 (GW (lv m) L s).2=Ee (GW (lv m)) [IL] L (B3 L-k) y s'/\Bc y=Bc x/\A3 L s' R d
def Mr (m:Nat):Ab->PF:=F6 (GW (lv m)) [IL]
def R2 (m:Nat) (L:Ab) (d:Int) (q:List Sp) (x:PT):Prop:=∀s R,A3 L s (q++R) d->(q++R).length<=m->F3 R->∃(k:Nat) (y:PT) (s':RS),k<=q.length/\ Ee (Mr m) [Ip,Ir] L (B3 L) (Mr m L s).1 (Mr m L s).2=Ee (Mr m) [Ip,Ir] L (B3 L-k) y s'/\Bc y=Bc x/\A3 L s' R d
def G1 (m:Nat) (L:Ab) (d:Int) (q:List Sp) (x:PT):Prop:=∀s R,A3 L s (q++R) d->(q++R).length<=m->F1 R->Db L (EV (lv m) L s) x R d
structure Fz (b:Int) (L:List TK) (d:Int) (q:List Sp) (x:PT):Prop where
 l5:5<=b->H5 q/\∀m,R5 m L d q x
 l4:4<=b->∀m,G4 m L d q x
 l3:3<=b->∀m,R3 m L d q x
 l2:2<=b->∀m,R2 m L d q x
 l1:∀m,G1 m L d q x
theorem yw {T:Ab->PF} {L:Ab} {x:PT} {s:RS} (y:As L s Ro=false) (q:As L s HU=false):∀k,EW T L k x s=(x,s)
 |0=>by unfold EW;rfl
 |k+1=>by unfold EW;rw[Ad (by rw[y];simp),Ad (by rw[q];simp)]
theorem wT {F:Ab->PF} {ws:List Ac} {L:Ab} {x:PT} {s:RS} (h:ws.any (As L s)=false):∀k,Ee F ws L k x s=(x,s)
 |0=>by unfold Ee;rfl
 |k+1=>by unfold Ee;rw[Ad (by rw[h];simp)]
theorem XK {m:Nat} {L:Ab} {d:Int} {q:List Sp} {x:PT} (E:H5 q) (h:R5 m L d q x):G4 m L d q x:=λs R C K J=>by
 obtain⟨k,y,s',_,e,hn,B⟩:=h s R C K;have O:GW (lv m) L s=Nt (lv m) L s:=by unfold GW LK;rw[CH C,CH C,E.a R,E.b R,Ad (by simp),Ad (by simp)]
 have M:Nt (lv m) L s=(y,s'):=by show EW _ _ _ _ _=_;rw[e];exact yw (by rw[CH B];exact J.a) (by rw[CH B];exact J.b) _
 rw[O,M];exact⟨hn,B⟩
theorem RV {m:Nat} {L:Ab} {d:Int} {q:List Sp} {x:PT} (h:G4 m L d q x):R3 m L d q x:=λs R y B C=>
 have g:=h s R y B C
 ⟨0,_,_,CL _,rfl,g.x,g.st⟩
theorem g3 {m:Nat} {L:Ab} {d:Int} {q:List Sp} {x:PT} (h:R3 m L d q x) (s:RS) (R:List Sp) (E:A3 L s (q++R) d) (J:(q++R).length<=m) (C:F3 R):Db L (Mr m L s) x R d:=by
 obtain⟨k,y,s',_,e,hn,B⟩:=h s R E J C.toF5;have K:Mr m L s=(y,s'):=by show Ee _ _ _ _ _ _=_;rw[e];exact wT (by simp only[List.any_cons,List.any_nil,Bool.or_false];rw[CH B];exact C.c) _
 rw[K];exact⟨hn,B⟩
theorem RU {m:Nat} {L:Ab} {d:Int} {q:List Sp} {x:PT} (h:R3 m L d q x):R2 m L d q x:=λs R y B C=>
 have g:=g3 h s R y B C
 ⟨0,_,_,CL _,rfl,g.x,g.st⟩
theorem g2 {m:Nat} {L:Ab} {d:Int} {q:List Sp} {x:PT} (h:R2 m L d q x) (s:RS) (R:List Sp) (E:A3 L s (q++R) d) (J:(q++R).length<=m) (C:F2 R):Db L (F6 (Mr m) [Ip,Ir] L s) x R d:=by
 obtain⟨k,y,s',_,e,hn,B⟩:=h s R E J C.toF3;have K:F6 (Mr m) [Ip,Ir] L s=(y,s'):=by show Ee _ _ _ _ _ _=_;rw[e];exact wT (by simp only[List.any_cons,List.any_nil,Bool.or_false];rw[CH B,CH B,C.d,C.e];rfl) _
 rw[K];exact⟨hn,B⟩
theorem XJ {m:Nat} {L:Ab} {d:Int} {q:List Sp} {x:PT} (h:R2 m L d q x):G1 m L d q x:=λs R B C y=>by
 have g:=g2 h s R B C y.toF2;have e:EV (lv m) L s=F6 (Mr m) [Ip,Ir] L s:=by show LJ (F6 (Mr m) [Ip,Ir]) L s=_;unfold LJ;rw[Ad];simp only[List.any_cons,List.any_nil,Bool.or_false];rw[CH g.st,CH g.st,y.f,y.g];simp
 rw[e];exact g
theorem N9 {b:Int} {L:Ab} {d:Int} {q:List Sp} {x:PT} (y:H5 q) (h:∀m,R5 m L d q x):Fz b L d q x:=⟨λ_=>⟨y,h⟩,λ_ m=>XK y (h m),λ_ m=>RV (XK y (h m)),λ_ m=>RU (RV (XK y (h m))),λm=>XJ (RU (RV (XK y (h m))))⟩
theorem vH {b:Int} {L:Ab} {d:Int} {q:List Sp} {x:PT} (y:b<5) (h:∀m,G4 m L d q x):Fz b L d q x:=⟨λg=>by omega,λ_ m=>h m,λ_ m=>RV (h m),λ_ m=>RU (RV (h m)),λm=>XJ (RU (RV (h m)))⟩
theorem AeH {b:Int} {L:Ab} {d:Int} {q:List Sp} {x:PT} (y:b<4) (h:∀m,R3 m L d q x):Fz b L d q x:=⟨λg=>by omega,λg=>by omega,λ_ m=>h m,λ_ m=>RU (h m),λm=>XJ (RU (h m))⟩
theorem AeG {b:Int} {L:Ab} {d:Int} {q:List Sp} {x:PT} (y:b<3) (h:∀m,R2 m L d q x):Fz b L d q x:=⟨λg=>by omega,λg=>by omega,λg=>by omega,λ_ m=>h m,λm=>XJ (h m)⟩
theorem AeF {b:Int} {L:Ab} {d:Int} {q:List Sp} {x:PT} (y:b<2) (h:∀m,G1 m L d q x):Fz b L d q x:=⟨λg=>by omega,λg=>by omega,λg=>by omega,λg=>by omega,h⟩
theorem kC (m:Nat):lv (m+1)=QF (lv m):=by rw[lv]
theorem vI (m:Nat):(lv (m+1)).t=EV (lv m):=by rw[kC,QF]
theorem lvu (m:Nat):(lv (m+1)).u=GW (lv m):=by rw[kC,QF]
theorem lvb (m:Nat):(lv (m+1)).b=LX (JL (lv m)):=by rw[kC,QF]
theorem isF {w:Ac} {R:List Sp} (h:CT w R=false):¬CT w R=true:=by rw[h];simp
theorem Dd (c:UInt8) (w:Ac) (R:List Sp):CT w (AF c::R)=(decide ((4:Int)=Fl w)&&decide ([c]=w)):=rfl
theorem DG (v w:Ac) (R:List Sp):CT w (Az v::R)=(decide ((2:Int)=Fl w)&&decide (v=w)):=rfl
theorem isN (v w:Ac) (R:List Sp):CT w (B4 v::R)=(decide ((1:Int)=Fl w)&&decide (v=w)):=rfl
theorem YN {w:Ac}:Fl w=2\/Fl w=4:=by unfold Fl;split<;>simp
theorem NY (v w:Ac) (R:List Sp):CT w (B4 v::R)=false:=by rw[isN,Ej];rfl;intro e;rcases YN (w:=w)with h|h<;>omega
theorem uE (n:Int) (w:Ac) (R:List Sp):CT w (Ka n::R)=false:=by show(decide ((3:Int)=Fl w)&&_)=false;rw[Ej];rfl;intro e;rcases YN (w:=w)with h|h<;>omega
theorem Agv {L:Ab} {d:Int} {q:List Sp} {x:PT} (hd:d<64) (h:∀m,G1 m L (d+1) q x) (m:Nat):R5 m L d ([AF 40]++(q++[AF 41])) x:=λs R y C=>by
 have y:A3 L s (AF 40::(q++(AF 41::R))) d:=by have:=y;simp only[A7,List.cons_append,Ei]at this;exact this
 cases m with
 |zero=>simp at C
 |succ m=>
  have B:=cI y hd (w:=K9) rfl;have g:=h m _ (AF 41::R) B (by simp at C⊢;omega) ⟨⟨⟨⟨rfl,rfl⟩,rfl⟩,rfl,rfl⟩,rfl,rfl⟩;have e:firstM (lv (m+1)).t (lv (m+1)).b L s=((EV (lv m) L (B7 L s K9).2).1,down (Au (EV (lv m) L (B7 L s K9).2).2)):=by unfold firstM;rw[Ad (by rw[HR y];exact(by decide:¬(4:Int)=3)),CH y,CH y,CH y,CH y,CH y,Dd,Dd,Dd,Dd,Dd,Ad (by decide),Ad (by decide),Ad (by decide),Ad (by decide),Am (by decide),cH B,vI,IH g.st rfl]
  refine⟨0,_,_,CL _,by rw[e];rfl,g.x,?_⟩;have:=cE (Cn g.st);rw[show d+1-1=d by omega]at this;exact this
theorem Adj (q:List Sp):H5 ([AF 40]++(q++[AF 41])):=⟨by simp,λR=>rfl,λR=>rfl⟩
def PM (x:PT):Prop:=∀(n:Nat) (L:Ab) (s:RS) (R:List Sp) (d:Int),B9 x (d+1)->A3 L s (AR x++R) d->(AR x++R).length<n->Db L ((lv n).b L s) x R d
def OK (x:PT):Prop:=∀(d:Int) (L:Ab),B9 x d->Fz (C7 x.kind x.text) L d (AR x) x
theorem WU {x:PT} {d:Int} (h:B9 x d):d<=64:=by cases x;unfold B9 at h;exact h.1
theorem DZ {k n:Int} (h:E2 k n=true) (C:k≠9) (B:k≠10) (y:k≠19) (q:k≠26):n=0:=by unfold E2 at h;rw[Ad C,Ad B,Ad y,Ad q]at h;exact Bt h
theorem GR {k:Int} {s:Ac} (h:Fv k s=true) (q:k=1\/k=9\/k=11\/k=12\/k=14\/k=15\/k=16\/k=17\/k=18\/k=20\/k=23\/k=24\/k=25\/k=26\/k=27\/k=28\/k=31\/k=34\/k=35\/k=36):s=[]:=by unfold Fv at h;rw[Ad (by omega),Ad (by omega),Ad (by omega)]at h;exact Bt h
theorem S5 {k:Int} {s:Ac} {i:Nat} {y:PT} (h:B0 y.kind=false):BC k s i y=false:=by unfold BC;refine Ej λg=>?_;have:=g.1;unfold C7 at this;rw[Ad (by rw[h];simp)]at this;omega
theorem kj {k:Int} {s:Ac} {i:Nat} {y:PT} (h:Fo k s i<=0):BC k s i y=false:=by unfold BC;exact Ej λg=>by have:=g.1;have:=g.2;omega
theorem AaT {y:PT} (h:B0 y.kind=true):0<C7 y.kind y.text:=by
 unfold C7;rw[Am h]
 repeat' split
 all_goals omega
theorem ym {y:PT} (h:B0 y.kind=true):¬y.kind=12:=λe=>by rw[e]at h;exact absurd h (by decide)
theorem Qv {k:Int} {s:Ac} {i:Nat} {y:PT} {d:Int} {L:Ab} (hy:OK y) (ht:B0 y.kind=true) (q:B9 y (d+EB k s i y)): ∃b,Fo k s i<=b/\Fz b L (d+if k=31/\i=1\/k=34\/k=35 then 1 else 0) (BR (BC k s i y) (AR y)) y:=by
 unfold EB at q;rw[Ad (ym ht)]at q;generalize(if k=31/\i=1\/k=34\/k=35 then(1:Int)else 0)=e at*;by_cases B:0<C7 y.kind y.text/\C7 y.kind y.text<Fo k s i
 ·rw[Am B,show d+(0+1+e)=d+e+1 by omega]at q;refine⟨max 5 (Fo k s i),by omega,?_⟩;unfold BC BR;rw[Bi B,Am rfl];have C:=WU q;exact N9 (Adj _) λm=>Agv (by omega) (λm=>(hy _ L q).l1 m) m
 ·rw[Ad B,show d+(0+0+e)=d+e by omega]at q;have:=AaT ht;refine⟨C7 y.kind y.text,by omega,?_⟩;unfold BC BR;rw[Ej B,Ad (by simp)];exact hy _ L q
theorem K5 (k:Int) (s:Ac) (n l c:Int) (ks:Av):AR (.mk k s n l c ks)=H3 k s n (E6 ks) (BL k s ks 0):=by conv=>lhs;unfold AR
theorem G8 (k:Int) (s:Ac) (a:PT) (t:Av):kq (BL k s (a::t) 0) 0=BR (BC k s 0 a) (AR a):=by unfold BL;rfl
theorem N6 (k:Int) (s:Ac) (a b:PT) (t:Av):kq (BL k s (a::b::t) 0) 1=BR (BC k s 1 b) (AR b):=by unfold BL;unfold BL;rfl
theorem kq2 (k:Int) (s:Ac) (a b e:PT) (t:Av):kq (BL k s (a::b::e::t) 0) 2=BR (BC k s 2 e) (AR e):=by unfold BL;unfold BL;unfold BL;rfl
theorem Oe {k:Int} {s:Ac} {i:Nat} {y:PT} (h:BC k s i y=false):BR (BC k s i y) (AR y)=AR y:=by unfold BR;rw[h];rfl
theorem Uh {m:Nat} {L:Ab} {d:Int} {q:List Sp} {x:PT} (h:∀s R,A3 L s (q++R) d->(q++R).length<=m->Db L (firstM (lv m).t (lv m).b L s) x R d):R5 m L d q x:=λs R y B=>
 have g:=h s R y B
 ⟨0,_,_,CL _,rfl,g.x,g.st⟩
theorem SF {q:Sp} {t:List Sp} (B:∀R,CT LM (q::R)=false) (y:∀R,CT LL (q::R)=false):H5 (q::t):=⟨by simp,λR=>B _,λR=>y _⟩
theorem tK {q t:List Sp} (h:H5 q):H5 (q++t):=⟨by intro e;exact h.ne (List.append_eq_nil_iff.1 e).1,λR=>by rw[A7];exact h.a _,λR=>by rw[A7];exact h.b _⟩
theorem Ak1 {L:Ab} {d:Int} {q:List Sp} {a:PT} {s:Ac} {l c:Int} {m:Nat} (h:R5 m L d q a):R5 m L d (q++([AF 46]++[B4 s])) (.mk 30 s 0 l c [a]):=λs0 R E K=>by
 have E:A3 L s0 (q++(AF 46::B4 s::R)) d:=by have:=E;simp only[A7,List.cons_append,Ei]at this;exact this
 have C:=Ow E;simp only[AK,AE,List.length_nil]at K C;obtain⟨k,y,s',S,e,hn,st⟩:=h s0 _ E (by simp only[AK,AE];omega);have B:=Cn st;have J:=Nr B (k:=1) rfl;have O:EW (lv m).t L (B3 L-k) y s'=EW (lv m).t L (B3 L-(k+1)) (MM L y s').1 (MM L y s').2:=by
  have M:B3 L-k=(B3 L-(k+1))+1:=by unfold B3;omega
  rw[M,EW,Am (by rw[CH st,Dd];decide)]
 refine⟨k+1,_,_,by simp only[AK,AE,List.length_nil];omega,e.trans O,?_,?_⟩
 ·unfold MM;rw[J,DO,Dl,Es B,Bm,Bm,hn];rfl
 ·unfold MM;rw[J];exact Cn B
theorem Ak2 {L:Ab} {d:Int} {q r:List Sp} {a b:PT} {l c:Int} {m:Nat} (hd:d<64) (h:R5 m L d q a) (M:∀m,G1 m L (d+1) r b):R5 m L d (q++([AF 91]++(r++[AF 93]))) (.mk 31 [] 0 l c [a,b]):=λs0 R C J=>by
 have C:A3 L s0 (q++(AF 91::(r++(AF 93::R)))) d:=by have:=C;simp only[A7,List.cons_append,Ei]at this;exact this
 have B:=Ow C;simp only[AK,AE,List.length_nil]at J B;obtain⟨k,y,s',S,e,hn,st⟩:=h s0 _ C (by simp only[AK,AE];omega);cases m with
 |zero=>omega
 |succ m=>
  have E:=cI st hd (w:=HU) (by rw[Dd];decide);have g:=M m _ (AF 93::R) E (by simp only[AK,AE];omega) ⟨⟨⟨⟨by rw[Dd];decide,by rw[Dd];decide⟩,by rw[Dd];decide⟩,by rw[Dd];decide,by rw[Dd];decide⟩,by rw[Dd];decide,by rw[Dd];decide⟩;have ei:Lj (lv (m+1)).t L y s'=(nd 31 [] 0 (B7 L s' HU).1 [y,(EV (lv m) L (B7 L s' HU).2).1],down (Au (EV (lv m) L (B7 L s' HU).2).2)):=by unfold Lj;rw[cH E,vI,IH g.st (by rw[Dd];decide)]
  have O:EW (lv (m+1)).t L (B3 L-k) y s'=EW (lv (m+1)).t L (B3 L-(k+1)) (Lj (lv (m+1)).t L y s').1 (Lj (lv (m+1)).t L y s').2:=by
   have K:B3 L-k=(B3 L-(k+1))+1:=by unfold B3;omega
   rw[K,EW,Ad (by rw[CH st,Dd];decide),Am (by rw[CH st,Dd];decide)]
  refine⟨k+1,_,_,by simp only[AK,AE,List.length_nil];omega,e.trans O,?_,?_⟩
  ·rw[ei,DO,Dl,Bm,Bm,Bm,Bm,hn,g.x]
  ·rw[ei];have:=cE (Cn g.st);rw[show d+1-1=d by omega]at this;exact this
theorem yx {F:Ab->PF} {ws:List Ac} {L:Ab} {d:Int} {a b:PT} {s:Ac} {l c:Int} {k:Nat} {y:PT} {s':RS} {r R:List Sp} (E:k<B3 L) (B:ws.any (λw=>CT w ((4,s,0)::(r++R)))=true) (hn:Bc y=Bc a) (st:A3 L s' ((4,s,0)::(r++R)) d) (q:Db L (F L (Au s')) b R d): Ee F ws L (B3 L-k) y s'=Ee F ws L (B3 L-(k+1)) (Ht F L y s').1 (Ht F L y s').2/\Bc (Ht F L y s').1=Bc (.mk 32 s 0 l c [a,b])/\A3 L (Ht F L y s').2 R d:=by
 refine⟨?_,?_,q.st⟩
 ·have C:B3 L-k=(B3 L-(k+1))+1:=by omega
  rw[C,Ee,Am (by rw[show As L s'=λw=>CT w ((4,s,0)::(r++R))from funext λw=>CH st w];exact B)]
 ·unfold Ht;rw[DO,Dl,Es st,Bm,Bm,Bm,Bm,hn,q.x];rfl
theorem Jp (v w:Ac) (R:List Sp):CT w ((4,v,0)::R)=(decide ((4:Int)=Fl w)&&decide (v=w)):=rfl
theorem v9 {k:Int} {s:Ac} {i:Nat} {y:PT} (h:y.kind=12) (q:¬(k=31/\i=1\/k=34\/k=35)):EB k s i y=1:=by
 unfold EB;rw[Am h,Ad q,Ad]
 ·rfl
 ·intro g;have:=g.1;rw[h]at this;exact absurd this (by unfold C7;simp[B0])
theorem kJ {k:Int} {s:Ac} {i:Nat} {y:PT} (h:k=31/\i=1\/k=34\/k=35):1<=EB k s i y:=by unfold EB;split<;>split<;>omega
theorem AcE {s:Ac} {R:List Sp} (h:s=[60]\/s=[61,61]):F2 ((4,s,0)::R):=by rcases h with rfl|rfl<;>exact⟨⟨⟨by rw[Jp];decide,by rw[Jp];decide⟩,by rw[Jp];decide⟩,by rw[Jp];decide,by rw[Jp];decide⟩
theorem AcC {s:Ac} {R:List Sp} (h:s=[43]\/s=[45]):F3 ((4,s,0)::R):=by rcases h with rfl|rfl<;>exact⟨⟨by rw[Jp];decide,by rw[Jp];decide⟩,by rw[Jp];decide⟩
theorem AcD {R:List Sp}:F5 ((4,[42],0)::R):=⟨by rw[Jp];decide,by rw[Jp];decide⟩
theorem yy {L:Ab} {d:Int} {q:List Sp} {a:PT} {k l c:Int} {v:Ac} (hv:v=LM/\k=35\/v=LL/\k=34) (hd:d<64) (h:∀m,G4 m L (d+1) q a) (m:Nat):G4 m L d ([Az v]++q) (.mk k [] 0 l c [a]):=λs0 R y C J=>by
 have y:A3 L s0 (Az v::(q++R)) d:=y;cases m with
 |zero=>simp at C
 |succ m=>
  have K:(Ar L s0).text=v:=Es y;have E:CT v (Az v::(q++R))=true:=by rw[DG];rcases hv with⟨rfl,_⟩|⟨rfl,_⟩<;>decide
  have B:=cI y hd E;have g:=h m _ R B (by simp only[AK,AE,List.length_nil]at C⊢;omega) J;have e:GW (lv (m+1)) L s0=Oy k (lv (m+1)).u L s0:=by
   unfold GW LK;rw[CH y,CH y,DG,DG];rcases hv with⟨rfl,rfl⟩|⟨rfl,rfl⟩
   ·rw[Am (by decide)]
   ·rw[Ad (by decide),Am (by decide)]
  rw[e];unfold Oy;rw[K,cH B,lvu];refine⟨by rw[DO,Dl,Bm,Bm,g.x],?_⟩;have:=cE g.st;rw[show d+1-1=d by omega]at this;exact this
theorem AkX {x:PT} (U:∀y:PT,sz y<sz x->(B0 y.kind=true->OK y)/\(y.kind=12->PM y)) (ht:B0 x.kind=true):OK x:=by
 obtain⟨k,s,n,l,c,ks⟩:=x;intro d L hw;rw[Im]at U;unfold B9 at hw;obtain⟨w1,w2,w3,V⟩:=hw;rw[K5];have ah:26<=k/\k<=36:=by have:B0 k=true:=ht;unfold B0 at this;simpa using this
 have S:BO k=[]->ks=[]:=λe=>by rw[e]at w3;exact List.map_eq_nil_iff.1 (Mb w3)
 have hn:=w2.2.2;have O:=w2.2.1;have hk:k=26\/k=27\/k=28\/k=29\/k=30\/k=31\/k=32\/k=33\/k=34\/k=35\/k=36:=by omega
 rcases hk with rfl|rfl|rfl|rfl|rfl|rfl|rfl|rfl|rfl|rfl|rfl
 ·obtain rfl:=S rfl;obtain rfl:=GR O (by omega);show Fz _ L d [Ka n] _;refine N9 (SF (λR=>uE _ _ _) λR=>uE _ _ _) λm=>Uh λs0 R q B=>?_;have q:A3 L s0 (Ka n::R) d:=q;unfold firstM;rw[Am (by rw[HR q];rfl)];exact⟨by rw[DO,Dl,yZ q];rfl,Cn q⟩
 ·obtain rfl:=S rfl;obtain rfl:=GR O (by omega);obtain rfl:=DZ hn (by decide) (by decide) (by decide) (by decide);show Fz _ L d [Az Ko] _;refine N9 (SF (λR=>by rw[DG];decide) λR=>by rw[DG];decide) λm=>Uh λs0 R q B=>?_;have q:A3 L s0 (Az Ko::R) d:=q;unfold firstM;rw[Ad (by rw[HR q];exact(by decide:¬(2:Int)=3)),CH q,DG,Am (by decide)];exact⟨by rw[DO,Dl],Cn q⟩
 ·obtain rfl:=S rfl;obtain rfl:=GR O (by omega);obtain rfl:=DZ hn (by decide) (by decide) (by decide) (by decide);show Fz _ L d [Az K8] _;refine N9 (SF (λR=>by rw[DG];decide) λR=>by rw[DG];decide) λm=>Uh λs0 R q B=>?_;have q:A3 L s0 (Az K8::R) d:=q;unfold firstM;rw[Ad (by rw[HR q];exact(by decide:¬(2:Int)=3)),CH q,CH q,DG,DG,Ad (by decide),Am (by decide)];exact⟨by rw[DO,Dl],Cn q⟩
 ·obtain rfl:=S rfl;obtain rfl:=DZ hn (by decide) (by decide) (by decide) (by decide);show Fz _ L d [B4 s] _;refine N9 (SF (λR=>NY _ _ _) λR=>NY _ _ _) λm=>Uh λs0 R q B=>?_;have q:A3 L s0 (B4 s::R) d:=q;unfold firstM Eh;rw[Ad (by rw[HR q];exact(by decide:¬(1:Int)=3)),CH q,CH q,CH q,CH q,CH q,NY,NY,NY,NY,NY,Ad (by decide),Ad (by decide),Ad (by decide),Ad (by decide),Ad (by decide),Nr q (k:=1) rfl];exact⟨by rw[DO,Dl,Es q];rfl,Cn q⟩
 ·obtain⟨a,rfl,M⟩:=Kg (c:=101) w3 (by decide) (by decide);obtain rfl:=DZ hn (by decide) (by decide) (by decide) (by decide);unfold Cv at V;rw[Cc]at U;obtain⟨b,C,B⟩:=Qv (L:=L) ((U a (by omega)).1 M) M V.1;have B:Fz b L (d+0) _ a:=B;rw[Int.add_zero]at B;have C:(5:Int)<=b:=C;obtain⟨h5,r5⟩:=B.l5 C;show Fz _ L d (kq (BL 30 s [a] 0) 0++([AF 46]++[B4 s])) _;rw[G8];exact N9 (tK h5) λm=>Ak1 (r5 m)
 ·obtain⟨a,e,rfl,M,he⟩:=Ou (c:=101) (d:=101) w3 (by decide) (by decide) (by decide) (by decide);obtain rfl:=GR O (by omega);obtain rfl:=DZ hn (by decide) (by decide) (by decide) (by decide);unfold Cv at V;obtain⟨aa,W⟩:=V;unfold Cv at W;rw[Cc,Cc]at U;obtain⟨b,C,B⟩:=Qv (L:=L) ((U a (by omega)).1 M) M aa;have B:Fz b L (d+0) _ a:=B;rw[Int.add_zero]at B;have C:(5:Int)<=b:=C;obtain⟨h5,r5⟩:=B.l5 C;obtain⟨b2,K,J⟩:=Qv (L:=L) ((U e (by omega)).1 he) he W.1;have J:Fz b2 L (d+1) _ e:=J;have hd:d<64:=by have h1:d+EB 31 [] 1 e<=64:=WU W.1;have h2:=kJ (k:=31) (s:=[]) (i:=1) (y:=e) (.inl ⟨rfl,rfl⟩);omega
  show Fz _ L d (kq (BL 31 [] [a,e] 0) 0++([AF 91]++(kq (BL 31 [] [a,e] 0) 1++[AF 93]))) _;rw[G8,N6];exact N9 (tK h5) λm=>Ak2 hd (r5 m) J.l1
 ·obtain⟨a,e,rfl,M,he⟩:=Ou (c:=101) (d:=101) w3 (by decide) (by decide) (by decide) (by decide);obtain rfl:=DZ hn (by decide) (by decide) (by decide) (by decide);unfold Cv at V;obtain⟨aa,W⟩:=V;unfold Cv at W;rw[Cc,Cc]at U;obtain⟨b,C,B⟩:=Qv (L:=L) ((U a (by omega)).1 M) M aa;have B:Fz b L (d+0) _ a:=B;rw[Int.add_zero]at B;obtain⟨b2,K,J⟩:=Qv (L:=L) ((U e (by omega)).1 he) he W.1;have J:Fz b2 L (d+0) _ e:=J;rw[Int.add_zero]at J;have ho:QK s=true:=O;unfold QK at ho;have ho:=Bt ho;show Fz (C7 32 s) L d (kq (BL 32 s [a,e] 0) 0++([]++([(4,s,0)]++([]++kq (BL 32 s [a,e] 0) 1)))) _;rw[G8,N6,Ei,Ei];generalize BR (BC 32 s 0 a) (AR a)=qa at*;generalize BR (BC 32 s 1 e) (AR e)=qb at*;by_cases g1:s=[60]\/s=[61,61]
  ·have C:(2:Int)<=b:=by rcases g1 with rfl|rfl<;>exact C
   have K:(2:Int)<=b2:=by rcases g1 with rfl|rfl<;>exact K
   refine AeF (by rcases g1 with rfl|rfl<;>decide) λm s0 R q Y hR=>?_;have q:A3 L s0 (qa++((4,s,0)::(qb++R))) d:=by have:=q;simp only[A7,List.cons_append,Ei]at this;exact this
   simp only[AK,AE,List.length_nil]at Y;have ga:=g2 (B.l2 C m) s0 _ q (by simp only[AK,AE];omega) (AcE g1);have E:=Cn ga.st;have gb:=g2 (J.l2 K m) _ R E (by simp only[AK];omega) hR.toF2;show Db L (LJ (F6 (Mr m) [Ip,Ir]) L s0) _ R d;unfold LJ;rw[Am (by simp only[List.any_cons,List.any_nil,Bool.or_false];rw[CH ga.st,CH ga.st,Jp,Jp];rcases g1 with rfl|rfl<;>decide)];unfold Ht;exact⟨by rw[DO,Dl,Es ga.st,Bm,Bm,Bm,Bm,ga.x,gb.x];rfl,gb.st⟩
  by_cases g2:s=[43]\/s=[45]
  ·have C:(2:Int)<=b:=by rcases g2 with rfl|rfl<;>exact C
   have K:(3:Int)<=b2:=by rcases g2 with rfl|rfl<;>exact K
   refine AeG (by rcases g2 with rfl|rfl<;>decide) λm s0 R q Y hR=>?_;have q:A3 L s0 (qa++((4,s,0)::(qb++R))) d:=by have:=q;simp only[A7,List.cons_append,Ei]at this;exact this
   have Z:=Ow q;simp only[AK,AE,List.length_nil]at Y Z;obtain⟨k,y,s',hk,e1,ab,st⟩:=B.l2 C m s0 _ q (by simp only[AK,AE];omega) (AcC g2);have E:=Cn st;have gb:=g3 (J.l3 K m) _ R E (by simp only[AK];omega) hR;obtain⟨t1,t2,t3⟩:=yx (l:=l) (c:=c) (k:=k) (by unfold B3;omega) (ws:=[Ip,Ir]) (by simp only[List.any_cons,List.any_nil,Bool.or_false];rw[Jp,Jp];rcases g2 with rfl|rfl<;>decide) ab st gb;exact⟨k+1,_,_,by simp only[AK,AE,List.length_nil];omega,e1.trans t1,t2,t3⟩
  have ag:s=[42]:=by
   rcases ho with h|h|h|h|h
   ·exact absurd (.inl h) g2
   ·exact absurd (.inr h) g2
   ·exact h
   ·exact absurd (.inl h) g1
   ·exact absurd (.inr h) g1
  subst ag;have C:(3:Int)<=b:=C;have K:(4:Int)<=b2:=K;refine AeH (by decide) λm s0 R q Y hR=>?_;have q:A3 L s0 (qa++((4,[42],0)::(qb++R))) d:=by have:=q;simp only[A7,List.cons_append,Ei]at this;exact this
  have Z:=Ow q;simp only[AK,AE,List.length_nil]at Y Z;obtain⟨k,y,s',hk,e1,ab,st⟩:=B.l3 C m s0 _ q (by simp only[AK,AE];omega) AcD;have E:=Cn st;have gb:=J.l4 K m _ R E (by simp only[AK];omega) hR;obtain⟨t1,t2,t3⟩:=yx (l:=l) (c:=c) (k:=k) (by unfold B3;omega) (ws:=[IL]) (by simp only[List.any_cons,List.any_nil,Bool.or_false];rw[Jp];decide) ab st gb;exact⟨k+1,_,_,by simp only[AK,AE,List.length_nil];omega,e1.trans t1,t2,t3⟩
 ·obtain rfl:=S rfl;obtain rfl:=DZ hn (by decide) (by decide) (by decide) (by decide);show Fz _ L d ([Az LN]++[B4 s]) _;refine N9 (SF (λR=>by rw[DG];decide) λR=>by rw[DG];decide) λm=>Uh λs0 R q B=>?_;have q:A3 L s0 (Az LN::B4 s::R) d:=q;have E:=Cn q;unfold firstM;rw[Ad (by rw[HR q];exact(by decide:¬(2:Int)=3)),CH q,CH q,CH q,DG,DG,DG,Ad (by decide),Ad (by decide),Am (by decide),Nr E (k:=1) rfl];exact⟨by rw[DO,Dl,Es E];rfl,Cn E⟩
 ·obtain⟨a,rfl,M⟩:=Kg (c:=101) w3 (by decide) (by decide);obtain rfl:=GR O (by omega);obtain rfl:=DZ hn (by decide) (by decide) (by decide) (by decide);unfold Cv at V;rw[Cc]at U;obtain⟨b,C,B⟩:=Qv (L:=L) ((U a (by omega)).1 M) M V.1;have B:Fz b L (d+1) _ a:=B;have C:(4:Int)<=b:=C;have hd:d<64:=by have h1:=WU V.1;have h2:=kJ (k:=34) (s:=[]) (i:=0) (y:=a) (.inr (.inl rfl));omega
  show Fz _ L d ([Az LL]++kq (BL 34 [] [a] 0) 0) _;rw[G8];exact vH (show(4:Int)<5 by decide) λm=>yy (.inr ⟨rfl,rfl⟩) hd (B.l4 C) m
 ·obtain⟨a,rfl,M⟩:=Kg (c:=101) w3 (by decide) (by decide);obtain rfl:=GR O (by omega);obtain rfl:=DZ hn (by decide) (by decide) (by decide) (by decide);unfold Cv at V;rw[Cc]at U;obtain⟨b,C,B⟩:=Qv (L:=L) ((U a (by omega)).1 M) M V.1;have B:Fz b L (d+1) _ a:=B;have C:(4:Int)<=b:=C;have hd:d<64:=by have h1:=WU V.1;have h2:=kJ (k:=35) (s:=[]) (i:=0) (y:=a) (.inr (.inr rfl));omega
  show Fz _ L d ([Az LM]++kq (BL 35 [] [a] 0) 0) _;rw[G8];exact vH (show(4:Int)<5 by decide) λm=>yy (.inl ⟨rfl,rfl⟩) hd (B.l4 C) m
 ·obtain⟨a,rfl,M⟩:=Kg (c:=98) w3 (by decide) (by decide);have M:a.kind=12:=by have:decide (a.kind=12)=true:=M;exact Bt this
  obtain rfl:=GR O (by omega);obtain rfl:=DZ hn (by decide) (by decide) (by decide) (by decide);unfold Cv at V;rw[Cc]at U;have af:=(U a (by omega)).2 M;have ad:=V.1;rw[v9 M (by decide)]at ad;have ae:BC 36 [] 0 a=false:=S5 (by rw[M];decide);show Fz _ L d ([Az Iq]++kq (BL 36 [] [a] 0) 0) _;rw[G8,Oe ae];refine N9 (SF (λR=>by rw[DG];decide) λR=>by rw[DG];decide) λm=>Uh λs0 R q B=>?_;have q:A3 L s0 (Az Iq::(AR a++R)) d:=q;have E:=Cn q;have g:=af m L _ R d ad E (by simp only[AK,AE,List.length_nil]at B⊢;omega);unfold firstM;rw[Ad (by rw[HR q];exact(by decide:¬(2:Int)=3)),CH q,CH q,CH q,CH q,DG,DG,DG,DG,Ad (by decide),Ad (by decide),Ad (by decide),Am (by decide),cH E];exact⟨by rw[DO,Dl,Bm,Bm,g.x],g.st⟩
end Go.Proofs.YtlmmbanfhjaioaaGreatDoor
end
end
