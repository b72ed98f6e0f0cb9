/- Laid by program out of its parts: PgP, PgQ, PgR, PgS. -/
import Derived.Test.YtlmmbanfhjaioaaGreatDoorPg4
set_option linter.unusedVariables false
set_option linter.unusedSimpArgs false
section
set_option maxRecDepth 100000
set_option maxHeartbeats 4000000
open Go Go.Ev
namespace Go.Proofs.YtlmmbanfhjaioaaGreatDoor
def TH (q:List Sp):Prop:=∃h t,q=h::t/\(h.1=1\/h.1=3\/h=Az Ko\/h=Az K8\/h=Az LN\/h=Az Iq\/h=Az LL\/h=Az LM\/h=AF 40)
def eu (x:PT):Prop:=∀(m:Nat) (L:Ab) (s:RS) (R:List Sp) (d:Int),B9 x d->A3 L s (AR x++R) d->(AR x++R).length<=m->CT IJ R=false->Db L (JL (lv m) L s) x R d
theorem nC {q t:List Sp} (h:TH q):TH (q++t):=by obtain⟨a,r,rfl,h⟩:=h;exact⟨a,r++t,rfl,h⟩
theorem nD {b:Bool} {q:List Sp} (h:TH q):TH (BR b q):=by
 unfold BR;split
 ·exact⟨AF 40,_,rfl,by simp⟩
 ·exact h
theorem yu:∀(N:Nat) (x:PT) (d:Int),sz x<=N->B0 x.kind=true->B9 x d->TH (AR x):=by
 intro N
 induction N with
 |zero=>intro x d h;have:=F9 x;omega
 |succ N E=>
  intro x d hz ht C;obtain⟨k,s,n,l,c,ks⟩:=x;rw[Im]at hz;unfold B9 at C;obtain⟨M,L,y,B⟩:=C;rw[K5];have K:26<=k/\k<=36:=by have:B0 k=true:=ht;unfold B0 at this;simpa using this
  have J:k=26\/k=27\/k=28\/k=29\/k=30\/k=31\/k=32\/k=33\/k=34\/k=35\/k=36:=by omega
  have H9:∀(a:PT) (t:Av),ks=a::t->B0 a.kind=true->TH (kq (BL k s ks 0) 0):=λa t e q=>by subst e;unfold Cv at B;rw[Cc]at hz;rw[G8];exact nD (E a _ (by omega) q B.1)
  rcases J with rfl|rfl|rfl|rfl|rfl|rfl|rfl|rfl|rfl|rfl|rfl
  ·exact⟨Ka n,[],rfl,.inr (.inl rfl)⟩
  ·exact⟨Az Ko,[],rfl,by simp⟩
  ·exact⟨Az K8,[],rfl,by simp⟩
  ·exact⟨B4 s,[],rfl,.inl rfl⟩
  ·obtain⟨a,e,q⟩:=Kg (c:=101) y (by decide) (by decide);exact nC (H9 a [] e q)
  ·obtain⟨a,b,e,q,_⟩:=Ou (c:=101) (d:=101) y (by decide) (by decide) (by decide) (by decide);exact nC (H9 a [b] e q)
  ·obtain⟨a,b,e,q,_⟩:=Ou (c:=101) (d:=101) y (by decide) (by decide) (by decide) (by decide);exact nC (H9 a [b] e q)
  ·exact⟨Az LN,_,rfl,by simp⟩
  ·exact⟨Az LL,_,rfl,by simp⟩
  ·exact⟨Az LM,_,rfl,by simp⟩
  ·exact⟨Az Iq,_,rfl,by simp⟩
theorem N0 {w:Ac} {q:Sp} {R:List Sp} (h:q.1≠Fl w):CT w (q::R)=false:=by show(decide (q.1=Fl w)&&_)=false;rw[Ej h];rfl
theorem yr {q:List Sp} (h:TH q) {w:Ac} (y:w≠Ko/\w≠K8/\w≠LN/\w≠Iq/\w≠LL/\w≠LM/\w≠[40]) (R:List Sp):CT w (q++R)=false:=by
 obtain⟨a,t,rfl,h⟩:=h;rw[List.cons_append];rcases h with h|h|rfl|rfl|rfl|rfl|rfl|rfl|rfl
 ·exact N0 (by rw[h];rcases YN (w:=w)with e|e<;>omega)
 ·exact N0 (by rw[h];rcases YN (w:=w)with e|e<;>omega)
 ·rw[DG,Ej (p:=Ko=w) λe=>y.1 e.symm,Bool.and_false]
 ·rw[DG,Ej (p:=K8=w) λe=>y.2.1 e.symm,Bool.and_false]
 ·rw[DG,Ej (p:=LN=w) λe=>y.2.2.1 e.symm,Bool.and_false]
 ·rw[DG,Ej (p:=Iq=w) λe=>y.2.2.2.1 e.symm,Bool.and_false]
 ·rw[DG,Ej (p:=LL=w) λe=>y.2.2.2.2.1 e.symm,Bool.and_false]
 ·rw[DG,Ej (p:=LM=w) λe=>y.2.2.2.2.2.1 e.symm,Bool.and_false]
 ·rw[Dd,Ej (p:=[40]=w) λe=>y.2.2.2.2.2.2 e.symm,Bool.and_false]
theorem MS {c:UInt8} (hc:c=59\/c=123\/c=125\/c=41\/c=93\/c=61) (R:List Sp):F1 (AF c::R):=by rcases hc with rfl|rfl|rfl|rfl|rfl|rfl<;>exact⟨⟨⟨⟨by rw[Dd];decide,by rw[Dd];decide⟩,by rw[Dd];decide⟩,by rw[Dd];decide,by rw[Dd];decide⟩,by rw[Dd];decide,by rw[Dd];decide⟩
theorem Ys {q:Sp} (h:q.1≠4) (R:List Sp):F1 (q::R):=⟨⟨⟨⟨N0 h,N0 h⟩,N0 h⟩,N0 h,N0 h⟩,N0 h,N0 h⟩
theorem vb {k:Int} {s:Ac} {i:Nat} {y:PT} (h:B0 y.kind=true) (B:Fo k s i<=0) (q:¬(k=31/\i=1\/k=34\/k=35)):EB k s i y=0:=by unfold EB;rw[Ad (ym h),Ad q,Ad λg=>by have:=g.1;have:=g.2;omega];rfl
theorem Rj {k:Int} {s:Ac} {i:Nat} {y:PT} {d:Int} {L:Ab} {s0:RS} {R:List Sp} {m:Nat} (hy:OK y) (ht:B0 y.kind=true) (C:Fo k s i<=0) (J:¬(k=31/\i=1\/k=34\/k=35)) (q:B9 y (d+EB k s i y)) (B:A3 L s0 (BR (BC k s i y) (AR y)++R) d) (E:(BR (BC k s i y) (AR y)++R).length<=m) (K:F1 R):Db L (EV (lv m) L s0) y R d:=by rw[vb ht C J,Int.add_zero]at q;rw[Oe (kj C)]at B E;exact(hy d L q).l1 m s0 R B E K
theorem nN {k:Int} {s:Ac} {i:Nat} {y:PT} {d:Int} {L:Ab} {s0:RS} {R:List Sp} {m:Nat} (hy:OK y) (hv:K7 y.kind=true) (C:Fo k s i<=0) (M:¬(k=31/\i=1\/k=34\/k=35)) (q:B9 y (d+EB k s i y)) (B:A3 L s0 (BR (BC k s i y) (AR y)++R) d) (E:(BR (BC k s i y) (AR y)++R).length<=m) (J:F1 R):Db L (Io (lv m) L s0) y R d:=by
 have hv:y.kind=29\/y.kind=30\/y.kind=31:=by unfold K7 at hv;exact Bt hv
 have ht:B0 y.kind=true:=by unfold B0;exact Bi (by omega)
 rw[vb ht C M,Int.add_zero]at q;rw[Oe (kj C)]at B E;have O:5<=C7 y.kind y.text:=by unfold C7;rw[Am ht,Ad (by omega),Ad (by omega)];decide
 obtain⟨_,K⟩:=(hy d L q).l5 O;obtain⟨j,z,s',_,e,hn,st⟩:=K m s0 R B E;have S:Nt (lv m) L s0=(z,s'):=by show EW _ _ _ _ _=_;rw[e];exact yw (by rw[CH st];exact J.a) (by rw[CH st];exact J.b) _
 have hz:=(AeZ hn).1;unfold Io OA;rw[S];rw[Ad λg=>by have:=g.2;simp only at this;omega];exact⟨hn,st⟩
theorem nM {k:Int} {s:Ac} {i:Nat} {y:PT} {d M:Int} {L:Ab} {s0:RS} {R:List Sp} (hy:y.kind=5) (E:B9 y M) (q:A3 L s0 (BR (BC k s i y) (AR y)++R) d):Db L (Eg L s0) y R d/\BR (BC k s i y) (AR y)=[Nw y.text]:=by
 rw[Oe (S5 (by rw[hy];decide))]at q⊢;obtain⟨K,s',n,l,c,ks⟩:=y;obtain rfl:K=5:=hy;unfold B9 at E;obtain⟨_,C,J,_⟩:=E;obtain rfl:ks=[]:=List.map_eq_nil_iff.1 (Mb J);obtain rfl:=DZ C.2.2 (by decide) (by decide) (by decide) (by decide);have e:AR (.mk 5 s' 0 l c [])=[Nw s']:=by rw[K5];rfl
 rw[e]at q⊢;refine⟨?_,rfl⟩;have q:A3 L s0 (Nw s'::R) d:=q;unfold Eg;have ht:Jg s'=true:=C.2.1;unfold Jg at ht;rcases Bool.or_eq_true _ _▸ht with g|g
 ·have B:Nw s'=Az s':=by unfold Nw;rw[Am (by rcases Bt g with rfl|rfl|rfl|rfl|rfl<;>decide+kernel)]
  rw[B]at q;rw[Ad (by rw[HR q];exact(by decide:¬(2:Int)=1))];have eo:Aq L s0 LO=(Ar L s0,Au s0):=by
   unfold Aq FI;rw[show As L s0=λw=>CT w (Az s'::R)from funext λw=>CH q w,Am]
   ·rfl
   ·show(LO.any λw=>CT w (Az s'::R))=true;rw[show(λw=>CT w (Az s'::R))=λw=>(decide ((2:Int)=Fl w)&&decide (s'=w))from rfl];rcases Bt g with rfl|rfl|rfl|rfl|rfl<;>decide
  rw[eo];exact⟨by rw[DO,Dl,Es q];rfl,Cn q⟩
 ·have B:Nw s'=B4 s':=by unfold Nw;rw[Ad (by rw[(kK g).2.2.2.2];simp)]
  rw[B]at q;rw[Am (show(Ar L s0).kind=1 from HR q)];exact⟨by rw[DO,Dl,Es q];rfl,Cn q⟩
theorem P3 {k:Int} {s:Ac} {i:Nat} {y:PT} {d:Int} {L:Ab} {s0:RS} {R:List Sp} {n:Nat} (hy:PM y) (ht:y.kind=12) (E:¬(k=31/\i=1\/k=34\/k=35)) (q:B9 y (d+EB k s i y)) (B:A3 L s0 (BR (BC k s i y) (AR y)++R) d) (C:(BR (BC k s i y) (AR y)++R).length<n):Db L ((lv n).b L s0) y R d:=by rw[v9 ht E]at q;rw[Oe (S5 (by rw[ht];decide))]at B C;exact hy n L s0 R d q B C
theorem ou {y:PT} (h:y.kind=12):∃t,AR y=AF 123::t:=by obtain⟨k,s,n,l,c,ks⟩:=y;obtain rfl:k=12:=h;exact⟨_,by rw[K5];rfl⟩
theorem Ug {L:Ab} {r:PT×RS} {x:PT} {R:List Sp} {d:Int} (h:Db L r x (AF 59::R) d):Db L (Cz L r) x R d:=by unfold Cz;rw[IH h.st (by rw[Dd];decide)];exact⟨h.x,Cn h.st⟩
theorem Agm {Se:Ab->TK->PF} {Br Po T:Ab->PF} {L:Ab} {s:RS} (h:(Ar L s).kind=2) (ht:(Ar L s).text=Gu):BZ Se Br Po T L s=Br L s:=by unfold BZ;rw[Ad (by rw[h];decide),ht,Am rfl]
theorem Ags {Se:Ab->TK->PF} {Br Po T:Ab->PF} {L:Ab} {s:RS} (h:(Ar L s).kind=2) (ht:(Ar L s).text=Fe):BZ Se Br Po T L s=Br L s:=by unfold BZ;rw[Ad (by rw[h];decide),ht,Ad (by decide),Am rfl]
theorem Agr {Se:Ab->TK->PF} {Br Po T:Ab->PF} {L:Ab} {s:RS} (h:(Ar L s).kind=2) (ht:(Ar L s).text=EX):BZ Se Br Po T L s=Cz L (OB T L (Ar L s) (A6 L (Au s) 1)):=by unfold BZ;rw[Ad (by rw[h];decide),ht,Ad (by decide),Ad (by decide),Am rfl]
theorem Ago {Se:Ab->TK->PF} {Br Po T:Ab->PF} {L:Ab} {s:RS} {k:Int} (h:(Ar L s).kind=2) (ht:(Ar L s).text=Ga/\k=15\/(Ar L s).text=Gb/\k=16\/(Ar L s).text=Gc/\k=17\/(Ar L s).text=Gd/\k=18):BZ Se Br Po T L s=Cz L (Hs T L k (Ar L s) (Au s)):=by
 unfold BZ;rw[Ad (by rw[h];decide)];rcases ht with⟨ht,rfl⟩|⟨ht,rfl⟩|⟨ht,rfl⟩|⟨ht,rfl⟩
 ·rw[ht,Ad (by decide),Ad (by decide),Ad (by decide),Am rfl]
 ·rw[ht,Ad (by decide),Ad (by decide),Ad (by decide),Ad (by decide),Am rfl]
 ·rw[ht,Ad (by decide),Ad (by decide),Ad (by decide),Ad (by decide),Ad (by decide),Am rfl]
 ·rw[ht,Ad (by decide),Ad (by decide),Ad (by decide),Ad (by decide),Ad (by decide),Ad (by decide),Am rfl]
theorem xC {Se:Ab->TK->PF} {Br Po T:Ab->PF} {L:Ab} {s:RS} (h:(Ar L s).kind=2) (ht:(Ar L s).text=FK\/(Ar L s).text=Gv):BZ Se Br Po T L s=Cz L (Po L s):=by
 unfold BZ;rw[Ad (by rw[h];decide)];rcases ht with ht|ht
 ·rw[ht,Ad (by decide),Ad (by decide),Ad (by decide),Ad (by decide),Ad (by decide),Ad (by decide),Ad (by decide),Am rfl]
 ·rw[ht,Ad (by decide),Ad (by decide),Ad (by decide),Ad (by decide),Ad (by decide),Ad (by decide),Ad (by decide),Ad (by decide),Am rfl]
theorem Agn {Se:Ab->TK->PF} {Br Po T:Ab->PF} {L:Ab} {s:RS} {k:Int} (h:(Ar L s).kind=2) (ht:(Ar L s).text=GY/\k=21\/(Ar L s).text=GX/\k=22):BZ Se Br Po T L s=Cz L (J9 L k (Ar L s) (Au s)):=by
 unfold BZ;rw[Ad (by rw[h];decide)];rcases ht with⟨ht,rfl⟩|⟨ht,rfl⟩
 ·rw[ht,Ad (by decide),Ad (by decide),Ad (by decide),Ad (by decide),Ad (by decide),Ad (by decide),Ad (by decide),Ad (by decide),Ad (by decide),Am rfl]
 ·rw[ht,Ad (by decide),Ad (by decide),Ad (by decide),Ad (by decide),Ad (by decide),Ad (by decide),Ad (by decide),Ad (by decide),Ad (by decide),Ad (by decide),Am rfl]
theorem Agp {Se:Ab->TK->PF} {Br Po T:Ab->PF} {L:Ab} {s:RS} (h:(Ar L s).kind=2) (ht:(Ar L s).text=Hg):BZ Se Br Po T L s=Cz L (nd 25 [] 0 (Ar L s) [],Au s):=by unfold BZ;rw[Ad (by rw[h];decide),ht,Ad (by decide),Ad (by decide),Ad (by decide),Ad (by decide),Ad (by decide),Ad (by decide),Ad (by decide),Ad (by decide),Ad (by decide),Ad (by decide),Ad (by decide),Am rfl]
theorem Agq {Se:Ab->TK->PF} {Br Po T:Ab->PF} {L:Ab} {s:RS} {q R:List Sp} {d:Int} (C:A3 L s (q++R) d) (J:TH q):BZ Se Br Po T L s=Se L (Ar L s) s:=by
 obtain⟨a,t,rfl,h⟩:=J;have B:=HR C;have ht:=Es C;have B:(Ar L s).kind=a.1:=B;have ht:(Ar L s).text=a.2.1:=ht;unfold BZ;by_cases g:(Ar L s).kind≠2
 ·rw[Am g]
 ·rw[Ad g,ht];rw[B]at g;have y:∀w,w=Ko\/w=K8\/w=LN\/w=Iq\/w=LL\/w=LM->a=Az w->(if a.2.1=Gu then Br L s else if a.2.1=Fe then Br L s else if a.2.1=EX then Cz L (OB T L (Ar L s) (A6 L (Au s) 1))else if a.2.1=Ga then Cz L (Hs T L 15 (Ar L s) (Au s))else if a.2.1=Gb then Cz L (Hs T L 16 (Ar L s) (Au s))else if a.2.1=Gc then Cz L (Hs T L 17 (Ar L s) (Au s))else if a.2.1=Gd then Cz L (Hs T L 18 (Ar L s) (Au s))else if a.2.1=FK then Cz L (Po L s)else if a.2.1=Gv then Cz L (Po L s)else if a.2.1=GY then Cz L (J9 L 21 (Ar L s) (Au s))else if a.2.1=GX then Cz L (J9 L 22 (Ar L s) (Au s))else if a.2.1=Hg then Cz L (nd 25 [] 0 (Ar L s) [],Au s)else Se L (Ar L s) s)=Se L (Ar L s) s:=by rintro w E rfl;show(if w=Gu then _ else if w=Fe then _ else if w=EX then _ else if w=Ga then _ else if w=Gb then _ else if w=Gc then _ else if w=Gd then _ else if w=FK then _ else if w=Gv then _ else if w=GY then _ else if w=GX then _ else if w=Hg then _ else _)=_;rcases E with rfl|rfl|rfl|rfl|rfl|rfl<;>rw[Ad (by decide),Ad (by decide),Ad (by decide),Ad (by decide),Ad (by decide),Ad (by decide),Ad (by decide),Ad (by decide),Ad (by decide),Ad (by decide),Ad (by decide),Ad (by decide)]
  rcases h with h|h|h|h|h|h|h|h|rfl
  ·exact absurd (by rw[h];decide) g
  ·exact absurd (by rw[h];decide) g
  ·exact y _ (by simp) h
  ·exact y _ (by simp) h
  ·exact y _ (by simp) h
  ·exact y _ (by simp) h
  ·exact y _ (by simp) h
  ·exact y _ (by simp) h
  ·exact absurd (show(4:Int)≠2 by decide) g
theorem Z1 {V:Ab->PF} {L:Ab} {k n l c:Int} {s:Ac} {t:TK} {y e:PT} {q:List Sp} {v:Av} {s0:RS} {R:List Sp} {d:Int} (hy:Bc y=Bc e) (h:v=[]/\q=[]\/∃z r,v=[z]/\q=Az Kq::r/\∀C,A3 L C (r++(AF 59::R)) d->Db L (V L C) z (AF 59::R) d) (B:A3 L s0 (q++(AF 59::R)) d):Db L (JN V L k s n t y s0) (.mk k s n l c (e::v)) (AF 59::R) d:=by
 unfold JN;rcases h with⟨rfl,rfl⟩|⟨z,r,rfl,rfl,hz⟩
 ·rw[Ad (by rw[CH B];show¬CT Kq (AF 59::R)=true;rw[Dd];decide)];exact⟨by rw[DO,Dl,Bm,Bm,hy],B⟩
 ·have B:A3 L s0 (Az Kq::(r++(AF 59::R))) d:=B;rw[Am (by rw[CH B,DG];decide)];have g:=hz _ (Cn B);exact⟨by rw[DO,Dl,Bm,Bm,Bm,Bm,hy,g.x],g.st⟩
theorem VL (k:Int) (s:Ac):∀(ks:Av) (i:Nat),(BL k s ks i).length=ks.length
 | [],_=>by unfold BL;rfl
 |y::q,i=>by unfold BL;rw[AE,AE,VL]
theorem J8 {k:Int} {s:Ac} {i:Int} (h:k<=25):Fo k s i<=0:=by unfold Fo;rw[Ad (by omega),Ad (by omega),Ad (by omega),Ad (by omega)];exact JU 0
theorem AkD {x:PT} (S:∀y:PT,sz y<sz x->(B0 y.kind=true->OK y)/\(y.kind=12->PM y)) (hk:13<=x.kind/\x.kind<=25):eu x:=by
 obtain⟨k,s,n,l,c,ks⟩:=x;intro m L s0 R d hw B K hE;rw[Im]at S;unfold B9 at hw;obtain⟨w1,w2,w3,Z⟩:=hw;rw[K5]at B K;have hn:=w2.2.2;have U:=w2.2.1;have hk:13<=k/\k<=25:=hk;have ad:BO k=[]->ks=[]:=λe=>by rw[e]at w3;exact List.map_eq_nil_iff.1 (Mb w3)
 have i5:∀ {y:PT},BQ (121:Int) y.kind=true->y.kind=5:=λ{y} h=>Bt (show decide (y.kind=5)=true from h);have ah:∀ {y:PT},BQ (98:Int) y.kind=true->y.kind=12:=λ{y} h=>Bt (show decide (y.kind=12)=true from h);have one:∀(v:Ac) (a:PT),ks=[a]->B0 a.kind=true->s=[]->n=0->Fo k s ((0:Nat):Int)<=0->(v=Ga/\k=15\/v=Gb/\k=16\/v=Gc/\k=17\/v=Gd/\k=18)->H3 k s n (E6 ks) (BL k s ks 0)=[Az v]++(kq (BL k s ks 0) 0++[AF 59])->Db L (JL (lv m) L s0) (.mk k s n l c ks) R d:=by
  intro v a e E es en au hv eq;subst e;subst es;subst en;rw[eq,G8]at B K;have B:A3 L s0 (Az v::(BR (BC k [] 0 a) (AR a)++(AF 59::R))) d:=by have:=B;simp only[A7,List.cons_append,Ei]at this;exact this
  simp only[AK,AE,List.length_nil]at K;unfold Cv at Z;rw[Cc]at S;have g:=Rj (m:=m) ((S a (by omega)).1 E) E au (by omega) Z.1 (Cn B) (by simp only[AK,AE];omega) (MS (by simp) _);show Db L (BZ _ _ _ _ L s0) _ R d;rw[Ago (k:=k) (HR B) (by rw[Es B];exact hv)];refine Ug ?_;unfold Hs;exact⟨by rw[DO,Dl,Bm,Bm,g.x],g.st⟩
 have nm:∀(v:Ac),ks=[]->n=0->(v=GY/\k=21\/v=GX/\k=22)->H3 k s n (E6 ks) (BL k s ks 0)=[Az v]++([B4 s]++[AF 59])->Db L (JL (lv m) L s0) (.mk k s n l c ks) R d:=by intro v e en hv eq;subst e;subst en;rw[eq]at B K;have B:A3 L s0 (Az v::B4 s::AF 59::R) d:=B;have C:=Cn B;show Db L (BZ _ _ _ _ L s0) _ R d;rw[Agn (k:=k) (HR B) (by rw[Es B];exact hv)];refine Ug ?_;unfold J9;rw[Nr C (k:=1) rfl];exact⟨by rw[DO,Dl,Es C];rfl,Cn C⟩
 have hk:k=13\/k=14\/k=15\/k=16\/k=17\/k=18\/k=19\/k=20\/k=21\/k=22\/k=23\/k=24\/k=25:=by omega
 rcases hk with rfl|rfl|rfl|rfl|rfl|rfl|rfl|rfl|rfl|rfl|rfl|rfl|rfl
 ·obtain⟨a,e,rfl,E,he⟩:=Ou (c:=121) (d:=101) w3 (by decide) (by decide) (by decide) (by decide);obtain rfl:=DZ hn (by decide) (by decide) (by decide) (by decide);have E:=i5 E;unfold Cv at Z;obtain⟨W,J⟩:=Z;unfold Cv at J;rw[Cc,Cc]at S;have eq:H3 13 s 0 (E6 [a,e]) (BL 13 s [a,e] 0)=[Az EX]++([B4 s]++([]++(kq (BL 13 s [a,e] 0) 0++([AF 61]++(kq (BL 13 s [a,e] 0) 1++[AF 59]))))):=rfl;rw[eq,G8,N6]at B K;have B:A3 L s0 (Az EX::B4 s::(BR (BC 13 s 0 a) (AR a)++(AF 61::(BR (BC 13 s 1 e) (AR e)++(AF 59::R))))) d:=by have:=B;simp only[A7,List.cons_append,Ei]at this;exact this
  simp only[AK,AE,List.length_nil]at K;have C:=Cn B;have s2:=Cn C;obtain⟨gy,_⟩:=nM E W s2;have s3:=Cn gy.st;have ge:=Rj (k:=13) (s:=s) (i:=1) (m:=m) ((S e (by omega)).1 he) he (J8 (by decide)) (by decide) J.1 s3 (by simp only[AK,AE];omega) (MS (by simp) _);show Db L (BZ _ _ _ _ L s0) _ R d;rw[Agr (HR B) (Es B)];refine Ug ?_;unfold OB;rw[Nr C (k:=1) rfl];dsimp only
  rw[IH gy.st (by rw[Dd];decide)];exact⟨by rw[DO,Dl,Es C,Bm,Bm,Bm,Bm,gy.x,ge.x];rfl,ge.st⟩
 ·obtain⟨a,e,rfl,E,he⟩:=Ou (c:=118) (d:=101) w3 (by decide) (by decide) (by decide) (by decide);obtain rfl:=GR U (by omega);obtain rfl:=DZ hn (by decide) (by decide) (by decide) (by decide);have hv:K7 a.kind=true:=E;have ao:B0 a.kind=true:=by unfold K7 at hv;have:=Bt hv;unfold B0;exact Bi (by omega)
  unfold Cv at Z;obtain⟨W,J⟩:=Z;unfold Cv at J;rw[Cc,Cc]at S;have eq:H3 14 [] 0 (E6 [a,e]) (BL 14 [] [a,e] 0)=kq (BL 14 [] [a,e] 0) 0++([AF 61]++(kq (BL 14 [] [a,e] 0) 1++[AF 59])):=rfl;rw[eq,G8,N6]at B K;have B:A3 L s0 (BR (BC 14 [] 0 a) (AR a)++(AF 61::(BR (BC 14 [] 1 e) (AR e)++(AF 59::R)))) d:=by have:=B;simp only[A7,List.cons_append,Ei]at this;exact this
  simp only[AK,AE,List.length_nil]at K;have aq:TH (BR (BC 14 [] 0 a) (AR a)):=nD (yu _ a _ (AM _) ao W);have O:=nN (k:=14) (s:=[]) (i:=0) (m:=m) ((S a (by omega)).1 ao) hv (J8 (by decide)) (by decide) W B (by simp only[AK,AE];omega) (MS (by simp) _);have C:=Cn O.st;have ge:=Rj (k:=14) (s:=[]) (i:=1) (m:=m) ((S e (by omega)).1 he) he (J8 (by decide)) (by decide) J.1 C (by simp only[AK,AE];omega) (MS (by simp) _);show Db L (BZ _ _ _ _ L s0) _ R d;rw[Agq B aq];unfold LH;rw[IH O.st (by rw[Dd];decide)];dsimp only
  rw[IH ge.st (by rw[Dd];decide)];exact⟨by rw[DO,Dl,Bm,Bm,Bm,Bm,O.x,ge.x],Cn ge.st⟩
 ·obtain⟨a,e,E⟩:=Kg (c:=101) w3 (by decide) (by decide);exact one Ga a e E (GR U (by omega)) (DZ hn (by decide) (by decide) (by decide) (by decide)) (J8 (by decide)) (by simp) rfl
 ·obtain⟨a,e,E⟩:=Kg (c:=101) w3 (by decide) (by decide);exact one Gb a e E (GR U (by omega)) (DZ hn (by decide) (by decide) (by decide) (by decide)) (J8 (by decide)) (by simp) rfl
 ·obtain⟨a,e,E⟩:=Kg (c:=101) w3 (by decide) (by decide);exact one Gc a e E (GR U (by omega)) (DZ hn (by decide) (by decide) (by decide) (by decide)) (J8 (by decide)) (by simp) rfl
 ·obtain⟨a,e,E⟩:=Kg (c:=101) w3 (by decide) (by decide);exact one Gd a e E (GR U (by omega)) (DZ hn (by decide) (by decide) (by decide) (by decide)) (J8 (by decide)) (by simp) rfl
 ·have aw:=Bt (show decide (-1<=n/\n<=2147483647)=true from hn);have key:∀(a:PT) (v:Av) (q:List Sp),ks=a::v->B0 a.kind=true->toQ 19 (BL 19 s ks 0)=q->B9 a (d+EB 19 s 0 a)->sz a<1+BG ks-> (v=[]/\q=[]\/∃z r,v=[z]/\q=Az Kq::r/\∀C,A3 L C (r++(AF 59::R)) d->(r++(AF 59::R)).length<=m->Db L (Io (lv m) L C) z (AF 59::R) d)->Db L (JL (lv m) L s0) (.mk 19 s n l c ks) R d:=by
   intro a v q e E hq ai al hv;have eq:H3 19 s n (E6 ks) (BL 19 s ks 0)=[Az FK]++([B4 s]++([]++(kq (BL 19 s ks 0) 0++((if 0<n then [Az JR]++[Ka n]else if n<0 then [Az Kn]else [])++(toQ 19 (BL 19 s ks 0)++[AF 59]))))):=rfl;rw[eq,hq]at B K;subst e;rw[G8]at B K;generalize hM:(if 0<n then [Az JR]++[Ka n]else if n<0 then [Az Kn]else [])=M at B K;have B:A3 L s0 (Az FK::B4 s::(BR (BC 19 s 0 a) (AR a)++(M++(q++(AF 59::R))))) d:=by have:=B;simp only[A7,List.cons_append,Ei]at this;exact this
   simp only[AK,AE,List.length_nil]at K;have C:=Cn B;have s2:=Cn C;have hF:F1 (M++(q++(AF 59::R))):=by
    have ar:F1 (q++(AF 59::R)):=by
     rcases hv with⟨_,rfl⟩|⟨z,r,_,rfl,_⟩
     ·exact MS (by simp) _
     ·exact Ys (by decide) _
    rw[<-hM];split
    ·exact Ys (q:=Az JR) (by decide) _
    split
    ·exact Ys (q:=Az Kn) (by decide) _
    ·exact ar
   have O:=Rj (k:=19) (s:=s) (i:=0) (m:=m) ((S a al).1 E) E (J8 (by decide)) (by decide) ai s2 (by simp only[AK,AE];omega) hF;have ab:v=[]/\q=[]\/∃z r,v=[z]/\q=Az Kq::r/\∀C,A3 L C (r++(AF 59::R)) d->Db L (Io (lv m) L C) z (AF 59::R) d:=by
    rcases hv with hv|⟨z,r,e1,e2,hz⟩
    ·exact .inl hv
    ·refine .inr ⟨z,r,e1,e2,λC h1=>hz C h1 ?_⟩;subst e2;simp only[AK,AE]at K⊢;omega
   show Db L (BZ _ _ _ _ L s0) _ R d;rw[xC (HR B) (.inl (Es B))];refine Ug ?_;unfold Jw;rw[Am (show(Ar L s0).text=FK from Es B),Nr C (k:=1) rfl];unfold QN;dsimp only
   have hx:(Ar L (Au s0)).text=s:=Es C;rw[hx,CH O.st,CH O.st];have st:=O.st;by_cases g:0<n
   ·rw[Am g]at hM;subst hM;have st:A3 L _ (Az JR::Ka n::(q++(AF 59::R))) d:=st;have ag:=Cn st;rw[Am (show CT JR ([Az JR]++[Ka n]++(q++(AF 59::R)))=true from(DG JR JR _).trans (by decide)),Nr ag (k:=3) rfl,yZ ag];exact Z1 O.x ab (Cn ag)
   rw[Ad g]at hM;have nq:∀w,w=JR\/w=Kn->CT w (q++(AF 59::R))=false:=by
    intro w hw;rcases hv with⟨_,rfl⟩|⟨z,r,_,rfl,_⟩
    ·rw[Ei,Dd];rcases hw with rfl|rfl<;>decide
    ·rw[List.cons_append,DG];rcases hw with rfl|rfl<;>decide
   by_cases g2:n<0
   ·rw[Am g2]at hM;subst hM;obtain rfl:n= -1:=by omega
    have st:A3 L _ (Az Kn::(q++(AF 59::R))) d:=st;rw[Ad (show¬CT JR ([Az Kn]++(q++(AF 59::R)))=true from isF ((DG Kn JR _).trans (by decide))),Am (show CT Kn ([Az Kn]++(q++(AF 59::R)))=true from(DG Kn Kn _).trans (by decide))];exact Z1 O.x ab (Cn st)
   ·rw[Ad g2]at hM;subst hM;obtain rfl:n=0:=by omega
    rw[Ei,nq _ (.inl rfl),nq _ (.inr rfl),Ad (by simp),Ad (by simp)];exact Z1 O.x ab st
  unfold BO at w3;rcases yM (c:=101) (d:=118) w3 (by decide) (by decide)with⟨a,e,E⟩|⟨a,v,e,E,hv⟩
  ·have V:=Z;rw[e]at V;unfold Cv at V;refine key a [] [] e E ?_ V.1 (by rw[e,Cc];omega) (.inl ⟨rfl,rfl⟩);unfold toQ;rw[VL,e,Ad λg=>absurd g.2 (by simp)]
  ·have V:=Z;rw[e]at V;unfold Cv at V;obtain⟨ae,aa⟩:=V;unfold Cv at aa;have Y:K7 v.kind=true:=hv;have aj:B0 v.kind=true:=by unfold K7 at Y;have:=Bt Y;unfold B0;exact Bi (by omega)
   have ak:sz v<1+BG ks:=by rw[e,Cc,Cc];omega
   refine key a [v] ([Az Kq]++BR (BC 19 s 1 v) (AR v)) e E ?_ ae (by rw[e,Cc];omega) (.inr ⟨v,_,rfl,rfl,λC h1 h2=>?_⟩)
   ·unfold toQ;rw[VL,e,Am ⟨.inl rfl,by simp⟩,N6];rfl
   ·exact nN (k:=19) (s:=s) (i:=1) (m:=m) ((S v ak).1 aj) Y (J8 (by decide)) (by decide) aa.1 h1 h2 (MS (by simp) _)
 ·obtain rfl:=GR U (by omega);obtain rfl:=DZ hn (by decide) (by decide) (by decide) (by decide);have key:∀(a:PT) (v:Av) (q:List Sp),ks=a::v->B0 a.kind=true->toQ 20 (BL 20 [] ks 0)=q->B9 a (d+EB 20 [] 0 a)->sz a<1+BG ks-> (v=[]/\q=[]\/∃z r,v=[z]/\q=Az Kq::r/\∀C,A3 L C (r++(AF 59::R)) d->(r++(AF 59::R)).length<=m->Db L (Io (lv m) L C) z (AF 59::R) d)->Db L (JL (lv m) L s0) (.mk 20 [] 0 l c ks) R d:=by
   intro a v q e E hq ai al hv;have eq:H3 20 [] 0 (E6 ks) (BL 20 [] ks 0)=[Az Gv]++(kq (BL 20 [] ks 0) 0++(toQ 20 (BL 20 [] ks 0)++[AF 59])):=rfl;rw[eq,hq]at B K;subst e;rw[G8]at B K;have B:A3 L s0 (Az Gv::(BR (BC 20 [] 0 a) (AR a)++(q++(AF 59::R)))) d:=by have:=B;simp only[A7,List.cons_append,Ei]at this;exact this
   simp only[AK,AE,List.length_nil]at K;have C:=Cn B;have hF:F1 (q++(AF 59::R)):=by
    rcases hv with⟨_,rfl⟩|⟨z,r,_,rfl,_⟩
    ·exact MS (by simp) _
    ·exact Ys (by decide) _
   have O:=Rj (k:=20) (s:=[]) (i:=0) (m:=m) ((S a al).1 E) E (J8 (by decide)) (by decide) ai C (by simp only[AK,AE];omega) hF;have ab:v=[]/\q=[]\/∃z r,v=[z]/\q=Az Kq::r/\∀C,A3 L C (r++(AF 59::R)) d->Db L (Io (lv m) L C) z (AF 59::R) d:=by
    rcases hv with hv|⟨z,r,e1,e2,hz⟩
    ·exact .inl hv
    ·refine .inr ⟨z,r,e1,e2,λC h1=>hz C h1 ?_⟩;subst e2;simp only[AK,AE]at K⊢;omega
   show Db L (BZ _ _ _ _ L s0) _ R d;rw[xC (HR B) (.inr (Es B))];refine Ug ?_;unfold Jw;rw[Ad (show¬(Ar L s0).text=FK by rw[show(Ar L s0).text=Gv from Es B];decide)];exact Z1 O.x ab O.st
  unfold BO at w3;rcases yM (c:=101) (d:=118) w3 (by decide) (by decide)with⟨a,e,E⟩|⟨a,v,e,E,hv⟩
  ·have V:=Z;rw[e]at V;unfold Cv at V;refine key a [] [] e E ?_ V.1 (by rw[e,Cc];omega) (.inl ⟨rfl,rfl⟩);unfold toQ;rw[VL,e,Ad λg=>absurd g.2 (by simp)]
  ·have V:=Z;rw[e]at V;unfold Cv at V;obtain⟨ae,aa⟩:=V;unfold Cv at aa;have Y:K7 v.kind=true:=hv;have aj:B0 v.kind=true:=by unfold K7 at Y;have:=Bt Y;unfold B0;exact Bi (by omega)
   have ak:sz v<1+BG ks:=by rw[e,Cc,Cc];omega
   refine key a [v] ([Az Kq]++BR (BC 20 [] 1 v) (AR v)) e E ?_ ae (by rw[e,Cc];omega) (.inr ⟨v,_,rfl,rfl,λC h1 h2=>?_⟩)
   ·unfold toQ;rw[VL,e,Am ⟨.inr rfl,by simp⟩,N6];rfl
   ·exact nN (k:=20) (s:=[]) (i:=1) (m:=m) ((S v ak).1 aj) Y (J8 (by decide)) (by decide) aa.1 h1 h2 (MS (by simp) _)
 ·exact nm GY (ad rfl) (DZ hn (by decide) (by decide) (by decide) (by decide)) (by simp) rfl
 ·exact nm GX (ad rfl) (DZ hn (by decide) (by decide) (by decide) (by decide)) (by simp) rfl
 ·obtain⟨a,b,e,rfl,E,hb,he⟩:=sh3 (c:=101) (d:=98) (g:=98) w3 (by decide) (by decide) (by decide) (by decide) (by decide) (by decide);obtain rfl:=GR U (by omega);obtain rfl:=DZ hn (by decide) (by decide) (by decide) (by decide);have hb:=ah hb;have he:=ah he;unfold Cv at Z;obtain⟨W,J⟩:=Z;unfold Cv at J;obtain⟨J,af⟩:=J;unfold Cv at af;rw[Cc,Cc,Cc]at S;have eq:H3 23 [] 0 (E6 [a,b,e]) (BL 23 [] [a,b,e] 0)=[Az Gu]++(kq (BL 23 [] [a,b,e] 0) 0++([]++(kq (BL 23 [] [a,b,e] 0) 1++(if E6 [a,b,e]=true then [Az IJ]++kq (BL 23 [] [a,b,e] 0) 2 else [])))):=rfl;rw[eq,G8,N6,kq2]at B K;generalize hM:(if E6 [a,b,e]=true then [Az IJ]++BR (BC 23 [] 2 e) (AR e)else [])=M at B K;have B:A3 L s0 (Az Gu::(BR (BC 23 [] 0 a) (AR a)++(BR (BC 23 [] 1 b) (AR b)++(M++R)))) d:=by have:=B;simp only[A7,List.cons_append,Ei]at this;exact this
  simp only[AK,AE,List.length_nil]at K;have C:=Cn B;have hF:F1 (BR (BC 23 [] 1 b) (AR b)++(M++R)):=by rw[Oe (S5 (by rw[hb];decide))];obtain⟨t,ht⟩:=ou hb;rw[ht];exact MS (by simp) _
  have O:=Rj (k:=23) (s:=[]) (i:=0) (m:=m) ((S a (by omega)).1 E) E (J8 (by decide)) (by decide) W C (by simp only[AK];omega) hF;have gb:=P3 (k:=23) (s:=[]) (i:=1) (n:=m) ((S b (by omega)).2 hb) hb (by decide) J O.st (by simp only[AK];omega);show Db L (BZ _ _ _ _ L s0) _ R d;rw[Agm (HR B) (Es B)];show Db L (NX (EV (lv m)) (lv m).b L (Ar L s0) (Au s0)) _ R d;unfold NX;rw[Ad (show¬(Ar L s0).text=Fe by rw[show(Ar L s0).text=Gu from Es B];decide),CH gb.st];by_cases g:E6 [a,b,e]=true
  ·rw[Am g]at hM;subst hM;have st:A3 L _ (Az IJ::(BR (BC 23 [] 2 e) (AR e)++R)) d:=gb.st;have ge:=P3 (k:=23) (s:=[]) (i:=2) (n:=m) ((S e (by omega)).2 he) he (by decide) af.1 (Cn st) (by simp only[AK,AE,List.length_nil]at K⊢;omega);rw[Am (show CT IJ ([Az IJ]++BR (BC 23 [] 2 e) (AR e)++R)=true from(DG IJ IJ _).trans (by decide))];exact⟨by rw[DO,Dl,Bm,Bm,Bm,Bm,Bm,Bm,O.x,gb.x,ge.x],ge.st⟩
  ·rw[Ad g]at hM;subst hM;have st:A3 L _ R d:=gb.st;rw[Ei,Ad (by rw[hE];simp)];have av:Bc e=Bc (nd 12 [] 0 (Ar L s0) []):=by
    have V:=af.1;obtain⟨k',s',n',l',c',an⟩:=e;obtain rfl:k'=12:=he;unfold B9 at V;obtain⟨_,w6,_⟩:=V;obtain rfl:=GR w6.2.1 (by omega);obtain rfl:=DZ w6.2.2 (by decide) (by decide) (by decide) (by decide);have:an=[]:=by
     cases an with
     |nil=>rfl
     |cons y ys=>exact absurd (show E6 [a,b,.mk 12 [] 0 l' c' (y::ys)]=true from Bi (Nat.succ_pos _)) g
    subst this;rw[DO,Dl]
   exact⟨by rw[DO,Dl,Bm,Bm,Bm,Bm,Bm,Bm,O.x,gb.x,av],st⟩
 ·obtain⟨a,b,rfl,E,hb⟩:=Ou (c:=101) (d:=98) w3 (by decide) (by decide) (by decide) (by decide);obtain rfl:=GR U (by omega);obtain rfl:=DZ hn (by decide) (by decide) (by decide) (by decide);have hb:=ah hb;unfold Cv at Z;obtain⟨W,J⟩:=Z;unfold Cv at J;rw[Cc,Cc]at S;have eq:H3 24 [] 0 (E6 [a,b]) (BL 24 [] [a,b] 0)=[Az Fe]++(kq (BL 24 [] [a,b] 0) 0++([]++kq (BL 24 [] [a,b] 0) 1)):=rfl;rw[eq,G8,N6]at B K;have B:A3 L s0 (Az Fe::(BR (BC 24 [] 0 a) (AR a)++(BR (BC 24 [] 1 b) (AR b)++R))) d:=by have:=B;simp only[A7,List.cons_append,Ei]at this;exact this
  simp only[AK,AE,List.length_nil]at K;have C:=Cn B;have hF:F1 (BR (BC 24 [] 1 b) (AR b)++R):=by rw[Oe (S5 (by rw[hb];decide))];obtain⟨t,ht⟩:=ou hb;rw[ht];exact MS (by simp) _
  have O:=Rj (k:=24) (s:=[]) (i:=0) (m:=m) ((S a (by omega)).1 E) E (J8 (by decide)) (by decide) W C (by simp only[AK];omega) hF;have gb:=P3 (k:=24) (s:=[]) (i:=1) (n:=m) ((S b (by omega)).2 hb) hb (by decide) J.1 O.st (by simp only[AK];omega);show Db L (BZ _ _ _ _ L s0) _ R d;rw[Ags (HR B) (Es B)];show Db L (NX (EV (lv m)) (lv m).b L (Ar L s0) (Au s0)) _ R d;unfold NX;rw[Am (show(Ar L s0).text=Fe from Es B)];exact⟨by rw[DO,Dl,Bm,Bm,Bm,Bm,O.x,gb.x],gb.st⟩
 ·obtain rfl:=ad rfl;obtain rfl:=GR U (by omega);obtain rfl:=DZ hn (by decide) (by decide) (by decide) (by decide);have B:A3 L s0 (Az Hg::AF 59::R) d:=B;show Db L (BZ _ _ _ _ L s0) _ R d;rw[Agp (HR B) (Es B)];exact Ug ⟨by rw[DO,Dl],Cn B⟩
def SH (q:List Sp):Prop:=∃h t,q=h::t/\CT Fw [h]=false/\CT IJ [h]=false
theorem JJ {h:Sp} {t:List Sp} (y:CT Fw [h]=false) (q:CT IJ [h]=false):SH (h::t):=⟨h,t,rfl,y,q⟩
theorem Akd {x:PT} {d:Int} (E:B9 x d) (y:13<=x.kind/\x.kind<=25):SH (AR x):=by
 obtain⟨k,s,n,l,c,ks⟩:=x;have y:13<=k/\k<=25:=y;unfold B9 at E;obtain⟨S,R,L,C⟩:=E;rw[K5];have y:k=13\/k=14\/k=15\/k=16\/k=17\/k=18\/k=19\/k=20\/k=21\/k=22\/k=23\/k=24\/k=25:=by omega
 rcases y with rfl|rfl|rfl|rfl|rfl|rfl|rfl|rfl|rfl|rfl|rfl|rfl|rfl
 ·exact JJ (h:=Az EX) (by decide) (by decide)
 ·obtain⟨a,e,rfl,M,U⟩:=Ou (c:=118) (d:=101) L (by decide) (by decide) (by decide) (by decide);have hv:K7 a.kind=true:=M;have B:B0 a.kind=true:=by unfold K7 at hv;have:=Bt hv;unfold B0;exact Bi (by omega)
  unfold Cv at C;have q:TH (BR (BC 14 s 0 a) (AR a)):=nD (yu _ a _ (AM _) B C.1);have K:=yr q (w:=Fw) (by decide) [];have J:=yr q (w:=IJ) (by decide) [];show SH (kq (BL 14 s [a,e] 0) 0++_);rw[G8];obtain⟨h,t,O,_⟩:=q;rw[O]at K J⊢;exact JJ K J
 ·exact JJ (h:=Az Ga) (by decide) (by decide)
 ·exact JJ (h:=Az Gb) (by decide) (by decide)
 ·exact JJ (h:=Az Gc) (by decide) (by decide)
 ·exact JJ (h:=Az Gd) (by decide) (by decide)
 ·exact JJ (h:=Az FK) (by decide) (by decide)
 ·exact JJ (h:=Az Gv) (by decide) (by decide)
 ·exact JJ (h:=Az GY) (by decide) (by decide)
 ·exact JJ (h:=Az GX) (by decide) (by decide)
 ·exact JJ (h:=Az Gu) (by decide) (by decide)
 ·exact JJ (h:=Az Fe) (by decide) (by decide)
 ·exact JJ (h:=Az Hg) (by decide) (by decide)
theorem VM {k:Int} {s:Ac}:∀(ks:Av) (i:Nat),(∀y∈ks,BC k s 0 y=false\/B0 y.kind=false)->(∀y∈ks,B0 y.kind=false)->BL k s ks i=ks.map AR
 | [],i,_,_=>by unfold BL;rfl
 |y::q,i,B,h=>by unfold BL;rw[Oe (S5 (h y BN)),VM q (i+1) (λz hz=>B z (Ca _ hz)) λz hz=>h z (Ca _ hz),List.map_cons]
theorem WT {k:Int} {s:Ac} (C:¬(k=31\/k=34\/k=35)):∀(ks:Av) (i:Nat) (d:Int),Cv k s ks i d->(∀y∈ks,y.kind≠12/\B0 y.kind=false)->∀y∈ks,B9 y d
 | [],i,d,_,_,y,hy=>nomatch hy
 |z::B,i,d,h,ht,y,hy=>by
  unfold Cv at h;rcases CS.1 hy with rfl|hy
  ·have g:=ht y BN;have e:EB k s i y=0:=by
    unfold EB;have E:¬(0<C7 y.kind y.text/\C7 y.kind y.text<Fo k s i):=λq=>by have:=q.1;unfold C7 at this;rw[Ad (by rw[g.2];simp)]at this;omega
    rw[Ad g.1,Ad E,Ad (by omega)];rfl
   rw[e,Int.add_zero]at h;exact h.1
  ·exact WT C B (i+1) d h.2 (λz hz=>ht z (Ca _ hz)) y hy
theorem XF {F:Ab->PF} {L:Ab} {m:Nat} {d:Int}:∀(q:Av) (k:Nat) (l:Av) (s:RS) (R:List Sp),(∀y∈q,SH (AR y)/\∀s R,A3 L s (AR y++R) d->(AR y++R).length<=m->CT IJ R=false->Db L (F L s) y R d)-> A3 L s ((q.map AR).flatten++(AF 125::R)) d->((q.map AR).flatten++(AF 125::R)).length<=m->q.length<k-> Hp (CY F L k l s).1=Hp (l++q)/\A3 L (CY F L k l s).2 (AF 125::R) d
 | [],0,l,s,R,_,_,_,h=>by omega
 | [],k+1,l,s,R,_,B,_,_=>by have B:A3 L s (AF 125::R) d:=B;unfold CY;rw[Ad λg=>absurd g.2 (by rw[CH B,Dd];decide),HD];exact⟨rfl,B⟩
 |y::q,0,l,s,R,_,_,_,h=>by omega
 |y::q,k+1,l,s,R,hy,B,E,J=>by
  obtain⟨⟨h,t,e,O,Y⟩,K⟩:=hy y BN;have B:A3 L s (AR y++((q.map AR).flatten++(AF 125::R))) d:=by have:=B;simp only[List.map_cons,List.flatten_cons,A7]at this;exact this
  simp only[List.map_cons,List.flatten_cons,AK,AE]at E;have M:CT IJ ((q.map AR).flatten++(AF 125::R))=false:=by
   cases q with
   |nil=>show CT IJ (AF 125::R)=false;rw[Dd];decide
   |cons z V=>obtain⟨⟨h',W,S,U,C⟩,_⟩:=hy z (by simp);rw[List.map_cons,List.flatten_cons,S,List.cons_append,List.cons_append];exact C
  have g:=K s _ B (by simp only[AK,AE];omega) M;unfold CY;rw[Am ⟨B.err,by rw[CH B,e];exact O⟩];have r:=XF q k (l++[(F L s).1]) (F L s).2 R (λz hz=>hy z (Ca _ hz)) g.st (by simp only[AK,AE];omega) (by simpa using J);refine⟨?_,r.2⟩;rw[r.1,QG,QG,QG,Bm,SZ,g.x,Bm,A7];rfl
theorem jt {q:Av} (h:∀y∈q,SH (AR y)):q.length<=((q.map AR).flatten).length:=by
 induction q with
 |nil=>exact CL _
 |cons y q B=>obtain⟨a,t,e,_⟩:=h y BN;have:=B λz hz=>h z (Ca _ hz);rw[List.map_cons,List.flatten_cons,AK,e,AE,AE];omega
theorem y9:∀(ks:Av),∀y∈ks,sz y<1+BG ks
 | [],y,hy=>nomatch hy
 |z::q,y,hy=>by
  rw[Cc];rcases CS.1 hy with rfl|hy
  ·omega
  ·have:=y9 q y hy;omega
theorem AaV {x:PT} (U:∀y:PT,sz y<sz x->13<=y.kind/\y.kind<=25->eu y) (hk:x.kind=12):PM x:=by
 obtain⟨k,s,n,l,c,ks⟩:=x;obtain rfl:k=12:=hk;intro n0 L s0 R d M C V;have hd:=WU M;rw[Im]at U;unfold B9 at M;obtain⟨w1,S,Y,W⟩:=M;obtain rfl:=GR S.2.1 (by omega);obtain rfl:=DZ S.2.2 (by decide) (by decide) (by decide) (by decide);have q:∀y∈ks,13<=y.kind/\y.kind<=25:=λy hy=>Bt (show decide (13<=y.kind/\y.kind<=25)=true from Uo (d:=115) Y y hy);have B:∀y∈ks,B0 y.kind=false:=λy hy=>by have:=q y hy;unfold B0;exact Ej (by omega)
 have E:=WT (by decide) ks 0 _ W λy hy=>⟨by have:=q y hy;omega,B y hy⟩;have J:∀y∈ks,SH (AR y):=λy hy=>Akd (E y hy) (q y hy);have eq:AR (.mk 12 [] 0 l c ks)=[AF 123]++((ks.map AR).flatten++[AF 125]):=by rw[K5];show [AF 123]++((BL 12 [] ks 0).flatten++[AF 125])=_;rw[VM ks 0 (λy hy=>.inr (B y hy)) B]
 rw[eq]at C V;have C:A3 L s0 (AF 123::((ks.map AR).flatten++(AF 125::R))) d:=by have:=C;simp only[A7,List.cons_append,Ei]at this;exact this
 have K:=Ow C;simp only[AK,AE,List.length_nil]at V K;cases n0 with
 |zero=>omega
 |succ m=>have ho:=cI C (by omega) (w:=D6) (by rw[Dd];decide);have O:=y9 ks;have aa:=jt J;have r:=XF (F:=JL (lv m)) (m:=m) ks (B3 L) [] _ R (λy hy=>⟨J y hy,λZ R1 h1 h2 h3=>U y (O y hy) (q y hy) m L Z R1 (d+1) (E y hy) h1 h2 h3⟩) ho (by simp only[AK,AE];omega) (by unfold B3;omega);rw[lvb];show Db L (LX (JL (lv m)) L s0) _ R d;unfold LX LY;rw[IH r.2 (by rw[Dd];decide)];refine⟨by rw[DO,Dl,r.1];rfl,?_⟩;have:=cE (Cn r.2);rw[show d+1-1=d by omega]at this;exact this
theorem AaS:∀(N:Nat) (x:PT),sz x<=N->(B0 x.kind=true->OK x)/\(x.kind=12->PM x)/\(13<=x.kind/\x.kind<=25->eu x):=by
 intro N
 induction N with
 |zero=>intro x h;have:=F9 x;omega
 |succ N q=>intro x C;have B:∀y:PT,sz y<sz x->(B0 y.kind=true->OK y)/\(y.kind=12->PM y):=λy hy=>⟨(q y (by omega)).1,(q y (by omega)).2.1⟩;exact⟨λh=>AkX B h,λh=>AaV (λy hy=>(q y (by omega)).2.2) h,λh=>AkD B h⟩
theorem XE {x:PT} (h:x.kind=12):PM x:=(AaS _ x (AM _)).2.1 h
theorem Zg {L:Ab} {s:RS} {v:Ac} {R:List Sp} {d:Int} {ws:List Ac} (h:A3 L s (Az v::R) d) (q:ws.any (λw=>decide ((2:Int)=Fl w)&&decide (v=w))=true):Aq L s ws=(Ar L s,Au s):=by unfold Aq FI;rw[show As L s=λw=>decide ((2:Int)=Fl w)&&decide (v=w)from funext λw=>CH h w,Am q];rfl
theorem zN {k:Int} {s:Ac} {i:Nat} {u:PT} {d M:Int} {L:Ab} {s0:RS} {R:List Sp} (K:k<=25) (J:u.kind=29) (y:B9 u M) (q:A3 L s0 (BR (BC k s i u) (AR u)++R) d):Db L (Eh L s0) u R d:=by
 rw[Oe (kj (J8 K))]at q;obtain⟨E,s',n,l,c,ks⟩:=u;obtain rfl:E=29:=J;unfold B9 at y;obtain⟨_,C,B,_⟩:=y;obtain rfl:ks=[]:=List.map_eq_nil_iff.1 (Mb B);obtain rfl:=DZ C.2.2 (by decide) (by decide) (by decide) (by decide);have e:AR (.mk 29 s' 0 l c [])=[B4 s']:=by rw[K5];rfl
 rw[e]at q;have q:A3 L s0 (B4 s'::R) d:=q;unfold Eh;rw[Nr q (k:=1) rfl];exact⟨by rw[DO,Dl,Es q];rfl,Cn q⟩
theorem vX {y:PT} {d:Int} {L:Ab} (M:y.kind=4) (E:B9 y d):SH (AR y)/\∀s R,A3 L s (AR y++R) d->Db L (F0 L s) y R d:=by
 obtain⟨k,s,n,l,c,ks⟩:=y;obtain rfl:k=4:=M;unfold B9 at E;obtain⟨_,K,J,C⟩:=E;obtain⟨a,rfl,B⟩:=Kg (c:=121) J (by decide) (by decide);obtain rfl:=DZ K.2.2 (by decide) (by decide) (by decide) (by decide);have B:a.kind=5:=Bt (show decide (a.kind=5)=true from B);unfold Cv at C;have eq:AR (.mk 4 s 0 l c [a])=[B4 s]++([]++(BR (BC 4 s 0 a) (AR a)++[AF 59])):=by rw[K5,<-G8 4 s a []];rfl
 rw[eq];refine⟨JJ (h:=B4 s) (NY _ _ _) (NY _ _ _),λs0 R q=>?_⟩;have q:A3 L s0 (B4 s::(BR (BC 4 s 0 a) (AR a)++(AF 59::R))) d:=by have:=q;simp only[A7,List.cons_append,Ei]at this;exact this
 obtain⟨g,_⟩:=nM B C.1 (Cn q);unfold F0;rw[Nr q (k:=1) rfl];dsimp only
 rw[IH g.st (by rw[Dd];decide)];exact⟨by rw[DO,Dl,Es q,Bm,Bm,g.x];rfl,Cn g.st⟩
theorem uu {y:PT} {d:Int} {L:Ab} {n:Nat} (S:y.kind=9) (K:B9 y d):SH (AR y)/\∀s R,A3 L s (AR y++R) d->(AR y++R).length<=n->Db L (E0 (lv n).b L s) y R d:=by
 obtain⟨k,s,z,l,c,ks⟩:=y;obtain rfl:k=9:=S;unfold B9 at K;obtain⟨_,J,M,E⟩:=K;obtain⟨a,rfl,C⟩:=Kg (c:=98) M (by decide) (by decide);obtain rfl:=GR J.2.1 (by omega);have hz:=Bt (show decide (0<=z/\z<=3)=true from J.2.2);have C:a.kind=12:=Bt (show decide (a.kind=12)=true from C);unfold Cv at E;have eq:AR (.mk 9 [] z l c [a])=[Az (M3 z)]++BR (BC 9 [] 0 a) (AR a):=by rw[K5,<-G8 9 [] a []];rfl
 rw[eq];have q:z=0\/z=1\/z=2\/z=3:=by omega
 refine⟨JJ (h:=Az (M3 z)) ?_ ?_,λs0 R B O=>?_⟩
 ·rw[DG];rcases q with rfl|rfl|rfl|rfl<;>decide
 ·rw[DG];rcases q with rfl|rfl|rfl|rfl<;>decide
 have B:A3 L s0 (Az (M3 z)::(BR (BC 9 [] 0 a) (AR a)++R)) d:=B;simp only[AK,AE,List.length_nil]at O;have g:=P3 (k:=9) (s:=[]) (i:=0) (n:=n) (XE C) C (by decide) E.1 (Cn B) (by simp only[AK];omega);unfold E0;rw[Zg B (by rcases q with rfl|rfl|rfl|rfl<;>decide)];dsimp only
 have V:(Ar L s0).text=M3 z:=Es B;rw[V];have U:Y0 (M3 z)=z:=by
  unfold Y0;rcases q with rfl|rfl|rfl|rfl
  ·rw[Am (by decide)]
  ·rw[Ad (by decide),Am (by decide)]
  ·rw[Ad (by decide),Ad (by decide),Am (by decide)]
  ·rw[Ad (by decide),Ad (by decide),Ad (by decide),Am (by decide)]
 rw[U];exact⟨by rw[DO,Dl,Bm,Bm,g.x],g.st⟩
theorem Aby {x:PT} {d:Int} {L:Ab} {n:Nat} (hk:L1 x.kind=true) (hw:B9 x d) {s0:RS} {R:List Sp} (q:A3 L s0 (AR x++R) d) (U:(AR x++R).length<=n):Db L (Gm (lv n).b L s0) x R d:=by
 obtain⟨k,s,z,l,c,ks⟩:=x;unfold B9 at hw;obtain⟨w1,w2,V,J⟩:=hw;rw[K5]at q U;have hn:=w2.2.2;have af:=w2.2.1;have ad:BO k=[]->ks=[]:=λe=>by rw[e]at V;exact List.map_eq_nil_iff.1 (Mb V)
 have i5:∀ {y:PT},BQ (121:Int) y.kind=true->y.kind=5:=λ{y} h=>Bt (show decide (y.kind=5)=true from h);have K:∀ {y:PT},BQ (98:Int) y.kind=true->y.kind=12:=λ{y} h=>Bt (show decide (y.kind=12)=true from h);have ab:∀ {y:PT},BQ (117:Int) y.kind=true->y.kind=29:=λ{y} h=>Bt (show decide (y.kind=29)=true from h);have hk:k=2\/k=3\/k=6\/k=7\/k=8\/k=10\/k=11:=by unfold L1 at hk;exact Bt hk
 have hd:∀(v:Ac) (Q:List Sp),A3 L s0 (Az v::B4 s::Q) d->(CV.any λw=>decide ((2:Int)=Fl w)&&decide (v=w))=true->v≠PJ->Gm (lv n).b L s0=Kz (lv n).b L (Ar L s0) s (Au (Au s0))/\(Ar L s0).text=v/\A3 L (Au (Au s0)) Q d:=by
  intro v Q h hv hm;have Y:=Cn h;have E:(Ar L s0).text=v:=Es h;refine⟨?_,E,Cn Y⟩;unfold Gm;rw[Zg h hv];dsimp only
  rw[E,Ad hm,Nr Y (k:=1) rfl,show(Ar L (Au s0)).text=s from Es Y]
 rcases hk with rfl|rfl|rfl|rfl|rfl|rfl|rfl
 ·obtain rfl:=ad rfl;obtain rfl:=DZ hn (by decide) (by decide) (by decide) (by decide);have q:A3 L s0 (Az UD::B4 s::AF 59::R) d:=q;obtain⟨e,E,st⟩:=hd UD _ q (by decide) (by decide);rw[e];unfold Kz;rw[E,Am rfl,IH st (by rw[Dd];decide)];exact⟨by rw[DO,Dl],Cn st⟩
 ·obtain rfl:=DZ hn (by decide) (by decide) (by decide) (by decide);have B:∀y∈ks,y.kind=4:=λy hy=>Bt (show decide (y.kind=4)=true from Uo (d:=109) V y hy);have C:∀y∈ks,B0 y.kind=false:=λy hy=>by rw[B y hy];decide
  have M:=WT (by decide) ks 0 _ J λy hy=>⟨by rw[B y hy];decide,C y hy⟩;have eq:H3 3 s 0 (E6 ks) (BL 3 s ks 0)=[Az Rn]++([B4 s]++([AF 123]++((ks.map AR).flatten++[AF 125]))):=by rw[<-VM (k:=3) (s:=s) ks 0 (λy hy=>.inr (C y hy)) C];rfl
  rw[eq]at q U;have q:A3 L s0 (Az Rn::B4 s::(AF 123::((ks.map AR).flatten++(AF 125::R)))) d:=by have:=q;simp only[A7,List.cons_append,Ei]at this;exact this
  have S:=Ow q;simp only[AK,AE,List.length_nil]at S;obtain⟨e,E,st⟩:=hd Rn _ q (by decide) (by decide);have O:∀y∈ks,SH (AR y):=λy hy=>(vX (L:=L) (B y hy) (M y hy)).1;have ag:=jt O;have r:=XF (F:=F0) (m:=L.length) ks (B3 L) [] _ R (λy hy=>⟨O y hy,λY R1 h1 _ _=>(vX (B y hy) (M y hy)).2 Y R1 h1⟩) (Cn st) (by simp only[AK,AE];omega) (by unfold B3;omega);rw[e];unfold Kz;rw[E,Ad (by decide),Ad (by decide),Ad (by decide),Am rfl];unfold XX;rw[IH st (by rw[Dd];decide)];dsimp only
  rw[IH r.2 (by rw[Dd];decide)];exact⟨by rw[DO,Dl,r.1];rfl,Cn r.2⟩
 ·obtain⟨a,rfl,Z⟩:=Kg (c:=121) V (by decide) (by decide);obtain rfl:=DZ hn (by decide) (by decide) (by decide) (by decide);unfold Cv at J;have eq:H3 6 s 0 (E6 [a]) (BL 6 s [a] 0)=[Az EX]++([B4 s]++([]++(BR (BC 6 s 0 a) (AR a)++[AF 59]))):=by rw[<-G8 6 s a []];rfl
  rw[eq]at q;have q:A3 L s0 (Az EX::B4 s::(BR (BC 6 s 0 a) (AR a)++(AF 59::R))) d:=by have:=q;simp only[A7,List.cons_append,Ei]at this;exact this
  obtain⟨e,E,st⟩:=hd EX _ q (by decide) (by decide);obtain⟨g,_⟩:=nM (i5 Z) J.1 st;rw[e];unfold Kz;rw[E,Ad (by decide),Am rfl,IH g.st (by rw[Dd];decide)];exact⟨by rw[DO,Dl,Bm,Bm,g.x],Cn g.st⟩
 ·obtain⟨a,rfl,Z⟩:=Kg (c:=98) V (by decide) (by decide);obtain rfl:=DZ hn (by decide) (by decide) (by decide) (by decide);unfold Cv at J;have eq:H3 7 s 0 (E6 [a]) (BL 7 s [a] 0)=[Az Iq]++([B4 s]++([]++BR (BC 7 s 0 a) (AR a))):=by rw[<-G8 7 s a []];rfl
  rw[eq]at q U;have q:A3 L s0 (Az Iq::B4 s::(BR (BC 7 s 0 a) (AR a)++R)) d:=q;simp only[AK,AE,List.length_nil]at U;obtain⟨e,E,st⟩:=hd Iq _ q (by decide) (by decide);have g:=P3 (k:=7) (s:=s) (i:=0) (n:=n) (XE (K Z)) (K Z) (by decide) J.1 st (by simp only[AK];omega);rw[e];unfold Kz;rw[E,Ad (by decide),Ad (by decide),Am rfl];exact⟨by rw[DO,Dl,Bm,Bm,g.x],g.st⟩
 ·obtain⟨u,t,rfl,hu,ht⟩:=yN (c:=117) (d:=108) V (by decide) (by decide);obtain rfl:=DZ hn (by decide) (by decide) (by decide) (by decide);have hu:=ab hu;have B:∀y∈t,y.kind=9:=λy hy=>Bt (show decide (y.kind=9)=true from ht y hy);have C:∀y∈t,B0 y.kind=false:=λy hy=>by rw[B y hy];decide
  unfold Cv at J;have M:=WT (by decide) t _ _ J.2 λy hy=>⟨by rw[B y hy];decide,C y hy⟩;have eq:H3 8 s 0 (E6 (u::t)) (BL 8 s (u::t) 0)=[Az cq]++([B4 s]++([Az JS]++(BR (BC 8 s 0 u) (AR u)++([]++([AF 123]++((t.map AR).flatten++[AF 125])))))):=by
   have ek:BL 8 s (u::t) 0=BR (BC 8 s 0 u) (AR u)::t.map AR:=by
    rw[<-VM (k:=8) (s:=s) t 1 (λy hy=>.inr (C y hy)) C]
    conv=>lhs;unfold BL
   rw[ek];rfl
  rw[eq]at q U;have q:A3 L s0 (Az cq::B4 s::(Az JS::(BR (BC 8 s 0 u) (AR u)++(AF 123::((t.map AR).flatten++(AF 125::R)))))) d:=by have:=q;simp only[A7,List.cons_append,Ei]at this;exact this
  have S:=Ow q;simp only[AK,AE,List.length_nil]at S U;obtain⟨e,E,st⟩:=hd cq _ q (by decide) (by decide);have W:=zN (k:=8) (s:=s) (i:=0) (by decide) hu J.1 (Cn st);have O:∀y∈t,SH (AR y):=λy hy=>(uu (L:=L) (n:=n) (B y hy) (M y hy)).1;have ag:=jt O;have r:=XF (F:=E0 (lv n).b) (m:=n) t (B3 L) [(Eh L (Au (Au (Au s0)))).1] _ R (λy hy=>⟨O y hy,λY R1 h1 h2 _=>(uu (B y hy) (M y hy)).2 Y R1 h1 h2⟩) (Cn W.st) (by simp only[AK,AE];omega) (by unfold B3;omega);rw[e];unfold Kz;rw[E,Ad (by decide),Ad (by decide),Ad (by decide),Ad (by decide),Ad (by decide),IH st (by rw[DG];decide)];dsimp only
  unfold XY;rw[IH W.st (by rw[Dd];decide)];dsimp only
  rw[IH r.2 (by rw[Dd];decide)];refine⟨?_,Cn r.2⟩;rw[DO,Dl,r.1,QG,Bm,SZ,W.x,Bm];rfl
 ·obtain⟨u,b,rfl,hu,hb⟩:=Ou (c:=117) (d:=98) V (by decide) (by decide) (by decide) (by decide);have hz:=Bt (show decide (z=0\/z=1)=true from hn);have hu:=ab hu;have hb:=K hb;unfold Cv at J;obtain⟨ae,aa⟩:=J;unfold Cv at aa;have eq:H3 10 s z (E6 [u,b]) (BL 10 s [u,b] 0)=[Az WR]++([B4 s]++([Az JS]++(BR (BC 10 s 0 u) (AR u)++([Az (M7 z)]++BR (BC 10 s 1 b) (AR b))))):=by rw[<-G8 10 s u [b],<-N6 10 s u b []];rfl
  rw[eq]at q U;have q:A3 L s0 (Az WR::B4 s::(Az JS::(BR (BC 10 s 0 u) (AR u)++(Az (M7 z)::(BR (BC 10 s 1 b) (AR b)++R))))) d:=by have:=q;simp only[A7,List.cons_append,Ei]at this;exact this
  simp only[AK,AE,List.length_nil]at U;obtain⟨e,E,st⟩:=hd WR _ q (by decide) (by decide);have W:=zN (k:=10) (s:=s) (i:=0) (by decide) hu ae (Cn st);have g:=P3 (k:=10) (s:=s) (i:=1) (n:=n) (XE hb) hb (by decide) aa.1 (Cn W.st) (by simp only[AK];omega);rw[e];unfold Kz;rw[E,Ad (by decide),Ad (by decide),Ad (by decide),Ad (by decide),Am rfl,IH st (by rw[DG];decide)];dsimp only
  unfold Yr;rw[Zg W.st (by rcases hz with rfl|rfl<;>decide)];dsimp only
  have e1:(Ar L (Eh L (Au (Au (Au s0)))).2).text=M7 z:=Es W.st;rw[e1];have e2:(if M7 z=JS then(1:Int)else 0)=z:=by rcases hz with rfl|rfl<;>decide
  rw[e2];exact⟨by rw[DO,Dl,Bm,Bm,Bm,Bm,W.x,g.x],g.st⟩
 ·obtain⟨a,rfl,Z⟩:=Kg (c:=98) V (by decide) (by decide);obtain rfl:=GR af (by omega);obtain rfl:=DZ hn (by decide) (by decide) (by decide) (by decide);unfold Cv at J;have eq:H3 11 [] 0 (E6 [a]) (BL 11 [] [a] 0)=[Az PJ]++BR (BC 11 [] 0 a) (AR a):=by rw[<-G8 11 [] a []];rfl
  rw[eq]at q U;have q:A3 L s0 (Az PJ::(BR (BC 11 [] 0 a) (AR a)++R)) d:=q;simp only[AK,AE,List.length_nil]at U;have g:=P3 (k:=11) (s:=[]) (i:=0) (n:=n) (XE (K Z)) (K Z) (by decide) J.1 (Cn q) (by simp only[AK];omega);unfold Gm;rw[Zg q (by decide)];dsimp only
  rw[Am (show(Ar L s0).text=PJ from Es q)];exact⟨by rw[DO,Dl,Bm,Bm,g.x],g.st⟩
end Go.Proofs.YtlmmbanfhjaioaaGreatDoor
end
