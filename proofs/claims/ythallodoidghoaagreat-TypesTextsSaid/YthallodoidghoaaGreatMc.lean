/- Laid by program out of its parts: SxE, SxH, EvJ, EvK, EvL, EvM. -/
import Derived.Test.YthallodoidghoaaGreatMb
import Derived.LoopN
import Derived.LoopNIn
import Derived.RangeFuncLeaves
import Derived.RangeFuncRecord
import Derived.OrdersIn
import Derived.Conc.LoneSelect
import Derived.RecoverIn
noncomputable section
set_option linter.unusedVariables false
set_option linter.unusedSimpArgs false
section
namespace Go.Ev
def QP (size:Nat) (l:Al):Bool:=cond (Nat.beq l.length size) (l.all AV.one) false
def B1 (size k:Nat) (g:Nat->Al):Bool:=decide (∀i,i<k->QP size (g i)=true)
theorem DL {size k:Nat} {g:Nat->Al} (h:∀i,i<k->QP size (g i)=true):B1 size k g=true:=by unfold B1;simpa using h
def Wp (ρ:Ak) (size k:Nat) (g:Nat->Al) (vs:List Value):Prop:=vs.length=k*size/\∀i,i<k->∀j a,j<size->(g i)[j]? =some a->∃v,vs[i*size+j]? =some v/\VR ρ a v
theorem AeC {p k size:Nat} (r:0<size) (x:p<k*size):p/size<k/\p %size<size/\p/size*size+p %size=p:=by refine⟨Nat.div_lt_of_lt_mul (by rwa[Nat.mul_comm]),Nat.mod_lt _ r,?_⟩;rw[Nat.mul_comm];exact Nat.div_add_mod p size
theorem Al8 {ρ:Ak} {size:Nat} {l:Al} {vs:List Value} (h:QP size l=true) (hv:AL ρ l vs):vs.length=size/\∀v∈vs,v.oneCell'=true:=by unfold QP at h;obtain⟨r,x⟩:=BG h;rw[A0]at r;exact⟨by rw[<-hv.length,r],WJ hv x⟩
theorem AdO {ρ:Ak} {size k:Nat} {g:Nat->Al} {cell:Nat->Option Value} (L:0<size) (J:B1 size k g=true) (h:∀i,i<k->∃vs,AL ρ (g i) vs/\∀j v,vs[j]? =some v->cell (i*size+j)=some v): ∃vs,Wp ρ size k g vs/\(∀v∈vs,v.oneCell'=true)/\∀j v,vs[j]? =some v->cell j=some v:=by
 classical
 unfold B1 at J;simp only[Bn]at J;have hc:∀p,∃v,p<k*size->cell p=some v/\v.oneCell'=true/\∀a,(g (p/size))[p %size]? =some a->VR ρ a v:=λp=>by
  by_cases z:p<k*size
  ·obtain⟨R,Y,U⟩:=AeC L z;obtain⟨vs,hv,y⟩:=h _ R;obtain⟨hl,S⟩:=Al8 (J _ R) hv;have r:p %size<vs.length:=by omega
   refine⟨vs[p %size],λ_=>⟨?_,S _ (List.getElem_mem r),λa K=>hv.Uu K (Ce r)⟩⟩;have:=y (p %size) _ (Ce r);rwa[U]at this
  ·exact⟨undef,λh=>absurd h z⟩
 refine⟨(List.range (k*size)).map λp=>Classical.choose (hc p),⟨by simp,λi hi j a x K=>?_⟩,λv hv=>?_,λj v x=>?_⟩
 ·have r:i*size+j<k*size:=by have:(i+1)*size<=k*size:=Nat.mul_le_mul_right _ hi;rw[Nat.add_mul]at this;omega
  refine⟨Classical.choose (hc (i*size+j)),by rw[I8,Tn r];rfl,?_⟩;refine(LU (hc (i*size+j)) r).2.2 a ?_;have W:(i*size+j)/size=i:=by rw[Nat.mul_comm,Nat.mul_add_div L,Nat.div_eq_of_lt x,Nat.add_zero]
  have V:(i*size+j)%size=j:=by rw[Nat.mul_comm,Nat.mul_add_mod,Nat.mod_eq_of_lt x]
  rw[W,V];exact K
 ·obtain⟨p,z,rfl⟩:=List.mem_map.1 hv;exact(LU (hc p) (List.mem_range.1 z)).2.1
 ·rw[I8]at x;cases B:(List.range (k*size))[j]? with
  |none=>rw[B]at x;cases x
  |some p=>rw[B]at x;injection x with x;subst x;obtain⟨r,rfl⟩:=Ix.1 B;simp only[List.length_range]at r;have:=(LU (hc j) r).1;simpa using this
def chunk (size k:Nat) (l:Al):Nat->Al:=match k with
 |1=>λ_=>l
 |_=>λi=>(l.drop (i*size)).take size
def YP (H:Tr Ah) (size:Nat) (x:AV):Option (Bool×Nat×(Nat->Al)):=
 match x with
 |.bv l=>gd (Nat.beq size 1) (some (true,l.length,Kn l))
 |.bs l=>gd (Nat.beq size 1) (some (true,l.length,Kn l))
 |.str m n=>gd (Nat.beq size 1) (some (true,(BO m n).length,Kn (BO m n)))
 |.vec e k g=>gd (Nat.beq e size) (some (B1 size k g,k,g))
 |.AR id k e=>gd (Nat.beq e size) (ob (H.get id) λo=>match o with
  |.cells _ c z N _=>match c,z with
   |.leaf,.rows r f=>gd (Nat.beq r size) (some (cond (Nat.ble (k*size) N) (B1 size k f) false,k,f))
   |_,_=>none
  |_=>none)
 |.AW=>some (true,0,λ_=>[])
 |.sle _=>some (true,0,λ_=>[])
 |.sl id off k _=>ob (EV H id off (k*size)) λl=>gd (l.all AV.one) (some (true,k,chunk size k l))
 |.BK id off k _=>ob (EV H id off (k*size)) λl=>gd (l.all AV.one) (some (true,k,chunk size k l))
 |_=>none
def TA (P:Program) (ρ:Ak) (w:World) (size k:Nat) (g:Nat->Al) (u:Value):Prop:=∃vs:List Value,Wp ρ size k g vs/\(∀v∈vs,v.oneCell'=true)/\∀w':World,(∀a,w'.cell? a=w.cell? a)->(Builtin.lenOf u).run P w'=.ok k w'/\(Builtin.firstCells size k u).run P w'=.ok vs.toArray w'
theorem yi {ρ:Ak} {size k:Nat} {l:Al} {vs:List Value} (hv:AL ρ l vs) (hl:vs.length=k*size):Wp ρ size k (chunk size k l) vs:=by
 refine⟨hl,λi hi j a x r=>?_⟩;have key:l[i*size+j]? =some a:=by
  unfold chunk at r;split at r
  ·have:i=0:=by omega
   subst this;simpa using r
  ·rw[List.getElem?_take,As x,List.getElem?_drop]at r;exact r
 exact hv.get _ _ key
theorem iK {P:Program} {ρ:Ak} {w:World} {size k:Nat} {g:Nat->Al} {ad:Addr} {cap:Nat} {vs:List Value} (r:Wp ρ size k g vs) (y:∀v∈vs,v.oneCell'=true) (hc:∀j v,vs[j]? =some v->w.cell? (ad.add j)=some v):TA P ρ w size k g (.slice (some ad) k cap):=by refine⟨vs,r,y,λw' x=>⟨by simp[Builtin.lenOf],?_⟩⟩;have:=run_loadCells_list (P:=P) w' ad vs (λj v z=>by rw[x];exact hc j v z);rw[r.1]at this;simp[Builtin.firstCells,this]
theorem iJ {P:Program} {ρ:Ak} {w:World} {size:Nat} {g:Nat->Al} {base:Option Addr} {cap:Nat}:TA P ρ w size 0 g (.slice base 0 cap):=by
 refine⟨[],⟨by simp,λi hi=>by omega⟩,by simp,λw' x=>⟨by simp[Builtin.lenOf],?_⟩⟩;cases base with
 |none=>simp[Builtin.firstCells]
 |some ad=>have:=run_loadCells_list (P:=P) w' ad [] (λj v r=>by simp at r);simpa[Builtin.firstCells]using this
theorem AgD (l:Aj):B1 1 l.length (Kn l)=true:=DL λ_ _=>rfl
theorem AeD {P:Program} {ρ:Ak} {w:World} (l:Aj):TA P ρ w 1 l.length (Kn l) (.string ⟨l.toArray⟩):=by
 have x:(ByteArray.mk l.toArray).size=l.length:=by show l.toArray.size=_;simp
 refine⟨l.map λb=>.int .u8 (b.toNat:Int),⟨by simp,λi hi j a y r=>?_⟩,λv hv=>?_,λw' _=>⟨by simp only[Builtin.lenOf,Sem.run_pure,x],?_⟩⟩
 ·have:j=0:=by omega
  subst this;injection r with r;subst r;refine⟨_,?_,.int _ _⟩;simp only[Nat.mul_one,Nat.add_zero,I8,Ce hi,Option.map_some,List.getD,Option.getD_some]
 ·obtain⟨b,_,rfl⟩:=List.mem_map.1 hv;rfl
 ·simp only[Builtin.firstCells,Sem.run_pure];congr 1;apply Array.ext';rw[Array.toList_map,Lib.extract_data];simp
theorem Aeg {P:Program} {E:Env} {F:Nat->Option Obj} {nx:Nat} {ρ:Ak} {w:World} {H:Tr Ah} (r:Rel E F nx ρ H.get w) {size k:Nat} {g:Nat->Al} {x:AV} {u:Value} (aa:0<size) (R:VR ρ x u) (B:YP H size x=some (true,k,g)):TA P ρ w size k g u:=by
 have J:∀(Ax n:Nat) (f:Nat->Al),rJ x=some (Ax,n,f)->Ax=size->B1 size n f=true->TA P ρ w size n f u:=by
  intro Ax n f he hz hg;subst hz;obtain⟨⟨base,cap,hu,_⟩,z⟩:=cu R he;by_cases hn:n=0
  ·subst hn;rw[hu];exact iJ
  ·obtain⟨b,o,af,cs,el,fz,ag,Z,ah,_,_⟩:=z 0 (by omega);obtain⟨vs,K,V,Y⟩:=AdO (cell:=λp=>w.cell? ⟨b,o+p,none⟩) aa hg λi hi=>by obtain⟨b',o',ae,cs',ak,aj,vs,U,ad,hv,hc⟩:=z i hi;rw[Z]at U;injection U with W e2 e3;injection W with W;injection W with W e4 e5;subst W;subst e4;refine⟨vs,hv,λj v S=>?_⟩;have:=iM r ad (hc j v S);rwa[Fu]at this
   rw[Z];exact iK K V λj v S=>by rw[Dd];exact Y j v S
 unfold YP at B;split at B
 ·obtain⟨hz,y⟩:=AQ.1 B;injection y with y;injection y with _ y;injection y with y z;subst y;subst z;rw[A0]at hz;subst hz;exact J 1 _ _ rfl rfl (AgD _)
 ·obtain⟨hz,y⟩:=AQ.1 B;injection y with y;injection y with _ y;injection y with y z;subst y;subst z;rw[A0]at hz;subst hz;cases R;exact AeD _
 ·obtain⟨hz,y⟩:=AQ.1 B;injection y with y;injection y with _ y;injection y with y z;subst y;subst z;rw[A0]at hz;subst hz;rw[ML R rfl];exact AeD _
 ·obtain⟨hz,y⟩:=AQ.1 B;injection y with y;injection y with hg y;injection y with y z;subst y;subst z;rw[A0]at hz;exact J _ _ _ rfl hz hg
 ·rename_i id n e;obtain⟨hz,y⟩:=AQ.1 B;rw[A0]at hz;subst hz;obtain⟨o,ho,z⟩:=Ai.1 y;clear B y;split at z
  ·split at z
   ·rename_i e' f;obtain⟨hz,K⟩:=AQ.1 z;rw[A0]at hz;subst hz;obtain⟨W,e2,V⟩:=KZ K;injection V with V Y;subst V;subst Y;rw[Nat.ble_eq]at W;cases R with
    |GQ _ _ _ hn _=>subst hn;exact iJ
    |AR _ _ _ b hb _ hl=>
     obtain⟨vs,K,V,Y⟩:=AdO (ρ:=ρ) (cell:=λp=>w.cell? ⟨b.b,b.ob+p,none⟩) aa e2 λi hi=>by refine AL.UX (ρ:=ρ) _ λj a S=>?_;have AA:QP _ _=true:=(by have:=e2;unfold B1 at this;simp only[Bn]at this;exact this i hi);unfold QP at AA;obtain⟨ab,_⟩:=BG AA;rw[A0]at ab;have ai:=(Ix.1 S).1;have hm:=Nat.mul_le_mul_right (f i).length hi;rw[ab,Nat.succ_mul]at hm;exact cell_of r ho hb (by omega) (by rw[G1,QU (i:=i) (j:=j) (by omega) _ rfl];exact S)
     exact iK K V λj v S=>by rw[Dd];exact Y j v S
   ·cases z
  ·cases z
 ·injection B with y;injection y with _ y;injection y with y z;subst y;subst z;cases R;exact iJ
 ·injection B with y;injection y with _ y;injection y with y z;subst y;subst z;cases R;exact iJ
 ·obtain⟨l,hl,y⟩:=Ai.1 B;obtain⟨L,z⟩:=AQ.1 y;injection z with z;injection z with _ z;injection z with z K;subst z;subst K;cases R with
  |sl _ _ _ _ b hb=>obtain⟨vs,y,z,K⟩:=HQ r (HS.refl ρ H) hb hl;exact iK (yi y z) (WJ y L) K
 ·obtain⟨l,hl,y⟩:=Ai.1 B;obtain⟨L,z⟩:=AQ.1 y;injection z with z;injection z with _ z;injection z with z K;subst z;subst K;cases R with
  |BK _ _ _ _ b hb _ _=>obtain⟨vs,y,z,K⟩:=HQ r (HS.refl ρ H) hb hl;exact iK (yi y z) (WJ y L) K
 ·cases B
def BA (n:Nat) (f g:Nat->Al):Nat->Al:=λi=>cond (Nat.blt i n) (f i) (g (i-n))
def vn (H:Tr Ah) (el size:Nat) (s:AV):Option (Bool×Nat×(Nat->Al)×Tr Ah):=
 match s with
 |.AR id n e=>gd (Nat.beq e size) (ob (H.get id) λo=>match o with
  |.cells r c z N _=>match c,z with
   |.leaf,.rows x f=>gd (Nat.beq x size) (gd (Nat.beq r el) (some (Nat.ble (n*size) N,n,f,H.del id)))
   |_,_=>none
  |_=>none)
 |_=>none
def YM (P:Program) (H:Tr Ah) (ni:Nat) (B:List TypeId) (y:Al):Option (Bool×AV×Tr Ah):=
 match B,y with
 | [t,tx],[s,x]=>ob (P.underlying t) λd=>match d with
  |.slice el=>ob (P.underlying tx) λJ=>gd (iI J) (ob (P.info? el) λi=>ob i.zero λz=>gd (Nat.blt 0 i.size&&Nat.beq z.cells.size i.size) (match s,x with
    |.AW,.sl _ _ _ _=>none
    |.AW,.BK _ _ _ _=>none
    |.AW,.AW=>none
    |.AW,.sle _=>none
    |.AW,x=>ob (YP H i.size x) λr=>some (cond r.1 (decide (r.2.1<=9223372036854775807/\r.2.1*i.bytes<=140737488355328)) false,.AR ni r.2.1 i.size,H.set ni (.cells el .leaf (.rows i.size r.2.2) (r.2.1*i.size) true))
    |s,x=>ob (vn H el i.size s) λdst=>ob (YP H i.size x) λr=>some (cond (cond dst.1 r.1 false) (decide (dst.2.1+r.2.1<=9223372036854775807/\(dst.2.1+r.2.1)*i.bytes<=140737488355328)) false,.AR ni (dst.2.1+r.2.1) i.size,dst.2.2.2.set ni (.cells el .leaf (.rows i.size (BA dst.2.1 dst.2.2.1 r.2.2)) ((dst.2.1+r.2.1)*i.size) true))))
  |_=>none
 |_,_=>none
theorem vh {ρ:Ak} {b:CD} {size n k el:Nat} {f g:Nat->Al} {vs:List Value} {cs':Array Value} {fz:Nat×Nat} (S:0<size) (DT:cs'.size=b.ob+b.cap) (J:(n+k)*size<=b.cap) (L:dL cs' fz) (x:∀p a,p<n*size->CB.at (.rows size f) p=some a->∃v,cs'[b.ob+p]? =some v/\VR ρ a v) (U:Wp ρ size k g vs) (y:∀p v,vs[p]? =some v->cs'[b.ob+(n*size+p)]? =some v): OR ρ b (.cells el .leaf (.rows size (BA n f g)) ((n+k)*size) true) (.cells cs' el fz):=by
 refine .cells _ _ _ _ true cs' fz DT J (by simp) L λp a V R=>?_;rw[G1]at R;obtain⟨h1,Z,h3⟩:=AeC S V;have r:((BA n f g) (p/size))[p %size]? =some a:=R;unfold BA at r;cases hb:Nat.blt (p/size) n with
 |true=>
  rw[hb,cond_true]at r;rw[CE]at hb;have B:p<n*size:=by have:(p/size+1)*size<=n*size:=Nat.mul_le_mul_right _ hb;rw[Nat.succ_mul]at this;omega
  exact x p a B r
 |false=>
  rw[hb,cond_false]at r;have K:n<=p/size:=by
   rcases D9 (p/size) n with h|h
   ·rw[<-CE,hb]at h;cases h
   ·exact h
  obtain⟨v,hv,z⟩:=U.2 (p/size-n) (by omega) (p %size) a Z r;refine⟨v,?_,z⟩;have Y:=y _ v hv;have W:n*size+((p/size-n)*size+p %size)=p:=by have h6:n*size<=p/size*size:=Nat.mul_le_mul_right _ K;rw[Nat.sub_mul];omega
  rwa[W]at Y
theorem Ap0 {P:Program} {w:World} (base:Option Addr) (vs:List Value) (h:vs=[]) (m:Nat):match base with|none=>w=w|some a=>(storeCells (a.add m) vs).run P w=.ok () w:=by subst h;cases base<;>rfl
theorem Ah9 {P:Program} {w:World} (base:Option Addr) (size:Nat):(Builtin.firstCells size 0 (.slice base 0 0)).run P w=.ok ([]:List Value).toArray w:=by
 cases base with
 |none=>simp[Builtin.firstCells]
 |some a=>have:=run_loadCells_list (P:=P) w a [] (λj v r=>by cases r);simpa[Builtin.firstCells]using this
set_option maxHeartbeats 1000000 in
theorem vk {P:Program} {E:Env} {F:Nat->Option Obj} {nx nx':Nat} {ρ:Ak} {w:World} {H H':Tr Ah} (r:Rel E F nx ρ H.get w) {ni:Nat} (U:ρ ni=none) (ay:nx<=nx') (an:ni<nx') {ts:List TypeId} {xs:Al} {us:List Value} {a:AV} (hx:AL ρ xs us) (ak:YM P H ni ts xs=some (true,a,H')) (ty:TypeId): ∃v w' J,(Builtin.append_ ts.toArray ty us.toArray).run P w=.ok v w'/\Rel E F nx' J H'.get w'/\(ρ.le J/\∀x,x≠ni->J x=ρ x)/\VR J a v:=by
 unfold YM at ak;split at ak
 ·rename_i t tx s x;cases hx with
  |cons _ au _ _ aM aZ=>cases aZ with
   |cons _ ux _ _ aL aX=>
    cases aX;obtain⟨d,hd,h1⟩:=Ai.1 ak;clear ak;split at h1
    ·rename_i el;obtain⟨dx,az,h2⟩:=Ai.1 h1;obtain⟨aw,h3⟩:=AQ.1 h2;obtain⟨i,hi,h4⟩:=Ai.1 h3;obtain⟨z,hz,h5⟩:=Ai.1 h4;obtain⟨R,h6⟩:=AQ.1 h5;clear h1 h2 h3 h4 h5;rw[B4,CE,A0]at R;obtain⟨R,aY⟩:=R;have aK:∀m,(Builtin.zeroCells z.cells m).size=m*i.size:=λm=>by rw[Aez,aY]
     have ae:∀(base:Option Addr) (k:Nat) (g:Nat->Al) (H0:Tr Ah),au=.slice base 0 0->TA P ρ w i.size k g ux->k<=9223372036854775807->k*i.bytes<=140737488355328->(∀j o,H0.get j=some o->H.get j=some o)-> ∀f,∃v w' J,(Builtin.append_ [t,tx].toArray ty [au,ux].toArray).run P w=.ok v w'/\Rel E F nx' J (H0.set ni (.cells el .leaf (.rows i.size (BA 0 f g)) ((0+k)*i.size) true)).get w'/\(ρ.le J/\∀x,x≠ni->J x=ρ x)/\VR J (.AR ni (0+k) i.size) v:=by
      intro base k g H0 aE ⟨vs,hr,aA,L⟩ bc a4 hH f;subst aE;obtain⟨aj,aI⟩:=L w (λ_=>rfl);obtain⟨_,aH⟩:=L w.drew (λ_=>rfl);by_cases hk:k=0
      ·subst hk;have a2:vs=[]:=Ra.1 (by have:=hr.1;simpa using this);have aV:=Ap0 (P:=P) (w:=w) base vs a2 (0*i.size);refine⟨_,w,ρ,TM (base:=base) (len:=0) (cap:=0) (ty:=ty) hd az aw hi aj aI (by omega) aV,?_,⟨Ak.le_refl ρ,λ_ _=>rfl⟩,.GQ _ _ _ rfl base⟩;rw[F5];have K:=(r.less (h':=H0.get) hH).EZ ay;refine⟨K.tape,K.os,K.output,K.fr,λj o b W hb=>?_,λj o b W hb=>?_,λj j' o o' b b' W aP hb aJ=>?_,K.new,λq l hq=>?_,K.bs,K.st,λj o b W hb=>?_,K.sf⟩
       ·by_cases V:j=ni
        ·subst V;rw[U]at hb;cases hb
        ·simp only[V,if_false]at W;exact K.ob j o b W hb
       ·by_cases V:j=ni
        ·subst V;rw[U]at hb;cases hb
        ·simp only[V,if_false]at W;exact K.dj j o b W hb
       ·by_cases V:j=ni
        ·subst V;rw[U]at hb;cases hb
        ·by_cases aB:j'=ni
         ·subst aB;rw[U]at aJ;cases aJ
         ·simp only[V,aB,if_false]at W aP;exact K.inj j j' o o' b b' W aP hb aJ
       ·by_cases aN:q=ni
        ·subst aN;simp at hq
        ·simp only[aN,if_false]at hq;exact K.gl q l hq
       ·by_cases V:j=ni
        ·subst V;rw[U]at hb;cases hb
        ·simp only[V,if_false]at W;exact K.sd j o b W hb
      ·have Y:=WM (base:=base) (len:=0) (cap:=0) (ty:=ty) (olds:=[]) hd az aw hi hz aj (Ah9 base _) aH (by omega) (by omega) (by simpa using a4);simp only[List.nil_append]at Y;have ab:0+k<=grownCap w (0+k) 0 el:=by simp[grownCap,Question.cut]
       generalize a5:grownCap w (0+k) 0 el=cap at Y ab;have ai:(0+k)*i.size<=cap*i.size:=Nat.mul_le_mul_right _ ab;have av:=hr.1;have y:=Ak.JT (ρ:=ρ) U ⟨w.heap.size,0,cap*i.size⟩;have aU:(cap-(0+k))*i.size=cap*i.size-(0+k)*i.size:=Nat.sub_mul _ _ _;have bd:(0+k)*i.size=k*i.size:=by rw[Nat.zero_add]
       have a8:(cap-k)*i.size=cap*i.size-k*i.size:=Nat.sub_mul _ _ _;have ag:=vh (ρ:=ρ.put ni ⟨w.heap.size,0,cap*i.size⟩) (b:=⟨w.heap.size,0,cap*i.size⟩) (size:=i.size) (n:=0) (k:=k) (el:=el) (f:=f) (g:=g) (vs:=vs) (cs':=vs.toArray++Builtin.zeroCells z.cells (cap-(0+k))) (fz:=(0,0)) R (by simp[aK];omega) ai (.inl rfl) (λp a hp=>by omega) ⟨av,λq hq j a W ha=>let ⟨v,h1,h2⟩:=hr.2 q hq j a W ha;⟨v,h1,h2.mono y⟩⟩ (λp v hp=>by have ah:=(Ix.1 hp).1;simp only[Nat.zero_mul,Nat.zero_add];rw[Array.getElem?_append,As (by simpa using ah)];simpa using hp);obtain⟨h1,h2⟩:=(r.drew.less (h':=H0.get) hH).alloc U ay an ag;refine⟨_,_,ρ.put ni ⟨w.heap.size,0,cap*i.size⟩,Y,by rw[F5];exact h1,⟨y,λx hx=>Ak.GH hx _⟩,?_⟩;have:=VR.AR (ρ:=ρ.put ni ⟨w.heap.size,0,cap*i.size⟩) ni (0+k) i.size ⟨w.heap.size,0,cap*i.size⟩ (Ak.EO _ _ _) R ai;simpa[Nat.mul_div_cancel _ R]using this
     have ad:∀Z:Bool×Nat×(Nat->Al),YP H i.size x=some Z->s=.AW-> some (cond Z.1 (decide (Z.2.1<=9223372036854775807/\Z.2.1*i.bytes<=140737488355328)) false,AV.AR ni Z.2.1 i.size,H.set ni (.cells el .leaf (.rows i.size Z.2.2) (Z.2.1*i.size) true))=some (true,a,H')-> ∃v w' J,(Builtin.append_ [t,tx].toArray ty [au,ux].toArray).run P w=.ok v w'/\Rel E F nx' J H'.get w'/\(ρ.le J/\∀x,x≠ni->J x=ρ x)/\VR J a v:=by
      rintro⟨sb,k,g⟩ L hs h7;subst hs;obtain⟨e1,e2,h8⟩:=KZ h7;injection h8 with h8 h9;subst h8;subst h9;simp only[Bn]at e1 e2;subst e1;have aE:au=.slice none 0 0:=by cases aM;rfl
      have AA:=Aeg (P:=P) r R aL L;have:=ae none k g H aE AA e2.1 e2.2 (λ_ _ h=>h) (λ_=>[]);have hf:BA 0 (λ_=>[]) g=g:=by funext q;rfl
      rw[hf,Nat.zero_add]at this;exact this
     split at h6
     ·cases h6
     ·cases h6
     ·cases h6
     ·cases h6
     ·obtain⟨Z,L,h7⟩:=Ai.1 h6;exact ad Z L rfl h7
     ·obtain⟨⟨db,n,f,H0⟩,aa,h7⟩:=Ai.1 h6;obtain⟨⟨sb,k,g⟩,L,h8⟩:=Ai.1 h7;obtain⟨e1,e2,h9⟩:=KZ h8;injection h9 with h9 a7;subst h9;subst a7;obtain⟨e3,e4⟩:=BG e1;simp only[Bn]at e2 e3 e4;subst e3;subst e4;have AA:=Aeg (P:=P) r R aL L;clear h6 h7 h8 e1 ad;cases s with
      |AR id S e=>
       simp only[vn]at aa;obtain⟨aS,h1⟩:=AQ.1 aa;rw[A0]at aS;obtain⟨o,ho,h2⟩:=Ai.1 h1;clear aa h1;split at h2
       ·rename_i af c0 z0 N op;split at h2
        ·rename_i e' f';obtain⟨aG,h3⟩:=AQ.1 h2;obtain⟨aT,h4⟩:=AQ.1 h3;injection h4 with h4;injection h4 with hN h4;injection h4 with h4 h5;injection h5 with h5 h6;subst h4;subst h5;subst h6;rw[A0]at aG aT;rw[Nat.ble_eq]at hN;subst aT;subst aS;cases aM with
         |GQ _ _ _ hn base=>subst hn;have:=ae base k g (H.del id) rfl AA (by omega) (by simpa using e2.2) (s7 H id) f';exact this
         |AR _ _ _ b hb he hl=>
          obtain⟨vs,hr,aA,ao⟩:=AA;obtain⟨aj,aI⟩:=ao w (λ_=>rfl);obtain⟨_,aH⟩:=ao w.drew (λ_=>rfl);obtain⟨oc,aF,ag⟩:=r.ob _ _ b ho hb;cases ag with
          |cells _ _ _ _ _ cs fz DT hn bb aR ar=>
           have a9:S<=b.cap/i.size:=by rw[Nat.le_div_iff_mul_le he];exact hl
           have ba:(S+k)*i.size=S*i.size+k*i.size:=Nat.add_mul _ _ _;have av:=hr.1;rcases D9 (b.cap/i.size) (S+k)with ah|aQ
           ·-- a new row
            let olds:List Value:=(List.range (S*i.size)).map λp=>(cs[b.ob+p]?).getD undef;have aq:∀p,p<S*i.size->olds[p]? =cs[b.ob+p]?:=λp hp=>by
             have a6:b.ob+p<cs.size:=by omega
             simp only[olds,I8,Tn hp,Option.map_some];rw[Array.getElem?_eq_getElem a6];rfl
            have B:olds.length=S*i.size:=by simp[olds]
            have a3:(Builtin.firstCells i.size S (.slice (some ⟨b.b,b.ob,none⟩) S (b.cap/i.size))).run P w.drew=.ok olds.toArray w.drew:=by have:=run_loadCells_list (P:=P) w.drew ⟨b.b,b.ob,none⟩ olds (λj v W=>by have aO:=(Ix.1 W).1;rw[B]at aO;rw[aq j aO]at W;rw[Dd];show w.cell? _=_;simp[World.cell?,aF,W]);rw[B]at this;simp[Builtin.firstCells,this]
            have Y:=WM (base:=some ⟨b.b,b.ob,none⟩) (ty:=ty) hd az aw hi hz aj a3 aH ah e2.1 e2.2;have ab:S+k<=grownCap w (S+k) (b.cap/i.size) af:=by simp[grownCap,Question.cut]
            generalize a5:grownCap w (S+k) (b.cap/i.size) af=cap at Y ab;have ai:(S+k)*i.size<=cap*i.size:=Nat.mul_le_mul_right _ ab;have y:=Ak.JT (ρ:=ρ) U ⟨w.heap.size,0,cap*i.size⟩;have aU:(cap-(S+k))*i.size=cap*i.size-(S+k)*i.size:=Nat.sub_mul _ _ _;have ag:=vh (ρ:=ρ.put ni ⟨w.heap.size,0,cap*i.size⟩) (b:=⟨w.heap.size,0,cap*i.size⟩) (size:=i.size) (n:=S) (k:=k) (el:=af) (f:=f') (g:=g) (vs:=vs) (cs':=(olds++vs).toArray++Builtin.zeroCells z.cells (cap-(S+k))) (fz:=(0,0)) R (by simp[aK,B];omega) ai (.inl rfl) (λp a hp ha=>by obtain⟨v,hv,aD⟩:=ar p a (by omega) (by rw[G1,aG];exact ha);refine⟨v,?_,aD.mono y⟩;simp only[Nat.zero_add];rw[Array.getElem?_append,As (by simp[B];omega)];rw[List.getElem?_toArray,List.getElem?_append,As (by rw[B];exact hp),aq p hp];exact hv) ⟨av,λq hq j a W ha=>let ⟨v,h1,h2⟩:=hr.2 q hq j a W ha;⟨v,h1,h2.mono y⟩⟩ (λp v hp=>by have ah:=(Ix.1 hp).1;simp only[Nat.zero_add];rw[Array.getElem?_append,As (by simp[B];omega)];rw[List.getElem?_toArray,List.getElem?_append,An (by rw[B];omega),B,Nat.add_sub_cancel_left];exact hp);obtain⟨h1,h2⟩:=(r.drew.less (h':=(H.del id).get) (s7 H id)).alloc U ay an ag;refine⟨_,_,ρ.put ni ⟨w.heap.size,0,cap*i.size⟩,Y,by rw[F5];exact h1,⟨y,λx hx=>Ak.GH hx _⟩,?_⟩;have:=VR.AR (ρ:=ρ.put ni ⟨w.heap.size,0,cap*i.size⟩) ni (S+k) i.size ⟨w.heap.size,0,cap*i.size⟩ (Ak.EO _ _ _) R ai;simpa[Nat.mul_div_cancel _ R]using this
           ·-- room
            have aC:(S+k)*i.size<=b.cap:=(Nat.le_div_iff_mul_le he).1 aQ;obtain⟨cs',f1,f2,f3⟩:=YK (P:=P) b.b (b.ob+S*i.size) af fz vs 0 cs w aF aR (by omega) aA;have y:=Ak.JT (ρ:=ρ) U b;have aW:=vh (ρ:=ρ.put ni b) (b:=b) (size:=i.size) (n:=S) (k:=k) (el:=af) (f:=f') (g:=g) (vs:=vs) (cs':=cs') (fz:=fz) R (by rw[f2,DT]) aC (by rcases aR with hz|hz;exact .inl hz;exact .inr (by omega)) (λp a hp ha=>by obtain⟨v,hv,aD⟩:=ar p a (by omega) (by rw[G1,aG];exact ha);exact⟨v,by rw[f3,An (by omega)];exact hv,aD.mono y⟩) ⟨av,λq hq j a W ha=>let ⟨v,h1,h2⟩:=hr.2 q hq j a W ha;⟨v,h1,h2.mono y⟩⟩ (λp v hp=>by have ah:=(Ix.1 hp).1;rw[f3,As (by omega),<-hp];congr 1;omega);refine⟨.slice (some ⟨b.b,b.ob,none⟩) (S+k) (b.cap/i.size),World.EN w b.b (.cells cs' af fz),ρ.put ni b,?_,?_,⟨y,λx hx=>Ak.GH hx _⟩,?_⟩
            ·refine TM (base:=some ⟨b.b,b.ob,none⟩) (ty:=ty) hd az aw hi aj aI aQ ?_;simp only[Dd];exact f1
            ·exact r.rename ho hb U ay an rfl aW (Mn w b.b _ _ aF) rfl rfl rfl
            ·exact .AR ni (S+k) i.size b (Ak.EO _ _ _) he aC
        ·cases h2
       ·cases h2
      |_=>simp only[vn]at aa;cases aa
    ·cases h1
 ·cases ak
def E4 (f:Nat->Al) (i j:Nat) (vs:Al):Nat->Al:=λk=>cond (Nat.beq k i) (MK (f i) j vs) (f k)
def wB (P:Program) (H:Tr Ah) (t:TypeId) (x v:AV):Option (Bool×Tr Ah):=
 match x with
 |.Gr id Ax i j=>ob (P.info? t) λy=>gd (Nat.beq v.cells.length y.size&&v.cells.all AV.one&&Nat.ble (j+v.cells.length) Ax&&Nat.blt 0 v.cells.length) (ob (H.get id) λo=>match o with
  |.cells el c z N op=>match c,z with
   |.leaf,.rows r f=>gd (Nat.beq r Ax) (some (cond (Nat.ble (j+v.cells.length) (f i).length) (Nat.ble (i*Ax+j+v.cells.length) N) false,H.set id (.cells el .leaf (.rows Ax (E4 f i j v.cells)) N op)))
   |_,_=>none
  |_=>none)
 |_=>none
theorem ApH {P:Program} {E:Env} {F:Nat->Option Obj} {nx:Nat} {ρ:Ak} {w:World} {H H':Tr Ah} (r:Rel E F nx ρ H.get w) {t:TypeId} {x v:AV} {u z:Value} (hx:VR ρ x u) (hv:VR ρ v z) (K:wB P H t x v=some (true,H')): ∃w',(Instr.storeAt t u z).run P w=.ok () w'/\Rel E F nx ρ H'.get w':=by
 unfold wB at K;split at K
 ·rename_i id Ax i j;obtain⟨ti,W,h1⟩:=Ai.1 K;obtain⟨hg,h2⟩:=AQ.1 h1;obtain⟨o,ho,U⟩:=Ai.1 h2;clear K h1 h2;simp only[B4,A0,Nat.ble_eq,CE]at hg;obtain⟨⟨⟨av,aj⟩,au⟩,ar⟩:=hg;cases hx with
  |Gr _ _ _ _ b hb=>
  split at U
  ·rename_i el c z0 N op;split at U
   ·rename_i y f;obtain⟨he,S⟩:=AQ.1 U;rw[A0]at he;subst he;injection S with S;injection S with S h5;subst h5;obtain⟨h6,h7⟩:=BG S;rw[Nat.ble_eq]at h6 h7;have L:=hv.cells;have ab:=L.length;obtain⟨oc,Y,ag⟩:=r.ob _ _ b ho hb;cases ag with
    |cells _ _ _ _ _ cs fz DT hn ah Z R=>
     obtain⟨cs',f1,f2,f3⟩:=YK (P:=P) b.b (b.ob+(i*y+j)) el fz z.cells.toList 0 cs w Y Z (by omega) (WJ L aj);have an:z.cells.size=ti.size:=by simp at ab;omega
     refine⟨World.EN w b.b (.cells cs' el fz),?_,?_⟩
     ·have ae:z.cells.size=P.cellsOf t:=by simp[Program.cellsOf,W];omega
      simp[Instr.storeAt,Instr.sureAddr,storeVar,run_sizeOf w W,ae,f1]
     ·rw[F5];refine r.put ho hb (.cells _ _ _ _ _ cs' fz (by rw[f2,DT]) hn ah (by rcases Z with hz|hz;exact .inl hz;exact .inr (by omega)) λp a hp ha=>?_) (Mn w b.b _ _ Y) rfl rfl rfl;rw[G1]at ha;have aa:0<y:=by omega
      have ao:p %y<y:=Nat.mod_lt _ aa;have af:p/y*y+p %y=p:=by rw[Nat.mul_comm];exact Nat.div_add_mod p y
      have B:(E4 f i j v.cells (p/y))[p %y]? =some a:=ha;have V:(f (p/y))[p %y]? =some a->¬(b.ob+(i*y+j)+0<=b.ob+p/\b.ob+p<b.ob+(i*y+j)+0+z.cells.toList.length)->∃u,cs'[b.ob+p]? =some u/\VR ρ a u:=λh1 h2=>by rw[f3,An h2];exact R p a hp (by rw[G1];exact h1)
      unfold E4 at B;cases J:Nat.beq (p/y) i with
      |true=>
       rw[J,cond_true,AeB _ _ _ _ h6]at B;rw[A0]at J;rw[J]at af;split at B
       ·rename_i aq;obtain⟨u,hu,ad⟩:=L.get _ a B;refine⟨u,?_,ad⟩;rw[f3,As (by omega),<-hu];congr 1;omega
       ·rename_i ak;exact V (by rw[J];exact B) (by omega)
      |false=>
       rw[J,cond_false]at B;have ai:p/y≠i:=λe=>by rw[<-A0,J]at e;cases e
       refine V B λ⟨h8,h9⟩=>ai ?_;have:p/y=i:=by rw[Nat.div_eq_iff aa];have:(i+1)*y=i*y+y:=Nat.succ_mul _ _;omega
       exact this
   ·cases U
  ·cases U
 ·cases K
end Go.Ev
end
section
namespace Go.Ev
def PX (l:Al):Bool:=match l with
 | [.int .u8 n]=>Bf .u8 n
 |_=>false
def Ok (n:Nat) (f:Nat->Al):Bool:=decide (∀i,i<n->PX (f i)=true)
theorem AiI {ρ:Ak} {l:Al} {vs:List Value} (h:PX l=true) (hv:AL ρ l vs):∃n:Int,vs=[.int .u8 n]/\n=((Jc l).toNat:Int):=by
 unfold PX at h;split at h
 ·rename_i n;have h:0<=n/\n<=255:=dh.1 h;cases hv with
  |cons _ _ _ _ x r=>cases x;cases r;refine⟨n,rfl,?_⟩;simp only[Jc];simp;omega
 ·cases h
theorem wL {ρ:Ak} {n:Nat} {f:Nat->Al} {v:Value} (h:VR ρ (.vec 1 n f) v) (hb:Ok n f=true):VR ρ (.bv (GN n f)) v:=by
 unfold Ok at hb;simp only[Bn]at hb;have hl:(GN n f).length=n:=by simp[GN]
 cases h with
 |GR _ _ _ hn base cap=>subst hn;exact .Hr _ (by simp[GN]) _ _
 |vec _ _ _ b o cap cs el fz g x K r hv hc=>
  have:=VR.bv (ρ:=ρ) (GN n f) b o cap cs el fz x (by rw[hl];exact r) λi hi=>by
   rw[hl]at hi;obtain⟨m,J,B⟩:=AiI (hb i hi) (hv i hi);have z:=hc i hi 0 (.int .u8 m) (by rw[J];rfl);have y:(GN n f).getD i 0=Jc (f i):=by simp[GN,List.getD,hi]
   rw[y,<-B];simpa using z
  rw[hl]at this;exact this
def fB {r:Type} (b:Bool) (k:Bool->r):r:=Bool.rec (motive:=λ_=>r) (k false) (k true) b
theorem sJ {r:Type} (b:Bool) (k:Bool->r):fB b k=k b:=by cases b<;>rfl
structure FZ where
 id:Nat
 Ax:Nat
 n:Nat
 a:AV
def UD (P:Program) (el:Nat):Bool:=match P.underlying el with
 |some (.int .u8)=>true
 |_=>false
def vf (r:Bool) (Ax n:Nat) (f:Nat->Al):AV:=cond r (.bv (GN n f)) (.vec Ax n f)
def AdK (r:Bool) (Ax n:Nat) (f:Nat->Al):Bool:=cond r (Ok n f) (B1 Ax n f)
abbrev FR:=Option (Bool×AV×List FZ×List Nat)
def Lc (y:AV->FR) (l:Al):Option (Bool×Al×List FZ×List Nat):=List.rec (motive:=λ_=>Option (Bool×Al×List FZ×List Nat)) (some (true,[],[],[])) (λx _ z=>ob (y x) λr=>ob z λq=>some (cond r.1 q.1 false,r.2.1::q.2.1,r.2.2.1++q.2.2.1,r.2.2.2++q.2.2.2)) l
def JL (P:Program) (H:Tr Ah) (x:AV->FR) (a:AV):FR:=match a with
 |.AR id n Ax=>ob (H.get id) λo=>match o with
  |.cells el c z N _=>match c,z with
   |.leaf,.rows e f=>gd (Nat.beq e Ax) (fB (cond (Nat.beq Ax 1) (UD P el) false) λu=>some (cond (Nat.ble (n*Ax) N) (AdK u Ax n f) false,vf u Ax n f,[⟨id,Ax,n,vf u Ax n f⟩],[id]))
   |_,_=>none
  |_=>none
 |.sl id off n cap=>gd (cond (Nat.beq off 0) (Nat.ble n cap) false) (ob (H.get id) λo=>match o with
  |.cells el _ _ _ _=>ob (P.info? el) λi=>gd (Nat.blt 0 i.size) (ob (EV H id 0 (n*i.size)) λl=>gd (l.all AV.one) (fB (cond (Nat.beq i.size 1) (UD P el) false) λu=>cond u (some (l.all λa=>PX [a],.bv (l.map λa=>Jc [a]),[],[id])) (ob (Lc x l) λr=>some (r.1,.vec i.size n (chunk i.size n r.2.1),r.2.2.1,id::r.2.2.2))))
  |_=>none)
 |.BK id off n Ax=>gd (Nat.beq off 0) (ob (H.get id) λo=>match o with
  |.cells el _ _ _ _=>ob (EV H id 0 (n*Ax)) λl=>gd (l.all AV.one) (fB (cond (Nat.beq Ax 1) (UD P el) false) λu=>cond u (some (l.all λa=>PX [a],.bv (l.map λa=>Jc [a]),[],[id])) (ob (Lc x l) λr=>some (r.1,.vec Ax n (chunk Ax n r.2.1),r.2.2.1,id::r.2.2.2)))
  |_=>none)
 |.ptr id off=>gd (Nat.beq off 0) (ob (H.get id) λo=>match o with
  |.cells _ _ _ n _=>ob (EV H id 0 n) λl=>gd (l.all AV.one) (ob (Lc x l) λr=>some (r.1,.pv r.2.1,r.2.2.1,id::r.2.2.2))
  |_=>none)
 |.agg l=>ob (Lc x l) λr=>some (r.1,.agg r.2.1,r.2.2.1,r.2.2.2)
 |.AM l=>ob (Lc x l) λr=>some (r.1,.AM r.2.1,r.2.2.1,r.2.2.2)
 |.iface t v=>ob (x v) λr=>some (r.1,.iface t r.2.1,r.2.2.1,r.2.2.2)
 |.fn (.func g) a c=>ob (Lc x a) λr=>ob (Lc x c) λq=>some (cond r.1 q.1 false,.fn (.func g) r.2.1 q.2.1,r.2.2.1++q.2.2.1,r.2.2.2++q.2.2.2)
 |.sle _=>some (true,.vec 1 0 λ_=>[],[],[])
 |.bool b=>some (true,.bool b,[],[])
 |.int k n=>some (true,.int k n,[],[])
 |.str m n=>some (true,.str m n,[],[])
 |.bs l=>some (true,.bs l,[],[])
 |.bv l=>some (true,.bv l,[],[])
 |.vec e n f=>some (true,.vec e n f,[],[])
 |.pv l=>some (true,.pv l,[],[])
 |.Fb h v z=>some (true,.Fb h v z,[],[])
 |.Ei=>some (true,.Ei,[],[])
 |.AW=>some (true,.AW,[],[])
 |.EY=>some (true,.EY,[],[])
 |.F4=>some (true,.F4,[],[])
 |.DU=>some (true,.DU,[],[])
 |_=>none
def AaT (P:Program) (H:Tr Ah) (k:Nat):AV->FR:=Nat.rec (motive:=λ_=>AV->FR) (λ_=>none) (λ_ r=>JL P H r) k
def Lb (P:Program) (H:Tr Ah) (a:AV):FR:=AaT P H 12 a
def PQ (P:Program) (H:Tr Ah) (l:Al):Option (Bool×Al×List FZ×List Nat):=Lc (Lb P H) l
def Dz (H:Tr Ah) (r:List Nat):Tr Ah:=List.rec (motive:=λ_=>Tr Ah) H (λi _ x=>x.del i) r
theorem Rw {H:Tr Ah}:∀ {r:List Nat} {i:Nat} {o:Ah},(Dz H r).get i=some o->H.get i=some o/\i∉r
 | [],i,o,h=>⟨h,by simp⟩
 |j::r,i,o,h=>by
  have h':((Dz H r).del j).get i=some o:=h;rw[Tr.JN]at h';split at h'
  ·cases h'
  ·rename_i x;obtain⟨z,y⟩:=Rw h';exact⟨z,by simp[y];exactλe=>x e.symm⟩
open Classical in
def Cx (ρ:Ak) (w:World) (x:List Nat):Ak:=⟨ρ.nm,λb=>if∃id∈x,∃r,ρ id=some r/\r.b=b then w.heap[b]? else ρ.st b⟩
def Fv (H:Tr Ah) (r:List Nat):Prop:=∀id∈r,∃o,H.get id=some o
theorem Aih {E:Env} {F:Nat->Option Obj} {nx:Nat} {ρ:Ak} {w:World} {H:Tr Ah} (r:Rel E F nx ρ H.get w) {x:List Nat} (hi:Fv H x) {b:Nat} {o:Obj} (h:ρ.st b=some o):(Cx ρ w x).st b=some o:=by
 show(if _ then _ else _)=_;split
 ·rename_i B;obtain⟨id,y,z,L,K⟩:=B;obtain⟨o',J⟩:=hi id y;have:=r.sd id o' z J L;rw[K,h]at this;cases this
 ·exact h
theorem Ku {E:Env} {F:Nat->Option Obj} {nx:Nat} {ρ:Ak} {w:World} {H:Tr Ah} (r:Rel E F nx ρ H.get w) {x:List Nat} (hi:Fv H x): RX nx nx ρ (Cx ρ w x)/\Rel E F nx (Cx ρ w x) (Dz H x).get w:=by
 have B:ρ.le (Cx ρ w x):=⟨λ_ _ h=>h,λb o h=>Aih r hi h⟩;refine⟨⟨B,λ_ _=>rfl,AH _⟩,r.tape,r.os,r.output,r.fr,λi o b h hb=>?_,λi o b h hb=>r.dj i o b (Rw h).1 hb,λi j o o' b Z h h' hb V e=>r.inj i j o o' b Z (Rw h).1 (Rw h').1 hb V e,r.new,λg l h=>r.gl g l (Rw h).1,r.bs,λb o h=>?_,λi o b h hb=>?_,λb o o' W h=>?_⟩
 ·obtain⟨c,J,S⟩:=r.ob i o b (Rw h).1 hb;exact⟨c,J,S.mono B⟩
 ·have h':(if _ then _ else _)=some o:=h;split at h'
  ·exact h'
  ·exact r.st b o h'
 ·obtain⟨J,S⟩:=Rw h;show(if _ then _ else _)=none;rw[An]
  ·exact r.sd i o b J hb
  ·rintro⟨id,y,z,R,L⟩;obtain⟨o',K⟩:=hi id y;have:=r.inj id i o' o z b K J R hb L;subst this;exact S y
 ·have h':(if _ then _ else _)=some o':=h;split at h'
  ·rename_i Y;obtain⟨id,y,z,R,L⟩:=Y;obtain⟨U,K⟩:=hi id y;have:=r.dj id U z K R;rw[L,W]at this;cases this
  ·exact r.sf b o o' W h'
theorem Ur {ρ:Ak} {w:World} {r:List Nat} {id:Nat} {b:CD} (x:id∈r) (hb:ρ id=some b):(Cx ρ w r).st b.b=w.heap[b.b]?:=As ⟨id,x,b,hb,rfl⟩
theorem AdN {E:Env} {F:Nat->Option Obj} {nx:Nat} {ρ:Ak} {w:World} {H:Tr Ah} (r:Rel E F nx ρ H.get w) {z:List Nat} (hi:Fv H z) {id el n Ax N:Nat} {f:Nat->Al} {op:Bool} (U:id∈z) (ho:H.get id=some (.cells el .leaf (.rows Ax f) N op)) (hN:n*Ax<=N) (K:B1 Ax n f=true) {v:Value} (hv:VR ρ (.AR id n Ax) v):VR (Cx ρ w z) (.vec Ax n f) v:=by
 have S:=(Ku r hi).1.le;cases hv with
 |GQ _ _ _ hn _=>exact .GR _ _ _ hn _ _
 |AR _ _ _ b hb W hl=>
  obtain⟨c,hc,R⟩:=r.ob _ _ b ho hb;cases R with
  |cells _ _ _ _ _ cs fz DT hn aa ad B=>
   have L:(Cx ρ w z).st b.b=some (.cells cs el fz):=(Ur U hb).trans hc;have J:n<=b.cap/Ax:=by rw[Nat.le_div_iff_mul_le W];exact hl
   unfold B1 at K;simp only[Bn]at K;have y:∀i,∃vs,i<n->AL ρ (f i) vs/\∀j v,vs[j]? =some v->cs[b.ob+i*Ax+j]? =some v:=λi=>by
    by_cases x:i<n
    ·have Y:=K i x;unfold QP at Y;obtain⟨h2,_⟩:=BG Y;rw[A0]at h2;have hm:(i+1)*Ax<=n*Ax:=Nat.mul_le_mul_right _ x;rw[Nat.succ_mul]at hm;obtain⟨vs,h3,h4⟩:=AL.UX (ρ:=ρ) (l:=f i) (λj v=>cs[b.ob+i*Ax+j]? =some v) λj a V=>by have ab:=(Ix.1 V).1;obtain⟨v,hv,Z⟩:=B (i*Ax+j) a (by omega) (by rw[G1,QU (i:=i) (j:=j) (by omega) _ rfl];exact V);exact⟨v,by rw[Fu];exact hv,Z⟩
     exact⟨vs,λ_=>⟨h3,h4⟩⟩
    ·exact⟨[],λh=>absurd h x⟩
   exact .vec _ _ _ b.b b.ob _ cs el fz (λi=>Classical.choose (y i)) L W J (λi x=>(LU (y i) x).1.mono S) (λi x=>(LU (y i) x).2)
def WT (size k:Nat) (l:List Value):Nat->List Value:=match k with
 |1=>λ_=>l
 |_=>λi=>(l.drop (i*size)).take size
theorem yj {ρ:Ak} {size k:Nat} {l:Al} {vs:List Value} (h:AL ρ l vs) (i:Nat):AL ρ (chunk size k l i) (WT size k vs i):=by
 rcases k with _|_|k
 ·exact(h.drop _).take _
 ·exact h
 ·exact(h.drop _).take _
theorem yh {size k i j:Nat} {vs:List Value} {v:Value} (hi:i<k) (h:(WT size k vs i)[j]? =some v):vs[i*size+j]? =some v:=by
 unfold WT at h;split at h
 ·have:i=0:=by omega
  subst this;simpa using h
 ·rw[List.getElem?_take]at h;split at h
  ·rw[List.getElem?_drop]at h;exact h
  ·cases h
theorem yd {E:Env} {F:Nat->Option Obj} {nx:Nat} {ρ:Ak} {w:World} {H:Tr Ah} (r:Rel E F nx ρ H.get w) {x:List Nat} (hi:Fv H x) {id n Ax:Nat} {l:Al} (S:id∈x) (W:0<Ax) (hl:EV H id 0 (n*Ax)=some l) {b:CD} (hb:ρ id=some b) {cap:Nat} (B:n<=cap):VR (Cx ρ w x) (.vec Ax n (chunk Ax n l)) (.slice (some ⟨b.b,b.ob,none⟩) n cap):=by
 have R:=(Ku r hi).1.le;obtain⟨vs,h1,h2,h3⟩:=HQ r (HS.refl ρ H) hb hl;obtain⟨o,Y,Z⟩:=Ai.1 hl;cases o with
 |cells el c z N op=>
  obtain⟨oc,hc,L⟩:=r.ob _ _ b Y hb;cases L with
  |cells _ _ _ _ _ cs fz DT hn aa ab V=>
   have K:(Cx ρ w x).st b.b=some (.cells cs el fz):=(Ur S hb).trans hc;have U:∀j v,vs[j]? =some v->cs[b.ob+j]? =some v:=λj v J=>by have:=h3 j v J;rw[Dd]at this;simpa[World.cell?,hc]using this
   refine .vec _ _ _ b.b b.ob _ cs el fz (λi=>WT Ax n vs i) K W B (λi y=>(yj h1 i).mono R) λi y j v J=>?_;rw[Fu];exact U _ _ (yh y J)
 |_=>cases Z
theorem ye {E:Env} {F:Nat->Option Obj} {nx:Nat} {ρ:Ak} {w:World} {H:Tr Ah} (r:Rel E F nx ρ H.get w) {x:List Nat} (hi:Fv H x) {id n Ax:Nat} {l:Al} (S:id∈x) (Y:0<Ax) (hl:EV H id 0 (n*Ax)=some l) {W:Al} (L:∀vs,AL ρ l vs->AL (Cx ρ w x) W vs) {b:CD} (hb:ρ id=some b) {cap:Nat} (y:n<=cap):VR (Cx ρ w x) (.vec Ax n (chunk Ax n W)) (.slice (some ⟨b.b,b.ob,none⟩) n cap):=by
 obtain⟨vs,h1,h2,h3⟩:=HQ r (HS.refl ρ H) hb hl;obtain⟨o,Z,h4⟩:=Ai.1 hl;cases o with
 |cells el c z N op=>
  obtain⟨oc,hc,K⟩:=r.ob _ _ b Z hb;cases K with
  |cells _ _ _ _ _ cs fz DT hn aa ab V=>
   have J:(Cx ρ w x).st b.b=some (.cells cs el fz):=(Ur S hb).trans hc;have U:∀j v,vs[j]? =some v->cs[b.ob+j]? =some v:=λj v B=>by have:=h3 j v B;rw[Dd]at this;simpa[World.cell?,hc]using this
   refine .vec _ _ _ b.b b.ob _ cs el fz (λi=>WT Ax n vs i) J Y y (λi _=>yj (L vs h1) i) λi R j v B=>?_;rw[Fu];exact U _ _ (yh R B)
 |_=>cases h4
theorem Ag4 {E:Env} {F:Nat->Option Obj} {nx:Nat} {ρ:Ak} {w:World} {H:Tr Ah} (r:Rel E F nx ρ H.get w) {x:List Nat} (hi:Fv H x) {id n:Nat} {l:Al} (L:id∈x) (hl:EV H id 0 n=some l) {y:Al} (K:∀vs,AL ρ l vs->AL (Cx ρ w x) y vs) {b:CD} (hb:ρ id=some b):VR (Cx ρ w x) (.pv y) (.pointer (some ⟨b.b,b.ob+0,none⟩)):=by
 obtain⟨vs,Z,h2,Y⟩:=HQ r (HS.refl ρ H) hb hl;obtain⟨o,U,W⟩:=Ai.1 hl;cases o with
 |cells el c z N op=>
  obtain⟨oc,hc,J⟩:=r.ob _ _ b U hb;cases J with
  |cells _ _ _ _ _ cs fz DT hn aa ab S=>
   have B:(Cx ρ w x).st b.b=some (.cells cs el fz):=(Ur L hb).trans hc;have R:∀j v,vs[j]? =some v->cs[b.ob+j]? =some v:=λj v V=>by have:=Y j v V;rw[Dd]at this;simpa[World.cell?,hc]using this
   exact .pv y vs b.b b.ob cs el fz B (K vs Z) R
 |_=>cases W
theorem Afo {ρ:Ak} {n:Nat} {l:Al} {v:Value} (h:VR ρ (.vec 1 n (chunk 1 n l)) v) (hl:l.length=n) (hb:(l.all λa=>PX [a])=true):VR ρ (.bv (l.map λa=>Jc [a])) v:=by
 have hc:∀i,i<n->∃a,l[i]? =some a/\chunk 1 n l i=[a]:=λi hi=>by
  have r:i<l.length:=by omega
  refine⟨l[i],Ce r,?_⟩;rcases n with _|_|n
  ·omega
  ·have:i=0:=by omega
   subst this;show l=_
   match l,hl with
   | [x],_=>rfl
  ·show(l.drop (i*1)).take 1=_;rw[Nat.mul_one,List.drop_eq_getElem_cons r];rfl
 have y:Ok n (chunk 1 n l)=true:=by unfold Ok;simp only[Bn];intro i hi;obtain⟨a,B,z⟩:=hc i hi;rw[z];exact List.all_eq_true.1 hb a (List.mem_of_getElem? B)
 have:=wL h y;have J:GN n (chunk 1 n l)=l.map λa=>Jc [a]:=by
  apply List.ext_getElem?;intro i;unfold GN;rw[I8,I8];by_cases hi:i<n
  ·obtain⟨a,B,z⟩:=hc i hi;rw[Tn hi,B];simp[z]
  ·rw[Ja (by simp;omega),Ja (by omega)];rfl
 rw[J]at this;exact this
theorem AdL {E:Env} {F:Nat->Option Obj} {nx:Nat} {ρ:Ak} {w:World} {H:Tr Ah} (r:Rel E F nx ρ H.get w) {x:List Nat} (hi:Fv H x) {id el n Ax N:Nat} {f:Nat->Al} {op u:Bool} (z:id∈x) (B:H.get id=some (.cells el .leaf (.rows Ax f) N op)) (K:n*Ax<=N) (hu:u=true->Ax=1) (J:AdK u Ax n f=true) {v:Value} (hv:VR ρ (.AR id n Ax) v):VR (Cx ρ w x) (vf u Ax n f) v:=by
 cases u with
 |false=>exact AdN r hi z B K J hv
 |true=>
  have:=hu rfl;subst this;have hb:Ok n f=true:=J;have y:B1 1 n f=true:=DL λi hi=>by
   unfold Ok at hb;simp only[Bn]at hb;have:=hb i hi;unfold PX at this;split at this
   ·rename_i L;rw[L];rfl
   ·cases this
  exact wL (AdN r hi z B K y hv) hb
def V7 (ρ:Ak) (w:World) (H:Tr Ah) (fz:List FZ) (x:List Nat):Prop:=∀z∈fz,z.id∈x/\∀r,Fv H r->z.id∈r->∀v,VR ρ (.AR z.id z.n z.Ax) v->VR (Cx ρ w r) z.a v
def FS (H:Tr Ah) (ρ:Ak) (w:World) (y:AV->FR):Prop:=∀(a z:AV) (fz:List FZ) (r:List Nat),y a=some (true,z,fz,r)-> Fv H r/\V7 ρ w H fz r/\∀x,Fv H x->(∀i∈r,i∈x)->∀v,VR ρ a v->VR (Cx ρ w x) z v
theorem Ma {H:Tr Ah} {ρ:Ak} {w:World} {J:AV->FR} (L:FS H ρ w J):∀(a U:Al) (fz:List FZ) (y:List Nat),Lc J a=some (true,U,fz,y)-> Fv H y/\V7 ρ w H fz y/\∀B,Fv H B->(∀i∈y,i∈B)->∀v,AL ρ a v->AL (Cx ρ w B) U v
 | [],U,fz,y,h=>by injection (show(some (true,[],[],[]):Option (Bool×Al×List FZ×List Nat))=_ from h)with h;injection h with _ h;injection h with Y h;injection h with W S;subst Y;subst W;subst S;exact⟨λi hi=>by simp at hi,λz hz=>by simp at hz,λB _ _ v hv=>by cases hv;exact .nil⟩
 |x::l,U,fz,y,h=>by
  obtain⟨⟨s1,x',q1,i1⟩,hx,Y⟩:=Ai.1 (show(ob (J x) λr=>ob (Lc J l) λq=>some (cond r.1 q.1 false,r.2.1::q.2.1,r.2.2.1++q.2.2.1,r.2.2.2++q.2.2.2))=some (true,U,fz,y)from h);obtain⟨⟨s2,l',q2,i2⟩,hl,W⟩:=Ai.1 Y;obtain⟨e1,e2,S⟩:=KZ W;injection S with S V;injection V with V Z;simp only at e1 e2 S V Z;subst e1;subst e2;subst S;subst V;subst Z;obtain⟨a1,a2,a3⟩:=L x x' q1 i1 hx;obtain⟨b1,b2,b3⟩:=Ma L l l' q2 i2 hl;refine⟨λi hi=>?_,λz hz=>?_,λB R K v hv=>?_⟩
  ·rcases List.mem_append.1 hi with h|h
   ·exact a1 i h
   ·exact b1 i h
  ·rcases List.mem_append.1 hz with h|h
   ·exact⟨List.mem_append_left _ (a2 z h).1,(a2 z h).2⟩
   ·exact⟨List.mem_append_right _ (b2 z h).1,(b2 z h).2⟩
  ·cases hv with
   |cons _ u _ us h6 h7=>exact .cons _ _ _ _ (a3 B R (λi hi=>K i (List.mem_append_left _ hi)) u h6) (b3 B R (λi hi=>K i (List.mem_append_right _ hi)) us h7)
theorem Aii {P:Program} {E:Env} {F:Nat->Option Obj} {nx:Nat} {ρ:Ak} {w:World} {H:Tr Ah} (r:Rel E F nx ρ H.get w) {ah:AV->FR} (Z:FS H ρ w ah):FS H ρ w (JL P H ah)
 |.AR id n Ax,a',fz,L,h=>by
  simp only[JL]at h;obtain⟨o,ho,R⟩:=Ai.1 h;split at R
  ·rename_i el c z N op;split at R
   ·rename_i e f;obtain⟨he,U⟩:=AQ.1 R;rw[A0]at he;subst he;rw[sJ]at U;obtain⟨e1,e2,Y⟩:=KZ U;injection Y with Y h4;injection h4 with h4 h5;subst Y;subst h4;subst h5;rw[Nat.ble_eq]at e1;have hu:(cond (Nat.beq e 1) (UD P el) false)=true->e=1:=λhu=>by obtain⟨R,_⟩:=BG hu;rwa[A0]at R
    refine⟨λi hi=>?_,λz hz=>?_,λK J B v hv=>AdL r J (B _ (EG ..)) ho e1 hu e2 hv⟩
    ·rw[I7]at hi;subst hi;exact⟨_,ho⟩
    ·rw[I7]at hz;subst hz;exact⟨EG ..,λK J aj v hv=>AdL r J aj ho e1 hu e2 hv⟩
   ·cases R
  ·cases R
 |.sl id off n cap,a',fz,L,h=>by
  simp only[JL]at h;obtain⟨aa,R⟩:=AQ.1 h;obtain⟨aa,af⟩:=BG aa;rw[A0]at aa;subst aa;rw[Nat.ble_eq]at af;obtain⟨o,ho,U⟩:=Ai.1 R;split at U
  ·rename_i el c z N op;obtain⟨i,hi,Y⟩:=Ai.1 U;obtain⟨hs,h4⟩:=AQ.1 Y;obtain⟨l,hl,h5⟩:=Ai.1 h4;obtain⟨ag,W⟩:=AQ.1 h5;rw[CE]at hs;rw[sJ]at W;have J:Fv H [id]:=λi hi=>by rw[I7]at hi;subst hi;exact⟨_,ho⟩
   have vec:∀K,Fv H K->(∀i∈[id],i∈K)->∀v,VR ρ (.sl id 0 n cap) v->VR (Cx ρ w K) (.vec i.size n (chunk i.size n l)) v/\l.length=n*i.size:=λK J B v hv=>by
    cases hv with
    |sl _ _ _ _ b hb=>obtain⟨vs,g1,g2,_⟩:=HQ r (HS.refl ρ H) hb hl;exact⟨yd r J (B _ (EG ..)) hs hl hb af,by rw[g1.length,g2]⟩
   cases hu:(cond (Nat.beq i.size 1) (UD P el) false)with
   |false=>
    rw[hu,cond_false]at W;obtain⟨⟨s2,l',q2,i2⟩,ae,S⟩:=Ai.1 W;injection S with S;injection S with h8 S;injection S with h9 S;injection S with ad ab;simp only at h8 h9 ad ab;subst h8;subst h9;subst ad;subst ab;obtain⟨b1,b2,b3⟩:=Ma Z l l' q2 i2 ae;refine⟨λi hi=>?_,λz hz=>⟨EF _ (b2 z hz).1,(b2 z hz).2⟩,λK V B v hv=>?_⟩
    ·rcases Dp.1 hi with rfl|hi
     ·exact⟨_,ho⟩
     ·exact b1 i hi
    ·cases hv with
     |sl _ _ _ _ b hb=>exact ye r V (B _ (EG ..)) hs hl (λvs Az=>b3 K V (λi hi=>B i (EF _ hi)) vs Az) hb af
   |true=>rw[hu,cond_true]at W;injection W with W;injection W with hb W;injection W with W S;injection S with S h8;subst W;subst S;subst h8;obtain⟨R,_⟩:=BG hu;rw[A0]at R;refine⟨J,λz hz=>by simp at hz,λK J B v hv=>?_⟩;obtain⟨g1,g2⟩:=vec K J B v hv;rw[R]at g1 g2;exact Afo g1 (by omega) hb
  ·cases U
 |.BK id off n Ax,a',fz,L,h=>by
  simp only[JL]at h;obtain⟨aa,R⟩:=AQ.1 h;rw[A0]at aa;subst aa;obtain⟨o,ho,U⟩:=Ai.1 R;split at U
  ·rename_i el c z N op;obtain⟨l,hl,h5⟩:=Ai.1 U;obtain⟨ag,W⟩:=AQ.1 h5;rw[sJ]at W;have J:Fv H [id]:=λi hi=>by rw[I7]at hi;subst hi;exact⟨_,ho⟩
   have vec:∀K,Fv H K->(∀i∈[id],i∈K)->∀v,VR ρ (.BK id 0 n Ax) v->VR (Cx ρ w K) (.vec Ax n (chunk Ax n l)) v/\l.length=n*Ax:=λK J B v hv=>by
    cases hv with
    |BK _ _ _ _ b hb he ai=>obtain⟨vs,g1,g2,_⟩:=HQ r (HS.refl ρ H) hb hl;refine⟨?_,by rw[g1.length,g2]⟩;rw[Nat.add_zero,Nat.sub_zero];exact yd r J (B _ (EG ..)) he hl hb (by rw[Nat.le_div_iff_mul_le he];omega)
   cases hu:(cond (Nat.beq Ax 1) (UD P el) false)with
   |false=>
    rw[hu,cond_false]at W;obtain⟨⟨s2,l',q2,i2⟩,ae,S⟩:=Ai.1 W;injection S with S;injection S with h8 S;injection S with h9 S;injection S with ad ab;simp only at h8 h9 ad ab;subst h8;subst h9;subst ad;subst ab;obtain⟨b1,b2,b3⟩:=Ma Z l l' q2 i2 ae;refine⟨λi hi=>?_,λz hz=>⟨EF _ (b2 z hz).1,(b2 z hz).2⟩,λK V B v hv=>?_⟩
    ·rcases Dp.1 hi with rfl|hi
     ·exact⟨_,ho⟩
     ·exact b1 i hi
    ·cases hv with
     |BK _ _ _ _ b hb he ai=>rw[Nat.add_zero,Nat.sub_zero];exact ye r V (B _ (EG ..)) he hl (λvs Az=>b3 K V (λi hi=>B i (EF _ hi)) vs Az) hb (by rw[Nat.le_div_iff_mul_le he];omega)
   |true=>rw[hu,cond_true]at W;injection W with W;injection W with hb W;injection W with W S;injection S with S h8;subst W;subst S;subst h8;obtain⟨R,_⟩:=BG hu;rw[A0]at R;subst R;refine⟨J,λz hz=>by simp at hz,λK J B v hv=>?_⟩;obtain⟨g1,g2⟩:=vec K J B v hv;exact Afo g1 (by omega) hb
  ·cases U
 |.ptr id off,a',fz,L,h=>by
  simp only[JL]at h;obtain⟨aa,R⟩:=AQ.1 h;rw[A0]at aa;subst aa;obtain⟨o,ho,U⟩:=Ai.1 R;split at U
  ·rename_i el c z n op;obtain⟨l,hl,h5⟩:=Ai.1 U;obtain⟨ag,W⟩:=AQ.1 h5;obtain⟨⟨s2,l',q2,i2⟩,ae,S⟩:=Ai.1 W;injection S with S;injection S with h8 S;injection S with h9 S;injection S with ad ab;simp only at h8 h9 ad ab;subst h8;subst h9;subst ad;subst ab;obtain⟨b1,b2,b3⟩:=Ma Z l l' q2 i2 ae;refine⟨λi hi=>?_,λz hz=>⟨EF _ (b2 z hz).1,(b2 z hz).2⟩,λK V B v hv=>?_⟩
   ·rcases Dp.1 hi with rfl|hi
    ·exact⟨_,ho⟩
    ·exact b1 i hi
   ·cases hv with
    |ptr _ _ b hb=>exact Ag4 r V (B _ (EG ..)) hl (λvs Az=>b3 K V (λi hi=>B i (EF _ hi)) vs Az) hb
  ·cases U
 |.agg l,a',fz,L,h=>by
  simp only[JL]at h;obtain⟨⟨s,l',q,i⟩,hl,R⟩:=Ai.1 h;injection R with R;injection R with R U;injection U with U Y;injection Y with Y h4;simp only at R U Y h4;subst R;subst U;subst Y;subst h4;obtain⟨h5,W,S⟩:=Ma Z l l' q i hl;refine⟨h5,W,λK J B v hv=>?_⟩;cases hv with
  |agg _ vs Az=>exact .agg _ _ (S K J B vs Az)
 |.AM l,a',fz,L,h=>by
  simp only[JL]at h;obtain⟨⟨s,l',q,i⟩,hl,R⟩:=Ai.1 h;injection R with R;injection R with R U;injection U with U Y;injection Y with Y h4;simp only at R U Y h4;subst R;subst U;subst Y;subst h4;obtain⟨h5,W,S⟩:=Ma Z l l' q i hl;refine⟨h5,W,λK J B v hv=>?_⟩;cases hv with
  |AM _ vs Az=>exact .AM _ _ (S K J B vs Az)
 |.iface t x,a',fz,L,h=>by
  simp only[JL]at h;obtain⟨⟨s,x',q,i⟩,hl,R⟩:=Ai.1 h;injection R with R;injection R with R U;injection U with U Y;injection Y with Y h4;simp only at R U Y h4;subst R;subst U;subst Y;subst h4;obtain⟨h5,W,S⟩:=Z x x' q i hl;refine⟨h5,W,λK J B v hv=>?_⟩;cases hv with
  |iface _ _ u hu=>exact .iface _ _ _ (S K J B u hu)
 |.fn (.func g) x y,a',fz,L,h=>by
  simp only[JL]at h;obtain⟨⟨s1,x',q1,i1⟩,hx,R⟩:=Ai.1 h;obtain⟨⟨s2,y',q2,i2⟩,hy,U⟩:=Ai.1 R;obtain⟨e1,e2,Y⟩:=KZ U;injection Y with Y h4;injection h4 with h4 h5;simp only at e1 e2 Y h4 h5;subst e1;subst e2;subst Y;subst h4;subst h5;obtain⟨a1,a2,a3⟩:=Ma Z x x' q1 i1 hx;obtain⟨b1,b2,b3⟩:=Ma Z y y' q2 i2 hy;refine⟨λi hi=>?_,λz hz=>?_,λK J B v hv=>?_⟩
  ·rcases List.mem_append.1 hi with h|h
   ·exact a1 i h
   ·exact b1 i h
  ·rcases List.mem_append.1 hz with h|h
   ·exact⟨List.mem_append_left _ (a2 z h).1,(a2 z h).2⟩
   ·exact⟨List.mem_append_right _ (b2 z h).1,(b2 z h).2⟩
  ·cases hv with
   |fn _ _ _ va vc W S=>exact .fn _ _ _ _ _ (a3 K J (λi hi=>B i (List.mem_append_left _ hi)) va W) (b3 K J (λi hi=>B i (List.mem_append_right _ hi)) vc S)
 |.sle id,a',fz,L,h=>by simp only[JL]at h;injection h with h;injection h with _ h;injection h with R h;injection h with U Y;subst R;subst U;subst Y;exact⟨λi hi=>by simp at hi,λz hz=>by simp at hz,λK _ _ v hv=>by cases hv;exact .GR _ _ _ rfl _ _⟩
 |.bool _,a',fz,L,h|.int _ _,a',fz,L,h|.str _ _,a',fz,L,h|.bs _,a',fz,L,h|.bv _,a',fz,L,h|.vec _ _ _,a',fz,L,h|.pv _,a',fz,L,h|.Fb _ _ _,a',fz,L,h
 |.Ei,a',fz,L,h|.AW,a',fz,L,h|.EY,a',fz,L,h|.F4,a',fz,L,h|.DU,a',fz,L,h=>by simp only[JL]at h;injection h with h;injection h with _ h;injection h with R h;injection h with U Y;subst R;subst U;subst Y;exact⟨λi hi=>by simp at hi,λz hz=>by simp at hz,λK J _ v hv=>hv.mono (Ku r J).1.le⟩
 |.map _,_,_,_,h|.Cv _,_,_,_,h|.F6 _ _,_,_,_,h|.M0,_,_,_,h|.chan _,_,_,_,h|.Gr _ _ _ _,_,_,_,h=>by simp[JL]at h
 |.fn (.method _) _ _,_,_,_,h|.fn (.methodOf _ _) _ _,_,_,_,h|.fn (.via _ _ _ _) _ _,_,_,_,h|.fn (.yield _) _ _,_,_,_,h=>by simp[JL]at h
theorem PR {P:Program} {E:Env} {F:Nat->Option Obj} {nx:Nat} {ρ:Ak} {w:World} {H:Tr Ah} (r:Rel E F nx ρ H.get w):FS H ρ w (Lb P H):=by
 have key:∀k,FS H ρ w (AaT P H k):=λk=>by
  induction k with
  |zero=>intro a z fz x h;cases h
  |succ k y=>exact Aii r y
 exact key 12
theorem sW {P:Program} {E:Env} {F:Nat->Option Obj} {nx:Nat} {ρ:Ak} {w:World} {H:Tr Ah} (r:Rel E F nx ρ H.get w):∀(a z:Al) (fz:List FZ) (x:List Nat),PQ P H a=some (true,z,fz,x)-> Fv H x/\V7 ρ w H fz x/\∀y,Fv H y->(∀i∈x,i∈y)->∀v,AL ρ a v->AL (Cx ρ w y) z v:=Ma (PR r)
def AiM (a:AV):Bool:=match a with
 |.ptr _ _=>true
 |.AR _ _ _=>true
 |.sl _ _ _ _=>true
 |.BK _ _ _ _=>true
 |_=>false
def Abc (H:Tr Ah) (id:Nat):Bool:=match H.get id with
 |some (.cells _ _ _ n _)=>match EV H id 0 n with
  |some l=>l.any AiM
  |none=>false
 |_=>false
def vj (P:Program) (H:Tr Ah) (ni:Nat) (x:List TypeId) (xs:Al):Option (Bool×AV×Tr Ah):=
 match xs with
 | [.AR a b c,.sl id off k cap]=>cond (Abc H id) (ob (Lb P H (.sl id off k cap)) λr=>ob (YM P (Dz H r.2.2.2) ni x [.AR a b c,r.2.1]) λq=>some (cond r.1 q.1 false,q.2.1,q.2.2)) (YM P H ni x [.AR a b c,.sl id off k cap])
 |xs=>YM P H ni x xs
theorem Apl {P:Program} {E:Env} {F:Nat->Option Obj} {nx nx':Nat} {ρ:Ak} {w:World} {H H':Tr Ah} (r:Rel E F nx ρ H.get w) {ni:Nat} (L:ρ ni=none) (K:nx<=nx') (B:ni<nx') {ts:List TypeId} {xs:Al} {us:List Value} {a:AV} (S:AL ρ xs us) (y:vj P H ni ts xs=some (true,a,H')) (ty:TypeId): ∃v w' z,(Builtin.append_ ts.toArray ty us.toArray).run P w=.ok v w'/\Rel E F nx' z H'.get w'/\(ρ.le z/\∀x,x≠ni->z x=ρ x)/\VR z a v:=by
 unfold vj at y;split at y
 ·rename_i i0 n0 e0 id off k cap;cases hh:Abc H id with
  |false=>rw[hh]at y;exact vk r L K B S y ty
  |true=>
   rw[hh,cond_true]at y;obtain⟨⟨b,x',fz,aa⟩,hf,h1⟩:=Ai.1 y;obtain⟨⟨q,av,Hq⟩,hq,h2⟩:=Ai.1 h1;obtain⟨e1,e2,Z⟩:=KZ h2;injection Z with Z h4;simp only at e1 e2 Z h4;subst e1;subst e2;subst Z;subst h4;obtain⟨J,_,V⟩:=PR r _ _ _ _ hf;obtain⟨U,R⟩:=Ku r J;cases S with
   |cons _ u1 _ af ad Y=>cases Y with
    |cons _ u2 _ ae ab W=>cases W;obtain⟨v,w',z,g1,g2,g3,g4⟩:=vk R (ni:=ni) L K B (.cons _ _ _ _ (ad.mono U.le) (.cons _ _ _ _ (V aa J (λ_ h=>h) u2 ab) .nil)) hq ty;exact⟨v,w',z,g1,g2,⟨Ak.le_trans U.le g3.1,λx S=>g3.2 x S⟩,g4⟩
 ·exact vk r L K B S y ty
def JA (P:Program) (X:Operand->Option AV) (H:Tr Ah) (ni:Nat) (op:Op):Option (Bool×AV×Tr Ah):=
 match op with
 |.store t x v=>ob (X x) λa=>ob (X v) λb=>ob (wB P H t a b) λr=>some (r.1,.AM [],r.2)
 |.call c=>match c.callee with
  |.builtin .append=>ob (F0 X c.args.toList) λy=>vj P H ni c.argTypes.toList y
  |_=>none
 |_=>none
end Go.Ev
end
section
namespace Go.Ev
inductive Od where
 |mark (id:Nat)
 |call (g:FuncId) (args:List AV)
structure St where
 N:Nat
 T:Tr AV
 H:Tr Ah
 nx:Nat
 ro:Option Nat
 D:List Od
inductive AX where
 |Bh
 |exit (id:Nat)
 |goto (l:Nat)
 |ret
 |AG (v:AV)
inductive CR where
 |mk (v:AV) (H:Tr Ah) (nx:Nat)
 |AG (v:AV) (H:Tr Ah) (nx:Nat)
 |Cf (g:FuncId) (args:List AV) (H:Tr Ah) (nx:Nat)
inductive MD where
 |ret
 |AG (v:AV)
 |Gd (v:AV)
inductive K5 where
 |fn (f:FuncId) (args:List AV)
 |Cv (id:Nat) (args:List AV)
abbrev Da:=K5->Tr Ah->Nat->Option CR
def Ie (f:AV) (args:Al):Option K5:=
 match f with
 |.fn (.func g) first cap=>some (.fn g (first++(args++cap)))
 |.Cv id=>some (.Cv id args)
 |_=>none
def rW (P:Program) (H:Tr Ah) (x:List TypeId) (r:Al):Option (AV×Tr Ah):=
 match x,r with
 |t::_,[d,s]=>ob (P.underlying t) λy=>match y with
  |.slice el=>ob (P.info? el) λi=>ob (dD H i.size s) λp=>match d with
   |.sl id off n _=>gd (Nat.ble p.1 n) (ob (Uq H id off p.2) λH'=>fN p.1 λm=>some (.int .i64 (.ofNat m),H'))
   |.BK id off n _=>gd (Nat.ble p.1 n) (ob (Uq H id off p.2) λH'=>fN p.1 λm=>some (.int .i64 (.ofNat m),H'))
   |.AW=>gd (Nat.beq p.1 0) (some (.int .i64 (.ofNat 0),H))
   |_=>none
  |_=>none
 |_,_=>none
def dw (seen:List Nat) (x:List Di):List Di:=List.rec (motive:=λ_=>List Di) [] (λe _ r=>cond (seen.contains e.born) r (e::r)) x
def nu (f:Di->Bool) (l:List Di):Bool:=List.rec (motive:=λ_=>Bool) true (λa _ r=>cond (f a) r false) l
def Aau (H:Tr Ah) (a:AV) (A5:Bool):Option (AV×Tr Ah):=
 match a with
 |.ptr id 0=>ob (H.get id) λo=>match o,A5 with
  |.MJ l n pos,true=>cond (Nat.blt pos l) (fN (n/256^pos %256) λc=>gd (Nat.blt c 128) (fN (pos+1) λp=>some (.AM [.bool true,.int .i64 (.ofNat pos),.int .i32 (.ofNat c)],H.set id (.MJ l n p))))
    (some (.AM [.bool false],H))
  |.P1,false=>some (.AM [.bool false],H)
  |.Ih mid since seen last,false=>ob (H.get mid) λm=>match m with
   |.map es r=>gd (cond seen.isEmpty true (cond es.isEmpty true (!nu (λe=>Nat.ble last e.born) es))) (match dw seen es with
    | []=>some (.AM [.bool false],H)
    | [e]=>gd (Nat.blt e.born since) (some (.AM [.bool true,e.key,e.val],H.set id (.Ih mid since (seen++[e.born]) r)))
    |_=>none)
   |_=>none
  |_,_=>none
 |_=>none
def cw (P:Program) (X:Operand->Option AV) (H:Tr Ah) (op:Op):Option (AV×Tr Ah):=
 match op with
 |.send y x=>ob (X y) λc=>ob (X x) λv=>match c with
  |.chan id=>ob (H.get id) λo=>match o with
   |.chan cap r=>gd (Nat.blt r.length cap) (some (.AM [],H.set id (.chan cap (r++[v]))))
   |_=>none
  |_=>none
 |.recv t y false=>ob (X y) λc=>ob (P.underlying t) λd=>match d,c with
  |.chan _ el,.chan id=>ob (Pl P el) λ_=>ob (H.get id) λo=>match o with
   |.chan cap (v::r)=>some (v,H.set id (.chan cap r))
   |_=>none
  |_,_=>none
 |.select cases false=>match cases.toList with
  | [s]=>match s.send with
   |none=>ob (X s.chan) λc=>ob (Pl P s.elem) λz=>match c with
    |.chan id=>ob (H.get id) λo=>match o with
     |.chan _ []=>some (.AM [.int .i64 (-1),.bool false,z],H)
     |.chan cap (v::r)=>some (.AM [.int .i64 0,.bool true,v],H.set id (.chan cap r))
     |_=>none
    |_=>none
   |_=>none
  |_=>none
 |_=>none
def rU (P:Program) (H:Tr Ah) (ni nx:Nat) (t:K5):Option CR:=
 match t with
 | .fn g [.iface ty (.map id)] => ob (P.funcs[g]?) fun fn => gd fn.body.isNone (gd (fn.origin == "") (gd (fn.name == "maps.clone") (ob (H.get id) fun o => match o with
  |.map es clock=>some (.mk (.iface ty (.map ni)) (H.set ni (.map es clock)) nx)
  |_=>none)))
 |_=>none
def Gk (P:Program) (call:Da) (X:Operand->Option AV) (H:Tr Ah) (ni nx:Nat) (op:Op):Option CR:=
 match op with
 |.store t x v=>ob (X x) λa=>ob (X v) λb=>ob (sA P H t a b) λH'=>some (.mk (.AM []) H' nx)
 |.mapUpdate t m k v=>ob (X m) λa=>ob (X k) λb=>ob (X v) λc=>ob (Un P H t a b c) λH'=>some (.mk (.AM []) H' nx)
 |.insert t m k v=>ob (X m) λa=>ob (X k) λb=>ob (X v) λc=>ob (Un P H t a b c) λH'=>some (.mk (.AM []) H' nx)
 |.call c=>match c.callee with
  |.builtin .append=>ob (F0 X c.args.toList) λz=>ob (rL P H ni c.argTypes.toList z) λr=>some (.mk r.1 r.2 nx)
  |.value f=>ob (X f) λf=>ob (F0 X c.args.toList) λz=>ob (Ie f z) λr=>Option.rec (motive:=λ_=>Option CR) (rU P H ni nx r) (λc=>some c) (call r H nx)
  |.builtin .copy=>ob (F0 X c.args.toList) λz=>ob (rW P H c.argTypes.toList z) λr=>some (.mk r.1 r.2 nx)
  |.builtin .panic=>ob (F0 X c.args.toList) λz=>match z with
   |.iface t v::_=>some (.AG (.iface t v) H nx)
   |_=>none
  |_=>none
 |.next x A5=>ob (X x) λa=>ob (Aau H a A5) λr=>some (.mk r.1 r.2 nx)
 |.range t x=>ob (X x) λa=>ob (P.underlying t) λd=>match d,a with
  |.map _ _,.map id=>ob (H.get id) λo=>match o with
   |.map _ y=>some (.mk (.ptr ni 0) (H.set ni (.Ih id y [] y)) nx)
   |_=>none
  |_,_=>none
 |.convert s d x=>ob (X x) λa=>match a with
  |.sl id off len cap=>gd (Nat.beq s d) (ob (P.underlying d) λB=>match B with
   |.slice e=>ob (P.underlying e) λde=>match de with
    |.int .u8=>ob (H.get id) λo=>match o with
     |.cells _ _ _ _ _=>some (.mk (.sl id off len cap) H nx)
     |_=>none
    |_=>none
   |_=>none)
  |_=>none
 |.panic x=>ob (X x) λa=>match a with
  |.iface t v=>some (.AG (.iface t v) H nx)
  |_=>none
 |.defer c=>match c.callee with
  |.value f=>ob (X f) λf=>ob (F0 X c.args.toList) λz=>ob (Ie f z) λr=>match r with
   |.fn g args=>some (.Cf g args H nx)
   |_=>none
  |_=>none
 |_=>none
def FN (P:Program) (call:Da) (X:Operand->Option AV) (H:Tr Ah) (ni nx:Nat) (op:Op):Option CR:=Option.rec (motive:=λ_=>Option CR) (Gk P call X H ni nx op) (λr=>cond r.1 (some (.mk r.2.1 r.2.2 nx)) (Gk P call X H ni nx op)) (JA P X H ni op)
theorem Ad4 {P:Program} {call:Da} {X:Operand->Option AV} {H:Tr Ah} {ni nx:Nat} {op:Op} {r:AV×Tr Ah} (h:JA P X H ni op=some (true,r)):FN P call X H ni nx op=some (.mk r.1 r.2 nx):=by unfold FN;rw[h];rfl
theorem Xn {P:Program} {call:Da} {X:Operand->Option AV} {H:Tr Ah} {ni nx:Nat} {op:Op} {r:CR} (h:JA P X H ni op=none) (x:Gk P call X H ni nx op=some r):FN P call X H ni nx op=some r:=by unfold FN;rw[h];exact x
def Ks (P:Program) (call:Da) (X:Operand->Option AV) (H:Tr Ah) (ni nx nx':Nat) (op:Op):Option CR:=Option.rec (motive:=λ_=>Option CR) (Option.rec (motive:=λ_=>Option CR) (FN P call X H ni nx' op) (λp=>some (.mk p.1 (H.set ni p.2) nx')) (Ew P X ni op)) (λv=>some (.mk v H nx)) (De P H X op)
def Ex (ops:Array Oper) (T:Tr AV) (o:Oper):Option Bool:=
 match o.guard with
 |none=>some true
 |some (j,r)=>ob (ops[j]?) λx=>ob x.dst λd=>ob (T.get d) λv=>match v with
  |.bool b=>some (cond b r (!r))
  |_=>some false
def Fa (N:Nat) (T:Tr AV) (dst:Option Tmp) (v:AV):Option (Tr AV):=
 match dst with
 |none=>some T
 |some d=>gd (Nat.blt d N) (some (T.set d v))
inductive Ci where
 |mk (x:AX) (s:St)
def rO (o:Oper) (s:St) (x:St->Option Ci) (r:CR):Option Ci:=CR.rec (motive:=λ_=>Option Ci) (λv H nx=>ob (Fa s.N s.T o.dst v) λT=>x ⟨s.N,T,H,nx,s.ro,s.D⟩) (λv H nx=>some (.mk (.AG v) ⟨s.N,s.T,H,nx,s.ro,s.D⟩)) (λg args H nx=>gd s.ro.isNone (ob (Fa s.N s.T o.dst (.AM [])) λT=>x ⟨s.N,T,H,nx,s.ro,.call g args::s.D⟩)) r
def Ot (P:Program) (call:Da) (ops:Array Oper) (l:List Oper):St->Option Ci:=List.rec (motive:=λ_=>St->Option Ci) (λs=>some (.mk .Bh s)) (λo _ r s=>ob (Ex ops s.T o) λx=>cond x (fN (s.nx+1) λnx'=>Option.rec (motive:=λ_=>Option Ci) (ob (cw P (BR s.T) s.H o.op) λp=>ob (Fa s.N s.T o.dst p.1) λT=>r ⟨s.N,T,p.2,nx',s.ro,s.D⟩) (rO o s r) (Ks P call (BR s.T) s.H s.nx s.nx nx' o.op)) (ob (Fa s.N s.T o.dst (.AM [])) λT=>r ⟨s.N,T,s.H,s.nx,s.ro,s.D⟩)) l
def ef (x:AX) (s:St) (k:St->Option Ci):Option Ci:=
 match x with
 |.Bh=>k s
 |.exit id=>some (.mk (.exit id) s)
 |.goto l=>some (.mk (.goto l) s)
 |.ret=>some (.mk .ret s)
 |.AG v=>some (.mk (.AG v) s)
def Ac6 (id:Nat) (x:AX) (s:St):Option Ci:=
 match x with
 |.exit r=>cond (Nat.beq r id) (some (.mk .Bh s)) (some (.mk (.exit r) s))
 |.Bh=>some (.mk .Bh s)
 |.goto l=>some (.mk (.goto l) s)
 |.ret=>some (.mk .ret s)
 |.AG v=>some (.mk (.AG v) s)
def rz (code:St->Option Ci) (n:Nat):St->Option Ci:=Nat.rec (motive:=λ_=>St->Option Ci) (λ_=>none) (λ_ y s=>ob (code s) λr=>Ci.rec (motive:=λ_=>Option Ci) (λx s'=>ef x s' y) r) n
inductive XD where
 |mk (x:AX) (s:St) (m:MD)
structure GA where
 code:Code->St->Option Ci
 call:Da
 Ht:Code->St->MD->Option XD
def cy (T:Tr AV) (c:Operand):Option Bool:=ob (BR T c) λv=>match v with
  |.bool b=>some b
  |_=>none
def LG:Op->Bool
 |.load _ _=>true
 |.lookup _ _ _ _=>true
 |.convert _ _ _=>true
 |.call _=>true
 |.entry _=>true
 |_=>false
inductive DK where
 |off
 |pure
 |new (o:Ah)
 |Ds
 |dead
 |AG (v:AV) (H:Tr Ah) (nx:Nat)
structure PN where
 p:Nat
 A:Nat
 v:AV
 H:Tr Ah
 nx:Nat
structure It where
 i:Nat
 o:Oper
 A:Nat
 T:Tr AV
 k:DK
 v:AV
 H:Tr Ah
 cc:Nat
structure DS where
 reads:List It
 news:List It
 Az:List It
 T:Tr AV
 H:Tr Ah
 nx:Nat
 cc:Nat
 pn:Option PN
def tb (m i:Nat):Bool:=Nat.beq (Nat.land (Nat.shiftRight m i) 1) 1
def XE (x:Tr Nat) (p:Nat) (l:List Edge):Nat->Option Nat:=List.rec (motive:=λ_=>Nat->Option Nat) (λm=>some m) (λe _ r m=>cond (Region.binds .any e) (gd (Nat.blt e.on p) (ob (x.get e.on) λb=>fN (Nat.lor (Nat.lor m (2^e.on)) b) r)) (r m)) l
def tY (l:List Oper):Nat->Tr Nat->Option (Tr Nat):=List.rec (motive:=λ_=>Nat->Tr Nat->Option (Tr Nat)) (λ_ r=>some r) (λo _ x p r=>ob (XE r p o.after.toList 0) λA=>fN (p+1) λq=>x q (r.set p A)) l
def eL (l:List Oper):Nat->Tr Nat->Option (Tr Nat):=List.rec (motive:=λ_=>Nat->Tr Nat->Option (Tr Nat)) (λ_ D=>some D) (λo _ r p D=>fN (p+1) λq=>match o.dst with
   |none=>r q D
   |some d=>gd (D.get d).isNone (r q (D.set d p))) l
def opsL:Op->Option (List Operand)
 |.alloc _=>some []
 |.move x|.assign x|.box _ x|.load _ x|.nilCheck x|.unOp _ _ x|.convert _ _ x|.makeInterface _ x|.fieldAddr _ x _|.field _ x _|.extract x _|.typeAssert x _ _ _|.makeChan _ x|.range _ x|.next x _|.entry x=>some [x]
 |.pick c a b=>some [c,a,b]
 |.build _ y|.buildSlice _ _ y=>some (y.toList.map (·.2))
 |.store _ a v|.binOp _ _ a v _|.makeSlice _ a v|.indexAddr _ a v|.index _ a v|.lookup _ a v _=>some [a,v]
 |.makeFunc _ first captured=>some (first.toList++captured.toList)
 |.makeMap _ r=>some r.toList
 |.slice _ x l h m=>some (x::(l.toList++(h.toList++m.toList)))
 |.mapUpdate _ m k v|.insert _ m k v=>some [m,k,v]
 |.call c=>match c.callee with
  |.value f=>some (f::c.args.toList)
  |.builtin _=>some c.args.toList
  |.invoke _ _=>none
 |_=>none
def XC (D:Tr Nat) (r:Tr Nat) (i A:Nat) (d:Nat):Bool:=Option.rec (motive:=λ_=>Bool) true (λk=>cond (Nat.beq k i) true (cond (tb A k) true (Option.rec (motive:=λ_=>Bool) false (λB=>tb B i) (r.get k)))) (D.get d)
def EH {α:Type} (f:α->Bool) (l:List α):Bool:=List.rec (motive:=λ_=>Bool) true (λa _ r=>cond (f a) r false) l
def UH (ops:Array Oper) (D r:Tr Nat) (i:Nat) (o:Oper):Bool:=Option.rec (motive:=λ_=>Bool) false (λA=>Option.rec (motive:=λ_=>Bool) false (λl=>
  cond (EH (λx=>match x with
   |.tmp d=>XC D r i A d
   |_=>true) l) (match o.guard with
    |none=>true
    |some (j,_)=>Option.rec (motive:=λ_=>Bool) true (λy=>match y.dst with
     |none=>true
     |some d=>XC D r i A d) ops[j]?) false) (opsL o.op)) (r.get i)
def tT (ops:Array Oper) (D x:Tr Nat) (l:List Oper):Nat->Bool:=List.rec (motive:=λ_=>Nat->Bool) (λ_=>true) (λo _ r i=>cond (UH ops D x i o) (fN (i+1) r) false) l
def WZ (ops:Array Oper):Option (Tr Nat):=ob (tY ops.toList 0 .leaf) λr=>ob (eL ops.toList 0 .leaf) λD=>gd (tT ops D r ops.toList 0) (some r)
def G9 (Az:List It) (c j:Nat):Bool:=EH (λh=>cond (Nat.blt h.i c) (!tb h.A j) true) Az
def D2 (news Az:List It) (A c z:Nat) (H:Tr Ah):Tr Ah:=List.rec (motive:=λ_=>Tr Ah) H (λr _ y=>match r.k with
  |.new o=>cond (tb A r.i) (cond (G9 Az c r.i) (fN (z+r.i) λx=>y.set x o) y) y
  |_=>y) news
def MT (news Az:List It) (n z:Nat) (H:Tr Ah):Tr Ah:=List.rec (motive:=λ_=>Tr Ah) H (λr _ y=>match r.k with
  |.new o=>cond (G9 Az n r.i) (fN (z+r.i) λx=>y.set x o) y
  |_=>y) news
def HN (N p:Nat) (o:Oper) (A:Nat) (r:DS) (k:DK) (v:AV) (H:Tr Ah) (nx cc:Nat):Option DS:=ob (Fa N r.T o.dst v) λT=>some (match k with
  |.off=>⟨r.reads,r.news,r.Az,T,H,nx,cc,r.pn⟩
  |.pure=>cond (LG o.op) ⟨⟨p,o,A,r.T,.pure,v,H,cc⟩::r.reads,r.news,r.Az,T,H,nx,cc,r.pn⟩ ⟨r.reads,r.news,r.Az,T,H,nx,cc,r.pn⟩
  |.new b=>⟨r.reads,⟨p,o,A,r.T,.new b,v,H,cc⟩::r.news,r.Az,T,H,nx,cc,r.pn⟩
  |.Ds=>⟨r.reads,r.news,⟨p,o,A,r.T,.Ds,v,H,cc⟩::r.Az,T,H,nx,cc,r.pn⟩
  |.dead=>⟨r.reads,r.news,r.Az,T,H,nx,cc,r.pn⟩
  |.AG x H' nx'=>⟨r.reads,r.news,r.Az,T,H,nx,cc,some ⟨p,A,x,H',nx'⟩⟩)
def RO (pn:Option PN) (A:Nat):Bool:=Option.rec (motive:=λ_=>Bool) false (λq=>tb A q.p) pn
def Ue (P:Program) (call:Da) (ops:Array Oper) (N y:Nat) (B:Tr Nat) (p:Nat) (o:Oper) (x:DS):Option DS:=ob (B.get p) λA=>cond (RO x.pn A) (HN N p o A x .dead (.AM []) x.H x.nx x.cc) <| ob (Ex ops x.T o) λz=>cond z (Option.rec (motive:=λ_=>Option DS) (fN (y+p) λni=>Option.rec (motive:=λ_=>Option DS) (gd (EH (λh=>tb A h.i) x.Az) (gd x.pn.isNone <| ob (FN P call (BR x.T) (D2 x.news x.Az A p y x.H) ni x.nx o.op) λr=>CR.rec (motive:=λ_=>Option DS) (λv H nx=>fN (p+1) λcc=>HN N p o A x .Ds v H nx cc) (λv H nx=>HN N p o A x (.AG v H nx) (.AM []) x.H x.nx x.cc) (λ_ _ _ _=>none) r)) (λq=>HN N p o A x (.new q.2) q.1 x.H x.nx x.cc) (Ew P (BR x.T) ni o.op)) (λv=>HN N p o A x .pure v x.H x.nx x.cc) (De P (D2 x.news x.Az A p y x.H) (BR x.T) o.op)) (HN N p o A x .off (.AM []) x.H x.nx x.cc)
def Ry (P:Program) (call:Da) (ops:Array Oper) (N y:Nat) (B:Tr Nat) (l:List Oper):Nat->DS->Option DS:=List.rec (motive:=λ_=>Nat->DS->Option DS) (λ_ r=>some r) (λo _ z p r=>ob (Ue P call ops N y B p o r) λx=>fN (p+1) λq=>z q x) l
open Classical in
def wD (a b:AV):Bool:=Cp a b||decide (a=b)
theorem wE {a b:AV}:wD a b=true↔a=b:=by
 unfold wD;constructor
 ·intro h;rcases Bool.or_eq_true _ _▸h with h|h
  ·exact TN _ _ h
  ·simpa using h
 ·intro h;simp[h]
def YH (P:Program) (x:DS) (y:Nat) (r:It) (c:Nat) (H:Tr Ah):Bool:=cond (Nat.beq c r.cc) true (cond (G9 x.Az c r.i) (cond (EH (λh=>cond (tb r.A h.i) (Nat.blt h.i c) true) x.Az) (Option.rec (motive:=λ_=>Bool) false (λv=>wD v r.v) (De P (D2 x.news x.Az r.A c y H) (BR r.T) r.o.op)) true) true)
def eU (y:DS) (z:Nat) (r:It) (c:Nat) (H:Tr Ah):Bool:=cond (G9 y.Az c r.i) (fN (z+r.i) λx=>(H.get x).isNone) true
def T4 (P:Program) (x:DS) (y:Nat) (c:Nat) (H:Tr Ah):Bool:=cond (EH (λr=>YH P x y r c H) x.reads) (EH (λr=>eU x y r c H) x.news) false
def cf (P:Program) (r:DS) (x:Nat) (y:Tr Ah):Bool:=cond (T4 P r x 0 y) (EH (λh=>T4 P r x h.cc h.H) r.Az) false
def Kr (A:Nat) (l:List Oper):Nat->Tr AV->Tr AV:=List.rec (motive:=λ_=>Nat->Tr AV->Tr AV) (λ_ T=>T) (λo _ x k T=>fN (k+1) λr=>match o.dst with
   |none=>x r T
   |some d=>cond (tb A k) (x r T) (x r (T.del d))) l
def cz (P:Program) (call:Da) (ops:Array Oper) (s:St):Option Ci:=ob (WZ ops) λy=>fN ops.size λn=>fN (s.nx+n) λx=>ob (Ry P call ops s.N s.nx y ops.toList 0 ⟨[],[],[],s.T,s.H,x,0,none⟩) λr=>
  gd (cf P r s.nx s.H) (Option.rec (motive:=λ_=>Option Ci) (some (.mk .Bh ⟨s.N,r.T,MT r.news r.Az n s.nx r.H,r.nx,s.ro,s.D⟩)) (λq=>some (.mk (.AG q.v) ⟨s.N,Kr q.A ops.toList 0 r.T,q.H,q.nx,s.ro,s.D⟩)) r.pn)
def Mg (H:Tr Ah) (id:Nat) (f:LoopState->Option Code->Option (LoopState×Option Code)):Option (Tr Ah):=ob (H.get id) λo=>match o with
  |.loop st Cq T N x r body d=>ob (f st Cq) λp=>some (H.set id (.loop p.1 p.2 T N x r body d))
  |_=>none
def Xr (c:Option Code):Option AX:=
 match c with
 |none=>some .Bh
 |some .ret=>some .ret
 |some (.exit id)=>some (.exit id)
 |some (.goto l)=>some (.goto l)
 |_=>none
def AX.jump:AX->Option Code
 |.Bh=>none
 |.exit id=>some (.exit id)
 |.goto l=>some (.goto l)
 |.ret=>some .ret
 |.AG _=>none
def AX.calm:AX->Bool
 |.AG _=>false
 |_=>true
def iE (r:List Tmp) (args:Al):Nat->Tr AV->Option (Tr AV):=List.rec (motive:=λ_=>Al->Nat->Tr AV->Option (Tr AV)) (λargs _ T=>match args with
   | []=>some T
   |_=>none)
  (λp _ x args N T=>match args with
   |a::args=>gd (Nat.blt p N) (x args N (T.set p a))
   | []=>none) r args
def AaF (E:GA) (id:Nat) (args:Al) (H:Tr Ah) (nx:Nat):Option CR:=ob (H.get id) λo=>match o with
  |.loop _ _ T N K z body _=>ob (iE K.toList args N T) λT'=>ob (E.code z ⟨N,T',H,nx,some id,[]⟩) λr=>
   Ci.rec (motive:=λ_=>Option CR) (λx s=>match x with
    |.Bh=>ob (Mg s.H id λst Cq=>match st with
      |.ready=>some (.busy,Cq)
      |_=>none) λH1=>ob (E.code body ⟨s.N,s.T,H1,s.nx,s.ro,s.D⟩) λJ=>Ci.rec (motive:=λ_=>Option CR) (λy B=>gd y.calm <|
       ob (Mg B.H id λ_ _=>some (cond y.jump.isNone .ready .done,y.jump)) λL=>some (.mk (.bool y.jump.isNone) L B.nx)) J
    |_=>none) r
  |_=>none
def Ajl (H:Tr Ah) (id:Nat):Option Nat:=ob (H.get id) λo=>match o with
  |.loop _ _ _ _ _ _ _ d=>some d
  |_=>none
def Xa (E:GA) (f:AV) (l:Nat) (s:St):Option Ci:=ob (Ie f [.Cv l]) λt=>gd (match t with
  |.fn _ _=>true
  |.Cv _ _=>false) <| ob (E.call t s.H s.nx) λr=>CR.rec (motive:=λ_=>Option Ci) (λ_ H nx=>
  ob (H.get l) λo=>match o with
   |.loop st Cq _ _ _ _ _ _=>ob (Xr Cq) λx=>ob (Mg H l λ_ _=>match st with
     |.busy=>none
     |_=>some (.exhausted,Cq)) λH'=>some (.mk x ⟨s.N,s.T,H',nx,s.ro,s.D⟩)
   |_=>none) (λ_ _ _=>none) (λ_ _ _ _=>none) r
def Aay (E:GA) (f:Operand) (x:Array Tmp) (r body:Code) (s:St):Option Ci:=ob (BR s.T f) λf=>match s.ro with
  |none=>fN (s.nx+1) λl=>fN (l+1) λnx=>Xa E f l
    ⟨s.N,s.T,(s.H.set s.nx (.Cf true)).set l (.loop .ready none s.T s.N x r body s.nx),nx,s.ro,.mark s.nx::s.D⟩
  |some y=>ob (Ajl s.H y) λd=>fN (s.nx+1) λnx=>Xa E f s.nx
    ⟨s.N,s.T,s.H.set s.nx (.loop .ready none s.T s.N x r body d),nx,s.ro,s.D⟩
def codeF (P:Program) (rounds:Nat) (E:GA) (c:Code) (s:St):Option Ci:=
 match c with
 |.skip=>some (.mk .Bh s)
 |.region _ ops false=>Ot P E.call ops ops.toList s
 |.region _ ops true=>cz P E.call ops s
 |.seq a b=>ob (E.code a s) λr=>Ci.rec (motive:=λ_=>Option Ci) (λx s'=>ef x s' (E.code b)) r
 |.cond c a b=>ob (cy s.T c) λt=>cond t (E.code a s) (E.code b s)
 |.block id c=>ob (E.code c s) λr=>Ci.rec (motive:=λ_=>Option Ci) (λx s'=>Ac6 id x s') r
 |.loop c=>rz (E.code c) rounds s
 |.rangeFunc f z y body=>Aay E f z y body s
 |.exit id=>some (.mk (.exit id) s)
 |.label _=>some (.mk .Bh s)
 |.goto l=>some (.mk (.goto l) s)
 |.ret=>some (.mk .ret s)
 |.scope c=>ob (E.code c s) λr=>Ci.rec (motive:=λ_=>Option Ci) (λx s'=>match x with
   |.goto _=>none
   |x=>some (.mk x s')) r
 |_=>none
def setArgs (l:Al):Tr AV->Nat->Tr AV:=Q8 l
def ru (P:Program) (H:Tr Ah) (T:Tr AV) (r:ResultVar):Option AV:=
 match r with
 |.tmp t=>T.get t
 |.cell a t=>ob (T.get a) λp=>W9 P H t p
def rv (P:Program) (H:Tr Ah) (T:Tr AV) (l:List ResultVar):Option Al:=List.rec (motive:=λ_=>Option Al) (some []) (λr _ x=>ob (ru P H T r) λa=>ob x λl=>some (a::l)) l
def Na (P:Program) (H:Tr Ah) (T:Tr AV) (l:List ResultVar):Option AV:=ob (rv P H T l) λvs=>match vs with
  | [v]=>some v
  |vs=>some (.AM vs)
def O9 (l:List Oper):Option (Option Tmp):=
 match l with
 | [o]=>match o.guard with
  |none=>match o.op with
   |.call c=>match c.callee with
    |.builtin .recover=>some o.dst
    |_=>none
   |_=>none
  |_=>none
 |_=>none
def XA (m:MD) (r:Option Ci):Option XD:=ob r λr=>Ci.rec (motive:=λ_=>Option XD) (λx s=>some (.mk x s m)) r
def AdB (s:St) (dst:Option Tmp) (m:MD):Option XD:=
 match m with
 |.AG v=>ob (Fa s.N s.T dst v) λT=>some (.mk .Bh ⟨s.N,T,s.H,s.nx,s.ro,s.D⟩ (.Gd v))
 |.ret=>ob (Fa s.N s.T dst .DU) λT=>some (.mk .Bh ⟨s.N,T,s.H,s.nx,s.ro,s.D⟩ .ret)
 |.Gd v=>ob (Fa s.N s.T dst .DU) λT=>some (.mk .Bh ⟨s.N,T,s.H,s.nx,s.ro,s.D⟩ (.Gd v))
def pA (P:Program) (rounds:Nat) (E:GA) (c:Code) (s:St) (m:MD):Option XD:=
 match c with
 |.seq a b=>ob (E.Ht a s m) λr=>XD.rec (motive:=λ_=>Option XD) (λx s' y=>match x with
   |.Bh=>E.Ht b s' y
   |.exit id=>some (.mk (.exit id) s' y)
   |.goto l=>some (.mk (.goto l) s' y)
   |.ret=>some (.mk .ret s' y)
   |.AG v=>some (.mk (.AG v) s' y)) r
 |.cond c a b=>ob (cy s.T c) λt=>cond t (E.Ht a s m) (E.Ht b s m)
 |.block id c=>ob (E.Ht c s m) λr=>XD.rec (motive:=λ_=>Option XD) (λx s' y=>match x with
   |.exit z=>cond (Nat.beq z id) (some (.mk .Bh s' y)) (some (.mk (.exit z) s' y))
   |.Bh=>some (.mk .Bh s' y)
   |.goto l=>some (.mk (.goto l) s' y)
   |.ret=>some (.mk .ret s' y)
   |.AG v=>some (.mk (.AG v) s' y)) r
 |.region id ops false=>Option.rec (motive:=λ_=>Option XD) (XA m (codeF P rounds E (.region id ops false) s))
   (λdst=>AdB s dst m) (O9 ops.toList)
 |c=>XA m (codeF P rounds E c s)
def MD.settle:MD->MD
 |.ret=>.ret
 |.AG v=>.AG v
 |.Gd _=>.ret
inductive LV where
 |mk (m:MD) (H:Tr Ah) (nx:Nat)
def rX (P:Program) (E:GA) (g:FuncId) (args:Al) (H:Tr Ah) (nx:Nat) (m:MD):Option LV:=
 ob (P.funcs[g]?) fun fn => gd (!(fn.name == "runtime.NumGoroutine")) (ob fn.body fun c =>
  fN args.length λn=>fN (n+(fn.ntmps-n)) λN=>ob (E.Ht c ⟨N,setArgs args .leaf 0,H,nx,none,[]⟩ m) λr=>
   XD.rec (motive:=λ_=>Option LV) (λx s m'=>cond (match x with
    |.Bh=>true
    |.ret=>true
    |_=>false) (gd s.D.isEmpty (ob (Na P s.H s.T fn.results.toList) λ_=>some (.mk m'.settle s.H s.nx))) none) r)
def W8 (P:Program) (E:GA) (l:List Od):MD->Tr Ah->Nat->Option LV:=List.rec (motive:=λ_=>MD->Tr Ah->Nat->Option LV) (λm H nx=>some (.mk m H nx)) (λd _ x m H nx=>match d with
   |.mark id=>ob (H.get id) λo=>match o with
    |.Cf true=>x m (H.set id (.Cf false)) nx
    |_=>none
   |.call g args=>ob (rX P E g args H nx m) λr=>LV.rec (motive:=λ_=>Option LV) (λm H nx=>x m H nx) r) l
def Aak (P:Program) (E:GA) (f:FuncId) (args:Al) (H:Tr Ah) (nx:Nat):Option CR:=
 ob (P.funcs[f]?) fun fn => gd (!(fn.name == "runtime.NumGoroutine")) (ob fn.body fun c =>
  fN args.length λn=>fN (n+(fn.ntmps-n)) λN=>ob (E.code c ⟨N,setArgs args .leaf 0,H,nx,none,[]⟩) λr=>
   Ci.rec (motive:=λ_=>Option CR) (λx s=>ob (match x with
    |.Bh=>some MD.ret
    |.ret=>some MD.ret
    |.AG v=>some (MD.AG v)
    |_=>none) λm=>ob (W8 P E s.D m s.H s.nx) λr=>LV.rec (motive:=λ_=>Option CR) (λm H' nx'=>match m with
     |.ret=>ob (Na P H' s.T fn.results.toList) λv=>some (.mk v H' nx')
     |.AG v=>some (.AG v H' nx')
     |.Gd _=>none) r) r)
def y9 (P:Program) (E:GA):Da:=λt H nx=>
 match t with
 |.fn f args=>Aak P E f args H nx
 |.Cv id args=>AaF E id args H nx
def RE (P:Program) (rounds n:Nat):GA:=Nat.rec (motive:=λ_=>GA) ⟨λ_ _=>none,λ_ _ _=>none,λ_ _ _=>none⟩ (λ_ E=>⟨codeF P rounds E,y9 P E,pA P rounds E⟩) n
end Go.Ev
end
section
namespace Go.Ev
def FW (ro:Option Nat):Fence:={Fence.wide with round:=ro}
def LZ (ro:Option Nat) (P:Program) (ops:Array Oper) (Q:Exit->Act->World->Prop) (l:List Nat) (a:Act) (w:World):Prop:=∀(b:Frame) (k:List Item) (cs:List Frame),b.roundOf=(FW ro).round->∃e r w',Q e r w'/\ArrivesIn (Machine.fenced P (FW ro)) P (lone (b.atR a (.inRegion ops l::k)) cs w) b k cs e r w'
section
variable {ro:Option Nat} {P:Program} {ops:Array Oper} {Q:Exit->Act->World->Prop} {a:Act} {w:World}
theorem Mb (f:FuncId):(FW ro).fn f:=trivial
theorem JM (n:Nat):(FW ro).room n:=by simp[FW,Fence.wide,Fence.room]
theorem Adg (h:Q .normal a w):LZ ro P ops Q [] a w:=λ_ _ _ _=>
 ⟨.normal,a,w,h,.one (fenced_calm (n:=0) (Mb _) (JM _) rfl) stepR_region_end⟩
theorem Adi {id:Nat} (h:LZ ro P ops Q (List.range ops.size) a w):(Code.region id ops false).wpIn (FW ro) 0 P Q a w:=λb k cs x _ _=>
 let ⟨e,y,w',q,r⟩:=h b k cs x
 ⟨e,y,w',q,.of_steps (.one (fenced_calm (n:=0) (Mb _) (JM _) rfl) stepR_region) r⟩
theorem Adh {i:Nat} {rest:List Nat} {o:Oper} (x:ops[i]? =some o) (B:¬Region.wanted o (yielded ops a.tmps)=true) (z:∀f,o.about P w a.eval=some f->(FW ro).fn f) (h:LZ ro P ops Q rest (a.put o.dst undef) w):LZ ro P ops Q (i::rest) a w:=by intro b k cs y;obtain⟨e,K,w',q,r⟩:=h b k cs y;refine⟨e,K,w',q,.of_steps (.one (fenced_oper (n:=0) (Mb _) (JM _) x z) ?_) r⟩;have J:=stepR_op_skip (P:=P) (b:=b) (a:=a) (k:=k) (cs:=cs) (w:=w) (ops:=ops) (i:=i) (rest:=rest) (by simp[x];simpa using B);rwa[x]at J
theorem uF {i:Nat} {rest:List Nat} {o:Oper} (B:ops[i]? =some o) {v:Value} {w':World} (z:∀f,o.about P w a.eval=some f->(FW ro).fn f) (J:∀(b:Frame) (k:List Item) (cs:List Frame),b.roundOf=(FW ro).round->step P (lone (b.atR a (.inRegion ops (i::rest)::k)) cs w)=.next (lone ((b.atR a (.inRegion ops (i::rest)::k)).finish v) cs w')) (h:LZ ro P ops Q rest (a.put o.dst v) w'):LZ ro P ops Q (i::rest) a w:=by intro b k cs x;obtain⟨e,K,y,q,r⟩:=h b k cs x;refine⟨e,K,y,q,.of_steps (.one (fenced_oper (n:=0) (Mb _) (JM _) B z) ?_) r⟩;rw[J b k cs x,Frame.finish_atR,B];rfl
theorem Adj {i:Nat} {rest:List Nat} {o:Oper} (S:ops[i]? =some o) (hw:Region.wanted o (yielded ops a.tmps)=true) (h:o.wpIn (FW ro) 0 P a w (LZ ro P ops Q rest) Q):LZ ro P ops Q (i::rest) a w:=by
 obtain⟨L,h⟩:=h;have Z:∀(b:Frame) (k:List Item) (cs:List Frame),b.roundOf=(FW ro).round->stepG P true {frame:=b.atR a (.inRegion ops (i::rest)::k),callers:=cs,status:=.running,dying:=none} w= stepG.apply P true (b.atR a (.inRegion ops (i::rest)::k)) cs none (o.semAt (FW ro).round a.eval) w:=λb k cs z=>by rw[stepGR_op (P:=P) S hw,z]
 generalize(o.semAt (FW ro).round a.eval)=ab at h Z;generalize B:ab.run P w=res at h;cases res with
 |halt y w'=>
  cases y with
  |panic v=>intro b k cs z;refine⟨_,a,w',h,.inRegion ops (i::rest)::k,.one (fenced_oper (n:=0) (Mb _) (JM _) S L) (step_lone_go ?_)⟩;rw[Z b k cs z,<-Frame.raise_atR];simp[stepG.apply,B]
  |_=>exact h.elim
 |ok y w'=>
  cases y with
  |value v=>exact uF S L (λb k cs z=>step_lone_go (by rw[Z b k cs z];simp[stepG.apply,B])) h
  |skip=>exact uF S L (λb k cs z=>step_lone_go (by rw[Z b k cs z];simp[stepG.apply,B])) h
  |defer d=>intro b k cs z;obtain⟨e,a',R,q,r⟩:=h b k cs z;refine⟨e,a',R,q,.of_steps (.one (fenced_oper (n:=0) (Mb _) (JM _) S L) (step_lone_go ?_)) r⟩;have aa:=Frame.finish_atR b {a with defers:=d::a.defers} ops i rest k undef;rw[S]at aa;rw[Z b k cs z];simp only[stepG.apply,Sem.runT_eq,B,GStep.bare_after];exact congrArg (λfr=>GStep.go {frame:=fr,callers:=cs,status:=.running,dying:=none} w') aa
  |enter f args=>
   intro b k cs z;obtain⟨_,hF,hc⟩:=h;obtain⟨e,R,fr,W,J,ad,Y⟩:=hc (b.atR a (.inRegion ops (i::rest)::k)::cs) (JM _);have x:step P (lone (b.atR a (.inRegion ops (i::rest)::k)) cs w)=.next (lone (Frame.enter P f args .normal) (b.atR a (.inRegion ops (i::rest)::k)::cs) w'):=
    step_lone_go (by rw[Z b k cs z];simp[stepG.apply,B,Frame.atR])
   have h0:=fenced_oper (F:=FW ro) (P:=P) (b:=b) (k:=k) (cs:=cs) (w:=w) (rest:=rest) (n:=0) (Mb _) (JM _) S L;cases e with
   |returned v=>have hl:=fenced_leaving (F:=FW ro) (P:=P) (n:=0) (cs:=b.atR a (.inRegion ops (i::rest)::k)::cs) (Mb fr.fn) (JM _) Y;obtain⟨e,a',K,q,r⟩:=W b k cs z;refine⟨e,a',K,q,.of_steps (.head h0 x (StepsIn.trans J (.one hl ?_))) r⟩;rw[step_leave_returned Y,Frame.finish_atR,S];rfl
   |panicked chain=>have hl:=fenced_leaving (F:=FW ro) (P:=P) (n:=0) (cs:=b.atR a (.inRegion ops (i::rest)::k)::cs) (Mb fr.fn) (JM _) Y;refine⟨.panic chain,a,R,W,.inRegion ops (i::rest)::k,.head h0 x (StepsIn.trans J (.one hl ?_))⟩;rw[<-Frame.raise_atR];exact step_leave_panicked Y
   |outgrown=>obtain⟨V,U,hq⟩:=W;exact⟨.outgrown,V,U,hq,.inr (Outgrown.of_steps (.one x) J)⟩
  |round l f tmps assign body=>
   intro b k cs z;obtain⟨_,_,hc⟩:=h;obtain⟨e,R,W,J⟩:=hc (b.atR a (.inRegion ops (i::rest)::k)) cs (JM _);have x:step P (lone (b.atR a (.inRegion ops (i::rest)::k)) cs w)=.next (lone (Frame.round l f tmps assign body .normal) (b.atR a (.inRegion ops (i::rest)::k)::cs) w'):=
    step_lone_go (by rw[Z b k cs z];simp[stepG.apply,B,Frame.atR])
   have h0:=fenced_oper (F:=FW ro) (P:=P) (b:=b) (k:=k) (cs:=cs) (w:=w) (rest:=rest) (n:=0) (Mb _) (JM _) S L;cases e with
   |returned v=>
    obtain⟨e,a',K,q,r⟩:=W b k cs z;refine⟨e,a',K,q,.of_steps (.head h0 x ?_) r⟩;have hf:(b.atR a (.inRegion ops (i::rest)::k)).finish v=b.atR (a.put o.dst v) (.inRegion ops rest::k):=by rw[Frame.finish_atR,S];rfl
    rw[<-hf];exact J
   |panicked chain=>refine⟨.panic chain,a,R,W,.inRegion ops (i::rest)::k,.head h0 x ?_⟩;rw[<-Frame.raise_atR];exact J
   |outgrown=>obtain⟨V,U,hq⟩:=W;exact⟨.outgrown,V,U,hq,.inr (Outgrown.of_steps (.one x) J)⟩
  |row row args=>
   intro b k cs z;obtain⟨_,hc⟩:=h;obtain⟨v,R,W,J⟩:=hc (b.atR a (.inRegion ops (i::rest)::k)) cs (JM _);have x:step P (lone (b.atR a (.inRegion ops (i::rest)::k)) cs w)=.next (lone (Frame.ofRow P row args .normal) (b.atR a (.inRegion ops (i::rest)::k)::cs) w'):=
    step_lone_go (by rw[Z b k cs z];simp[stepG.apply,B,Frame.atR])
   have h0:=fenced_oper (F:=FW ro) (P:=P) (b:=b) (k:=k) (cs:=cs) (w:=w) (rest:=rest) (n:=0) (Mb _) (JM _) S L;obtain⟨e,a',K,q,r⟩:=W b k cs z;refine⟨e,a',K,q,.of_steps (.head h0 x ?_) r⟩;have hf:(b.atR a (.inRegion ops (i::rest)::k)).finish v=b.atR (a.put o.dst v) (.inRegion ops rest::k):=by rw[Frame.finish_atR,S];rfl
   rw[<-hf];exact J
  |_=>exact h.elim
end
def Ends (E:Env) (F:Nat->Option Obj) (nx:Nat) (ρ:Ak) (v:AV) (H':Tr Ah) (nx':Nat) (e:Ending) (w':World):Prop:=∃u r,e=.returned u/\RX nx nx' ρ r/\Rel E F nx' r H'.get w'/\VR r v u
def Kl (P:Program) (t:K5) (w:World) (ρ:Ak) (R:Ending->World->Prop):Prop:=
 match t with
 | .fn f args => (∃ fn c, P.funcs[f]? = some fn ∧ (fn.name == "runtime.NumGoroutine") = false ∧ fn.body = some c) ∧ ∀ vs, AL ρ args vs → CallsIn (FW none) 0 P f vs.toArray w R
 |.Cv id args=>∀vs b,AL ρ args vs->ρ id=some b->∃fn tmps asg body,(Instr.yield b.b vs.toArray).run P w=.ok (.round b.b fn tmps asg body) w/\RoundIn (FW none) 0 P b.b fn tmps asg body w R
def fresh (u:Value):List PanicEntry:=[{v:=u,recovered:=false}]
def LR (E:Env) (F:Nat->Option Obj) (nx:Nat) (ρ:Ak) (r:CR) (e:Ending) (w':World):Prop:=
 match r with
 |.mk v H' nx'=>Ends E F nx ρ v H' nx' e w'
 |.AG v H' nx'=>∃u x,e=.panicked (fresh u)/\RX nx nx' ρ x/\Rel E F nx' x H'.get w'/\VR x v u
 |.Cf _ _ _ _=>False
def GX (P:Program) (call:Da):Prop:=∀t H nx r,call t H nx=some r->∀E F ρ w,Rel E F nx ρ H.get w->Kl P t w ρ (LR E F nx ρ r)
def Ze (E:Env) (F:Nat->Option Obj) (ni nx:Nat) (ρ:Ak) (o:Oper) (a:Act) (w:World) (ro:Option Nat) (next:Act->World->Prop) (Q:Exit->Act->World->Prop) (r:CR):Prop:=
 match r with
 |.mk v H' nx'=>∀u x w',RY ni nx nx' ρ x->Rel E F nx' x H'.get w'->VR x v u->next (a.put o.dst u) w'
 |.AG v H' nx'=>∀u x w',RY ni nx nx' ρ x->Rel E F nx' x H'.get w'->VR x v u->Q (.panic (fresh u)) a w'
 |.Cf g args H' nx'=>ro=none/\∀va y:List Value,RX nx nx' ρ ρ->Rel E F nx' ρ H'.get w->AL ρ args (va++y)->
   next ({a with defers:={target:=.fn (.func g) y.toArray,args:=va.toArray}::a.defers}.put o.dst undef) w
theorem L1 (ro:Option Nat) (P:Program) (o:Oper) (w:World) (ρ:Operand->Value):∀f,o.about P w ρ=some f->(FW ro).fn f:=λ_ _=>trivial
theorem FX {P:Program} {ro:Option Nat} {o:Oper} {a:Act} {w w':World} {v:Value} {next:Act->World->Prop} {Q:Exit->Act->World->Prop} (hd:∀c,o.op≠.defer c) (h:Ago P (execOp a.eval o) w v w') (hn:next (a.put o.dst v) w'):o.wpIn (FW ro) 0 P a w next Q:=by
 refine⟨L1 ro P o w a.eval,?_⟩;rw[Oper.semAt_eq _ _ _ hd];rcases h with h|⟨h,rfl⟩
 ·rw[h];exact hn
 ·rw[h];exact hn
theorem Adt {P:Program} {H:Tr Ah} {X:Operand->Option AV} {op:Op} {a:AV} (h:De P H X op=some a):∀c,op≠.defer c:=by rintro c rfl;simp[De,HC,G4,RD]at h
theorem AcK {P:Program} {X:Operand->Option AV} {ni:Nat} {op:Op} {a:AV×Ah} (h:Ew P X ni op=some a):∀c,op≠.defer c:=by rintro c rfl;simp[Ew,I2,Ic]at h
theorem Aha {fn : Func} (ho : fn.origin = "") (h : fn.name = "maps.clone") : Extern.findNext fn = none ∧ Extern.find fn = some Extern.MapsClone.clone ∧ (fn.name == "runtime.NumGoroutine") = false := by
 obtain⟨name,origin⟩:=fn;simp only at ho h;subst ho;subst h;exact⟨by kernel_rfl,by kernel_rfl,by kernel_rfl⟩
theorem AhD {P:Program} {E:Env} {F:Nat->Option Obj} {nx nx':Nat} {ρ:Ak} {H:Tr Ah} {w:World} (r:Rel E F nx ρ H.get w) {ni:Nat} (hni:ρ ni=none) (hnx:nx<=nx') (hni':ni<nx') {t:K5} {res:CR} (hev:rU P H ni nx' t=some res):∃g args v H',t=.fn g args/\res=.mk v H' nx'/\∀us:List Value,AL ρ args us->∃u ρ' w',(callFunc g us.toArray).run P w=.ok (.value u) w'/\RY ni nx nx' ρ ρ'/\Rel E F nx' ρ' H'.get w'/\VR ρ' v u:=by
 unfold rU at hev;split at hev
 ·rename_i g ty id;obtain⟨fn,hfn,h1⟩:=Ai.1 hev;obtain⟨hb,h2⟩:=AQ.1 h1;obtain⟨ho,h3⟩:=AQ.1 h2;obtain⟨hn,h4⟩:=AQ.1 h3;obtain⟨o,hob,h5⟩:=Ai.1 h4;clear hev h1 h2 h3 h4;split at h5
  ·rename_i es clock;injection h5 with h5;subst h5;refine⟨g,_,_,_,rfl,rfl,λus hus=>?_⟩;cases hus with
   |cons _ u _ us1 hu hus1=>
    cases hus1;cases hu with
    |iface _ _ um hum=>
     cases hum with
     |map _ b hbm=>
      obtain⟨co,hc,hor⟩:=r.ob _ _ b hob hbm;cases hor with
      |map _ _ l hl=>
       obtain⟨e1,e2,e3⟩:=Aha (by simpa using ho) (by simpa using hn);have hle:=Ak.JT (ρ:=ρ) hni ⟨w.heap.size,0,0⟩;have A:=r.alloc (nx':=nx') hni hnx hni' (cap:=0) (a:=.map es clock) (o:=.map l.toArray clock) (.map es clock l (hl.mono hle));obtain⟨A1,A2⟩:=A;rw[<-F5]at A1;refine⟨.iface ty (.map (some w.heap.size)),_,_,?_,⟨A2,λj _ hj=>by simp[Ak.put,hj],hnx⟩,A1,.iface _ _ _ (.map ni ⟨w.heap.size,0,0⟩ (Ak.EO _ _ _))⟩;rw[run_callFunc_extern hfn e3 hb e1 e2];have hgm:(getObj b.b).run P w=.ok (.map l.toArray clock) w:=by simp[getObj,Sem.run,hc]
       have hrun:(Extern.MapsClone.clone #[.iface ty (.map (some b.b))]).run P w=.ok (.iface ty (.map (some w.heap.size))) (w.alloc (.map l.toArray clock)):=by
        change Sem.run P (do
         let .map entries clock ← getObj b.b | stuck "maps.clone: a map expected"
         pure (Value.iface ty (Value.map (some (<-newObj (Obj.map entries clock)))))) w=_
        simp[hgm]
       rw[show [Value.iface ty (.map (some b.b))].toArray= #[.iface ty (.map (some b.b))]from rfl,hrun];rfl
  ·cases h5
 ·cases hev
theorem AhF {P:Program} {E:Env} {F:Nat->Option Obj} {nx:Nat} {ρ:Ak} {H H':Tr Ah} {w:World} (r:Rel E F nx ρ H.get w) {ts:List TypeId} {xs:Al} {us:List Value} {v:AV} (hx:AL ρ xs us) (y:rW P H ts xs=some (v,H')) (ty:TypeId):∃u w',(Builtin.copy_ ts.toArray ty us.toArray).run P w=.ok u w'/\Rel E F nx ρ H'.get w'/\VR ρ v u:=by
 unfold rW at y;split at y
 ·rename_i t tl d s;obtain⟨td,L,h1⟩:=Ai.1 y;clear y;cases hx with
  |cons _ ud _ ai B W=>cases W with
   |cons _ ab _ ah af V=>
    cases V;split at h1
    ·rename_i el;obtain⟨i,hi,h2⟩:=Ai.1 h1;obtain⟨⟨n,l⟩,Y,K⟩:=Ai.1 h2;clear h1 h2;obtain⟨vs,ae,aj,ad⟩:=AaC (P:=P) r (HS.refl ρ H) af Y;obtain⟨R,U⟩:=ad w (λ_=>rfl);have S:P.cellsOf el=i.size:=by simp[Program.cellsOf,hi]
     have main:∀(id off m c:Nat) (b:CD),ρ id=some b->n<=m->(ob (Uq H id off l) λH'=>fN n λm=>some (AV.int .i64 (.ofNat m),H'))=some (v,H')-> ∃u w',(Builtin.copy_ (t::tl).toArray ty [.slice (some ⟨b.b,b.ob+off,none⟩) m c,ab].toArray).run P w=.ok u w'/\Rel E F nx ρ H'.get w'/\VR ρ v u:=by intro id off m c b hb x h5;obtain⟨H1,ag,J⟩:=Ai.1 h5;rw[Bv]at J;injection J with J;injection J with J h7;subst J;subst h7;obtain⟨w',hw,Z⟩:=sD (P:=P) r hb ae ag;refine⟨.int .i64 (Int.ofNat n),w',?_,Z,.int _ _⟩;have aa:Nat.min n m=n:=Nat.min_eq_left x;unfold Builtin.copy_;simp only[List.getElem?_toArray,List.getElem?_cons_zero,List.getElem?_cons_succ,Sem.run_bind,run_underlying L,Result.andThen_ok,R,aa,run_sizeOf w hi,S,U,hw,Sem.run_pure];rfl
     split at K
     ·rename_i id off m c;obtain⟨x,z⟩:=AQ.1 K;rw[Nat.ble_eq]at x;cases B with
      |sl _ _ _ _ b hb=>exact main id off m c b hb x z
     ·rename_i id off m c;obtain⟨x,z⟩:=AQ.1 K;rw[Nat.ble_eq]at x;cases B with
      |BK _ _ _ _ b hb _ _=>exact main id off m _ b hb x z
     ·obtain⟨hz,z⟩:=AQ.1 K;injection z with z;injection z with z h5;subst z;subst h5;have hn:=D4 hz;simp only at hn;subst hn;cases B;refine⟨.int .i64 (Int.ofNat 0),w,?_,r,.int _ _⟩;unfold Builtin.copy_;simp only[List.getElem?_toArray,List.getElem?_cons_zero,List.getElem?_cons_succ,Sem.run_bind,run_underlying L,Result.andThen_ok,R,Nat.min_self,run_sizeOf w hi,S,U,Sem.run_pure];rfl
     ·cases K
    ·cases h1
 ·cases y
theorem Ab3 {ρ:Ak} {seen:List Nat}:∀ {r:List Di} {l:List MapEntry},D3 ρ r l->D3 ρ (dw seen r) (l.filter λm=>!seen.contains m.born)
 |_,_,.nil=>.nil
 |_,_,.cons e m r l y z=>by
  have x:=Ab3 (seen:=seen) z;show D3 ρ (cond (seen.contains e.born) (dw seen r) (e::dw seen r)) _;rw[List.filter_cons];have hb:m.born=e.born:=y.2.2.symm;cases hc:seen.contains e.born with
  |true=>rw[cond_true,hb,hc];exact x
  |false=>rw[cond_false,hb,hc];exact .cons _ _ _ _ y x
theorem xz {ρ:Ak} {last:Nat}:∀ {r:List Di} {l:List MapEntry},D3 ρ r l->nu (λe=>Nat.ble last e.born) r=l.all λm=>decide (last<=m.born)
 |_,_,.nil=>rfl
 |_,_,.cons e m r l z y=>by
  have x:=xz (last:=last) y;have hb:m.born=e.born:=z.2.2.symm;show cond (Nat.ble last e.born) (nu _ r) false=_;rw[List.all_cons,x,hb];by_cases h:last<=e.born
  ·have B:Nat.ble last e.born=true:=by rw[Nat.ble_eq];exact h
   rw[B,cond_true];simp[h]
  ·have:Nat.ble last e.born=false:=by
    cases hb:Nat.ble last e.born with
    |false=>rfl
    |true=>rw[Nat.ble_eq]at hb;exact absurd hb h
   rw[this,cond_false];simp[h]
set_option maxHeartbeats 1000000 in
theorem Aao {P:Program} {call:Da} (aT:GX P call) {E:Env} {F:Nat->Option Obj} {nx nx':Nat} {ρ:Ak} {H:Tr Ah} {w:World} (r:Rel E F nx ρ H.get w) {X:Operand->Option AV} {a:Act} (hX:XR ρ X a.eval) {ni:Nat} (aG:ρ ni=none) (B:nx<=nx') (aE:ni<nx') {o:Oper} {aw:CR} (K:Gk P call X H ni nx' o.op=some aw) {ro:Option Nat} {next:Act->World->Prop} {Q:Exit->Act->World->Prop} (hk:Ze E F ni nx ρ o a w ro next Q aw):o.wpIn (FW ro) 0 P a w next Q:=by
 obtain⟨dst,op,type,pos,after,guard⟩:=o;simp only at K;cases op<;>simp only[Gk]at K<;>first|(cases K;done)|skip
 case store t x y=>
  obtain⟨xa,ai,S⟩:=Ai.1 K;obtain⟨ya,ay,V⟩:=Ai.1 S;obtain⟨H1,aA,L⟩:=Ai.1 V;injection L with L;subst L;obtain⟨w',Z,h7⟩:=Ah4 (P:=P) r (hX _ _ ai) (hX _ _ ay) aA;refine FX (by simp) (.inr ⟨?_,rfl⟩) (hk undef ρ w' ⟨Ak.le_refl ρ,λ_ _ _=>rfl,B⟩ (h7.EZ B) (.AM _ _ .nil));simp[execOp,Z]
 case mapUpdate t m k y=>
  obtain⟨ma,aN,S⟩:=Ai.1 K;obtain⟨ka,aO,V⟩:=Ai.1 S;obtain⟨ya,ay,L⟩:=Ai.1 V;obtain⟨H1,aA,U⟩:=Ai.1 L;injection U with U;subst U;obtain⟨w',Z,h7⟩:=rf (P:=P) r (hX _ _ aN) (hX _ _ aO) (hX _ _ ay) aA;refine FX (by simp) (.inr ⟨?_,rfl⟩) (hk undef ρ w' ⟨Ak.le_refl ρ,λ_ _ _=>rfl,B⟩ (h7.EZ B) (.AM _ _ .nil));simp[execOp,Z]
 case insert t m k y=>
  obtain⟨ma,aN,S⟩:=Ai.1 K;obtain⟨ka,aO,V⟩:=Ai.1 S;obtain⟨ya,ay,L⟩:=Ai.1 V;obtain⟨H1,aA,U⟩:=Ai.1 L;injection U with U;subst U;obtain⟨w',Z,h7⟩:=rf (P:=P) r (hX _ _ aN) (hX _ _ aO) (hX _ _ ay) aA;refine FX (by simp) (.inr ⟨?_,rfl⟩) (hk undef ρ w' ⟨Ak.le_refl ρ,λ_ _ _=>rfl,B⟩ (h7.EZ B) (.AM _ _ .nil));simp[execOp,Z]
 case call c=>
  obtain⟨callee,args,argTypes⟩:=c;simp only at K;cases callee with
  |invoke _ _=>cases K
  |builtin b=>
   cases b<;>first|(cases K;done)|skip
   case panic=>
    obtain⟨xs,ag,S⟩:=Ai.1 K;have ad:=I6 hX ag;split at S
    ·rename_i t v l;injection S with S;subst S;generalize hm:args.toList.map a.eval=vs at ad;cases ad with
     |cons _ u _ us hu bL=>
      cases hu;rename_i u hu;refine⟨L1 ro P _ w a.eval,?_⟩;rw[Oper.semAt_eq _ _ _ (by simp)];have hg:(args.map a.eval).getD 0 .nilIface=.iface t u:=by
       have:(args.map a.eval).toList=.iface t u::us:=by rw[Array.toList_map];exact hm
       rw[show args.map a.eval=(Value.iface t u::us).toArray by rw[<-this]];rfl
      have Y:(execOp a.eval {dst,op:=.call {callee:=.builtin .panic,args,argTypes},type,pos,after,guard}).run P w=.halt (.panic (.iface t u)) w:=by simp only[execOp,resolve,Sem.run_bind,Sem.run_pure,Result.andThen_ok,invoke,builtin,hg];rfl
      rw[Y];exact hk _ ρ w ⟨Ak.le_refl ρ,λ_ _ _=>rfl,B⟩ (r.EZ B) (.iface _ _ _ hu)
    ·cases S
   case copy=>
    obtain⟨xs,ag,S⟩:=Ai.1 K;obtain⟨⟨av,H1⟩,aQ,V⟩:=Ai.1 S;injection V with V;subst V;obtain⟨u,w',W,Z,h7⟩:=AhF (P:=P) r (I6 hX ag) aQ type;rw[map_toArray,Array.toArray_toList]at W;refine FX (by simp) (.inl ?_) (hk u ρ w' ⟨Ak.le_refl ρ,λ_ _ _=>rfl,B⟩ (Z.EZ B) h7);simp only[execOp,resolve,Sem.run_bind,Sem.run_pure,Result.andThen_ok,invoke,builtin,W]
   obtain⟨xs,ag,S⟩:=Ai.1 K;obtain⟨⟨av,H1⟩,aQ,V⟩:=Ai.1 S;injection V with V;subst V;obtain⟨u,w',ae,W,Z,h7,h8⟩:=Ahu (P:=P) r aG B aE (I6 hX ag) aQ type;rw[map_toArray,Array.toArray_toList]at W;refine FX (by simp) (.inl ?_) (hk u ae w' ⟨h7.1,λx _ hx=>h7.2 x hx,B⟩ Z h8);simp only[execOp,resolve,Sem.run_bind,Sem.run_pure,Result.andThen_ok,invoke,builtin,W]
  |value f=>
   obtain⟨fa,aI,S⟩:=Ai.1 K;obtain⟨xs,ag,V⟩:=Ai.1 S;obtain⟨t,ht,L⟩:=Ai.1 V;clear K S V;cases aZ:call t H nx' with
   |none=>
    rw[aZ]at L;obtain⟨g,targs,v,H',rfl,rfl,bD⟩:=AhD (P:=P) r aG B aE L;have ah:=hX _ _ aI;have ad:=I6 hX ag;rw[show args.toList.map a.eval=(args.map a.eval).toList by rw[Array.toList_map]]at ad;unfold Ie at ht;split at ht
    ·rename_i g' first cap
     injection ht with ht;injection ht with aM aL;subst aM;subst aL;generalize ak:a.eval f=fv at ah;cases ah with
     |fn _ _ _ va vc ha hc=>
      obtain⟨u,ae,w',U,W,Z,h7⟩:=bD _ (ha.append (ad.append hc));refine FX (by simp) (.inl ?_) (hk u ae w' W Z h7);have aV:va.toArray++args.map a.eval++vc.toArray=(va++((args.map a.eval).toList++vc)).toArray:=by apply Array.ext';simp
      simp only[execOp,resolve,ak,Deferred.ofValue,Sem.run_bind,Sem.run_pure,Result.andThen_ok,invoke,aV,U]
    ·injection ht with ht;cases ht
    ·cases ht
   |some rc=>
   have L:call t H nx'=some aw:=by rw[aZ]at L⊢;exact L
   have AA:=aT t H nx' aw L E F ρ w (r.EZ B);have ah:=hX _ _ aI;have ad:=I6 hX ag;rw[show args.toList.map a.eval=(args.map a.eval).toList by rw[Array.toList_map]]at ad;refine⟨L1 ro P _ w a.eval,?_⟩;rw[Oper.semAt_eq _ _ _ (by simp)];unfold Ie at ht;split at ht
   ·rename_i g first cap
    injection ht with ht;subst ht;generalize ak:a.eval f=fv at ah;cases ah with
    |fn _ _ _ va vc ha hc=>
     obtain⟨⟨fn,c,bx,bt,bG⟩,aK⟩:=AA;have bl:=ha.append (ad.append hc);have bF:=aK _ bl;have Y:(execOp a.eval {dst,op:=.call {callee:=.value f,args,argTypes},type,pos,after,guard}).run P w=.ok (.enter g ((va++((args.map a.eval).toList++vc)).toArray)) w:=by simp only[execOp,resolve,ak,Deferred.ofValue,Sem.run_bind,Sem.run_pure,Result.andThen_ok,invoke,callFunc,run_program,bx,bt,Bool.false_eq_true,if_false,bG,Option.isNone_some];congr 2;apply Array.ext';simp
     rw[Y];refine⟨by simp[FW,Fence.wide],?_⟩;have af:=CallsIn.mono bF (R':=λ
      |.returned v,aq=>next (a.put dst v) aq
      |.panicked chain,aq=>Q (.panic chain) a aq
      |.outgrown,_=>LetsOut Q) (λe w' he=>by
       cases aw with
       |mk v H' aC=>obtain⟨u,ae,rfl,U,W,Z⟩:=he;exact hk u ae w' (U.Y3 B (AH _)).ry W Z
       |AG v H' aC=>obtain⟨u,ae,rfl,U,W,Z⟩:=he;exact hk u ae w' (U.Y3 B (AH _)).ry W Z
       |Cf _ _ _ _=>exact he.elim)
     cases ro with
     |none=>exact af
     |some l=>exact af
   ·rename_i id;injection ht with ht;subst ht;generalize ak:a.eval f=fv at ah;cases ah with
    |Cv _ b hb=>
     obtain⟨fn,tmps,bH,body,hy,aJ⟩:=AA _ b ad hb;have Y:(execOp a.eval {dst,op:=.call {callee:=.value f,args,argTypes},type,pos,after,guard}).run P w=.ok (.round b.b fn tmps bH body) w:=by rw[Array.toArray_toList]at hy;simp only[execOp,resolve,ak,Deferred.ofValue,Sem.run_bind,Sem.run_pure,Result.andThen_ok,invoke,Array.empty_append,hy]
     rw[Y];refine⟨by simp[FW,Fence.wide],?_⟩;have af:=RoundIn.mono aJ (R':=λ
      |.returned v,aq=>next (a.put dst v) aq
      |.panicked chain,aq=>Q (.panic chain) a aq
      |.outgrown,_=>LetsOut Q) (λe w' he=>by
       cases aw with
       |mk v H' aC=>obtain⟨u,ae,rfl,U,W,Z⟩:=he;exact hk u ae w' (U.Y3 B (AH _)).ry W Z
       |AG v H' aC=>obtain⟨u,ae,rfl,U,W,Z⟩:=he;exact hk u ae w' (U.Y3 B (AH _)).ry W Z
       |Cf _ _ _ _=>exact he.elim)
     cases ro with
     |none=>exact af
     |some l=>exact af
   ·cases ht
 case range t x=>
  obtain⟨xa,ai,S⟩:=Ai.1 K;obtain⟨d,hd,V⟩:=Ai.1 S;have hu:=hX _ _ ai;clear K S;generalize aj:a.eval x=u at hu;split at V
  ·rename_i id;obtain⟨o,ho,L⟩:=Ai.1 V;split at L
   ·rename_i es J;injection L with L;subst L;cases hu with
    |map _ b hb=>
    obtain⟨co,hc,ar⟩:=r.ob _ _ b ho hb;cases ar with
    |map _ _ l hl=>
    have az:=Ak.JT (ρ:=ρ) aG ⟨w.heap.size,0,0⟩;have A:=r.alloc (nx':=nx') aG B aE (cap:=0) (a:=.Ih id J [] J) (o:=.mapIter (some b.b) J #[] J) (.Ih id J [] J b rfl (az _ _ hb));obtain⟨A1,A2⟩:=A;rw[<-F5]at A1;refine FX (by simp) (.inl ?_) (hk (.pointer (some ⟨w.heap.size,0,none⟩)) _ _ ⟨A2,λj _ hj=>by simp[Ak.put,hj],B⟩ A1 (.ptr ni 0 ⟨w.heap.size,0,0⟩ (Ak.EO _ _ _)));have aH:(getObj b.b).run P w=.ok (.map l.toArray J) w:=by simp[getObj,Sem.run,hc]
    simp[execOp,aj,Instr.range,run_underlying hd,aH]
   ·cases L
  ·cases V
 case next x A5=>
  obtain⟨xa,ai,S⟩:=Ai.1 K;obtain⟨⟨v,H1⟩,hn,V⟩:=Ai.1 S;injection V with V;subst V;have hu:=hX _ _ ai;clear K S;generalize aj:a.eval x=u at hu;unfold Aau at hn;split at hn
  ·rename_i id;cases hu with
   |ptr _ _ b hb=>
   obtain⟨o,ho,L⟩:=Ai.1 hn;obtain⟨co,hc,ar⟩:=r.ob _ _ b ho hb;split at L
   ·rename_i l n pos;cases ar with
    |MJ _ _ _ aF bq=>
    have aW:(BJ l n).size=l:=MZ l n;cases an:Nat.blt pos l with
    |true=>
     rw[an,cond_true,Bv]at L;obtain⟨a2,U⟩:=AQ.1 L;rw[Bv]at U;injection U with U;injection U with U W;subst U;subst W;rw[CE]at an a2;have a8:(BJ l n).get! (pos+0)=UInt8.ofNat (n/256^pos):=by
      have S:=bV l n pos an;show(BJ l n).data[pos+0]! =_;have V:(BJ l n).data[pos]? =some (UInt8.ofNat (n/256^pos)):=by rw[<-Array.getElem?_toList,Rp];exact S
      simp[getElem!_def,V]
     have bb:Utf8.decode (BJ l n) pos=(n/256^pos %256,1):=by unfold Utf8.decode;simp only[a8,HF];rw[As a2]
     have ab:=r.put (a:=.MJ l n (pos+1)) (c:=.stringIter (BJ l n) (pos+1)) ho hb (.MJ l n (pos+1) aF bq) (w':=World.EN w b.b (.stringIter (BJ l n) (pos+1))) (Mn w b.b _ _ hc) rfl rfl rfl;rw[<-F5]at ab;refine FX (by simp) (.inl ?_) (hk (.tuple #[.bool true,.int .i64 (Int.ofNat pos),.int .i32 (Int.ofNat (n/256^pos %256))]) ρ _ ⟨Ak.le_refl ρ,λ_ _ _=>rfl,B⟩ (ab.EZ B) (.AM _ [.bool true,.int .i64 (Int.ofNat pos),.int .i32 (Int.ofNat (n/256^pos %256))] (.cons _ _ _ _ (.bool _) (.cons _ _ _ _ (.int _ _) (.cons _ _ _ _ (.int _ _) .nil)))));have hz:b.ob+0=0:=by omega
     have ao:(getObj b.b).run P w=.ok (.stringIter (BJ l n) pos) w:=by simp[getObj,Sem.run,hc]
     have aD:(setObj b.b (.stringIter (BJ l n) (pos+1))).run P w=.ok () (World.EN w b.b (.stringIter (BJ l n) (pos+1))):=by simp[setObj,Sem.run,hc,World.EN]
     simp only[execOp,aj,hz,Instr.next,Sem.run_bind,ao,Result.andThen_ok,aW,bb,As an,aD,Sem.run_pure];rfl
    |false=>
     rw[an,cond_false]at L;injection L with L;injection L with L U;subst L;subst U;have bu:¬pos<l:=λh=>by rw[<-CE,an]at h;cases h
     refine FX (by simp) (.inl ?_) (hk (.tuple #[.bool false]) ρ w ⟨Ak.le_refl ρ,λ_ _ _=>rfl,B⟩ (r.EZ B) (.AM _ [.bool false] (.cons _ _ _ _ (.bool _) .nil)));have hz:b.ob+0=0:=by omega
     have ao:(getObj b.b).run P w=.ok (.stringIter (BJ l n) pos) w:=by simp[getObj,Sem.run,hc]
     simp only[execOp,aj,hz,Instr.next,Sem.run_bind,ao,Result.andThen_ok,aW,An bu,Sem.run_pure]
   ·cases ar with
    |P1 s0 seen last aF=>
    injection L with L;injection L with L U;subst L;subst U;refine FX (by simp) (.inl ?_) (hk (.tuple #[.bool false]) ρ w ⟨Ak.le_refl ρ,λ_ _ _=>rfl,B⟩ (r.EZ B) (.AM _ [.bool false] (.cons _ _ _ _ (.bool _) .nil)));have hz:b.ob+0=0:=by omega
    have ao:(getObj b.b).run P w=.ok (.mapIter none s0 seen last) w:=by simp[getObj,Sem.run,hc]
    simp only[execOp,aj,hz,Instr.next,Sem.run_bind,ao,Result.andThen_ok,Sem.run_pure]
   ·rename_i mid R seen last;cases ar with
    |Ih _ _ _ _ bm aF a3=>
    obtain⟨om,bp,U⟩:=Ai.1 L;obtain⟨cm,bC,a4⟩:=r.ob _ _ bm bp a3;split at U
    ·rename_i es J;cases a4 with
     |map _ _ l hl=>
     obtain⟨hg,W⟩:=AQ.1 U;have hz:b.ob+0=0:=by omega
     have ao:(getObj b.b).run P w=.ok (.mapIter (some bm.b) R seen.toArray last) w:=by simp[getObj,Sem.run,hc]
     have aH:(getObj bm.b).run P w=.ok (.map l.toArray J) w:=by simp[getObj,Sem.run,bC]
     have aY:(!seen.toArray.isEmpty&& !l.toArray.isEmpty&&l.toArray.all (λe=>decide (e.born>=last)))=false:=by
      have bc:=xz (last:=last) hl;have ba:es.isEmpty=l.isEmpty:=by cases hl<;>rfl
      rw[bc,ba]at hg;simp only[List.isEmpty_toArray,List.all_toArray];cases S:seen.isEmpty<;>cases V:l.isEmpty<;>rw[S,V]at hg<;>simp_all
     have aa:=Ab3 (seen:=seen) hl;have au:l.toArray.filter (λe=>!seen.toArray.contains e.born)=(l.filter λm=>!seen.contains m.born).toArray:=by simp
     split at W
     ·rename_i az;injection W with W;injection W with W Z;subst W;subst Z;rw[az]at aa;have a5:(l.filter λm=>!seen.contains m.born)=[]:=by generalize(l.filter λm=>!seen.contains m.born)=l' at aa;cases aa;rfl
      rw[a5]at au;refine FX (by simp) (.inl ?_) (hk (.tuple #[.bool false]) ρ w ⟨Ak.le_refl ρ,λ_ _ _=>rfl,B⟩ (r.EZ B) (.AM _ [.bool false] (.cons _ _ _ _ (.bool _) .nil)));simp only[execOp,aj,hz,Instr.next,Sem.run_bind,ao,aH,Result.andThen_ok,aY,au,Bool.false_eq_true,if_false];simp[Question.forced]
     ·rename_i e az;obtain⟨an,Z⟩:=AQ.1 W;injection Z with Z;injection Z with Z h7;subst Z;subst h7;rw[CE]at an;rw[az]at aa;obtain⟨m,hm,aP⟩:∃m,(l.filter λm=>!seen.contains m.born)=[m]/\ER ρ e m:=by
       generalize(l.filter λm=>!seen.contains m.born)=l' at aa;cases aa with
       |cons _ m _ bJ he hs=>cases hs;exact⟨m,rfl,he⟩
      rw[hm]at au;have aU:m.born=e.born:=aP.2.2.symm;have ab:=r.put (a:=.Ih mid R (seen++[e.born]) J) (c:=.mapIter (some bm.b) R (seen++[e.born]).toArray J) ho hb (.Ih mid R (seen++[e.born]) J bm aF a3) (w':=World.EN w b.b (.mapIter (some bm.b) R (seen++[e.born]).toArray J)) (Mn w b.b _ _ hc) rfl rfl rfl;rw[<-F5]at ab;refine FX (by simp) (.inl ?_) (hk (.tuple #[.bool true,m.key,m.val]) ρ _ ⟨Ak.le_refl ρ,λ_ _ _=>rfl,B⟩ (ab.EZ B) (.AM _ [.bool true,m.key,m.val] (.cons _ _ _ _ (.bool _) (.cons _ _ _ _ aP.1 (.cons _ _ _ _ aP.2.1 .nil)))));have aD:(setObj b.b (.mapIter (some bm.b) R (seen++[e.born]).toArray J)).run P w=.ok () (World.EN w b.b (.mapIter (some bm.b) R (seen++[e.born]).toArray J)):=by simp[setObj,Sem.run,hc,World.EN]
      have a7:m.born<R:=by omega
      have a9:¬m.born>=R:=by omega
      have hold:[m].toArray.filter (λe=>decide (e.born<R))=[m].toArray:=by simp[a7]
      have a6:[m].toArray.filter (λe=>decide (e.born>=R))= #[]:=by simp[a9]
      have aS:(if [m].toArray.isEmpty=true then #[none]else #[])++([m].toArray++ #[]).map some= #[some m]:=by simp
      have bE:(choose (.mapNext (#[some m]:Array (Option MapEntry)).size)).run P w=.ok 0 w:=by simp[Question.forced]
      simp only[execOp,aj,hz,Instr.next,Sem.run_bind,ao,aH,Result.andThen_ok,aY,au,Bool.false_eq_true,if_false,hold,a6,aS,bE];have aR:seen.toArray.push m.born=(seen++[e.born]).toArray:=by rw[aU];simp
      simp[aD,aR]
     ·cases W
    ·cases U
   ·cases L
  ·cases hn
 case convert s d x=>
  obtain⟨xa,ai,S⟩:=Ai.1 K;have hu:=hX _ _ ai;clear K;split at S
  ·rename_i id off len cap;obtain⟨aX,V⟩:=AQ.1 S;rw[A0]at aX;subst aX;obtain⟨dd,bA,L⟩:=Ai.1 V;split at L
   ·rename_i e;obtain⟨de,bz,U⟩:=Ai.1 L;split at U
    ·obtain⟨o,ho,W⟩:=Ai.1 U;clear S V L U;split at W
     ·rename_i el c z n op;injection W with W;subst W;generalize aj:a.eval x=u at hu;cases hu with
      |sl _ _ _ _ b hb=>
       obtain⟨co,hc,ar⟩:=r.ob _ _ b ho hb;cases ar with
       |cells _ _ _ _ _ cs fz DT hn bo bw bB=>
        obtain⟨w',bk,bj,bh,bg,bK,aB,bf,bd⟩:∃w':World,(convert s s (.slice (some ⟨b.b,b.ob+off,none⟩) len cap)).run P w=.ok (.slice (some ⟨b.b,b.ob+off,none⟩) len cap) w'/\ w'.tape=w.tape/\w'.os=w.os/\w'.output=w.output/\True/\∃aB,(∀k,w'.heap[k]? =if k=b.b then some (.cells cs el aB)else w.heap[k]?)/\dL cs aB:=by
         have bn:w.shape? b.b=some (el,cs.size):=by simp[World.shape?,hc]
         refine⟨w.freeze ⟨b.b,cs.size,none⟩ 1,?_,rfl,rfl,rfl,trivial,if fz.1==fz.2 then(cs.size,cs.size+1)else(min fz.1 cs.size,max fz.2 (cs.size+1)),λk=>?_,?_⟩
         ·simp only[convert,Sem.run_bind,run_underlying bA,run_underlying bz,Result.andThen_ok,BEq.rfl,markStringish,run_shape,bn];rfl
         ·show(w.heap.modify b.b _)[k]? =_;rw[Array.getElem?_modify];by_cases hk:k=b.b
          ·subst hk;rw[As rfl,As rfl,hc];rfl
          ·rw[An (λe=>hk e.symm),An hk]
         ·rcases bw with h|h
          ·subst h;exact .inr (AH _)
          ·split
           ·exact .inr (AH _)
           ·exact .inr (by simp only;omega)
        have ab:=r.put (a:=.cells el c z n op) (c:=.cells cs el aB) ho hb (.cells el c z n op cs aB DT hn bo bd bB) bf bj bh bg;have ak:(λj=>if j=id then some (Ah.cells el c z n op)else H.get j)=H.get:=by
         funext j;by_cases hj:j=id
         ·rw[As hj,hj,ho]
         ·rw[An hj]
        rw[ak]at ab;refine FX (by simp) (.inl ?_) (hk _ ρ w' ⟨Ak.le_refl ρ,λ_ _ _=>rfl,B⟩ (ab.EZ B) (.sl id off len cap b hb));simp only[execOp,aj,Sem.run_bind,bk,Result.andThen_ok,Sem.run_pure]
     ·cases W
    ·cases U
   ·cases L
  ·cases S
 case panic x=>
  obtain⟨xa,ai,S⟩:=Ai.1 K;split at S
  ·rename_i t v;injection S with S;subst S;have hu:=hX _ _ ai;generalize hm:a.eval x=vx at hu;cases hu;rename_i u hu;refine⟨L1 ro P _ w a.eval,?_⟩;rw[Oper.semAt_eq _ _ _ (by simp)];have Y:(execOp a.eval {dst,op:=.panic x,type,pos,after,guard}).run P w=.halt (.panic (.iface t u)) w:=by simp only[execOp,hm];rfl
   rw[Y];exact hk _ ρ w ⟨Ak.le_refl ρ,λ_ _ _=>rfl,B⟩ (r.EZ B) (.iface _ _ _ hu)
  ·cases S
 case defer c=>
  obtain⟨callee,args,argTypes⟩:=c;simp only at K;cases callee with
  |invoke _ _=>cases K
  |builtin b=>cases K
  |value f=>
   obtain⟨fa,aI,S⟩:=Ai.1 K;obtain⟨xs,ag,V⟩:=Ai.1 S;obtain⟨t,ht,L⟩:=Ai.1 V;clear K S V;split at L
   ·rename_i g bI;injection L with L;subst L;obtain⟨rfl,hk⟩:=hk;have ah:=hX _ _ aI;have ad:=I6 hX ag;rw[show args.toList.map a.eval=(args.map a.eval).toList by rw[Array.toList_map]]at ad;refine⟨L1 none P _ w a.eval,?_⟩;show Oper.uponIn _ _ _ _ _ _ _ ((Oper.semAt none a.eval _).run P w);rw[Oper.semAt_none];unfold Ie at ht;split at ht
    ·rename_i g0 first cap
     injection ht with ht;injection ht with aM aL;subst aM;subst aL;generalize ak:a.eval f=fv at ah;cases ah with
     |fn _ _ _ va vc ha hc=>
      have Y:(execOp a.eval {dst,op:=.defer {callee:=.value f,args,argTypes},type,pos,after,guard}).run P w=.ok (.defer {target:=.fn (.func g0) vc.toArray,args:=(va++(args.map a.eval).toList).toArray}) w:=by simp only[execOp,resolve,ak,Deferred.ofValue,Sem.run_bind,Sem.run_pure,Result.andThen_ok];congr 3;apply Array.ext';simp
      rw[Y];exact hk (va++(args.map a.eval).toList) vc ⟨Ak.le_refl ρ,λ_ _=>rfl,B⟩ (r.EZ B) (by rw[List.append_assoc];exact ha.append (ad.append hc))
    ·injection ht with ht;cases ht
    ·cases ht
   ·cases L
theorem Apu {P:Program} {E:Env} {F:Nat->Option Obj} {nx nx':Nat} {ρ:Ak} {H:Tr Ah} {w:World} (r:Rel E F nx ρ H.get w) {X:Operand->Option AV} {a:Act} (V:XR ρ X a.eval) {ni:Nat} (af:ρ ni=none) (B:nx<=nx') (R:ni<nx') {o:Oper} {v:AV} {H':Tr Ah} (z:JA P X H ni o.op=some (true,v,H')) {ro:Option Nat} {next:Act->World->Prop} {Q:Exit->Act->World->Prop} (hk:Ze E F ni nx ρ o a w ro next Q (.mk v H' nx')):o.wpIn (FW ro) 0 P a w next Q:=by
 obtain⟨dst,op,type,pos,after,guard⟩:=o;simp only at z;cases op<;>simp only[JA]at z<;>first|(cases z;done)|skip
 case store t x y=>
  obtain⟨xa,ae,Z⟩:=Ai.1 z;obtain⟨ya,ab,h2⟩:=Ai.1 Z;obtain⟨⟨sd,H1⟩,ag,K⟩:=Ai.1 h2;injection K with K;injection K with K Y;injection Y with Y U;subst Y;subst U;simp only at K;subst K;obtain⟨w',W,S⟩:=ApH (P:=P) r (V _ _ ae) (V _ _ ab) ag;refine FX (by simp) (.inr ⟨?_,rfl⟩) (hk undef ρ w' ⟨Ak.le_refl ρ,λ_ _ _=>rfl,B⟩ (S.EZ B) (.AM _ _ .nil));simp[execOp,W]
 case call c=>
  obtain⟨J,args,L⟩:=c;simp only at z;cases J with
  |invoke _ _=>cases z
  |value _=>cases z
  |builtin b=>
   cases b<;>first|(cases z;done)|skip
   obtain⟨xs,ad,Z⟩:=Ai.1 z;obtain⟨u,w',aa,U,W,S,h8⟩:=Apl (P:=P) r af B R (I6 V ad) Z type;rw[map_toArray,Array.toArray_toList]at U;refine FX (by simp) (.inl ?_) (hk u aa w' ⟨S.1,λx _ hx=>S.2 x hx,B⟩ W h8);simp only[execOp,resolve,Sem.run_bind,Sem.run_pure,Result.andThen_ok,invoke,builtin,U]
theorem r8 {P:Program} {call:Da} (z:GX P call) {E:Env} {F:Nat->Option Obj} {nx nx':Nat} {ρ:Ak} {H:Tr Ah} {w:World} (r:Rel E F nx ρ H.get w) {X:Operand->Option AV} {a:Act} (S:XR ρ X a.eval) {ni:Nat} (K:ρ ni=none) (J:nx<=nx') (y:ni<nx') {o:Oper} {L:CR} (x:FN P call X H ni nx' o.op=some L) {ro:Option Nat} {next:Act->World->Prop} {Q:Exit->Act->World->Prop} (R:Ze E F ni nx ρ o a w ro next Q L):o.wpIn (FW ro) 0 P a w next Q:=by
 cases B:JA P X H ni o.op with
 |none=>
  have U:FN P call X H ni nx' o.op=Gk P call X H ni nx' o.op:=by unfold FN;rw[B]
  rw[U]at x;exact Aao z r S K J y x R
 |some p=>
  obtain⟨b,v,H'⟩:=p;have U:FN P call X H ni nx' o.op=cond b (some (.mk v H' nx')) (Gk P call X H ni nx' o.op):=by unfold FN;rw[B]
  rw[U]at x;cases b with
  |true=>injection x with x;subst x;exact Apu r S K J y B R
  |false=>exact Aao z r S K J y x R
theorem Aav {P:Program} {call:Da} (K:GX P call) {E:Env} {F:Nat->Option Obj} {nx nx':Nat} {ρ:Ak} {H:Tr Ah} {w:World} (r:Rel E F nx ρ H.get w) {X:Operand->Option AV} {a:Act} (V:XR ρ X a.eval) {ni:Nat} (J:ρ ni=none) (z:nx<=nx') (B:ni<nx') {o:Oper} {L:CR} (y:Ks P call X H ni nx nx' o.op=some L) {ro:Option Nat} {next:Act->World->Prop} {Q:Exit->Act->World->Prop} (S:Ze E F ni nx ρ o a w ro next Q L):o.wpIn (FW ro) 0 P a w next Q:=by
 unfold Ks at y;cases R:De P H X o.op with
 |some av=>rw[R]at y;injection y with y;subst y;obtain⟨u,Y,W⟩:=rp r (HS.refl ρ H) V o R;exact FX (Adt R) (.inl Y) (S u ρ w (RX.refl _ ρ).ry r W)
 |none=>
  rw[R]at y;cases hn:Ew P X ni o.op with
  |some p=>
   rw[hn]at y;obtain⟨av,aa⟩:=p;injection y with y;subst y;obtain⟨u,w1,c,cap,Y,W,h6,Z⟩:=rm (P:=P) (w:=w) V J o hn;refine FX (AcK hn) (.inl Y) ?_;rcases W with rfl|rfl
   ·have:=r.alloc J z B h6;exact S u _ _ ⟨this.2,λx _ U=>by simp[Ak.put,U],z⟩ (by rw[F5];exact this.1) Z
   ·have:=r.drew.alloc J z B h6;exact S u _ _ ⟨this.2,λx _ U=>by simp[Ak.put,U],z⟩ (by rw[F5];exact this.1) Z
  |none=>rw[hn]at y;exact r8 K r V J z B y S
end Go.Ev
end
section
namespace Go.Ev
inductive DR (ρ:Ak):List Od->List Deferred->Prop where
 |nil:DR ρ [] []
 |mark (id:Nat) (b:CD) (l:List Od) (ds:List Deferred) (h:ρ id=some b) (hs:DR ρ l ds):DR ρ (.mark id::l) ({target:=.collected b.b,args:=#[]}::ds)
 |call (g:FuncId) (args:List AV) (va vc:List Value) (l:List Od) (ds:List Deferred) (h:AL ρ args (va++vc)) (hs:DR ρ l ds):
   DR ρ (.call g args::l) ({target:=.fn (.func g) vc.toArray,args:=va.toArray}::ds)
theorem DR.mono {ρ y:Ak} (r:ρ.le y):∀ {l:List Od} {x:List Deferred},DR ρ l x->DR y l x
 |_,_,.nil=>.nil
 |_,_,.mark id b l x h z=>.mark id b l x (r _ _ h) (DR.mono r z)
 |_,_,.call g args va B l x h z=>.call g args va B l x (h.mono r) (DR.mono r z)
def JF (ρ:Ak) (x:AX) (Q:Exit->Prop):Prop:=
 match x with
 |.Bh=>Q .normal
 |.exit id=>Q (.exit id)
 |.goto l=>Q (.goto l)
 |.ret=>Q .ret
 |.AG v=>∀u,VR ρ v u->Q (.panic (fresh u))
inductive Rc (ρ:Ak):Option Nat->Option Nat->Prop where
 |none:Rc ρ none none
 |some (id:Nat) (b:CD) (h:ρ id=some b):Rc ρ (some id) (some b.b)
theorem Rc.mono {ρ r:Ak} (x:ρ.le r) {a b:Option Nat} (h:Rc ρ a b):Rc r a b:=by
 cases h with
 |none=>exact .none
 |some id b h=>exact .some id b (x _ _ h)
structure SR (E:Env) (F:Nat->Option Obj) (ρ:Ak) (s:St) (a:Act) (w:World) (ro:Option Nat):Prop where
 rel:Rel E F s.nx ρ s.H.get w
 tr:TR ρ s.T a.tmps
 size:a.tmps.size=s.N
 dr:DR ρ s.D a.defers
 rr:Rc ρ s.ro ro
theorem AaE {ρ:Ak} {ops:Array Oper} {T:Tr AV} {o:Oper} {b:Bool} {tmps:Array Value} (ht:TR ρ T tmps) (h:Ex ops T o=some b): Region.wanted o (yielded ops tmps)=b:=by
 unfold Ex at h;unfold Region.wanted;cases J:o.guard with
 |none=>rw[J]at h;injection h with h
 |some p=>
  obtain⟨j,r⟩:=p;rw[J]at h;obtain⟨R,y,L⟩:=Ai.1 h;obtain⟨d,hd,K⟩:=Ai.1 L;obtain⟨v,hv,x⟩:=Ai.1 K;obtain⟨u,hu,B⟩:=ht d v hv;have hy:yielded ops tmps j=match u with|.bool b=>some b|_=>none:=by unfold yielded;rw[y];simp only[Option.bind_some,hd,hu];cases u<;>rfl
  show(yielded ops tmps j==some r)=b;rw[hy];split at x
  ·injection x with x;subst x;cases B;rename_i b;cases b<;>cases r<;>rfl
  ·rename_i z;injection x with x;subst x;cases B<;>first|rfl|(exact absurd rfl (z _))
theorem IA {ρ:Ak} {N:Nat} {T T':Tr AV} {dst:Option Tmp} {v:AV} {u:Value} {a:Act} (ht:TR ρ T a.tmps) (hn:a.tmps.size=N) (hv:VR ρ v u) (h:Fa N T dst v=some T'): TR ρ T' (a.put dst u).tmps/\(a.put dst u).tmps.size=N/\(a.put dst u).defers=a.defers:=by
 unfold Fa at h;cases dst with
 |none=>injection h with h;subst h;exact⟨ht,hn,rfl⟩
 |some d=>
  obtain⟨B,J⟩:=AQ.1 h;injection J with J;subst J;rw[CE]at B;refine⟨λt x r=>?_,by simp[Act.put,hn],rfl⟩;rw[Tr.Gm]at r;by_cases y:d=t
  ·subst y;rw[As rfl]at r;injection r with r;subst r;exact⟨u,by simp[Act.put,hn,B],hv⟩
  ·rw[An y]at r;obtain⟨z,hz,K⟩:=ht t x r;exact⟨z,by simp only[Act.put];rw[Array.getElem?_setIfInBounds_ne y];exact hz,K⟩
theorem cV {P:Program} {ro:Option Nat} {ops:Array Oper} {i:Nat} {rest:List Nat} {o:Oper} {a:Act} {w:World} (B:ops[i]? =some o) (z:Region.wanted o (yielded ops a.tmps)=true) (hd:∀c,o.op≠.defer c) {cases:Array CommCase} {bl:Bool} {sh:CommShape} (r:(execOp a.eval o).run P w=.ok (.comm cases bl sh) w) (b:Frame) (k:List Item) (cs:List Frame) (y:b.roundOf=(FW ro).round): ∃J,stepG P true (Conc.G (b.atR a (.inRegion ops (i::rest)::k)) cs) w=.comm (Conc.G (b.atR a (.inRegion ops (i::rest)::k)) cs) cases bl sh w J:=by have x:=stepGR_op (P:=P) (b:=b) (a:=a) (k:=k) (cs:=cs) (w:=w) (rest:=rest) B z;rw[Oper.semAt_eq _ _ _ hd]at x;have:stepG P true (Conc.G (b.atR a (.inRegion ops (i::rest)::k)) cs) w=stepG.apply P true (b.atR a (.inRegion ops (i::rest)::k)) cs none (execOp a.eval o) w:=x;rw[this];simp only[stepG.apply,Sem.runT_eq,r];exact⟨_,rfl⟩
theorem cS {E:Env} {F:Nat->Option Obj} {nx:Nat} {ρ:Ak} {H:Tr Ah} {w:World} (r:Rel E F nx ρ H.get w) {id:Nat} {b:CD} (hb:ρ id=some b) {cap:Nat} {z:Al} (K:H.get id=some (.chan cap z)): ∃vs s q,w.heap[b.b]? =some (.chan cap vs.toArray false s q false)/\AL ρ z vs/\∀(x:Al) (y:List Value) (s' B:Nat),AL ρ x y->Rel E F nx ρ (H.set id (.chan cap x)).get (w.setChan b.b cap y.toArray false s' B false):=by
 obtain⟨c,hc,J⟩:=r.ob _ _ b K hb;cases J with
 |chan _ _ vs s q h=>refine⟨vs,s,q,hc,h,λx y s' B h'=>?_⟩;rw[F5];exact r.put K hb (.chan cap x y s' B h') (Mn w b.b _ _ hc) rfl rfl rfl
theorem AhE {P:Program} {E:Env} {F:Nat->Option Obj} {nx:Nat} {ρ:Ak} {H H':Tr Ah} {w:World} (r:Rel E F nx ρ H.get w) {X:Operand->Option AV} {a:Act} (hX:XR ρ X a.eval) {o:Oper} {v:AV} (y:cw P X H o.op=some (v,H')):∃u w',Rel E F nx ρ H'.get w'/\VR ρ v u/\∀(ro:Option Nat) (ops:Array Oper) (i:Nat) (rest:List Nat),ops[i]? =some o->Region.wanted o (yielded ops a.tmps)=true-> ∀(b:Frame) (k:List Item) (cs:List Frame),b.roundOf=(FW ro).round->step P (lone (b.atR a (.inRegion ops (i::rest)::k)) cs w)=.next (lone ((b.atR a (.inRegion ops (i::rest)::k)).finish u) cs w'):=by
 obtain⟨dst,op,type,pos,after,guard⟩:=o;simp only at y;unfold cw at y;split at y
 ·rename_i ch x;obtain⟨c,hc,h1⟩:=Ai.1 y;obtain⟨xv,hx,V⟩:=Ai.1 h1;have B:=hX _ _ hc;have ag:=hX _ _ hx;clear y h1;split at V
  ·rename_i id;obtain⟨ad,ho,J⟩:=Ai.1 V;split at J
   ·rename_i cap W;obtain⟨ae,K⟩:=AQ.1 J;injection K with K;injection K with K h5;subst K;subst h5;rw[CE]at ae;generalize U:a.eval ch=cv at B;cases B with
    |chan _ b hb=>obtain⟨vs,s,q,h6,h7,h8⟩:=cS r hb ho;refine⟨undef,_,h8 (W++[xv]) (vs++[a.eval x]) (s+1) q (h7.append (.cons _ _ _ _ ag .nil)),.AM _ _ .nil,λro ops i rest S hw fr k cs R=>?_⟩;obtain⟨es,L⟩:=cV (P:=P) (ro:=ro) (w:=w) (rest:=rest) S hw (by simp) (cases:=#[Conc.scase b.b (a.eval x) (.tuple #[])]) (bl:=true) (sh:=.send) (by simp[execOp,U,Conc.scase]) fr k cs R;have:=Conc.step_lone_send_room L h6 (by rw[List.size_toArray,<-h7.length];exact ae);rw[List.push_toArray]at this;exact this
   ·cases J
  ·cases V
 ·rename_i t ch;obtain⟨c,hc,h1⟩:=Ai.1 y;obtain⟨d,hd,V⟩:=Ai.1 h1;have B:=hX _ _ hc;clear y h1;split at V
  ·rename_i an el id;obtain⟨z,hz,J⟩:=Ai.1 V;obtain⟨ad,ho,K⟩:=Ai.1 J;obtain⟨zv,aa,_⟩:=Pm (P:=P) hz w;split at K
   ·rename_i cap v0 W;injection K with K;injection K with K h5;subst K;subst h5;generalize U:a.eval ch=cv at B;cases B with
    |chan _ b hb=>
     obtain⟨vs,s,q,h6,h7,h8⟩:=cS r hb ho;cases h7 with
     |cons _ u _ us hu ab=>refine⟨u,_,h8 W us s (q+1) ab,hu,λro ops i rest S hw fr k cs R=>?_⟩;obtain⟨es,L⟩:=cV (P:=P) (ro:=ro) (w:=w) (rest:=rest) S hw (by simp) (cases:=#[Conc.rcase b.b zv]) (bl:=true) (sh:=.recv false) (by simp[execOp,U,run_underlying hd,aa,Conc.rcase]) fr k cs R;have:=Conc.step_lone_recv_buf false L h6 (by simp);simp[Conc.got]at this;exact this
   ·cases K
  ·cases V
 ·rename_i Z;split at y
  ·rename_i sc ai;split at y
   ·rename_i ah;obtain⟨c,hc,h1⟩:=Ai.1 y;obtain⟨z,hz,V⟩:=Ai.1 h1;have B:=hX _ _ hc;obtain⟨zv,aa,af⟩:=Pm (P:=P) hz w;clear y h1;have aj:Z= #[sc]:=Array.ext' (by rw[ai]);subst aj;have Y:∀c0,a.eval sc.chan=.chan (some c0)->(execOp a.eval {dst,op:=.select #[sc] false,type,pos,after,guard}).run P w=.ok (.comm #[Conc.rcase c0 zv] false .select) w:=λc0 ak=>by simp[execOp,ak,aa,ah,Conc.rcase]
    split at V
    ·rename_i id;obtain⟨ad,ho,J⟩:=Ai.1 V;generalize U:a.eval sc.chan=cv at B;split at J
     ·injection J with J;injection J with J K;subst J;subst K;cases B with
      |chan _ b hb=>obtain⟨vs,s,q,h6,h7,h8⟩:=cS r hb ho;cases h7;refine⟨.tuple #[.int .i64 (-1),.bool false,zv],w,r,.AM _ [.int .i64 (-1),.bool false,zv] (.cons _ _ _ _ (.int _ _) (.cons _ _ _ _ (.bool _) (.cons _ _ _ _ (af ρ) .nil))),λro ops i rest S hw fr k cs R=>?_⟩;obtain⟨es,L⟩:=cV (P:=P) (ro:=ro) (w:=w) (rest:=rest) S hw (by simp) (Y _ U) fr k cs R;exact Conc.step_lone_select_default L h6
     ·rename_i cap v0 W;injection J with J;injection J with J K;subst J;subst K;cases B with
      |chan _ b hb=>
       obtain⟨vs,s,q,h6,h7,h8⟩:=cS r hb ho;cases h7 with
       |cons _ u _ us hu ab=>refine⟨.tuple #[.int .i64 0,.bool true,u],_,h8 W us s (q+1) ab,.AM _ [.int .i64 0,.bool true,u] (.cons _ _ _ _ (.int _ _) (.cons _ _ _ _ (.bool _) (.cons _ _ _ _ hu .nil))),λro ops i rest S hw fr k cs R=>?_⟩;obtain⟨es,L⟩:=cV (P:=P) (ro:=ro) (w:=w) (rest:=rest) S hw (by simp) (Y _ U) fr k cs R;have:=Conc.step_lone_select_recv_buf L h6 (by simp);simp at this;exact this
     ·cases J
    ·cases V
   ·cases y
  ·cases y
 ·cases y
theorem Xb {P:Program} {call:Da} (B:GX P call) {ops:Array Oper} {E:Env} {F:Nat->Option Obj} {ro:Option Nat} {Q:Exit->Act->World->Prop}: ∀(l:List Oper) (i:Nat) (s:St) (x:AX) (s':St) (ρ:Ak) (a:Act) (w:World),(∀j o,l[j]? =some o->ops[i+j]? =some o)->Ot P call ops l s=some (.mk x s')->SR E F ρ s a w ro-> (∀R Z w',RX s.nx s'.nx ρ R->SR E F R s' Z w' ro->JF R x λe=>Q e Z w')->LZ ro P ops Q (List.range' i l.length) a w
 | [],i,s,x,s',ρ,a,w,_,h,y,hq=>by injection h with h;injection h with h h';subst h;subst h';exact Adg (hq ρ a w (RX.refl _ ρ) y)
 |o::l,i,s,x,s',ρ,a,w,hl,h,y,hq=>by
  obtain⟨wd,ae,h1⟩:=Ai.1 (show(ob (Ex ops s.T o) λwd=>cond wd (fN (s.nx+1) λnx'=>Option.rec (motive:=λ_=>Option Ci) (ob (cw P (BR s.T) s.H o.op) λp=>ob (Fa s.N s.T o.dst p.1) λT=>Ot P call ops l ⟨s.N,T,p.2,nx',s.ro,s.D⟩) (rO o s (Ot P call ops l)) (Ks P call (BR s.T) s.H s.nx s.nx nx' o.op)) (ob (Fa s.N s.T o.dst (.AM [])) λT=>Ot P call ops l ⟨s.N,T,s.H,s.nx,s.ro,s.D⟩))=some (.mk x s')from h);have hw:=AaE y.tr ae;have ho:ops[i]? =some o:=by have:=hl 0 o rfl;simpa using this
  have W:∀j o',l[j]? =some o'->ops[i+1+j]? =some o':=λj o' hj=>by have:=hl (j+1) o' (by simpa using hj);rwa[show i+(j+1)=i+1+j by omega]at this
  rw[show(o::l).length=l.length+1 from rfl,List.range'_succ];cases wd with
  |true=>
   rw[cond_true,Bv]at h1;cases hr:Ks P call (BR s.T) s.H s.nx s.nx (s.nx+1) o.op with
   |none=>rw[hr]at h1;obtain⟨⟨v,H⟩,ah,h2⟩:=Ai.1 h1;obtain⟨T,hT,S⟩:=Ai.1 h2;obtain⟨u,w',z,hv,af⟩:=AhE y.rel y.tr.xr ah;obtain⟨e1,e2,e3⟩:=IA y.tr y.size hv hT;exact uF ho (L1 ro P o w a.eval) (af ro ops i _ ho hw) (Xb B l (i+1) _ x s' ρ _ w' W S ⟨z.EZ (Nat.le_succ _),e1,e2,by rw[e3];exact y.dr,y.rr⟩ λK Z U L V=>hq K Z U (L.Y3 (Nat.le_succ _) (AH _)) V)
   |some r=>
   rw[hr]at h1;have h2:rO o s (Ot P call ops l) r=some (.mk x s'):=h1;refine Adj ho hw ?_;refine Aav B y.rel y.tr.xr (y.rel.new _ (AH _)) (Nat.le_succ _) (Nat.lt_succ_self _) hr ?_;cases r with
   |mk v H nx=>obtain⟨T,hT,S⟩:=Ai.1 (show(ob (Fa s.N s.T o.dst v) λT=>Ot P call ops l ⟨s.N,T,H,nx,s.ro,s.D⟩)=some (.mk x s')from h2);intro u R w' Y z hv;have J:=Y.le;obtain⟨e1,e2,e3⟩:=IA (y.tr.mono J) y.size hv hT;exact Xb B l (i+1) _ x s' R _ w' W S ⟨z,e1,e2,by rw[e3];exact y.dr.mono J,y.rr.mono J⟩ λK Z U L V=>hq K Z U (Y.rx.trans L) V
   |AG v H nx=>have S:some (Ci.mk (.AG v) ⟨s.N,s.T,H,nx,s.ro,s.D⟩)=some (.mk x s'):=h2;injection S with S;injection S with S h4;subst S;subst h4;intro u R w' Y z hv;have J:=Y.le;exact hq R a w' Y.rx ⟨z,y.tr.mono J,y.size,y.dr.mono J,y.rr.mono J⟩ u hv
   |Cf g args H nx=>
    obtain⟨ag,S⟩:=AQ.1 (show gd s.ro.isNone (ob (Fa s.N s.T o.dst (.AM [])) λT=>Ot P call ops l ⟨s.N,T,H,nx,s.ro,.call g args::s.D⟩)=some (.mk x s')from h2);obtain⟨T,hT,h4⟩:=Ai.1 S;have aa:=y.rr;have ab:s.ro=none:=by simpa using ag
    have ad:ro=none:=by rw[ab]at aa;cases aa;rfl
    refine⟨ad,λva vc Y z hv=>?_⟩;have J:=Y.le;obtain⟨e1,e2,e3⟩:=IA (u:=undef) (a:={a with defers:={target:=.fn (.func g) vc.toArray,args:=va.toArray}::a.defers}) y.tr y.size (.AM (ρ:=ρ) [] [] .nil) hT;exact Xb B l (i+1) _ x s' ρ _ w W h4 ⟨z,e1,e2,by rw[e3];exact .call g args va vc _ _ hv y.dr,y.rr⟩ λK Z U L V=>hq K Z U (Y.trans L) V
  |false=>rw[cond_false]at h1;obtain⟨T,hT,S⟩:=Ai.1 h1;obtain⟨e1,e2,e3⟩:=IA (u:=undef) y.tr y.size (.AM (ρ:=ρ) [] [] .nil) hT;exact Adh ho (by rw[hw];simp) (L1 ro P o w a.eval) (Xb B l (i+1) _ x s' ρ _ w W S ⟨y.rel,e1,e2,by rw[e3];exact y.dr,y.rr⟩ hq)
def Pn (P:Program) (code:Code->St->Option Ci):Prop:=∀c s x s',code c s=some (.mk x s')->∀E F ρ a w ro Q,SR E F ρ s a w ro->(∀r y w',RX s.nx s'.nx ρ r->SR E F r s' y w' ro->JF r x λe=>Q e y w')->c.wpIn (FW ro) 0 P Q a w
def jB (P:Program):Prop:=∀call ops s x s',GX P call->cz P call ops s=some (.mk x s')->∀id E F ρ a w ro Q,SR E F ρ s a w ro->(∀r y w',RX s.nx s'.nx ρ r->SR E F r s' y w' ro->JF r x λe=>Q e y w')-> (Code.region id ops true).wpIn (FW ro) 0 P Q a w
theorem AaB {P:Program} {c:Code} {code:St->Option Ci} (hc:∀s x s',code s=some (.mk x s')->∀E F ρ a w ro Q,SR E F ρ s a w ro-> (∀y z w',RX s.nx s'.nx ρ y->SR E F y s' z w' ro->JF y x λe=>Q e z w')->c.wpIn (FW ro) 0 P Q a w) {E:Env} {F:Nat->Option Obj} {ro:Option Nat} {Q:Exit->Act->World->Prop} {x:AX} {s':St}: ∀(n:Nat) (s:St) (ρ:Ak) (a:Act) (w:World),rz code n s=some (.mk x s')->SR E F ρ s a w ro->(∀y z w',RX s.nx s'.nx ρ y->SR E F y s' z w' ro->JF y x λe=>Q e z w')-> Code.roundsIn (FW ro) 0 P c Q n a w
 |0,s,ρ,a,w,h,_,_=>by cases h
 |n+1,s,ρ,a,w,h,hs,S=>by
  obtain⟨r,hr,U⟩:=Ai.1 (show(ob (code s) λr=>Ci.rec (motive:=λ_=>Option Ci) (λx s'=>ef x s' (rz code n)) r)=some (.mk x s')from h);obtain⟨x1,s1⟩:=r;rw[roundsIn_succ];refine hc s x1 s1 hr E F ρ a w ro _ hs λy z w' J B=>?_;cases x1 with
  |Bh=>exact AaB hc n s1 y z w' U B λV aa Z Y W=>S V aa Z (J.trans Y) W
  |exit id=>injection U with R;injection R with L K;subst L;subst K;exact S y z w' J B
  |goto l=>injection U with R;injection R with L K;subst L;subst K;exact S y z w' J B
  |ret=>injection U with R;injection R with L K;subst L;subst K;exact S y z w' J B
  |AG v=>injection U with R;injection R with L K;subst L;subst K;exact S y z w' J B
theorem UK {H H':Tr Ah} {id:Nat} {f:LoopState->Option Code->Option (LoopState×Option Code)} (h:Mg H id f=some H'): ∃st Cq T N z y body d x r,H.get id=some (.loop st Cq T N z y body d)/\f st Cq=some (x,r)/\H'=H.set id (.loop x r T N z y body d):=by
 obtain⟨o,K,J⟩:=Ai.1 h;cases o with
 |loop st Cq T N z y body d=>obtain⟨⟨x,r⟩,L,B⟩:=Ai.1 J;injection B with B;exact⟨st,Cq,T,N,z,y,body,d,x,r,K,L,B.symm⟩
 |_=>cases J
theorem uN (w:World) (b:Nat) (o r:Obj) (h:w.heap[b]? =some r) (k:Nat):(w.putObj b o).heap[k]? =if k=b then some o else w.heap[k]?:=Mn w b o r h k
theorem OB {E:Env} {F:Nat->Option Obj} {nx:Nat} {ρ:Ak} {H:Tr Ah} {w:World} (r:Rel E F nx ρ H.get w) {id:Nat} {b:CD} (hb:ρ id=some b) {st:LoopState} {Cq:Option Code} {T:Tr AV} {N:Nat} {J:Array Tmp} {y body:Code} {d:Nat} (hl:H.get id=some (.loop st Cq T N J y body d)): ∃fn tmps B,w.heap[b.b]? =some (.loop {state:=st,pending:=Cq,fn,tmps,params:=J,assign:=y,body,defers:=B})/\TR ρ T tmps/\tmps.size=N/\(∃R,ρ d=some R/\B=R.b)/\ ∀z x,Rel E F nx ρ (H.set id (.loop z x T N J y body d)).get (w.putObj b.b (.loop {state:=z,pending:=x,fn,tmps,params:=J,assign:=y,body,defers:=B})):=by
 obtain⟨c,hc,K⟩:=r.ob _ _ b hl hb;cases K with
 |loop _ _ _ _ _ _ _ _ fn tmps B hT L hd=>refine⟨fn,tmps,B.b,hc,hT,L,⟨B,hd,rfl⟩,λz x=>?_⟩;rw[F5];exact r.put hl hb (.loop z x T N J y body d fn tmps B hT L hd) (uN w b.b _ _ hc) rfl rfl rfl
theorem wH {ρ:Ak}:∀(r:List Tmp) (args:Al) (vs:List Value) (N:Nat) (T T':Tr AV) (tmps:Array Value),AL ρ args vs->iE r args N T=some T'->TR ρ T tmps->tmps.size=N-> vs.length=r.length/\TR ρ T' ((r.zip vs).foldl (λtmps (x:Tmp×Value)=>tmps.setIfInBounds x.1 x.2) tmps)/\((r.zip vs).foldl (λtmps (x:Tmp×Value)=>tmps.setIfInBounds x.1 x.2) tmps).size=N
 | [],args,vs,N,T,T',tmps,hv,h,ht,hn=>by
  cases hv with
  |nil=>injection h with h;subst h;exact⟨rfl,ht,hn⟩
  |cons _ _ _ _ _ _=>cases h
 |p::r,args,vs,N,T,T',tmps,hv,h,ht,hn=>by
  cases hv with
  |nil=>cases h
  |cons a v l vs B z=>obtain⟨y,R⟩:=AQ.1 (show gd (Nat.blt p N) (iE r l N (T.set p a))=some T' from h);obtain⟨U,S,_⟩:=IA (dst:=some p) (a:={tmps:=tmps,defers:=[]}) ht hn B (show Fa N T (some p) a=some (T.set p a) by unfold Fa;exact AQ.2 ⟨y,rfl⟩);obtain⟨L,K,J⟩:=wH r l vs N (T.set p a) T' (tmps.setIfInBounds p v) z R U S;exact⟨by simp[L],K,J⟩
theorem AdH {P:Program} {l:Nat} {R:Ending->World->Prop} {x:AX} {a:Act} {w w':World} (h:(Instr.endRound l x.jump).run P w=.ok (.bool x.jump.isNone) w') (r:R (.returned (.bool x.jump.isNone)) w') (ρ:Ak) (hc:x.calm=true):JF ρ x λe=>roundPost P l R e a w:=by cases x<;>first|exact⟨_,w',h,r⟩|cases hc
theorem AaG {P:Program} {En:GA} (B:Pn P En.code) {id:Nat} {args:Al} {H:Tr Ah} {nx:Nat} {J:CR} (h:AaF En id args H nx=some J) {E:Env} {F:Nat->Option Obj} {ρ:Ak} {w:World} (r:Rel E F nx ρ H.get w):Kl P (.Cv id args) w ρ (LR E F nx ρ J):=by
 intro vs b Az hb;obtain⟨o,ho,h1⟩:=Ai.1 h;clear h;cases o with
 |loop aL aG T N ps ah body d=>
  obtain⟨T',az,h2⟩:=Ai.1 h1;obtain⟨⟨x,s⟩,hr,h3⟩:=Ai.1 h2;clear h1 h2;obtain⟨fn,tmps,bd,Z,ar,au,_,_⟩:=OB r hb ho;obtain⟨e1,e2,e3⟩:=wH ps.toList args vs N T T' tmps Az az ar au;have hy:=run_yield (P:=P) (args:=vs.toArray) Z (by simp[e1]);have aa:(ps.zip vs.toArray).foldl (λtmps (x:Tmp×Value)=>tmps.setIfInBounds x.1 x.2) tmps=(ps.toList.zip vs).foldl (λtmps (x:Tmp×Value)=>tmps.setIfInBounds x.1 x.2) tmps:=by rw[<-Array.foldl_toList,Array.toList_zip]
  refine⟨fn,_,ah,body,hy,roundIn_of_wpIn trivial ?_⟩;cases x with
  |Bh=>
   obtain⟨H1,aB,h4⟩:=Ai.1 (show(ob (Mg s.H id λst Cq=>match st with
      |.ready=>some (.busy,Cq)
      |_=>none) λH1=>ob (En.code body ⟨s.N,s.T,H1,s.nx,s.ro,s.D⟩) λr2=>Ci.rec (motive:=λ_=>Option CR) (λy s2=>gd y.calm <|
       ob (Mg s2.H id λ_ _=>some (cond y.jump.isNone .ready .done,y.jump)) λH2=>some (.mk (.bool y.jump.isNone) H2 s2.nx)) r2)=some J from h3)
   obtain⟨⟨y,s2⟩,aw,h5⟩:=Ai.1 h4;obtain⟨ab,aC⟩:=AQ.1 (show(gd y.calm <| ob (Mg s2.H id λ_ _=>some (cond y.jump.isNone .ready .done,y.jump)) λH2=>some (CR.mk (.bool y.jump.isNone) H2 s2.nx))=some J from h5);obtain⟨H2,aA,h6⟩:=Ai.1 aC;injection h6 with h6;subst h6;clear h3 h4 h5;obtain⟨af,p1,T1,N1,aq,an,ae,d1,ai,U,g1,g2,g3⟩:=UK aB;obtain⟨aK,p2,T2,N2,aM,aJ,aH,d2,aI,aN,k1,k2,k3⟩:=UK aA;have ak:=B ah _ .Bh s hr E F ρ {tmps:=(ps.toList.zip vs).foldl (λtmps (x:Tmp×Value)=>tmps.setIfInBounds x.1 x.2) tmps,defers:=[]} w (some b.b);rw[aa];refine ak _ ⟨r,e2,e3,.nil,.some id b hb⟩ λao a1 w1 S z=>?_;have ag:=S.le _ _ hb;obtain⟨aD,V,aE,L,_,_,_,Y⟩:=OB z.rel ag g1;have aj:af=.ready/\ai=.busy/\U=p1:=by cases af<;>first|(cases g2;done)|(injection g2 with g2;injection g2 with g4 g5;exact⟨rfl,g4.symm,g5.symm⟩)
   obtain⟨rfl,rfl,rfl⟩:=aj;refine⟨_,run_beginRound L rfl,?_⟩;have ad:=B body _ y s2 aw E F ao a1 (w1.putObj b.b (.loop {state:=.busy,pending:=U,fn:=aD,tmps:=V,params:=aq,assign:=an,body:=ae,defers:=aE})) (some b.b);refine ad _ ⟨by rw[g3];exact Y .busy U,z.tr,z.size,z.dr,z.rr⟩ λρ2 a2 w2 R av=>?_;have ay:=R.le _ _ ag;obtain⟨aO,aF,aP,K,_,_,_,W⟩:=OB av.rel ay k1;injection k2 with k2;injection k2 with k4 k5;refine AdH (run_endRound y.jump K) ⟨_,ρ2,rfl,S.trans R,?_,.bool _⟩ ρ2 ab;rw[k3,<-k4,<-k5];have:=W (cond y.jump.isNone .ready .done) y.jump;have hc:(cond y.jump.isNone LoopState.ready .done)=if y.jump.isNone=true then .ready else .done:=by cases y.jump.isNone<;>rfl
   rw[hc]at this⊢;exact this
  |_=>cases h3
 |_=>cases h1
end Go.Ev
end
section
namespace Go.Ev
theorem AbJ {c:Option Code} {x:AX} (h:Xr c=some x):c=x.jump/\x.calm=true:=by unfold Xr at h;split at h<;>first|(cases h;done)|(injection h with h;subst h;exact⟨rfl,rfl⟩)
theorem AbK {P:Program} {ro:Option Nat} {Q:Exit->Act->World->Prop} {a:Act} {w:World} {ρ:Ak} (x:AX) (hc:x.calm=true) (h:JF ρ x λe=>Q e a w):
  match x.jump with
  |none=>Q .normal a w
  |some c=>c.wpIn (FW ro) 0 P Q a w:=by
 cases x with
 |Bh=>exact h
 |exit id=>exact wpIn_exit h
 |goto l=>exact wpIn_goto h
 |ret=>exact wpIn_ret h
 |AG v=>cases hc
theorem Aaz {P:Program} {En:GA} (U:GX P En.call) {f:AV} {l:Nat} {s s':St} {x:AX} (h:Xa En f l s=some (.mk x s')) {E:Env} {F:Nat->Option Obj} {ρ:Ak} {a:Act} {w:World} {ro:Option Nat} {Q:Exit->Act->World->Prop} {g:Operand} {b:CD} (Y:SR E F ρ s a w ro) (hb:ρ l=some b) (hf:VR ρ f (a.eval g)) (hq:∀y w',RX s.nx s'.nx ρ y->SR E F y s' a w' ro->JF y x λe=>Q e a w'): ∃(d:Deferred) (aa:World) (fi:FuncId) (args:Array Value) (w2:World),(resolve a.eval (rangeCall g b.b) 0).run P w=.ok d aa/\(invoke d.target d.args).run P aa=.ok (.enter fi args) w2/\ CallsIn (FW ro) 0 P fi args w2 (rangePost (FW ro) 0 P b.b Q a):=by
 obtain⟨t,ht,h1⟩:=Ai.1 h;obtain⟨ah,ab⟩:=AQ.1 h1;obtain⟨r,hr,h2⟩:=Ai.1 ab;cases r with
 |AG _ _ _=>cases h2
 |Cf _ _ _ _=>cases h2
 |mk v H nx=>
 obtain⟨o,ho,h3⟩:=Ai.1 (show(ob (H.get l) λo=>match o with
   |.loop st Cq _ _ _ _ _ _=>ob (Xr Cq) λx=>ob (Mg H l λ_ _=>match st with
     |.busy=>none
     |_=>some (.exhausted,Cq)) λH'=>some (.mk x ⟨s.N,s.T,H',nx,s.ro,s.D⟩)
   |_=>none)=some (Ci.mk x s')from h2)
 clear h h1 ab h2;cases o with
 |loop st Cq T N ps aC body d=>
  obtain⟨x1,ai,h4⟩:=Ai.1 h3;obtain⟨H1,ay,Z⟩:=Ai.1 h4;injection Z with Z;injection Z with Z h6;subst Z;subst h6;clear h3 h4;obtain⟨L,S⟩:=AbJ ai;obtain⟨aF,p1,T1,N1,aG,aE,aD,d1,ad,z,W,g2,g3⟩:=UK ay;rw[ho]at W;injection W with W;injection W with W g4 g5 g6 g7 g8 g9 aB;subst W;subst g4;have AA:=U t s.H s.nx (.mk v H nx) hr E F ρ w Y.rel;unfold Ie at ht;have V:AL ρ [AV.Cv l] [Value.func (.yield b.b) #[] #[]]:=.cons _ _ _ _ (.Cv l b hb) .nil;have K:∀e w',Ends E F s.nx ρ v H nx e w'->rangePost (FW ro) 0 P b.b Q a e w':=by
   rintro e w' ⟨u,y,rfl,hx,af,hv⟩;have B:=hx.le;have aw:=B _ _ hb;obtain⟨fn,tmps,bd,R,_,_,_,ae⟩:=OB af aw ho;have ao:st≠.busy/\ad=.exhausted/\z=Cq:=by cases st<;>first|(cases g2;done)|(injection g2 with g2;injection g2 with aA az;exact⟨by simp,aA.symm,az.symm⟩)
   obtain⟨ag,rfl,rfl⟩:=ao;refine⟨z,_,run_endLoop R ag,?_⟩;have aj:SR E F y ⟨s.N,s.T,H1,nx,s.ro,s.D⟩ a (w'.putObj b.b (.loop {state:=.exhausted,pending:=z,fn,tmps,params:=ps,assign:=aC,body,defers:=bd})) ro:=by refine⟨?_,Y.tr.mono B,Y.size,Y.dr.mono B,Y.rr.mono B⟩;show Rel E F nx y H1.get _;rw[g3];subst g5;subst g6;subst g7;subst g8;subst g9;subst aB;exact ae .exhausted z
   have ak:=hq y _ hx aj;have:=AbK (P:=P) (ro:=ro) (Q:=Q) (a:=a) x1 S ak;rw[<-L]at this;exact this
  split at ht
  ·rename_i gi first cap
   injection ht with ht;subst ht;generalize ar:a.eval g=fv at hf;cases hf with
   |fn _ _ _ va vc ha hc=>
    obtain⟨⟨fn,c,aq,an,av⟩,J⟩:=AA;have au:=J _ (ha.append (V.append hc));refine⟨{target:=.fn (.func gi) vc.toArray,args:=va.toArray++ #[.func (.yield b.b) #[] #[]]},w,gi,(va++([Value.func (.yield b.b) #[] #[]]++vc)).toArray,w,?_,?_,?_⟩
    ·unfold resolve rangeCall;have hm:Array.map a.eval #[Operand.const (Value.func (Fn.yield b.b) #[] #[])]= #[Value.func (Fn.yield b.b) #[] #[]]:=by simp[Act.eval]
     simp only[ar,Deferred.ofValue,hm];rfl
    ·simp only[invoke,callFunc,Sem.run_bind,run_program,Result.andThen_ok,aq,an,Bool.false_eq_true,if_false,av,Option.isNone_some,Sem.run_pure];congr 2;apply Array.ext';simp
    ·have hm:=CallsIn.mono au K;cases ro with
     |none=>exact hm
     |some _=>exact hm
  ·rename_i id;injection ht with ht;subst ht;cases ah
  ·cases ht
 |_=>cases h3
theorem Ah0 {P:Program} {En:GA} (W:GX P En.call) {f:Operand} {J:Array Tmp} {r body:Code} {s s':St} {x:AX} (h:Aay En f J r body s=some (.mk x s')) {E:Env} {F:Nat->Option Obj} {ρ:Ak} {a:Act} {w:World} {ro:Option Nat} {Q:Exit->Act->World->Prop} (B:SR E F ρ s a w ro) (hq:∀K a' w',RX s.nx s'.nx ρ K->SR E F K s' a' w' ro->JF K x λe=>Q e a' w'):(Code.rangeFunc f J r body).wpIn (FW ro) 0 P Q a w:=by
 refine wpIn_rangeFunc λfn _=>?_;obtain⟨fa,aq,h1⟩:=Ai.1 h;clear h;have aj:=B.tr.xr _ _ aq;have Z:=B.rr;cases R:s.ro with
 |none=>
  rw[R]at h1 Z;cases Z;have h2:Xa En fa (s.nx+1) ⟨s.N,s.T,(s.H.set s.nx (.Cf true)).set (s.nx+1) (.loop .ready none s.T s.N J r body s.nx),s.nx+1+1,s.ro,.mark s.nx::s.D⟩=some (.mk x s'):=by rw[R];simpa only[Bv]using h1
  have aa:=B.rel.new s.nx (AH _);have A1:=B.rel.alloc (nx':=s.nx+1) aa (Nat.le_succ _) (Nat.lt_succ_self _) (cap:=0) (a:=.Cf true) (o:=.deferred (some [])) (.Cf true);obtain⟨ah,an⟩:=A1;rw[<-F5]at ah;have ai:=ah.new (s.nx+1) (AH _);have V:(ρ.put s.nx ⟨w.heap.size,0,0⟩) s.nx=some ⟨w.heap.size,0,0⟩:=Ak.EO _ _ _;let Y:Ak:=ρ.put s.nx ⟨w.heap.size,0,0⟩;let z:CD:=⟨(w.alloc (.deferred (some []))).heap.size,0,0⟩;let ρ2:Ak:=Y.put (s.nx+1) z;have L:Y.le ρ2:=Ak.JT (ρ:=Y) ai z;have A2:=ah.alloc (nx':=s.nx+1+1) ai (Nat.le_succ _) (Nat.lt_succ_self _) (cap:=0) (a:=.loop .ready none s.T s.N J r body s.nx) (o:=.loop {state:=.ready,pending:=none,fn,tmps:=a.tmps,params:=J,assign:=r,body,defers:=w.heap.size}) (.loop .ready none s.T s.N J r body s.nx fn a.tmps ⟨w.heap.size,0,0⟩ (B.tr.mono (Ak.le_trans an L)) B.size (L _ _ V));obtain⟨S,av⟩:=A2;rw[<-F5]at S;have y:ρ.le ρ2:=Ak.le_trans an L;have hb:ρ2 (s.nx+1)=some z:=Ak.EO _ _ _;have af:SR E F ρ2 ⟨s.N,s.T,(s.H.set s.nx (.Cf true)).set (s.nx+1) (.loop .ready none s.T s.N J r body s.nx),s.nx+1+1,s.ro,.mark s.nx::s.D⟩ {a with defers:=[{target:=.collected w.heap.size,args:=#[]}]++a.defers} ((w.alloc (.deferred (some []))).alloc (.loop {state:=.ready,pending:=none,fn,tmps:=a.tmps,params:=J,assign:=r,body,defers:=w.heap.size})) none:=by refine⟨S,B.tr.mono y,B.size,?_,by rw[R];exact .none⟩;exact .mark s.nx ⟨w.heap.size,0,0⟩ _ _ (L _ _ V) (B.dr.mono y)
  obtain⟨d,ae,fi,args,w2,g1,g2,g3⟩:=Aaz W h2 (g:=f) af hb (aj.mono y) (Q:=Q) λK w' U ag=>hq K _ w' (RX.trans ⟨y,λi hi=>by simp[Ak.put,ρ2,Y,Nat.ne_of_lt hi,Nat.ne_of_lt (Nat.lt_succ_of_lt hi)],by show s.nx<=s.nx+1+1;omega⟩ U) ag;refine⟨w.heap.size+1,[{target:=.collected w.heap.size,args:=#[]}],_,d,ae,fi,args,w2,run_enterLoop_outer fn a.tmps J r body,?_,λ_ _=>trivial,g2,by simp[FW,Fence.wide],?_⟩
  ·have e:z.b=w.heap.size+1:=by simp[z]
   rw[e]at g1;exact g1
  ·have e:z.b=w.heap.size+1:=by simp[z]
   rw[e]at g3;exact g3
 |some l0=>
  rw[R]at h1 Z;cases Z with
  |some _ b0 ak=>
   obtain⟨d,hd,au⟩:=Ai.1 h1;have h2:Xa En fa s.nx ⟨s.N,s.T,s.H.set s.nx (.loop .ready none s.T s.N J r body d),s.nx+1,s.ro,s.D⟩=some (.mk x s'):=by rw[R];simpa only[Bv]using au
   obtain⟨o,ho,ab⟩:=Ai.1 hd;cases o with
   |loop aA p0 T0 N0 aB az ay d0=>injection ab with ab;subst ab;obtain⟨F4,aw,aC,ad,_,_,⟨bb,ar,ao⟩,_⟩:=OB B.rel ak ho;subst ao;have aa:=B.rel.new s.nx (AH _);let z:CD:=⟨w.heap.size,0,0⟩;let ρ2:Ak:=ρ.put s.nx z;have y:ρ.le ρ2:=Ak.JT (ρ:=ρ) aa z;have A2:=B.rel.alloc (nx':=s.nx+1) aa (Nat.le_succ _) (Nat.lt_succ_self _) (cap:=0) (a:=.loop .ready none s.T s.N J r body d0) (o:=.loop {state:=.ready,pending:=none,fn,tmps:=a.tmps,params:=J,assign:=r,body,defers:=bb.b}) (.loop .ready none s.T s.N J r body d0 fn a.tmps bb (B.tr.mono y) B.size (y _ _ ar));obtain⟨S,av⟩:=A2;rw[<-F5]at S;have hb:ρ2 s.nx=some z:=Ak.EO _ _ _;have af:SR E F ρ2 ⟨s.N,s.T,s.H.set s.nx (.loop .ready none s.T s.N J r body d0),s.nx+1,s.ro,s.D⟩ {a with defers:=[]++a.defers} (w.alloc (.loop {state:=.ready,pending:=none,fn,tmps:=a.tmps,params:=J,assign:=r,body,defers:=bb.b})) (some b0.b):=⟨S,B.tr.mono y,B.size,B.dr.mono y,by rw[R];exact .some l0 b0 (y _ _ ak)⟩;obtain⟨dd,ae,fi,args,w2,g1,g2,g3⟩:=Aaz W h2 (g:=f) af hb (aj.mono y) (Q:=Q) λK w' U ag=>hq K _ w' (RX.trans ⟨y,λi hi=>by simp[Ak.put,ρ2,Nat.ne_of_lt hi],by show s.nx<=s.nx+1;omega⟩ U) ag;refine⟨w.heap.size,[],_,dd,ae,fi,args,w2,?_,g1,λ_ _=>trivial,g2,by simp[FW,Fence.wide],g3⟩;show(Instr.enterLoop fn a.tmps J r body (some b0.b)).run P w=_;unfold Instr.enterLoop;simp only[Sem.run_bind,run_getLoop ad,Result.andThen_ok,Sem.run_pure,run_newObj];rfl
   |_=>cases ab
theorem Ah1 {P:Program} {E:Env} {F:Nat->Option Obj} {nx:Nat} {ρ:Ak} {H:Tr Ah} {w:World} (r:Rel E F nx ρ H.get w) {T:Tr AV} {tmps:Array Value} (ht:TR ρ T tmps) {J:ResultVar} {v:AV} (h:ru P H T J=some v): ∃u,((match J with|.tmp t=>pure (tmps.getD t undef)|.cell a t=>do loadVar t (<-asAddr (tmps.getD a undef)):Sem Value)).run P w=.ok u w/\VR ρ v u:=by
 cases J with
 |tmp t=>obtain⟨u,hu,y⟩:=ht t v h;exact⟨u,by simp[hu],y⟩
 |cell a t=>
  obtain⟨p,L,B⟩:=Ai.1 h;obtain⟨u,hu,y⟩:=ht a p L;obtain⟨z,K,R⟩:=Aar (P:=P) r (HS.refl ρ H) y B;refine⟨z,?_,R⟩;unfold W9 at B;split at B
  ·rename_i id off;cases y with
   |ptr _ _ b hb=>
    have x:(loadVar t ⟨b.b,b.ob+off,none⟩).run P w=.ok z w:=by simpa[Instr.loadAt,Instr.sureAddr]using K
    simp[hu,asAddr,x]
  ·rename_i g off;cases y with
   |F6 _ _=>
    have x:(loadVar t ⟨g,off,none⟩).run P w=.ok z w:=by simpa[Instr.loadAt,Instr.sureAddr]using K
    simp[hu,asAddr,x]
  ·cases B
theorem AaA {P:Program} {E:Env} {F:Nat->Option Obj} {nx:Nat} {ρ:Ak} {H:Tr Ah} {w:World} (r:Rel E F nx ρ H.get w) {T:Tr AV} {tmps:Array Value} (ht:TR ρ T tmps): ∀(l:List ResultVar) (vs:Al),rv P H T l=some vs->∃x:List Value,(l.mapM λy=>(match y with|.tmp t=>pure (tmps.getD t undef)|.cell a t=>do loadVar t (<-asAddr (tmps.getD a undef)):Sem Value)).run P w=.ok x w/\AL ρ vs x
 | [],vs,h=>by injection h with h;subst h;exact⟨[],by simp,.nil⟩
 |y::l,vs,h=>by obtain⟨a,R,S⟩:=Ai.1 (show(ob (ru P H T y) λa=>ob (rv P H T l) λl=>some (a::l))=some vs from h);obtain⟨K,hl,z⟩:=Ai.1 S;injection z with z;subst z;obtain⟨u,hu,L⟩:=Ah1 r ht R;obtain⟨x,B,J⟩:=AaA r ht l K hl;refine⟨u::x,?_,.cons _ _ _ _ L J⟩;simp only[List.mapM_cons,Sem.run_bind,hu,Result.andThen_ok,B,Sem.run_pure]
theorem Uo {P:Program} {E:Env} {F:Nat->Option Obj} {nx:Nat} {ρ:Ak} {H:Tr Ah} {w:World} (r:Rel E F nx ρ H.get w) {T:Tr AV} {tmps:Array Value} (ht:TR ρ T tmps) {fn:Func} {v:AV} (h:Na P H T fn.results.toList=some v):∃u,(results fn tmps).run P w=.ok u w/\VR ρ v u:=by
 obtain⟨vs,Az,y⟩:=Ai.1 h;obtain⟨B,J,z⟩:=AaA r ht _ _ Az;have x:∀K:Array Value->Sem Value,((fn.results.mapM λV=>(match V with|.tmp t=>pure (tmps.getD t undef)|.cell a t=>do loadVar t (<-asAddr (tmps.getD a undef)):Sem Value))>>=K).run P w=(K B.toArray).run P w:=λK=>by rw[Array.mapM_eq_mapM_toList];simp only[Sem.run_bind,Sem.run_map,J,Result.andThen_ok]
 unfold results;split at y
 ·rename_i U;injection y with y;subst y;cases z with
  |cons _ u _ Z Y W=>cases W;refine⟨u,?_,Y⟩;refine Eq.trans (x λvs=>pure (if h:vs.size=1 then vs[0]else .tuple vs)) ?_;simp
 ·rename_i S;injection y with y;subst y;refine⟨.tuple B.toArray,?_,.AM _ _ z⟩;have L:B.toArray.size≠1:=by
   intro R;have:vs.length=1:=by rw[z.length];simpa using R
   match vs,this with
   | [U],_=>exact S U rfl
  refine Eq.trans (x λvs=>pure (if h:vs.size=1 then vs[0]else .tuple vs)) ?_;rw[dif_neg L];rfl
inductive MR (ρ:Ak):MD->FrameMode->Prop where
 |ret:MR ρ .ret .returning
 |AG (v:AV) (u:Value) (h:VR ρ v u):MR ρ (.AG v) (.panicking (fresh u))
 |Gd (v:AV) (u:Value) (h:VR ρ v u):MR ρ (.Gd v) (.panicking [{v:=u,recovered:=true}])
theorem MR.mono {ρ r:Ak} (x:ρ.le r) {m:MD} {u:FrameMode} (h:MR ρ m u):MR r m u:=by
 cases h with
 |ret=>exact .ret
 |AG v u h=>exact .AG v u (h.mono x)
 |Gd v u h=>exact .Gd v u (h.mono x)
theorem MR.settle {ρ:Ak} {m:MD} {u:FrameMode} (h:MR ρ m u):MR ρ m.settle (Go.settle u):=by
 cases h with
 |ret=>exact .ret
 |AG v u h=>exact .AG v u h
 |Gd v u h=>exact .ret
theorem MR.out {ρ:Ak} {m:MD} {u:FrameMode} (h:MR ρ m u):u≠.run:=by cases h<;>simp
def Q9 (P:Program) (Ht:Code->St->MD->Option XD):Prop:=∀c s m x s' B,Ht c s m=some (.mk x s' B)->∀E F ρ a w r cs Q,SR E F ρ s a w none->MR ρ m r.mode-> (∀y J w' z,RX s.nx s'.nx ρ y->SR E F y s' J w' none->MR y B z->JF y x λe=>Q e J ({r with mode:=z}::cs) w')->c.wpSIn (FW none) 0 P Q a (r::cs) w
theorem Afz {F:Fence} {n:Nat} {P:Program} {Q:Exit->Act->List Frame->World->Prop} {a:Act} {cs:List Frame} {w:World} {id:Nat} {c:Code} (h:c.wpSIn F n P (λe a' cs' w'=>Exit.inBlock id (λe a' w'=>Q e a' cs' w') e a' w') a cs w):(Code.block id c).wpSIn F n P Q a cs w:=by
 intro b k V aa hb Z;have L:(lone (b.atR a (.code (.block id c)::k)) cs w).fenced P F:=fenced_calm hb Z rfl;obtain⟨e,z,r,y,hl,K,x⟩:=h b (.inBlock id::k) V aa hb Z;have ab:F.room (r.length+1+n):=hl▸Z;cases e with
 |normal=>exact⟨.normal,z,r,y,hl,K,.head L stepR_block (StepsIn.trans x (.one (fenced_calm hb ab rfl) stepR_inBlock))⟩
 |exit B=>
  by_cases R:B=id
  ·simp only[Exit.inBlock,R,if_true]at K;exact⟨.normal,z,r,y,hl,K,.head L stepR_block (x.1 k (by simp[exitTo,R]))⟩
  ·simp only[Exit.inBlock,R,if_false]at K;have this:(id==B)=false:=by simp;exactλh=>R h.symm
   have W:exitTo B (.inBlock id::k)=exitTo B k:=by simp[exitTo,this]
   exact⟨.exit B,z,r,y,hl,K,λY S=>.head L stepR_block (x.1 Y (by rw[W];exact S)),λU S=>let ⟨J,h1,h2⟩:=x.2 U (by rw[W];exact S);⟨J,h1,.head L stepR_block h2⟩⟩
 |goto l=>
  have W:gotoIn l (.inBlock id::k)=gotoIn l k:=by simp[gotoIn]
  exact⟨_,z,r,y,hl,K,λY S=>.head L stepR_block (x.1 Y (by rw[W];exact S)),λU S=>let ⟨J,h1,h2⟩:=x.2 U (by rw[W];exact S);⟨J,h1,.head L stepR_block h2⟩⟩
 |ret=>exact⟨_,z,r,y,hl,K,.of_steps (.one L stepR_block) x⟩
 |panic ch=>exact⟨_,z,r,y,hl,K,.of_steps (.one L stepR_block) x⟩
 |outgrown=>exact⟨_,z,r,y,hl,K,.of_steps (.one L stepR_block) x⟩
theorem Aje {m:MD} {r:Option Ci} {x:AX} {s:St} {z:MD} (h:XA m r=some (.mk x s z)):z=m/\r=some (.mk x s):=by obtain⟨⟨L,R⟩,B,y⟩:=Ai.1 h;injection y with y;injection y with y K J;subst y;subst K;subst J;exact⟨rfl,B⟩
theorem Ajg {P:Program} {code:Code->St->Option Ci} (z:Pn P code) {c:Code} {s s':St} {x:AX} (h:code c s=some (.mk x s')) {E:Env} {F:Nat->Option Obj} {ρ:Ak} {a:Act} {w:World} {r:Frame} {cs:List Frame} {m:MD} {Q:Exit->Act->List Frame->World->Prop} (R:SR E F ρ s a w none) (U:MR ρ m r.mode) (S:∀y J w' L,RX s.nx s'.nx ρ y->SR E F y s' J w' none->MR y m L->JF y x λe=>Q e J ({r with mode:=L}::cs) w'):c.wpSIn (FW none) 0 P Q a (r::cs) w:=wpSIn_of_wpIn rfl (z c s x s' h E F ρ a w none _ R λy J w' B K=>S y J w' r.mode B K (U.mono B.le))
theorem AlK {l:List Oper} {dst:Option Tmp} (h:O9 l=some dst):∃o args argTypes,l=[o]/\o.guard=none/\o.op=.call {callee:=.builtin .recover,args,argTypes}/\o.dst=dst:=by
 unfold O9 at h;split at h
 ·rename_i o;split at h
  ·rename_i x;split at h
   ·rename_i c r;obtain⟨callee,args,argTypes⟩:=c;simp only at h;split at h
    ·injection h with h;exact⟨o,args,argTypes,rfl,x,r,h⟩
    ·cases h
   ·cases h
  ·cases h
 ·cases h
theorem AdC {P:Program} {ops:Array Oper} {dst:Option Tmp} (z:O9 ops.toList=some dst) {id:Nat} {Q:Exit->Act->List Frame->World->Prop} {a:Act} {cs:List Frame} {w:World} (h:match recoverD cs with
   |some (v,cs')=>Q .normal (a.put dst v) cs' w
   |none=>Q .normal (a.put dst .nilIface) cs w):(Code.region id ops false).wpSIn (FW none) 0 P Q a cs w:=by
 obtain⟨o,args,argTypes,hl,B,y,hd⟩:=AlK z;obtain rfl:ops= #[o]:=Array.ext' (by rw[hl]);subst hd;refine wpSIn_region ?_;show wpOpsSIn (FW none) 0 P #[o] Q [0] a cs w;have x:(execOp a.eval o).run P w=.ok .recover w:=by unfold execOp;rw[y];simp only[resolve,Sem.run_bind,Sem.run_pure,Result.andThen_ok,invoke,builtin]
 have hw:Region.wanted o (yielded #[o] a.tmps)=true:=by unfold Region.wanted;rw[B]
 simp only[wpOpsSIn,List.getElem?_toArray,List.getElem?_cons_zero,hw,if_true,x];refine⟨λ_ _=>trivial,?_⟩;generalize recoverD cs=r at h⊢;cases r with
 |none=>exact h
 |some p=>exact h
theorem zd {P:Program} {rounds:Nat} {En:GA} (ad:Pn P (codeF P rounds En)) (hd:Q9 P En.Ht):Q9 P (pA P rounds En):=by
 intro c s m x s' V h E F ρ a w y cs Q W hm hq;have z:XA m (codeF P rounds En c s)=some (.mk x s' V)->c.wpSIn (FW none) 0 P Q a (y::cs) w:=λh=>by obtain⟨rfl,hr⟩:=Aje h;exact Ajg ad hr W hm hq
 cases c with
 |skip=>exact z h
 |region id ops ai=>
  cases ai with
  |true=>exact z h
  |false=>
   have h':Option.rec (motive:=λ_=>Option XD) (XA m (codeF P rounds En (.region id ops false) s)) (λdst=>AdB s dst m) (O9 ops.toList)=some (.mk x s' V):=h;cases hr:O9 ops.toList with
   |none=>rw[hr]at h';exact z h'
   |some dst=>
    rw[hr]at h';refine AdC hr ?_;cases m with
    |ret=>
     obtain⟨T,hT,B⟩:=Ai.1 h';injection B with B;injection B with B J K;subst B;subst J;subst K;generalize hu:y.mode=u at hm;cases hm;obtain⟨e1,e2,e3⟩:=IA W.tr W.size (.DU (ρ:=ρ)) hT;have hc:{y with mode:=.returning}=y:=by rw[<-hu]
     have:=hq ρ (a.put dst .nilIface) w .returning (RX.refl _ ρ) ⟨W.rel,e1,e2,by rw[e3];exact W.dr,W.rr⟩ .ret;simp only[recoverD,hu];rw[hc]at this;exact this
    |AG v=>obtain⟨T,hT,B⟩:=Ai.1 h';injection B with B;injection B with B J K;subst B;subst J;subst K;generalize hu:y.mode=u at hm;cases hm;rename_i u hv;obtain⟨e1,e2,e3⟩:=IA W.tr W.size hv hT;have:=hq ρ (a.put dst u) w (.panicking [{v:=u,recovered:=true}]) (RX.refl _ ρ) ⟨W.rel,e1,e2,by rw[e3];exact W.dr,W.rr⟩ (.Gd v u hv);simp only[recoverD,hu,fresh];exact this
    |Gd v=>
     obtain⟨T,hT,B⟩:=Ai.1 h';injection B with B;injection B with B J K;subst B;subst J;subst K;generalize hu:y.mode=u at hm;cases hm;rename_i u hv;obtain⟨e1,e2,e3⟩:=IA W.tr W.size (.DU (ρ:=ρ)) hT;have hc:{y with mode:=.panicking [{v:=u,recovered:=true}]}=y:=by rw[<-hu]
     have:=hq ρ (a.put dst .nilIface) w (.panicking [{v:=u,recovered:=true}]) (RX.refl _ ρ) ⟨W.rel,e1,e2,by rw[e3];exact W.dr,W.rr⟩ (.Gd v u hv);simp only[recoverD,hu];rw[hc]at this;exact this
 |seq p q=>
  obtain⟨⟨x1,s1,m1⟩,hr,B⟩:=Ai.1 (show(ob (En.Ht p s m) λr=>XD.rec (motive:=λ_=>Option XD) (λx s' V=>match x with
   |.Bh=>En.Ht q s' V
   |.exit id=>some (.mk (.exit id) s' V)
   |.goto l=>some (.mk (.goto l) s' V)
   |.ret=>some (.mk .ret s' V)
   |.AG v=>some (.mk (.AG v) s' V)) r)=some (XD.mk x s' V)from h)
  refine wpSIn_seq (hd p s m x1 s1 m1 hr E F ρ a w y cs _ W hm λL a' w' u' U R S=>?_);cases x1 with
  |Bh=>exact hd q s1 m1 x s' V B E F L a' w' {y with mode:=u'} cs Q R S λae ao aj ak ah af ag=>hq ae ao aj ak (U.trans ah) af ag
  |exit id=>injection B with J;injection J with K Z Y;subst K;subst Z;subst Y;exact hq L a' w' u' U R S
  |goto l=>injection B with J;injection J with K Z Y;subst K;subst Z;subst Y;exact hq L a' w' u' U R S
  |ret=>injection B with J;injection J with K Z Y;subst K;subst Z;subst Y;exact hq L a' w' u' U R S
  |AG v=>injection B with J;injection J with K Z Y;subst K;subst Z;subst Y;exact hq L a' w' u' U R S
 |cond c p q=>
  obtain⟨t,ht,B⟩:=Ai.1 (show(ob (cy s.T c) λt=>cond t (En.Ht p s m) (En.Ht q s m))=some (XD.mk x s' V)from h);obtain⟨v,hv,J⟩:=Ai.1 ht;have hr:=W.tr.xr _ _ hv;split at J
  ·rename_i b;injection J with J;subst J;generalize an:a.eval c=cv at hr;cases hr;refine wpSIn_cond an ?_;cases b with
   |true=>exact hd p s m x s' V B E F ρ a w y cs Q W hm hq
   |false=>exact hd q s m x s' V B E F ρ a w y cs Q W hm hq
  ·cases J
 |block id p=>
  obtain⟨⟨x1,s1,m1⟩,hr,B⟩:=Ai.1 (show(ob (En.Ht p s m) λr=>XD.rec (motive:=λ_=>Option XD) (λx s' V=>match x with
   |.exit aa=>cond (Nat.beq aa id) (some (.mk .Bh s' V)) (some (.mk (.exit aa) s' V))
   |.Bh=>some (.mk .Bh s' V)
   |.goto l=>some (.mk (.goto l) s' V)
   |.ret=>some (.mk .ret s' V)
   |.AG v=>some (.mk (.AG v) s' V)) r)=some (XD.mk x s' V)from h)
  refine Afz (hd p s m x1 s1 m1 hr E F ρ a w y cs _ W hm λL a' w' u' U R S=>?_);cases x1 with
  |Bh=>injection B with J;injection J with K Z Y;subst K;subst Z;subst Y;exact hq L a' w' u' U R S
  |exit aa=>
   show if aa=id then Q .normal a' _ w' else Q (.exit aa) a' _ w'
   have ab:cond (Nat.beq aa id) (some (XD.mk .Bh s1 m1)) (some (.mk (.exit aa) s1 m1))=some (.mk x s' V):=B;cases hb:Nat.beq aa id with
   |true=>rw[hb,cond_true]at ab;rw[A0]at hb;injection ab with J;injection J with K Z Y;subst K;subst Z;subst Y;rw[As hb];exact hq L a' w' u' U R S
   |false=>rw[hb,cond_false]at ab;injection ab with J;injection J with K Z Y;subst K;subst Z;subst Y;rw[An (λe=>by rw[<-A0,hb]at e;cases e)];exact hq L a' w' u' U R S
  |goto l=>injection B with J;injection J with K Z Y;subst K;subst Z;subst Y;exact hq L a' w' u' U R S
  |ret=>injection B with J;injection J with K Z Y;subst K;subst Z;subst Y;exact hq L a' w' u' U R S
  |AG v=>injection B with J;injection J with K Z Y;subst K;subst Z;subst Y;exact hq L a' w' u' U R S
 |loop p=>exact z h
 |rangeFunc f ps aq body=>exact z h
 |exit id=>exact z h
 |label l=>exact z h
 |goto l=>exact z h
 |ret=>exact z h
 |scope _=>exact z h
 |refuse _=>exact z h
theorem iD {ρ:Ak} {args:Al} {vs:List Value} (h:AL ρ args vs) (m:Nat):TR ρ (setArgs args .leaf 0) (vs.toArray++Array.replicate m undef):=by
 intro t a ht;have key:∀(l:Al) (c:Tr AV) (k j:Nat),(Q8 l c k).get j=if k<=j/\j<k+l.length then l[j-k]? else c.get j:=by
  intro l
  induction l with
  |nil=>intro c k j;rw[An (by simp)];rfl
  |cons x l J=>
   intro c k j;show(fN (k+1) λB=>Q8 l (c.set k x) B).get j=_;rw[Bv,J];simp only[Dn];by_cases z:k+1<=j/\j<k+1+l.length
   ·rw[As z,As (by omega),show j-k=(j-(k+1))+1 by omega];simp
   ·rw[An z];by_cases y:j=k
    ·subst y;rw[As (by omega),Of,Tr.PS];rfl
    ·rw[An (by omega),Tr.Uv _ (λe=>y e.symm)]
 have r:(Q8 args .leaf 0).get t=some a:=ht;rw[key]at r;split at r
 ·rename_i L;obtain⟨v,hv,K⟩:=h.get _ a r;refine⟨v,?_,K⟩;have hl:=h.length;rw[Array.getElem?_append,As (by simp;omega)];simpa using hv
 ·rw[Tr.Cy]at r;cases r
theorem AhG {P:Program} {En:GA} (hd:Q9 P En.Ht) {g:FuncId} {args:Al} {H H':Tr Ah} {nx nx':Nat} {m m':MD} (h:rX P En g args H nx m=some (.mk m' H' nx')) {E:Env} {F:Nat->Option Obj} {ρ:Ak} {w:World} (r:Rel E F nx ρ H.get w) {u:FrameMode} (hm:MR ρ m u):
  (∃ fn c, P.funcs[g]? = some fn ∧ (fn.name == "runtime.NumGoroutine") = false ∧ fn.body = some c) ∧ ∀ vs, AL ρ args vs →
   CallsDIn (FW none) 0 P g vs.toArray u w λe u' w'=>∃v ρ',e=.returned v/\RX nx nx' ρ ρ'/\Rel E F nx' ρ' H'.get w'/\MR ρ' m' (Go.settle u'):=by
 obtain⟨fn,hfn,h1⟩:=Ai.1 h;obtain⟨hnm,h2⟩:=AQ.1 h1;obtain⟨c,hc,h3⟩:=Ai.1 h2;simp only[Bv]at h3;obtain⟨⟨x,s,m1⟩,hr,h4⟩:=Ai.1 h3;clear h h1 h2 h3;refine⟨⟨fn,c,hfn,by simpa using hnm,hc⟩,λvs Az=>?_⟩;refine callsDIn_of_wpSIn hfn hc trivial λc₀ cs hc₀=>?_;have hlen:=Az.length;subst hc₀;refine hd c _ m x s m1 hr E F ρ {tmps:=vs.toArray++Array.replicate (fn.ntmps-vs.toArray.size) undef,defers:=[]} w c₀ cs _ ⟨r,iD Az _,by simp[hlen],.nil,.none⟩ hm λρ' a' w' u' hle hs' hm'=>?_;have h5:(x=.Bh\/x=.ret)/\(gd s.D.isEmpty (ob (Na P s.H s.T fn.results.toList) λ_=>some (LV.mk m1.settle s.H s.nx)))=some (LV.mk m' H' nx'):=by
  cases x with
  |Bh=>exact⟨.inl rfl,h4⟩
  |ret=>exact⟨.inr rfl,h4⟩
  |exit _=>cases h4
  |goto _=>cases h4
  |AG _=>cases h4
 obtain⟨hx,h6⟩:=h5;obtain⟨hD,h7⟩:=AQ.1 h6;obtain⟨v1,hv1,h8⟩:=Ai.1 h7;injection h8 with h8;injection h8 with h8 h9 h10;subst h8;subst h9;subst h10;obtain⟨uv,hu,_⟩:=Uo (P:=P) hs'.rel hs'.tr hv1;have hdr:=hs'.dr;have hD':s.D=[]:=by simpa using hD
 rw[hD']at hdr;have hdf:a'.defers=[]:=by generalize a'.defers=ds at hdr;cases hdr;rfl
 have fin:a'.defers=[]/\∃u'',({c₀ with mode:=u'}::cs)={c₀ with mode:=u''}::cs/\∃v,(results fn a'.tmps).run P w'=.ok v w'/\ ∃v' ρ',Ending.returned v=.returned v'/\RX nx s.nx ρ ρ'/\Rel E F s.nx ρ' s.H.get w'/\MR ρ' m1.settle (Go.settle u''):=⟨hdf,u',rfl,uv,hu,uv,ρ',rfl,hle,hs'.rel,hm'.settle⟩;rcases hx with hx|hx
 ·rw[hx];exact fin
 ·rw[hx];exact fin
theorem rb {P:Program} {U:GA} (hd:Q9 P U.Ht) {E:Env} {F:Nat->Option Obj} {fn:Func} {tmps:Array Value} {R:Ending->World->Prop} {m':MD} {H':Tr Ah} {nx':Nat}: ∀(D:List Od) (L:List Deferred) (m:MD) (H:Tr Ah) (nx:Nat) (ρ:Ak) (u:FrameMode) (w:World),DR ρ D L->MR ρ m u->W8 P U D m H nx=some (.mk m' H' nx')->Rel E F nx ρ H.get w-> (∀x Z w',RX nx nx' ρ x->Rel E F nx' x H'.get w'->MR x m' Z->LeavesIn (FW none) 0 P fn tmps R [] Z w')->LeavesInM (FW none) 0 P fn tmps R L u w
 |_,_,m,H,nx,ρ,u,w,.nil,hm,h,r,S=>by injection h with h;injection h with h z h2;subst h;subst z;subst h2;exact S ρ u w (RX.refl _ ρ) r hm
 |_,_,m,H,nx,ρ,u,w,.mark id b l L hb hs,hm,h,r,S=>by
  obtain⟨o,ho,z⟩:=Ai.1 (show(ob (H.get id) λo=>match o with
    |.Cf true=>W8 P U l m (H.set id (.Cf false)) nx
    |_=>none)=some (.mk m' H' nx')from h)
  cases o with
  |Cf op=>
   cases op with
   |false=>cases z
   |true=>obtain⟨c,hc,af⟩:=r.ob _ _ b ho hb;cases af;refine⟨hm.out,.inl ⟨b.b,_,rfl,run_takeDeferred hc,?_⟩⟩;refine rb hd l L m (H.set id (.Cf false)) nx ρ u _ hs hm z ?_ S;rw[F5];exact r.put ho hb (.Cf false) (uN w b.b _ _ hc) rfl rfl rfl
  |_=>cases z
 |_,_,m,H,nx,ρ,u,w,.call g args va vc l L hv hs,hm,h,r,S=>by
  obtain⟨⟨m1,H1,ad⟩,he,z⟩:=Ai.1 (show(ob (rX P U g args H nx m) λr=>LV.rec (motive:=λ_=>Option LV) (λm H nx=>W8 P U l m H nx) r)=some (.mk m' H' nx')from h);obtain⟨⟨ak,c1,ai,ag,aj⟩,B⟩:=AhG hd he r hm;refine⟨hm.out,.inr ⟨by simp[FW,Fence.wide],.func g,vc.toArray,g,(va++vc).toArray,rfl,?_,λ_ _=>trivial,?_⟩⟩
  ·simp only[invoke,callFunc,Sem.run_bind,run_program,Result.andThen_ok,ai,ag,Bool.false_eq_true,if_false,aj,Option.isNone_some,Sem.run_pure];congr 2;apply Array.ext';simp
  ·obtain⟨hF,B⟩:=B _ hv;refine⟨hF,λc cs hc J=>?_⟩;obtain⟨e,Z,w',fr,⟨v,x,rfl,hx,W,ah⟩,y⟩:=B c cs hc J;exact⟨_,Z,w',fr,rb hd l L m1 H1 ad x _ w' (hs.mono hx.le) ah z W λV ab aa ae K Y=>S V ab aa (hx.trans ae) K Y,y⟩
theorem Aal {P:Program} {En:GA} (R:Pn P En.code) (hd:Q9 P En.Ht) {f:FuncId} {args:Al} {H:Tr Ah} {nx:Nat} {B:CR} (h:Aak P En f args H nx=some B) {E:Env} {F:Nat->Option Obj} {ρ:Ak} {w:World} (r:Rel E F nx ρ H.get w):Kl P (.fn f args) w ρ (LR E F nx ρ B):=by
 obtain⟨fn,W,h1⟩:=Ai.1 h;obtain⟨ad,h2⟩:=AQ.1 h1;obtain⟨c,hc,h3⟩:=Ai.1 h2;simp only[Bv]at h3;obtain⟨⟨x,s⟩,hr,h4⟩:=Ai.1 h3;clear h h1 h2 h3;refine⟨⟨fn,c,W,by simpa using ad,hc⟩,λvs Az=>?_⟩;refine callsIn_of_wp_marks W hc trivial ?_;have Y:=Az.length;refine R c _ x s hr E F ρ {tmps:=vs.toArray++Array.replicate (fn.ntmps-vs.toArray.size) undef,defers:=[]} w none _ ⟨r,iD Az _,by simp[Y],.nil,.none⟩ λU a' w' V L=>?_;obtain⟨m,hm,h5⟩:=Ai.1 (show(ob (match x with
    |.Bh=>some MD.ret
    |.ret=>some MD.ret
    |.AG v=>some (MD.AG v)
    |_=>none) λm=>ob (W8 P En s.D m s.H s.nx) λr=>LV.rec (motive:=λ_=>Option CR) (λm H' nx'=>match m with
     |.ret=>ob (Na P H' s.T fn.results.toList) λv=>some (.mk v H' nx')
     |.AG v=>some (.AG v H' nx')
     |.Gd _=>none) r)=some B from h4)
 obtain⟨⟨m1,H1,ai⟩,af,S⟩:=Ai.1 h5;have hl:∀u,MR U m u->LeavesInM (FW none) 0 P fn a'.tmps (LR E F nx ρ B) a'.defers u w':=λu ae=>
  rb hd s.D a'.defers m s.H s.nx U u w' L.dr ae af L.rel λJ ah ag z y K=>by
   cases m1 with
   |ret=>obtain⟨v1,aa,h8⟩:=Ai.1 S;injection h8 with h8;subst h8;cases K;obtain⟨Z,hu,ab⟩:=Uo (P:=P) y (L.tr.mono z.le) aa;exact⟨Z,hu,Z,J,rfl,V.trans z,y,ab⟩
   |AG v=>injection S with S;subst S;cases K;rename_i Z hu;exact⟨Z,J,rfl,V.trans z,y,hu⟩
   |Gd v=>cases S
 cases x with
 |Bh=>injection hm with hm;subst hm;exact hl .returning .ret
 |ret=>injection hm with hm;subst hm;exact hl .returning .ret
 |exit _=>cases hm
 |goto _=>cases hm
 |AG v=>injection hm with hm;subst hm;exactλu hu=>hl _ (.AG v u hu)
theorem VP {P:Program} {b:Frame} {a:Act} {k:List Item} {cs:List Frame} {w:World} {c:Code}:step P (lone (b.atR a (.code (.scope c)::k)) cs w)=.next (lone (b.atR a (.code c::.inScope c::k)) cs w):=
 step_lone_go (by simp[stepG,stepG.exec,Frame.atR])
theorem ApW {P:Program} {b:Frame} {a:Act} {k:List Item} {cs:List Frame} {w:World} {c:Code}:step P (lone (b.atR a (.inScope c::k)) cs w)=.next (lone (b.atR a k) cs w):=
 step_lone_go (by simp[stepG,stepG.exec,Frame.atR])
theorem Afx {ro:Option Nat} {P:Program} {Q:Exit->Act->World->Prop} {a:Act} {w:World} {c:Code} (h:c.wpIn (FW ro) 0 P (λe a' w'=>(∀l,e≠.goto l)/\Q e a' w') a w):(Code.scope c).wpIn (FW ro) 0 P Q a w:=by
 intro b k cs R hb K;have z:(lone (b.atR a (.code (.scope c)::k)) cs w).fenced P (FW ro):=fenced_calm hb K rfl;obtain⟨e,y,x,⟨W,B⟩,r⟩:=h b (.inScope c::k) cs R hb K;cases e with
 |normal=>exact⟨.normal,y,x,B,.head z VP (StepsIn.trans r (.one (fenced_calm hb K rfl) ApW))⟩
 |exit id=>
  have U:exitTo id (.inScope c::k)=exitTo id k:=by simp[exitTo]
  exact⟨.exit id,y,x,B,λV L=>.head z VP (r.1 V (by rw[U];exact L)),λS L=>let ⟨J,Z,Y⟩:=r.2 S (by rw[U];exact L);⟨J,Z,.head z VP Y⟩⟩
 |goto l=>exact absurd rfl (W l)
 |ret=>exact⟨_,y,x,B,.of_steps (.one z VP) r⟩
 |panic ch=>exact⟨_,y,x,B,.of_steps (.one z VP) r⟩
 |outgrown=>exact⟨_,y,x,B,.of_steps (.one z VP) r⟩
theorem yn {P:Program} {rounds:Nat} {Z:GA} (hD:jB P) (K:Pn P Z.code) (Y:GX P Z.call):Pn P (codeF P rounds Z):=by
 intro c s x s' h E F ρ a w ro Q W U;cases c with
 |skip=>injection h with h;injection h with L y;subst L;subst y;exact wpIn_skip (U ρ a w (RX.refl _ ρ) W)
 |region id ops ag=>
  cases ag with
  |false=>have ai:Ot P Z.call ops ops.toList s=some (.mk x s'):=h;refine Adi ?_;have:=Xb Y (ops:=ops) (E:=E) (F:=F) (ro:=ro) (Q:=Q) ops.toList 0 s x s' ρ a w (λj o hj=>by simpa using hj) ai W U;rw[List.range_eq_range'];simpa using this
  |true=>exact hD Z.call ops s x s' Y h id E F ρ a w ro Q W U
 |seq p q=>
  obtain⟨⟨x1,s1⟩,hr,L⟩:=Ai.1 (show(ob (Z.code p s) λr=>Ci.rec (motive:=λ_=>Option Ci) (λx s'=>ef x s' (Z.code q)) r)=some (Ci.mk x s')from h);refine wpIn_seq (K p s x1 s1 hr E F ρ a w ro _ W λz V w' J B=>?_);cases x1 with
  |Bh=>exact K q s1 x s' L E F z V w' ro _ B λad ak ah af ae=>U ad ak ah (J.trans af) ae
  |exit id=>injection L with y;injection y with S R;subst S;subst R;exact U z V w' J B
  |goto l=>injection L with y;injection y with S R;subst S;subst R;exact U z V w' J B
  |ret=>injection L with y;injection y with S R;subst S;subst R;exact U z V w' J B
  |AG v=>injection L with y;injection y with S R;subst S;subst R;exact U z V w' J B
 |cond c p q=>
  obtain⟨t,ht,L⟩:=Ai.1 (show(ob (cy s.T c) λt=>cond t (Z.code p s) (Z.code q s))=some (Ci.mk x s')from h);obtain⟨v,hv,y⟩:=Ai.1 ht;have hr:=W.tr.xr _ _ hv;split at y
  ·rename_i b;injection y with y;subst y;generalize aj:a.eval c=cv at hr;cases hr;refine wpIn_cond aj ?_;cases b with
   |true=>exact K p s x s' L E F ρ a w ro Q W U
   |false=>exact K q s x s' L E F ρ a w ro Q W U
  ·cases y
 |block id p=>
  obtain⟨⟨x1,s1⟩,hr,L⟩:=Ai.1 (show(ob (Z.code p s) λr=>Ci.rec (motive:=λ_=>Option Ci) (λx s'=>Ac6 id x s') r)=some (Ci.mk x s')from h);refine wpIn_block (K p s x1 s1 hr E F ρ a w ro _ W λz V w' J B=>?_);cases x1 with
  |Bh=>injection L with y;injection y with S R;subst S;subst R;exact U z V w' J B
  |exit aa=>
   show if aa=id then Q .normal V w' else Q (.exit aa) V w'
   have ab:cond (Nat.beq aa id) (some (Ci.mk .Bh s1)) (some (.mk (.exit aa) s1))=some (.mk x s'):=L;cases hb:Nat.beq aa id with
   |true=>rw[hb,cond_true]at ab;rw[A0]at hb;injection ab with y;injection y with S R;subst S;subst R;rw[As hb];exact U z V w' J B
   |false=>rw[hb,cond_false]at ab;injection ab with y;injection y with S R;subst S;subst R;rw[An (λe=>by rw[<-A0,hb]at e;cases e)];exact U z V w' J B
  |goto l=>injection L with y;injection y with S R;subst S;subst R;exact U z V w' J B
  |ret=>injection L with y;injection y with S R;subst S;subst R;exact U z V w' J B
  |AG v=>injection L with y;injection y with S R;subst S;subst R;exact U z V w' J B
 |loop p=>exact wpIn_loop_rounds rounds (AaB (λs x s' hr=>K p s x s' hr) rounds s ρ a w h W U)
 |rangeFunc f ps an body=>exact Ah0 Y h W U
 |exit id=>injection h with h;injection h with L y;subst L;subst y;exact wpIn_exit (U ρ a w (RX.refl _ ρ) W)
 |label l=>injection h with h;injection h with L y;subst L;subst y;exact wpIn_label (U ρ a w (RX.refl _ ρ) W)
 |goto l=>injection h with h;injection h with L y;subst L;subst y;exact wpIn_goto (U ρ a w (RX.refl _ ρ) W)
 |ret=>injection h with h;injection h with L y;subst L;subst y;exact wpIn_ret (U ρ a w (RX.refl _ ρ) W)
 |scope p=>
  obtain⟨⟨x1,s1⟩,hr,L⟩:=Ai.1 (show(ob (Z.code p s) λr=>Ci.rec (motive:=λ_=>Option Ci) (λx s'=>match x with
   |.goto _=>none
   |x=>some (.mk x s')) r)=some (Ci.mk x s')from h)
  refine Afx (K p s x1 s1 hr E F ρ a w ro _ W λz V w' J B=>?_);cases x1 with
  |Bh=>injection L with y;injection y with S R;subst S;subst R;exact⟨λ_ e=>(by cases e),U z V w' J B⟩
  |exit id=>injection L with y;injection y with S R;subst S;subst R;exact⟨λ_ e=>(by cases e),U z V w' J B⟩
  |goto l=>cases L
  |ret=>injection L with y;injection y with S R;subst S;subst R;exact⟨λ_ e=>(by cases e),U z V w' J B⟩
  |AG v=>injection L with y;injection y with S R;subst S;subst R;exactλu hu=>⟨λ_ e=>(by cases e),U z V w' J B u hu⟩
 |refuse _=>cases h
theorem AaI {P:Program} (hD:jB P) (rounds:Nat):∀n,Pn P (RE P rounds n).code/\GX P (RE P rounds n).call/\Q9 P (RE P rounds n).Ht
 |0=>⟨(λ_ _ _ _ h=>by cases h),(λ_ _ _ _ h=>by cases h),(λ_ _ _ _ _ _ h=>by cases h)⟩
 |n+1=>by
  obtain⟨x,B,z⟩:=AaI hD rounds n;have y:=yn (rounds:=rounds) hD x B;refine⟨y,λt H nx J h E F ρ w r=>?_,zd y z⟩;cases t with
  |fn f args=>exact Aal x z h r
  |Cv id args=>exact AaG x h r
end Go.Ev
end
end
