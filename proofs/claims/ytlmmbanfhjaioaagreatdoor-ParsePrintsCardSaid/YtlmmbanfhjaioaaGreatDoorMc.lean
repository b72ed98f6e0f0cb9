/- Laid by program out of its parts: SxE, SxH, EvJ, EvK, EvL, EvM. -/
import Derived.Test.YtlmmbanfhjaioaaGreatDoorMb
import Derived.LoopN
import Derived.LoopNIn
import Derived.RangeFuncLeaves
import Derived.RangeFuncRecord
import Derived.OrdersIn
import Derived.Conc.LoneSelect
import Derived.RecoverIn
noncomputable section
set_option linter.unusedVariables false
set_option linter.unusedSimpArgs false
section
namespace Go.Ev
def Oo (size:Nat) (l:Aj):Bool:=cond (Nat.beq l.length size) (l.all AV.one) false
def Ed (size k:Nat) (g:Nat->Aj):Bool:=decide (∀i,i<k->Oo size (g i)=true)
theorem OX {size k:Nat} {g:Nat->Aj} (h:∀i,i<k->Oo size (g i)=true):Ed size k g=true:=by unfold Ed;simpa using h
def U4 (ρ:Ai) (size k:Nat) (g:Nat->Aj) (vs:List Value):Prop:=vs.length=k*size/\∀i,i<k->∀j a,j<size->(g i)[j]? =some a->∃v,vs[i*size+j]? =some v/\VR ρ a v
theorem yX {p k size:Nat} (q:0<size) (y:p<k*size):p/size<k/\p %size<size/\p/size*size+p %size=p:=by refine⟨Nat.div_lt_of_lt_mul (by rwa[Nat.mul_comm]),Nat.mod_lt _ q,?_⟩;rw[Nat.mul_comm];exact Nat.div_add_mod p size
theorem AgP {ρ:Ai} {size:Nat} {l:Aj} {vs:List Value} (h:Oo size l=true) (hv:AG ρ l vs):vs.length=size/\∀v∈vs,v.oneCell'=true:=by unfold Oo at h;obtain⟨q,y⟩:=Bf h;rw[AN]at q;exact⟨by rw[<-hv.length,q],U8 hv y⟩
theorem xR {ρ:Ai} {size k:Nat} {g:Nat->Aj} {cell:Nat->Option Value} (K:0<size) (E:Ed size k g=true) (h:∀i,i<k->∃vs,AG ρ (g i) vs/\∀j v,vs[j]? =some v->cell (i*size+j)=some v): ∃vs,U4 ρ size k g vs/\(∀v∈vs,v.oneCell'=true)/\∀j v,vs[j]? =some v->cell j=some v:=by
 classical
 unfold Ed at E;simp only[BV]at E;have hc:∀p,∃v,p<k*size->cell p=some v/\v.oneCell'=true/\∀a,(g (p/size))[p %size]? =some a->VR ρ a v:=λp=>by
  by_cases hp:p<k*size
  ·obtain⟨L,V,O⟩:=yX K hp;obtain⟨vs,hv,B⟩:=h _ L;obtain⟨U,M⟩:=AgP (E _ L) hv;have q:p %size<vs.length:=by omega
   refine⟨vs[p %size],λ_=>⟨?_,M _ (List.getElem_mem q),λa J=>hv.SA J (CC q)⟩⟩;have:=B (p %size) _ (CC q);rwa[O]at this
  ·exact⟨undef,λh=>absurd h hp⟩
 refine⟨(List.range (k*size)).map λp=>Classical.choose (hc p),⟨by simp,λi hi j a y J=>?_⟩,λv hv=>?_,λj v y=>?_⟩
 ·have q:i*size+j<k*size:=by have:(i+1)*size<=k*size:=Nat.mul_le_mul_right _ hi;rw[Nat.add_mul]at this;omega
  refine⟨Classical.choose (hc (i*size+j)),by rw[HB,OI q];rfl,?_⟩;refine(IV (hc (i*size+j)) q).2.2 a ?_;have S:(i*size+j)/size=i:=by rw[Nat.mul_comm,Nat.mul_add_div K,Nat.div_eq_of_lt y,Nat.add_zero]
  have R:(i*size+j)%size=j:=by rw[Nat.mul_comm,Nat.mul_add_mod,Nat.mod_eq_of_lt y]
  rw[S,R];exact J
 ·obtain⟨p,hp,rfl⟩:=List.mem_map.1 hv;exact(IV (hc p) (List.mem_range.1 hp)).2.1
 ·rw[HB]at y;cases C:(List.range (k*size))[j]? with
  |none=>rw[C]at y;cases y
  |some p=>rw[C]at y;injection y with y;subst y;obtain⟨q,rfl⟩:=It.1 C;simp only[List.length_range]at q;have:=(IV (hc j) q).1;simpa using this
def chunk (size k:Nat) (l:Aj):Nat->Aj:=match k with
 |1=>λ_=>l
 |_=>λi=>(l.drop (i*size)).take size
def WA (H:Tr Ae) (size:Nat) (x:AV):Option (Bool×Nat×(Nat->Aj)):=
 match x with
 |.bv l=>gd (Nat.beq size 1) (some (true,l.length,Iw l))
 |.bs l=>gd (Nat.beq size 1) (some (true,l.length,Iw l))
 |.str m n=>gd (Nat.beq size 1) (some (true,(BB m n).length,Iw (BB m n)))
 |.vec e k g=>gd (Nat.beq e size) (some (Ed size k g,k,g))
 |.AY id k e=>gd (Nat.beq e size) (ob (H.get id) λo=>match o with
  |.cells _ c z N _=>match c,z with
   |.leaf,.rows q f=>gd (Nat.beq q size) (some (cond (Nat.ble (k*size) N) (Ed size k f) false,k,f))
   |_,_=>none
  |_=>none)
 |.Ay=>some (true,0,λ_=>[])
 |.sle _=>some (true,0,λ_=>[])
 |.sl id off k _=>ob (GB H id off (k*size)) λl=>gd (l.all AV.one) (some (true,k,chunk size k l))
 |.BF id off k _=>ob (GB H id off (k*size)) λl=>gd (l.all AV.one) (some (true,k,chunk size k l))
 |_=>none
def RJ (P:Program) (ρ:Ai) (w:World) (size k:Nat) (g:Nat->Aj) (u:Value):Prop:=∃vs:List Value,U4 ρ size k g vs/\(∀v∈vs,v.oneCell'=true)/\∀w':World,(∀a,w'.cell? a=w.cell? a)->(Builtin.lenOf u).run P w'=.ok k w'/\(Builtin.firstCells size k u).run P w'=.ok vs.toArray w'
theorem p7 {ρ:Ai} {size k:Nat} {l:Aj} {vs:List Value} (hv:AG ρ l vs) (y:vs.length=k*size):U4 ρ size k (chunk size k l) vs:=by
 refine⟨y,λi hi j a B q=>?_⟩;have key:l[i*size+j]? =some a:=by
  unfold chunk at q;split at q
  ·have:i=0:=by omega
   subst this;simpa using q
  ·rw[List.getElem?_take,Am B,List.getElem?_drop]at q;exact q
 exact hv.get _ _ key
theorem cA {P:Program} {ρ:Ai} {w:World} {size k:Nat} {g:Nat->Aj} {ad:Addr} {cap:Nat} {vs:List Value} (q:U4 ρ size k g vs) (B:∀v∈vs,v.oneCell'=true) (hc:∀j v,vs[j]? =some v->w.cell? (ad.add j)=some v):RJ P ρ w size k g (.slice (some ad) k cap):=by refine⟨vs,q,B,λw' y=>⟨by simp[Builtin.lenOf],?_⟩⟩;have:=run_loadCells_list (P:=P) w' ad vs (λj v C=>by rw[y];exact hc j v C);rw[q.1]at this;simp[Builtin.firstCells,this]
theorem bZ {P:Program} {ρ:Ai} {w:World} {size:Nat} {g:Nat->Aj} {base:Option Addr} {cap:Nat}:RJ P ρ w size 0 g (.slice base 0 cap):=by
 refine⟨[],⟨by simp,λi hi=>by omega⟩,by simp,λw' y=>⟨by simp[Builtin.lenOf],?_⟩⟩;cases base with
 |none=>simp[Builtin.firstCells]
 |some ad=>have:=run_loadCells_list (P:=P) w' ad [] (λj v q=>by simp at q);simpa[Builtin.firstCells]using this
theorem Aa1 (l:Ac):Ed 1 l.length (Iw l)=true:=OX λ_ _=>rfl
theorem yY {P:Program} {ρ:Ai} {w:World} (l:Ac):RJ P ρ w 1 l.length (Iw l) (.string ⟨l.toArray⟩):=by
 have y:(ByteArray.mk l.toArray).size=l.length:=by show l.toArray.size=_;simp
 refine⟨l.map λb=>.int .u8 (b.toNat:Int),⟨by simp,λi hi j a B q=>?_⟩,λv hv=>?_,λw' _=>⟨by simp only[Builtin.lenOf,Sem.run_pure,y],?_⟩⟩
 ·have:j=0:=by omega
  subst this;injection q with q;subst q;refine⟨_,?_,.int _ _⟩;simp only[Nat.mul_one,Nat.add_zero,HB,CC hi,Option.map_some,List.getD,Option.getD_some]
 ·obtain⟨b,_,rfl⟩:=List.mem_map.1 hv;rfl
 ·simp only[Builtin.firstCells,Sem.run_pure];congr 1;apply Array.ext';rw[Array.toList_map,Lib.extract_data];simp
theorem xe {P:Program} {E:Env} {F:Nat->Option Obj} {nx:Nat} {ρ:Ai} {w:World} {H:Tr Ae} (r:Rel E F nx ρ H.get w) {size k:Nat} {g:Nat->Aj} {x:AV} {u:Value} (Y:0<size) (L:VR ρ x u) (B:WA H size x=some (true,k,g)):RJ P ρ w size k g u:=by
 have C:∀(Ap n:Nat) (f:Nat->Aj),iA x=some (Ap,n,f)->Ap=size->Ed size n f=true->RJ P ρ w size n f u:=by
  intro Ap n f he hz hg;subst hz;obtain⟨⟨base,cap,hu,_⟩,y⟩:=Yj L he;by_cases hn:n=0
  ·subst hn;rw[hu];exact bZ
  ·obtain⟨b,o,ad,cs,el,fz,ae,W,af,_,_⟩:=y 0 (by omega);obtain⟨vs,J,R,V⟩:=xR (cell:=λp=>w.cell? ⟨b,o+p,none⟩) Y hg λi hi=>by obtain⟨b',o',ab,cs',ai,ah,vs,O,aa,hv,hc⟩:=y i hi;rw[W]at O;injection O with S e2 e3;injection S with S;injection S with S e4 e5;subst S;subst e4;refine⟨vs,hv,λj v M=>?_⟩;have:=cD r aa (hc j v M);rwa[Fy]at this
   rw[W];exact cA J R λj v M=>by rw[Dq];exact V j v M
 unfold WA at B;split at B
 ·obtain⟨hz,q⟩:=AL.1 B;injection q with q;injection q with _ q;injection q with q y;subst q;subst y;rw[AN]at hz;subst hz;exact C 1 _ _ rfl rfl (Aa1 _)
 ·obtain⟨hz,q⟩:=AL.1 B;injection q with q;injection q with _ q;injection q with q y;subst q;subst y;rw[AN]at hz;subst hz;cases L;exact yY _
 ·obtain⟨hz,q⟩:=AL.1 B;injection q with q;injection q with _ q;injection q with q y;subst q;subst y;rw[AN]at hz;subst hz;rw[Mw L rfl];exact yY _
 ·obtain⟨hz,q⟩:=AL.1 B;injection q with q;injection q with hg q;injection q with q y;subst q;subst y;rw[AN]at hz;exact C _ _ _ rfl hz hg
 ·rename_i id n e;obtain⟨hz,q⟩:=AL.1 B;rw[AN]at hz;subst hz;obtain⟨o,ho,y⟩:=Ag.1 q;clear B q;split at y
  ·split at y
   ·rename_i e' f;obtain⟨hz,J⟩:=AL.1 y;rw[AN]at hz;subst hz;obtain⟨S,e2,R⟩:=K6 J;injection R with R V;subst R;subst V;rw[Nat.ble_eq]at S;cases L with
    |He _ _ _ hn _=>subst hn;exact bZ
    |AY _ _ _ b U _ hl=>
     obtain⟨vs,J,R,V⟩:=xR (ρ:=ρ) (cell:=λp=>w.cell? ⟨b.b,b.ob+p,none⟩) Y e2 λi hi=>by refine AG.S1 (ρ:=ρ) _ λj a M=>?_;have AA:Oo _ _=true:=(by have:=e2;unfold Ed at this;simp only[BV]at this;exact this i hi);unfold Oo at AA;obtain⟨Z,_⟩:=Bf AA;rw[AN]at Z;have ag:=(It.1 M).1;have hm:=Nat.mul_le_mul_right (f i).length hi;rw[Z,Nat.succ_mul]at hm;exact cell_of r ho U (by omega) (by rw[Gz,Rb (i:=i) (j:=j) (by omega) _ rfl];exact M)
     exact cA J R λj v M=>by rw[Dq];exact V j v M
   ·cases y
  ·cases y
 ·injection B with q;injection q with _ q;injection q with q y;subst q;subst y;cases L;exact bZ
 ·injection B with q;injection q with _ q;injection q with q y;subst q;subst y;cases L;exact bZ
 ·obtain⟨l,hl,q⟩:=Ag.1 B;obtain⟨K,y⟩:=AL.1 q;injection y with y;injection y with _ y;injection y with y J;subst y;subst J;cases L with
  |sl _ _ _ _ b U=>obtain⟨vs,q,y,J⟩:=HZ r (HS.refl ρ H) U hl;exact cA (p7 q y) (U8 q K) J
 ·obtain⟨l,hl,q⟩:=Ag.1 B;obtain⟨K,y⟩:=AL.1 q;injection y with y;injection y with _ y;injection y with y J;subst y;subst J;cases L with
  |BF _ _ _ _ b U _ _=>obtain⟨vs,q,y,J⟩:=HZ r (HS.refl ρ H) U hl;exact cA (p7 q y) (U8 q K) J
 ·cases B
def DQ (n:Nat) (f g:Nat->Aj):Nat->Aj:=λi=>cond (Nat.blt i n) (f i) (g (i-n))
def mL (H:Tr Ae) (el size:Nat) (s:AV):Option (Bool×Nat×(Nat->Aj)×Tr Ae):=
 match s with
 |.AY id n e=>gd (Nat.beq e size) (ob (H.get id) λo=>match o with
  |.cells q c z N _=>match c,z with
   |.leaf,.rows y f=>gd (Nat.beq y size) (gd (Nat.beq q el) (some (Nat.ble (n*size) N,n,f,H.del id)))
   |_,_=>none
  |_=>none)
 |_=>none
def Wx (P:Program) (H:Tr Ae) (ni:Nat) (B:List TypeId) (y:Aj):Option (Bool×AV×Tr Ae):=
 match B,y with
 | [t,tx],[s,x]=>ob (P.underlying t) λd=>match d with
  |.slice el=>ob (P.underlying tx) λC=>gd (bY C) (ob (P.info? el) λi=>ob i.zero λz=>gd (Nat.blt 0 i.size&&Nat.beq z.cells.size i.size) (match s,x with
    |.Ay,.sl _ _ _ _=>none
    |.Ay,.BF _ _ _ _=>none
    |.Ay,.Ay=>none
    |.Ay,.sle _=>none
    |.Ay,x=>ob (WA H i.size x) λq=>some (cond q.1 (decide (q.2.1<=9223372036854775807/\q.2.1*i.bytes<=140737488355328)) false,.AY ni q.2.1 i.size,H.set ni (.cells el .leaf (.rows i.size q.2.2) (q.2.1*i.size) true))
    |s,x=>ob (mL H el i.size s) λdst=>ob (WA H i.size x) λq=>some (cond (cond dst.1 q.1 false) (decide (dst.2.1+q.2.1<=9223372036854775807/\(dst.2.1+q.2.1)*i.bytes<=140737488355328)) false,.AY ni (dst.2.1+q.2.1) i.size,dst.2.2.2.set ni (.cells el .leaf (.rows i.size (DQ dst.2.1 dst.2.2.1 q.2.2)) ((dst.2.1+q.2.1)*i.size) true))))
  |_=>none
 |_,_=>none
theorem mD {ρ:Ai} {b:C3} {size n k el:Nat} {f g:Nat->Aj} {vs:List Value} {cs':Array Value} {fz:Nat×Nat} (R:0<size) (Dt:cs'.size=b.ob+b.cap) (K:(n+k)*size<=b.cap) (M:Yx cs' fz) (B:∀p a,p<n*size->CB.at (.rows size f) p=some a->∃v,cs'[b.ob+p]? =some v/\VR ρ a v) (S:U4 ρ size k g vs) (C:∀p v,vs[p]? =some v->cs'[b.ob+(n*size+p)]? =some v): OR ρ b (.cells el .leaf (.rows size (DQ n f g)) ((n+k)*size) true) (.cells cs' el fz):=by
 refine .cells _ _ _ _ true cs' fz Dt K (by simp) M λp a U O=>?_;rw[Gz]at O;obtain⟨h1,Y,h3⟩:=yX R U;have q:((DQ n f g) (p/size))[p %size]? =some a:=O;unfold DQ at q;cases y:Nat.blt (p/size) n with
 |true=>
  rw[y,cond_true]at q;rw[Co]at y;have J:p<n*size:=by have:(p/size+1)*size<=n*size:=Nat.mul_le_mul_right _ y;rw[Nat.succ_mul]at this;omega
  exact B p a J q
 |false=>
  rw[y,cond_false]at q;have L:n<=p/size:=by
   rcases MG (p/size) n with h|h
   ·rw[<-Co,y]at h;cases h
   ·exact h
  obtain⟨v,hv,E⟩:=S.2 (p/size-n) (by omega) (p %size) a Y q;refine⟨v,?_,E⟩;have W:=C _ v hv;have V:n*size+((p/size-n)*size+p %size)=p:=by have Z:n*size<=p/size*size:=Nat.mul_le_mul_right _ L;rw[Nat.sub_mul];omega
  rwa[V]at W
theorem AkH {P:Program} {w:World} (base:Option Addr) (vs:List Value) (h:vs=[]) (m:Nat):match base with|none=>w=w|some a=>(storeCells (a.add m) vs).run P w=.ok () w:=by subst h;cases base<;>rfl
theorem AcO {P:Program} {w:World} (base:Option Addr) (size:Nat):(Builtin.firstCells size 0 (.slice base 0 0)).run P w=.ok ([]:List Value).toArray w:=by
 cases base with
 |none=>simp[Builtin.firstCells]
 |some a=>have:=run_loadCells_list (P:=P) w a [] (λj v q=>by cases q);simpa[Builtin.firstCells]using this
set_option maxHeartbeats 1000000 in
theorem mJ {P:Program} {E:Env} {F:Nat->Option Obj} {nx nx':Nat} {ρ:Ai} {w:World} {H H':Tr Ae} (r:Rel E F nx ρ H.get w) {ni:Nat} (O:ρ ni=none) (av:nx<=nx') (ak:ni<nx') {ts:List TypeId} {xs:Aj} {us:List Value} {a:AV} (hx:AG ρ xs us) (aj:Wx P H ni ts xs=some (true,a,H')) (ty:TypeId): ∃v w' C,(Builtin.append_ ts.toArray ty us.toArray).run P w=.ok v w'/\Rel E F nx' C H'.get w'/\(ρ.le C/\∀x,x≠ni->C x=ρ x)/\VR C a v:=by
 unfold Wx at aj;split at aj
 ·rename_i t tx s x;cases hx with
  |cons _ aq _ _ aK aX=>cases aX with
   |cons _ ux _ _ aJ aV=>
    cases aV;obtain⟨d,hd,Y⟩:=Ag.1 aj;clear aj;split at Y
    ·rename_i el;obtain⟨dx,aw,h2⟩:=Ag.1 Y;obtain⟨au,h3⟩:=AL.1 h2;obtain⟨i,hi,h4⟩:=Ag.1 h3;obtain⟨z,hz,h5⟩:=Ag.1 h4;obtain⟨L,h6⟩:=AL.1 h5;clear Y h2 h3 h4 h5;rw[C5,Co,AN]at L;obtain⟨L,aW⟩:=L;have aI:∀m,(Builtin.zeroCells z.cells m).size=m*i.size:=λm=>by rw[yT,aW]
     have ad:∀(base:Option Addr) (k:Nat) (g:Nat->Aj) (H0:Tr Ae),aq=.slice base 0 0->RJ P ρ w i.size k g ux->k<=9223372036854775807->k*i.bytes<=140737488355328->(∀j o,H0.get j=some o->H.get j=some o)-> ∀f,∃v w' C,(Builtin.append_ [t,tx].toArray ty [aq,ux].toArray).run P w=.ok v w'/\Rel E F nx' C (H0.set ni (.cells el .leaf (.rows i.size (DQ 0 f g)) ((0+k)*i.size) true)).get w'/\(ρ.le C/\∀x,x≠ni->C x=ρ x)/\VR C (.AY ni (0+k) i.size) v:=by
      intro base k g H0 aC ⟨vs,hr,ay,K⟩ ba a2 hH f;subst aC;obtain⟨ai,aG⟩:=K w (λ_=>rfl);obtain⟨_,aF⟩:=K w.drew (λ_=>rfl);by_cases hk:k=0
      ·subst hk;have aY:vs=[]:=List.length_eq_zero_iff.1 (by have:=hr.1;simpa using this);have aT:=AkH (P:=P) (w:=w) base vs aY (0*i.size);refine⟨_,w,ρ,RO (base:=base) (len:=0) (cap:=0) (ty:=ty) hd aw au hi ai aG (by omega) aT,?_,⟨Ai.le_refl ρ,λ_ _=>rfl⟩,.He _ _ _ rfl base⟩;rw[H7];have J:=(r.less (h':=H0.get) hH).Fp av;refine⟨J.tape,J.os,J.output,J.fr,λj o b S W=>?_,λj o b S W=>?_,λj j' o o' b b' S aN W aH=>?_,J.new,λq l hq=>?_,J.bs,J.st,λj o b S W=>?_,J.sf⟩
       ·by_cases R:j=ni
        ·subst R;rw[O]at W;cases W
        ·simp only[R,if_false]at S;exact J.ob j o b S W
       ·by_cases R:j=ni
        ·subst R;rw[O]at W;cases W
        ·simp only[R,if_false]at S;exact J.dj j o b S W
       ·by_cases R:j=ni
        ·subst R;rw[O]at W;cases W
        ·by_cases az:j'=ni
         ·subst az;rw[O]at aH;cases aH
         ·simp only[R,az,if_false]at S aN;exact J.inj j j' o o' b b' S aN W aH
       ·by_cases aL:q=ni
        ·subst aL;simp at hq
        ·simp only[aL,if_false]at hq;exact J.gl q l hq
       ·by_cases R:j=ni
        ·subst R;rw[O]at W;cases W
        ·simp only[R,if_false]at S;exact J.sd j o b S W
      ·have U:=Vb (base:=base) (len:=0) (cap:=0) (ty:=ty) (olds:=[]) hd aw au hi hz ai (AcO base _) aF (by omega) (by omega) (by simpa using a2);simp only[Ei]at U;have aa:0+k<=grownCap w (0+k) 0 el:=by simp[grownCap,Question.cut]
       generalize a3:grownCap w (0+k) 0 el=cap at U aa;have ah:(0+k)*i.size<=cap*i.size:=Nat.mul_le_mul_right _ aa;have ar:=hr.1;have y:=Ai.Lp (ρ:=ρ) O ⟨w.heap.size,0,cap*i.size⟩;have aS:(cap-(0+k))*i.size=cap*i.size-(0+k)*i.size:=Nat.sub_mul _ _ _;have bb:(0+k)*i.size=k*i.size:=by rw[Nat.zero_add]
       have a6:(cap-k)*i.size=cap*i.size-k*i.size:=Nat.sub_mul _ _ _;have af:=mD (ρ:=ρ.put ni ⟨w.heap.size,0,cap*i.size⟩) (b:=⟨w.heap.size,0,cap*i.size⟩) (size:=i.size) (n:=0) (k:=k) (el:=el) (f:=f) (g:=g) (vs:=vs) (cs':=vs.toArray++Builtin.zeroCells z.cells (cap-(0+k))) (fz:=(0,0)) L (by simp[aI];omega) ah (.inl rfl) (λp a hp=>by omega) ⟨ar,λq hq j a S ha=>let ⟨v,Y,h2⟩:=hr.2 q hq j a S ha;⟨v,Y,h2.mono y⟩⟩ (λp v hp=>by have ag:=(It.1 hp).1;simp only[Nat.zero_mul,Nat.zero_add];rw[Array.getElem?_append,Am (by simpa using ag)];simpa using hp);obtain⟨Y,h2⟩:=(r.drew.less (h':=H0.get) hH).alloc O av ak af;refine⟨_,_,ρ.put ni ⟨w.heap.size,0,cap*i.size⟩,U,by rw[H7];exact Y,⟨y,λx hx=>Ai.Ha hx _⟩,?_⟩;have:=VR.AY (ρ:=ρ.put ni ⟨w.heap.size,0,cap*i.size⟩) ni (0+k) i.size ⟨w.heap.size,0,cap*i.size⟩ (Ai.FF _ _ _) L ah;simpa[Nat.mul_div_cancel _ L]using this
     have ab:∀V:Bool×Nat×(Nat->Aj),WA H i.size x=some V->s=.Ay-> some (cond V.1 (decide (V.2.1<=9223372036854775807/\V.2.1*i.bytes<=140737488355328)) false,AV.AY ni V.2.1 i.size,H.set ni (.cells el .leaf (.rows i.size V.2.2) (V.2.1*i.size) true))=some (true,a,H')-> ∃v w' C,(Builtin.append_ [t,tx].toArray ty [aq,ux].toArray).run P w=.ok v w'/\Rel E F nx' C H'.get w'/\(ρ.le C/\∀x,x≠ni->C x=ρ x)/\VR C a v:=by
      rintro⟨sb,k,g⟩ K hs h7;subst hs;obtain⟨e1,e2,h8⟩:=K6 h7;injection h8 with h8 h9;subst h8;subst h9;simp only[BV]at e1 e2;subst e1;have aC:aq=.slice none 0 0:=by cases aK;rfl
      have AA:=xe (P:=P) r L aJ K;have:=ad none k g H aC AA e2.1 e2.2 (λ_ _ h=>h) (λ_=>[]);have hf:DQ 0 (λ_=>[]) g=g:=by funext q;rfl
      rw[hf,Nat.zero_add]at this;exact this
     split at h6
     ·cases h6
     ·cases h6
     ·cases h6
     ·cases h6
     ·obtain⟨V,K,h7⟩:=Ag.1 h6;exact ab V K rfl h7
     ·obtain⟨⟨db,n,f,H0⟩,Z,h7⟩:=Ag.1 h6;obtain⟨⟨sb,k,g⟩,K,h8⟩:=Ag.1 h7;obtain⟨e1,e2,h9⟩:=K6 h8;injection h9 with h9 a5;subst h9;subst a5;obtain⟨e3,e4⟩:=Bf e1;simp only[BV]at e2 e3 e4;subst e3;subst e4;have AA:=xe (P:=P) r L aJ K;clear h6 h7 h8 e1 ab;cases s with
      |AY id M e=>
       simp only[mL]at Z;obtain⟨aQ,Y⟩:=AL.1 Z;rw[AN]at aQ;obtain⟨o,ho,h2⟩:=Ag.1 Y;clear Z Y;split at h2
       ·rename_i ae c0 z0 N op;split at h2
        ·rename_i e' f';obtain⟨aE,h3⟩:=AL.1 h2;obtain⟨aR,h4⟩:=AL.1 h3;injection h4 with h4;injection h4 with hN h4;injection h4 with h4 h5;injection h5 with h5 h6;subst h4;subst h5;subst h6;rw[AN]at aE aR;rw[Nat.ble_eq]at hN;subst aR;subst aQ;cases aK with
         |He _ _ _ hn base=>subst hn;have:=ad base k g (H.del id) rfl AA (by omega) (by simpa using e2.2) (YB H id) f';exact this
         |AY _ _ _ b W he hl=>
          obtain⟨vs,hr,ay,al⟩:=AA;obtain⟨ai,aG⟩:=al w (λ_=>rfl);obtain⟨_,aF⟩:=al w.drew (λ_=>rfl);obtain⟨oc,aD,af⟩:=r.ob _ _ b ho W;cases af with
          |cells _ _ _ _ _ cs fz Dt hn a9 aP ao=>
           have a7:M<=b.cap/i.size:=by rw[Nat.le_div_iff_mul_le he];exact hl
           have a8:(M+k)*i.size=M*i.size+k*i.size:=Nat.add_mul _ _ _;have ar:=hr.1;rcases MG (b.cap/i.size) (M+k)with ag|aO
           ·-- a new row
            let olds:List Value:=(List.range (M*i.size)).map λp=>(cs[b.ob+p]?).getD undef;have an:∀p,p<M*i.size->olds[p]? =cs[b.ob+p]?:=λp hp=>by
             have a4:b.ob+p<cs.size:=by omega
             simp only[olds,HB,OI hp,Option.map_some];rw[Array.getElem?_eq_getElem a4];rfl
            have B:olds.length=M*i.size:=by simp[olds]
            have aZ:(Builtin.firstCells i.size M (.slice (some ⟨b.b,b.ob,none⟩) M (b.cap/i.size))).run P w.drew=.ok olds.toArray w.drew:=by have:=run_loadCells_list (P:=P) w.drew ⟨b.b,b.ob,none⟩ olds (λj v S=>by have aM:=(It.1 S).1;rw[B]at aM;rw[an j aM]at S;rw[Dq];show w.cell? _=_;simp[World.cell?,aD,S]);rw[B]at this;simp[Builtin.firstCells,this]
            have U:=Vb (base:=some ⟨b.b,b.ob,none⟩) (ty:=ty) hd aw au hi hz ai aZ aF ag e2.1 e2.2;have aa:M+k<=grownCap w (M+k) (b.cap/i.size) ae:=by simp[grownCap,Question.cut]
            generalize a3:grownCap w (M+k) (b.cap/i.size) ae=cap at U aa;have ah:(M+k)*i.size<=cap*i.size:=Nat.mul_le_mul_right _ aa;have y:=Ai.Lp (ρ:=ρ) O ⟨w.heap.size,0,cap*i.size⟩;have aS:(cap-(M+k))*i.size=cap*i.size-(M+k)*i.size:=Nat.sub_mul _ _ _;have af:=mD (ρ:=ρ.put ni ⟨w.heap.size,0,cap*i.size⟩) (b:=⟨w.heap.size,0,cap*i.size⟩) (size:=i.size) (n:=M) (k:=k) (el:=ae) (f:=f') (g:=g) (vs:=vs) (cs':=(olds++vs).toArray++Builtin.zeroCells z.cells (cap-(M+k))) (fz:=(0,0)) L (by simp[aI,B];omega) ah (.inl rfl) (λp a hp ha=>by obtain⟨v,hv,aB⟩:=ao p a (by omega) (by rw[Gz,aE];exact ha);refine⟨v,?_,aB.mono y⟩;simp only[Nat.zero_add];rw[Array.getElem?_append,Am (by simp[B];omega)];rw[List.getElem?_toArray,List.getElem?_append,Am (by rw[B];exact hp),an p hp];exact hv) ⟨ar,λq hq j a S ha=>let ⟨v,Y,h2⟩:=hr.2 q hq j a S ha;⟨v,Y,h2.mono y⟩⟩ (λp v hp=>by have ag:=(It.1 hp).1;simp only[Nat.zero_add];rw[Array.getElem?_append,Am (by simp[B];omega)];rw[List.getElem?_toArray,List.getElem?_append,Ad (by rw[B];omega),B,Nat.add_sub_cancel_left];exact hp);obtain⟨Y,h2⟩:=(r.drew.less (h':=(H.del id).get) (YB H id)).alloc O av ak af;refine⟨_,_,ρ.put ni ⟨w.heap.size,0,cap*i.size⟩,U,by rw[H7];exact Y,⟨y,λx hx=>Ai.Ha hx _⟩,?_⟩;have:=VR.AY (ρ:=ρ.put ni ⟨w.heap.size,0,cap*i.size⟩) ni (M+k) i.size ⟨w.heap.size,0,cap*i.size⟩ (Ai.FF _ _ _) L ah;simpa[Nat.mul_div_cancel _ L]using this
           ·-- room
            have aA:(M+k)*i.size<=b.cap:=(Nat.le_div_iff_mul_le he).1 aO;obtain⟨cs',f1,f2,f3⟩:=Ww (P:=P) b.b (b.ob+M*i.size) ae fz vs 0 cs w aD aP (by omega) ay;have y:=Ai.Lp (ρ:=ρ) O b;have aU:=mD (ρ:=ρ.put ni b) (b:=b) (size:=i.size) (n:=M) (k:=k) (el:=ae) (f:=f') (g:=g) (vs:=vs) (cs':=cs') (fz:=fz) L (by rw[f2,Dt]) aA (by rcases aP with hz|hz;exact .inl hz;exact .inr (by omega)) (λp a hp ha=>by obtain⟨v,hv,aB⟩:=ao p a (by omega) (by rw[Gz,aE];exact ha);exact⟨v,by rw[f3,Ad (by omega)];exact hv,aB.mono y⟩) ⟨ar,λq hq j a S ha=>let ⟨v,Y,h2⟩:=hr.2 q hq j a S ha;⟨v,Y,h2.mono y⟩⟩ (λp v hp=>by have ag:=(It.1 hp).1;rw[f3,Am (by omega),<-hp];congr 1;omega);refine⟨.slice (some ⟨b.b,b.ob,none⟩) (M+k) (b.cap/i.size),World.E3 w b.b (.cells cs' ae fz),ρ.put ni b,?_,?_,⟨y,λx hx=>Ai.Ha hx _⟩,?_⟩
            ·refine RO (base:=some ⟨b.b,b.ob,none⟩) (ty:=ty) hd aw au hi ai aG aO ?_;simp only[Dq];exact f1
            ·exact r.rename ho W O av ak rfl aU (Nc w b.b _ _ aD) rfl rfl rfl
            ·exact .AY ni (M+k) i.size b (Ai.FF _ _ _) he aA
        ·cases h2
       ·cases h2
      |_=>simp only[mL]at Z;cases Z
    ·cases Y
 ·cases aj
def Oz (f:Nat->Aj) (i j:Nat) (vs:Aj):Nat->Aj:=λk=>cond (Nat.beq k i) (Mu (f i) j vs) (f k)
def mY (P:Program) (H:Tr Ae) (t:TypeId) (x v:AV):Option (Bool×Tr Ae):=
 match x with
 |.GM id Ap i j=>ob (P.info? t) λy=>gd (Nat.beq v.cells.length y.size&&v.cells.all AV.one&&Nat.ble (j+v.cells.length) Ap&&Nat.blt 0 v.cells.length) (ob (H.get id) λo=>match o with
  |.cells el c z N op=>match c,z with
   |.leaf,.rows q f=>gd (Nat.beq q Ap) (some (cond (Nat.ble (j+v.cells.length) (f i).length) (Nat.ble (i*Ap+j+v.cells.length) N) false,H.set id (.cells el .leaf (.rows Ap (Oz f i j v.cells)) N op)))
   |_,_=>none
  |_=>none)
 |_=>none
theorem AjT {P:Program} {E:Env} {F:Nat->Option Obj} {nx:Nat} {ρ:Ai} {w:World} {H H':Tr Ae} (r:Rel E F nx ρ H.get w) {t:TypeId} {x v:AV} {u z:Value} (hx:VR ρ x u) (hv:VR ρ v z) (C:mY P H t x v=some (true,H')): ∃w',(Instr.storeAt t u z).run P w=.ok () w'/\Rel E F nx ρ H'.get w':=by
 unfold mY at C;split at C
 ·rename_i id Ap i j;obtain⟨ti,R,Y⟩:=Ag.1 C;obtain⟨hg,W⟩:=AL.1 Y;obtain⟨o,ho,M⟩:=Ag.1 W;clear C Y W;simp only[C5,AN,Nat.ble_eq,Co]at hg;obtain⟨⟨⟨aq,ah⟩,ao⟩,an⟩:=hg;cases hx with
  |GM _ _ _ _ b hb=>
  split at M
  ·rename_i el c z0 N op;split at M
   ·rename_i q f;obtain⟨he,L⟩:=AL.1 M;rw[AN]at he;subst he;injection L with L;injection L with L h5;subst h5;obtain⟨h6,h7⟩:=Bf L;rw[Nat.ble_eq]at h6 h7;have J:=hv.cells;have Z:=J.length;obtain⟨oc,S,ae⟩:=r.ob _ _ b ho hb;cases ae with
    |cells _ _ _ _ _ cs fz Dt hn af U K=>
     obtain⟨cs',f1,f2,f3⟩:=Ww (P:=P) b.b (b.ob+(i*q+j)) el fz z.cells.toList 0 cs w S U (by omega) (U8 J ah);have aj:z.cells.size=ti.size:=by simp at Z;omega
     refine⟨World.E3 w b.b (.cells cs' el fz),?_,?_⟩
     ·have ab:z.cells.size=P.cellsOf t:=by simp[Program.cellsOf,R];omega
      simp[Instr.storeAt,Instr.sureAddr,storeVar,run_sizeOf w R,ab,f1]
     ·rw[H7];refine r.put ho hb (.cells _ _ _ _ _ cs' fz (by rw[f2,Dt]) hn af (by rcases U with hz|hz;exact .inl hz;exact .inr (by omega)) λp a hp ha=>?_) (Nc w b.b _ _ S) rfl rfl rfl;rw[Gz]at ha;have V:0<q:=by omega
      have ak:p %q<q:=Nat.mod_lt _ V;have ad:p/q*q+p %q=p:=by rw[Nat.mul_comm];exact Nat.div_add_mod p q
      have y:(Oz f i j v.cells (p/q))[p %q]? =some a:=ha;have O:(f (p/q))[p %q]? =some a->¬(b.ob+(i*q+j)+0<=b.ob+p/\b.ob+p<b.ob+(i*q+j)+0+z.cells.toList.length)->∃u,cs'[b.ob+p]? =some u/\VR ρ a u:=λY W=>by rw[f3,Ad W];exact K p a hp (by rw[Gz];exact Y)
      unfold Oz at y;cases B:Nat.beq (p/q) i with
      |true=>
       rw[B,cond_true,yW _ _ _ _ h6]at y;rw[AN]at B;rw[B]at ad;split at y
       ·rename_i al;obtain⟨u,hu,aa⟩:=J.get _ a y;refine⟨u,?_,aa⟩;rw[f3,Am (by omega),<-hu];congr 1;omega
       ·rename_i ai;exact O (by rw[B];exact y) (by omega)
      |false=>
       rw[B,cond_false]at y;have ag:p/q≠i:=λe=>by rw[<-AN,B]at e;cases e
       refine O y λ⟨h8,h9⟩=>ag ?_;have:p/q=i:=by rw[Nat.div_eq_iff V];have:(i+1)*q=i*q+q:=Nat.succ_mul _ _;omega
       exact this
   ·cases M
  ·cases M
 ·cases C
end Go.Ev
end
section
namespace Go.Ev
def O1 (l:Aj):Bool:=match l with
 | [.int .u8 n]=>BJ .u8 n
 |_=>false
def LU (n:Nat) (f:Nat->Aj):Bool:=decide (∀i,i<n->O1 (f i)=true)
theorem Adw {ρ:Ai} {l:Aj} {vs:List Value} (h:O1 l=true) (hv:AG ρ l vs):∃n:Int,vs=[.int .u8 n]/\n=((Jj l).toNat:Int):=by
 unfold O1 at h;split at h
 ·rename_i n;have h:0<=n/\n<=255:=YK.1 h;cases hv with
  |cons _ _ _ _ y q=>cases y;cases q;refine⟨n,rfl,?_⟩;simp only[Jj];simp;omega
 ·cases h
theorem mc {ρ:Ai} {n:Nat} {f:Nat->Aj} {v:Value} (h:VR ρ (.vec 1 n f) v) (B:LU n f=true):VR ρ (.bv (Gs n f)) v:=by
 unfold LU at B;simp only[BV]at B;have y:(Gs n f).length=n:=by simp[Gs]
 cases h with
 |Gt _ _ _ hn base cap=>subst hn;exact .Iu _ (by simp[Gs]) _ _
 |vec _ _ _ b o cap cs el fz g C M q hv hc=>
  have:=VR.bv (ρ:=ρ) (Gs n f) b o cap cs el fz C (by rw[y];exact q) λi hi=>by
   rw[y]at hi;obtain⟨m,L,K⟩:=Adw (B i hi) (hv i hi);have J:=hc i hi 0 (.int .u8 m) (by rw[L];rfl);have E:(Gs n f).getD i 0=Jj (f i):=by simp[Gs,List.getD,hi]
   rw[E,<-K];simpa using J
  rw[y]at this;exact this
def fB {q:Type} (b:Bool) (k:Bool->q):q:=Bool.rec (motive:=λ_=>q) (k false) (k true) b
theorem iq {q:Type} (b:Bool) (k:Bool->q):fB b k=k b:=by cases b<;>rfl
structure FZ where
 id:Nat
 Ap:Nat
 n:Nat
 a:AV
def SL (P:Program) (el:Nat):Bool:=match P.underlying el with
 |some (.int .u8)=>true
 |_=>false
def mA (q:Bool) (Ap n:Nat) (f:Nat->Aj):AV:=cond q (.bv (Gs n f)) (.vec Ap n f)
def xM (q:Bool) (Ap n:Nat) (f:Nat->Aj):Bool:=cond q (LU n f) (Ed Ap n f)
abbrev FR:=Option (Bool×AV×List FZ×List Nat)
def L6 (y:AV->FR) (l:Aj):Option (Bool×Aj×List FZ×List Nat):=List.rec (motive:=λ_=>Option (Bool×Aj×List FZ×List Nat)) (some (true,[],[],[])) (λx _ B=>ob (y x) λr=>ob B λq=>some (cond r.1 q.1 false,r.2.1::q.2.1,r.2.2.1++q.2.2.1,r.2.2.2++q.2.2.2)) l
def J1 (P:Program) (H:Tr Ae) (y:AV->FR) (a:AV):FR:=match a with
 |.AY id n Ap=>ob (H.get id) λo=>match o with
  |.cells el c z N _=>match c,z with
   |.leaf,.rows e f=>gd (Nat.beq e Ap) (fB (cond (Nat.beq Ap 1) (SL P el) false) λu=>some (cond (Nat.ble (n*Ap) N) (xM u Ap n f) false,mA u Ap n f,[⟨id,Ap,n,mA u Ap n f⟩],[id]))
   |_,_=>none
  |_=>none
 |.sl id off n cap=>gd (cond (Nat.beq off 0) (Nat.ble n cap) false) (ob (H.get id) λo=>match o with
  |.cells el _ _ _ _=>ob (P.info? el) λi=>gd (Nat.blt 0 i.size) (ob (GB H id 0 (n*i.size)) λl=>gd (l.all AV.one) (fB (cond (Nat.beq i.size 1) (SL P el) false) λu=>cond u (some (l.all λa=>O1 [a],.bv (l.map λa=>Jj [a]),[],[id])) (ob (L6 y l) λr=>some (r.1,.vec i.size n (chunk i.size n r.2.1),r.2.2.1,id::r.2.2.2))))
  |_=>none)
 |.BF id off n Ap=>gd (Nat.beq off 0) (ob (H.get id) λo=>match o with
  |.cells el _ _ _ _=>ob (GB H id 0 (n*Ap)) λl=>gd (l.all AV.one) (fB (cond (Nat.beq Ap 1) (SL P el) false) λu=>cond u (some (l.all λa=>O1 [a],.bv (l.map λa=>Jj [a]),[],[id])) (ob (L6 y l) λr=>some (r.1,.vec Ap n (chunk Ap n r.2.1),r.2.2.1,id::r.2.2.2)))
  |_=>none)
 |.ptr id off=>gd (Nat.beq off 0) (ob (H.get id) λo=>match o with
  |.cells _ _ _ n _=>ob (GB H id 0 n) λl=>gd (l.all AV.one) (ob (L6 y l) λr=>some (r.1,.pv r.2.1,r.2.2.1,id::r.2.2.2))
  |_=>none)
 |.agg l=>ob (L6 y l) λr=>some (r.1,.agg r.2.1,r.2.2.1,r.2.2.2)
 |.AO l=>ob (L6 y l) λr=>some (r.1,.AO r.2.1,r.2.2.1,r.2.2.2)
 |.iface t v=>ob (y v) λr=>some (r.1,.iface t r.2.1,r.2.2.1,r.2.2.2)
 |.fn (.func g) a c=>ob (L6 y a) λr=>ob (L6 y c) λq=>some (cond r.1 q.1 false,.fn (.func g) r.2.1 q.2.1,r.2.2.1++q.2.2.1,r.2.2.2++q.2.2.2)
 |.sle _=>some (true,.vec 1 0 λ_=>[],[],[])
 |.bool b=>some (true,.bool b,[],[])
 |.int k n=>some (true,.int k n,[],[])
 |.str m n=>some (true,.str m n,[],[])
 |.bs l=>some (true,.bs l,[],[])
 |.bv l=>some (true,.bv l,[],[])
 |.vec e n f=>some (true,.vec e n f,[],[])
 |.pv l=>some (true,.pv l,[],[])
 |.FY h v z=>some (true,.FY h v z,[],[])
 |.EC=>some (true,.EC,[],[])
 |.Ay=>some (true,.Ay,[],[])
 |.E8=>some (true,.E8,[],[])
 |.GD=>some (true,.GD,[],[])
 |.EL=>some (true,.EL,[],[])
 |_=>none
def sn (P:Program) (H:Tr Ae) (k:Nat):AV->FR:=Nat.rec (motive:=λ_=>AV->FR) (λ_=>none) (λ_ q=>J1 P H q) k
def Jn (P:Program) (H:Tr Ae) (a:AV):FR:=sn P H 12 a
def Qi (P:Program) (H:Tr Ae) (l:Aj):Option (Bool×Aj×List FZ×List Nat):=L6 (Jn P H) l
def C8 (H:Tr Ae) (ids:List Nat):Tr Ae:=List.rec (motive:=λ_=>Tr Ae) H (λi _ q=>q.del i) ids
theorem Qa {H:Tr Ae}:∀ {ids:List Nat} {i:Nat} {o:Ae},(C8 H ids).get i=some o->H.get i=some o/\i∉ids
 | [],i,o,h=>⟨h,by simp⟩
 |j::ids,i,o,h=>by
  have h':((C8 H ids).del j).get i=some o:=h;rw[Tr.H6]at h';split at h'
  ·cases h'
  ·rename_i q;obtain⟨B,y⟩:=Qa h';exact⟨B,by simp[y];exactλe=>q e.symm⟩
open Classical in
def CZ (ρ:Ai) (w:World) (ids:List Nat):Ai:=⟨ρ.nm,λb=>if∃id∈ids,∃q,ρ id=some q/\q.b=b then w.heap[b]? else ρ.st b⟩
def Fj (H:Tr Ae) (ids:List Nat):Prop:=∀id∈ids,∃o,H.get id=some o
theorem AcY {E:Env} {F:Nat->Option Obj} {nx:Nat} {ρ:Ai} {w:World} {H:Tr Ae} (r:Rel E F nx ρ H.get w) {ids:List Nat} (hi:Fj H ids) {b:Nat} {o:Obj} (h:ρ.st b=some o):(CZ ρ w ids).st b=some o:=by
 show(if _ then _ else _)=_;split
 ·rename_i C;obtain⟨id,q,y,L,K⟩:=C;obtain⟨B,J⟩:=hi id q;have:=r.sd id B y J L;rw[K,h]at this;cases this
 ·exact h
theorem KB {E:Env} {F:Nat->Option Obj} {nx:Nat} {ρ:Ai} {w:World} {H:Tr Ae} (r:Rel E F nx ρ H.get w) {ids:List Nat} (hi:Fj H ids): RX nx nx ρ (CZ ρ w ids)/\Rel E F nx (CZ ρ w ids) (C8 H ids).get w:=by
 have J:ρ.le (CZ ρ w ids):=⟨λ_ _ h=>h,λb o h=>AcY r hi h⟩;refine⟨⟨J,λ_ _=>rfl,AM _⟩,r.tape,r.os,r.output,r.fr,λi o b h y=>?_,λi o b h y=>r.dj i o b (Qa h).1 y,λi j o C b Y h h' y U e=>r.inj i j o C b Y (Qa h).1 (Qa h').1 y U e,r.new,λg l h=>r.gl g l (Qa h).1,r.bs,λb o h=>?_,λi o b h y=>?_,λb o C V h=>?_⟩
 ·obtain⟨c,K,R⟩:=r.ob i o b (Qa h).1 y;exact⟨c,K,R.mono J⟩
 ·have h':(if _ then _ else _)=some o:=h;split at h'
  ·exact h'
  ·exact r.st b o h'
 ·obtain⟨K,R⟩:=Qa h;show(if _ then _ else _)=none;rw[Ad]
  ·exact r.sd i o b K y
  ·rintro⟨id,q,B,O,M⟩;obtain⟨C,L⟩:=hi id q;have:=r.inj id i C o B b L K O y M;subst this;exact R q
 ·have h':(if _ then _ else _)=some C:=h;split at h'
  ·rename_i W;obtain⟨id,q,B,O,M⟩:=W;obtain⟨S,L⟩:=hi id q;have:=r.dj id S B L O;rw[M,V]at this;cases this
  ·exact r.sf b o C V h'
theorem Sx {ρ:Ai} {w:World} {ids:List Nat} {id:Nat} {b:C3} (q:id∈ids) (y:ρ id=some b):(CZ ρ w ids).st b.b=w.heap[b.b]?:=Am ⟨id,q,b,y,rfl⟩
theorem xO {E:Env} {F:Nat->Option Obj} {nx:Nat} {ρ:Ai} {w:World} {H:Tr Ae} (r:Rel E F nx ρ H.get w) {ids:List Nat} (hi:Fj H ids) {id el n Ap N:Nat} {f:Nat->Aj} {op:Bool} (O:id∈ids) (Y:H.get id=some (.cells el .leaf (.rows Ap f) N op)) (hN:n*Ap<=N) (J:Ed Ap n f=true) {v:Value} (hv:VR ρ (.AY id n Ap) v):VR (CZ ρ w ids) (.vec Ap n f) v:=by
 have M:=(KB r hi).1.le;cases hv with
 |He _ _ _ hn _=>exact .Gt _ _ _ hn _ _
 |AY _ _ _ b U S hl=>
  obtain⟨c,hc,L⟩:=r.ob _ _ b Y U;cases L with
  |cells _ _ _ _ _ cs fz Dt hn aa ad B=>
   have K:(CZ ρ w ids).st b.b=some (.cells cs el fz):=(Sx O U).trans hc;have C:n<=b.cap/Ap:=by rw[Nat.le_div_iff_mul_le S];exact hl
   unfold Ed at J;simp only[BV]at J;have y:∀i,∃vs,i<n->AG ρ (f i) vs/\∀j v,vs[j]? =some v->cs[b.ob+i*Ap+j]? =some v:=λi=>by
    by_cases q:i<n
    ·have V:=J i q;unfold Oo at V;obtain⟨h2,_⟩:=Bf V;rw[AN]at h2;have Z:(i+1)*Ap<=n*Ap:=Nat.mul_le_mul_right _ q;rw[Nat.succ_mul]at Z;obtain⟨vs,h3,h4⟩:=AG.S1 (ρ:=ρ) (l:=f i) (λj v=>cs[b.ob+i*Ap+j]? =some v) λj a R=>by have ab:=(It.1 R).1;obtain⟨v,hv,W⟩:=B (i*Ap+j) a (by omega) (by rw[Gz,Rb (i:=i) (j:=j) (by omega) _ rfl];exact R);exact⟨v,by rw[Fy];exact hv,W⟩
     exact⟨vs,λ_=>⟨h3,h4⟩⟩
    ·exact⟨[],λh=>absurd h q⟩
   exact .vec _ _ _ b.b b.ob _ cs el fz (λi=>Classical.choose (y i)) K S C (λi q=>(IV (y i) q).1.mono M) (λi q=>(IV (y i) q).2)
def Vh (size k:Nat) (l:List Value):Nat->List Value:=match k with
 |1=>λ_=>l
 |_=>λi=>(l.drop (i*size)).take size
theorem p8 {ρ:Ai} {size k:Nat} {l:Aj} {vs:List Value} (h:AG ρ l vs) (i:Nat):AG ρ (chunk size k l i) (Vh size k vs i):=by
 rcases k with _|_|k
 ·exact(h.drop _).take _
 ·exact h
 ·exact(h.drop _).take _
theorem pZ {size k i j:Nat} {vs:List Value} {v:Value} (hi:i<k) (h:(Vh size k vs i)[j]? =some v):vs[i*size+j]? =some v:=by
 unfold Vh at h;split at h
 ·have:i=0:=by omega
  subst this;simpa using h
 ·rw[List.getElem?_take]at h;split at h
  ·rw[List.getElem?_drop]at h;exact h
  ·cases h
theorem pX {E:Env} {F:Nat->Option Obj} {nx:Nat} {ρ:Ai} {w:World} {H:Tr Ae} (r:Rel E F nx ρ H.get w) {ids:List Nat} (hi:Fj H ids) {id n Ap:Nat} {l:Aj} (M:id∈ids) (U:0<Ap) (S:GB H id 0 (n*Ap)=some l) {b:C3} (C:ρ id=some b) {cap:Nat} (y:n<=cap):VR (CZ ρ w ids) (.vec Ap n (chunk Ap n l)) (.slice (some ⟨b.b,b.ob,none⟩) n cap):=by
 have L:=(KB r hi).1.le;obtain⟨vs,Z,h2,Y⟩:=HZ r (HS.refl ρ H) C S;obtain⟨o,V,W⟩:=Ag.1 S;cases o with
 |cells el c z N op=>
  obtain⟨oc,hc,K⟩:=r.ob _ _ b V C;cases K with
  |cells _ _ _ _ _ cs fz Dt hn aa ab R=>
   have J:(CZ ρ w ids).st b.b=some (.cells cs el fz):=(Sx M C).trans hc;have O:∀j v,vs[j]? =some v->cs[b.ob+j]? =some v:=λj v B=>by have:=Y j v B;rw[Dq]at this;simpa[World.cell?,hc]using this
   refine .vec _ _ _ b.b b.ob _ cs el fz (λi=>Vh Ap n vs i) J U y (λi q=>(p8 Z i).mono L) λi q j v B=>?_;rw[Fy];exact O _ _ (pZ q B)
 |_=>cases W
theorem pY {E:Env} {F:Nat->Option Obj} {nx:Nat} {ρ:Ai} {w:World} {H:Tr Ae} (r:Rel E F nx ρ H.get w) {ids:List Nat} (hi:Fj H ids) {id n Ap:Nat} {l:Aj} (M:id∈ids) (V:0<Ap) (U:GB H id 0 (n*Ap)=some l) {S:Aj} (K:∀vs,AG ρ l vs->AG (CZ ρ w ids) S vs) {b:C3} (B:ρ id=some b) {cap:Nat} (q:n<=cap):VR (CZ ρ w ids) (.vec Ap n (chunk Ap n S)) (.slice (some ⟨b.b,b.ob,none⟩) n cap):=by
 obtain⟨vs,h1,h2,Z⟩:=HZ r (HS.refl ρ H) B U;obtain⟨o,W,Y⟩:=Ag.1 U;cases o with
 |cells el c z N op=>
  obtain⟨oc,hc,J⟩:=r.ob _ _ b W B;cases J with
  |cells _ _ _ _ _ cs fz Dt hn aa ab R=>
   have C:(CZ ρ w ids).st b.b=some (.cells cs el fz):=(Sx M B).trans hc;have O:∀j v,vs[j]? =some v->cs[b.ob+j]? =some v:=λj v y=>by have:=Z j v y;rw[Dq]at this;simpa[World.cell?,hc]using this
   refine .vec _ _ _ b.b b.ob _ cs el fz (λi=>Vh Ap n vs i) C V q (λi _=>p8 (K vs h1) i) λi L j v y=>?_;rw[Fy];exact O _ _ (pZ L y)
 |_=>cases Y
theorem Abo {E:Env} {F:Nat->Option Obj} {nx:Nat} {ρ:Ai} {w:World} {H:Tr Ae} (r:Rel E F nx ρ H.get w) {ids:List Nat} (hi:Fj H ids) {id n:Nat} {l:Aj} (K:id∈ids) (O:GB H id 0 n=some l) {q:Aj} (J:∀vs,AG ρ l vs->AG (CZ ρ w ids) q vs) {b:C3} (y:ρ id=some b):VR (CZ ρ w ids) (.pv q) (.pointer (some ⟨b.b,b.ob+0,none⟩)):=by
 obtain⟨vs,W,h2,V⟩:=HZ r (HS.refl ρ H) y O;obtain⟨o,R,U⟩:=Ag.1 O;cases o with
 |cells el c z N op=>
  obtain⟨oc,hc,C⟩:=r.ob _ _ b R y;cases C with
  |cells _ _ _ _ _ cs fz Dt hn Y Z M=>
   have B:(CZ ρ w ids).st b.b=some (.cells cs el fz):=(Sx K y).trans hc;have L:∀j v,vs[j]? =some v->cs[b.ob+j]? =some v:=λj v S=>by have:=V j v S;rw[Dq]at this;simpa[World.cell?,hc]using this
   exact .pv q vs b.b b.ob cs el fz B (J vs W) L
 |_=>cases U
theorem zR {ρ:Ai} {n:Nat} {l:Aj} {v:Value} (h:VR ρ (.vec 1 n (chunk 1 n l)) v) (E:l.length=n) (K:(l.all λa=>O1 [a])=true):VR ρ (.bv (l.map λa=>Jj [a])) v:=by
 have hc:∀i,i<n->∃a,l[i]? =some a/\chunk 1 n l i=[a]:=λi hi=>by
  have q:i<l.length:=by omega
  refine⟨l[i],CC q,?_⟩;rcases n with _|_|n
  ·omega
  ·have:i=0:=by omega
   subst this;show l=_
   match l,E with
   | [x],_=>rfl
  ·show(l.drop (i*1)).take 1=_;rw[Nat.mul_one,List.drop_eq_getElem_cons q];rfl
 have y:LU n (chunk 1 n l)=true:=by unfold LU;simp only[BV];intro i hi;obtain⟨a,C,B⟩:=hc i hi;rw[B];exact List.all_eq_true.1 K a (List.mem_of_getElem? C)
 have:=mc h y;have J:Gs n (chunk 1 n l)=l.map λa=>Jj [a]:=by
  apply List.ext_getElem?;intro i;unfold Gs;rw[HB,HB];by_cases hi:i<n
  ·obtain⟨a,C,B⟩:=hc i hi;rw[OI hi,C];simp[B]
  ·rw[List.getElem?_eq_none (by simp;omega),List.getElem?_eq_none (by omega)];rfl
 rw[J]at this;exact this
theorem xN {E:Env} {F:Nat->Option Obj} {nx:Nat} {ρ:Ai} {w:World} {H:Tr Ae} (r:Rel E F nx ρ H.get w) {ids:List Nat} (hi:Fj H ids) {id el n Ap N:Nat} {f:Nat->Aj} {op u:Bool} (y:id∈ids) (C:H.get id=some (.cells el .leaf (.rows Ap f) N op)) (K:n*Ap<=N) (L:u=true->Ap=1) (J:xM u Ap n f=true) {v:Value} (hv:VR ρ (.AY id n Ap) v):VR (CZ ρ w ids) (mA u Ap n f) v:=by
 cases u with
 |false=>exact xO r hi y C K J hv
 |true=>
  have:=L rfl;subst this;have B:LU n f=true:=J;have q:Ed 1 n f=true:=OX λi hi=>by
   unfold LU at B;simp only[BV]at B;have:=B i hi;unfold O1 at this;split at this
   ·rename_i M;rw[M];rfl
   ·cases this
  exact mc (xO r hi y C K q hv) B
def UI (ρ:Ai) (w:World) (H:Tr Ae) (fz:List FZ) (q:List Nat):Prop:=∀z∈fz,z.id∈q/\∀ids,Fj H ids->z.id∈ids->∀v,VR ρ (.AY z.id z.n z.Ap) v->VR (CZ ρ w ids) z.a v
def FS (H:Tr Ae) (ρ:Ai) (w:World) (y:AV->FR):Prop:=∀(a B:AV) (fz:List FZ) (q:List Nat),y a=some (true,B,fz,q)-> Fj H q/\UI ρ w H fz q/\∀ids,Fj H ids->(∀i∈q,i∈ids)->∀v,VR ρ a v->VR (CZ ρ w ids) B v
theorem MU {H:Tr Ae} {ρ:Ai} {w:World} {B:AV->FR} (E:FS H ρ w B):∀(a L:Aj) (fz:List FZ) (y:List Nat),L6 B a=some (true,L,fz,y)-> Fj H y/\UI ρ w H fz y/\∀ids,Fj H ids->(∀i∈y,i∈ids)->∀v,AG ρ a v->AG (CZ ρ w ids) L v
 | [],L,fz,y,h=>by injection (show(some (true,[],[],[]):Option (Bool×Aj×List FZ×List Nat))=_ from h)with h;injection h with _ h;injection h with R h;injection h with O K;subst R;subst O;subst K;exact⟨λi hi=>by simp at hi,λz hz=>by simp at hz,λids _ _ v hv=>by cases hv;exact .nil⟩
 |x::l,L,fz,y,h=>by
  obtain⟨⟨s1,Z,q1,i1⟩,hx,R⟩:=Ag.1 (show(ob (B x) λr=>ob (L6 B l) λq=>some (cond r.1 q.1 false,r.2.1::q.2.1,r.2.2.1++q.2.2.1,r.2.2.2++q.2.2.2))=some (true,L,fz,y)from h);obtain⟨⟨s2,l',q2,i2⟩,hl,O⟩:=Ag.1 R;obtain⟨V,U,K⟩:=K6 O;injection K with K M;injection M with M S;simp only at V U K M S;subst V;subst U;subst K;subst M;subst S;obtain⟨a1,Y,a3⟩:=E x Z q1 i1 hx;obtain⟨b1,W,b3⟩:=MU E l l' q2 i2 hl;refine⟨λi hi=>?_,λz hz=>?_,λids J C v hv=>?_⟩
  ·rcases List.mem_append.1 hi with h|h
   ·exact a1 i h
   ·exact b1 i h
  ·rcases List.mem_append.1 hz with h|h
   ·exact⟨List.mem_append_left _ (Y z h).1,(Y z h).2⟩
   ·exact⟨List.mem_append_right _ (W z h).1,(W z h).2⟩
  ·cases hv with
   |cons _ u _ us h6 h7=>exact .cons _ _ _ _ (a3 ids J (λi hi=>C i (List.mem_append_left _ hi)) u h6) (b3 ids J (λi hi=>C i (List.mem_append_right _ hi)) us h7)
theorem AcZ {P:Program} {E:Env} {F:Nat->Option Obj} {nx:Nat} {ρ:Ai} {w:World} {H:Tr Ae} (r:Rel E F nx ρ H.get w) {af:AV->FR} (U:FS H ρ w af):FS H ρ w (J1 P H af)
 |.AY id n Ap,V,fz,J,h=>by
  simp only[J1]at h;obtain⟨o,ho,K⟩:=Ag.1 h;split at K
  ·rename_i el c z N op;split at K
   ·rename_i e f;obtain⟨he,M⟩:=AL.1 K;rw[AN]at he;subst he;rw[iq]at M;obtain⟨e1,e2,S⟩:=K6 M;injection S with S Y;injection Y with Y h5;subst S;subst Y;subst h5;rw[Nat.ble_eq]at e1;have hu:(cond (Nat.beq e 1) (SL P el) false)=true->e=1:=λhu=>by obtain⟨K,_⟩:=Bf hu;rwa[AN]at K
    refine⟨λi hi=>?_,λz hz=>?_,λids C B v hv=>xN r C (B _ (BN ..)) ho e1 hu e2 hv⟩
    ·rw[DE]at hi;subst hi;exact⟨_,ho⟩
    ·rw[DE]at hz;subst hz;exact⟨BN ..,λids C ah v hv=>xN r C ah ho e1 hu e2 hv⟩
   ·cases K
  ·cases K
 |.sl id off n cap,V,fz,J,h=>by
  simp only[J1]at h;obtain⟨W,K⟩:=AL.1 h;obtain⟨W,ad⟩:=Bf W;rw[AN]at W;subst W;rw[Nat.ble_eq]at ad;obtain⟨o,ho,M⟩:=Ag.1 K;split at M
  ·rename_i el c z N op;obtain⟨i,hi,S⟩:=Ag.1 M;obtain⟨hs,Y⟩:=AL.1 S;obtain⟨l,hl,h5⟩:=Ag.1 Y;obtain⟨ae,R⟩:=AL.1 h5;rw[Co]at hs;rw[iq]at R;have C:Fj H [id]:=λi hi=>by rw[DE]at hi;subst hi;exact⟨_,ho⟩
   have vec:∀ids,Fj H ids->(∀i∈[id],i∈ids)->∀v,VR ρ (.sl id 0 n cap) v->VR (CZ ρ w ids) (.vec i.size n (chunk i.size n l)) v/\l.length=n*i.size:=λids C B v hv=>by
    cases hv with
    |sl _ _ _ _ b hb=>obtain⟨vs,g1,g2,_⟩:=HZ r (HS.refl ρ H) hb hl;exact⟨pX r C (B _ (BN ..)) hs hl hb ad,by rw[g1.length,g2]⟩
   cases hu:(cond (Nat.beq i.size 1) (SL P el) false)with
   |false=>
    rw[hu,cond_false]at R;obtain⟨⟨s2,l',q2,i2⟩,ab,L⟩:=Ag.1 R;injection L with L;injection L with h8 L;injection L with h9 L;injection L with aa Z;simp only at h8 h9 aa Z;subst h8;subst h9;subst aa;subst Z;obtain⟨b1,b2,b3⟩:=MU U l l' q2 i2 ab;refine⟨λi hi=>?_,λz hz=>⟨Ca _ (b2 z hz).1,(b2 z hz).2⟩,λids O B v hv=>?_⟩
    ·rcases CS.1 hi with rfl|hi
     ·exact⟨_,ho⟩
     ·exact b1 i hi
    ·cases hv with
     |sl _ _ _ _ b hb=>exact pY r O (B _ (BN ..)) hs hl (λvs Ax=>b3 ids O (λi hi=>B i (Ca _ hi)) vs Ax) hb ad
   |true=>rw[hu,cond_true]at R;injection R with R;injection R with hb R;injection R with R L;injection L with L h8;subst R;subst L;subst h8;obtain⟨K,_⟩:=Bf hu;rw[AN]at K;refine⟨C,λz hz=>by simp at hz,λids C B v hv=>?_⟩;obtain⟨g1,g2⟩:=vec ids C B v hv;rw[K]at g1 g2;exact zR g1 (by omega) hb
  ·cases M
 |.BF id off n Ap,V,fz,J,h=>by
  simp only[J1]at h;obtain⟨W,K⟩:=AL.1 h;rw[AN]at W;subst W;obtain⟨o,ho,M⟩:=Ag.1 K;split at M
  ·rename_i el c z N op;obtain⟨l,hl,h5⟩:=Ag.1 M;obtain⟨ae,R⟩:=AL.1 h5;rw[iq]at R;have C:Fj H [id]:=λi hi=>by rw[DE]at hi;subst hi;exact⟨_,ho⟩
   have vec:∀ids,Fj H ids->(∀i∈[id],i∈ids)->∀v,VR ρ (.BF id 0 n Ap) v->VR (CZ ρ w ids) (.vec Ap n (chunk Ap n l)) v/\l.length=n*Ap:=λids C B v hv=>by
    cases hv with
    |BF _ _ _ _ b hb he ag=>obtain⟨vs,g1,g2,_⟩:=HZ r (HS.refl ρ H) hb hl;refine⟨?_,by rw[g1.length,g2]⟩;rw[Nat.add_zero,Nat.sub_zero];exact pX r C (B _ (BN ..)) he hl hb (by rw[Nat.le_div_iff_mul_le he];omega)
   cases hu:(cond (Nat.beq Ap 1) (SL P el) false)with
   |false=>
    rw[hu,cond_false]at R;obtain⟨⟨s2,l',q2,i2⟩,ab,L⟩:=Ag.1 R;injection L with L;injection L with h8 L;injection L with h9 L;injection L with aa Z;simp only at h8 h9 aa Z;subst h8;subst h9;subst aa;subst Z;obtain⟨b1,b2,b3⟩:=MU U l l' q2 i2 ab;refine⟨λi hi=>?_,λz hz=>⟨Ca _ (b2 z hz).1,(b2 z hz).2⟩,λids O B v hv=>?_⟩
    ·rcases CS.1 hi with rfl|hi
     ·exact⟨_,ho⟩
     ·exact b1 i hi
    ·cases hv with
     |BF _ _ _ _ b hb he ag=>rw[Nat.add_zero,Nat.sub_zero];exact pY r O (B _ (BN ..)) he hl (λvs Ax=>b3 ids O (λi hi=>B i (Ca _ hi)) vs Ax) hb (by rw[Nat.le_div_iff_mul_le he];omega)
   |true=>rw[hu,cond_true]at R;injection R with R;injection R with hb R;injection R with R L;injection L with L h8;subst R;subst L;subst h8;obtain⟨K,_⟩:=Bf hu;rw[AN]at K;subst K;refine⟨C,λz hz=>by simp at hz,λids C B v hv=>?_⟩;obtain⟨g1,g2⟩:=vec ids C B v hv;exact zR g1 (by omega) hb
  ·cases M
 |.ptr id off,V,fz,J,h=>by
  simp only[J1]at h;obtain⟨W,K⟩:=AL.1 h;rw[AN]at W;subst W;obtain⟨o,ho,M⟩:=Ag.1 K;split at M
  ·rename_i el c z n op;obtain⟨l,hl,h5⟩:=Ag.1 M;obtain⟨ae,R⟩:=AL.1 h5;obtain⟨⟨s2,l',q2,i2⟩,ab,L⟩:=Ag.1 R;injection L with L;injection L with h8 L;injection L with h9 L;injection L with aa Z;simp only at h8 h9 aa Z;subst h8;subst h9;subst aa;subst Z;obtain⟨b1,b2,b3⟩:=MU U l l' q2 i2 ab;refine⟨λi hi=>?_,λz hz=>⟨Ca _ (b2 z hz).1,(b2 z hz).2⟩,λids O B v hv=>?_⟩
   ·rcases CS.1 hi with rfl|hi
    ·exact⟨_,ho⟩
    ·exact b1 i hi
   ·cases hv with
    |ptr _ _ b hb=>exact Abo r O (B _ (BN ..)) hl (λvs Ax=>b3 ids O (λi hi=>B i (Ca _ hi)) vs Ax) hb
  ·cases M
 |.agg l,V,fz,J,h=>by
  simp only[J1]at h;obtain⟨⟨s,l',q,i⟩,hl,K⟩:=Ag.1 h;injection K with K;injection K with K M;injection M with M S;injection S with S Y;simp only at K M S Y;subst K;subst M;subst S;subst Y;obtain⟨h5,R,L⟩:=MU U l l' q i hl;refine⟨h5,R,λids C B v hv=>?_⟩;cases hv with
  |agg _ vs Ax=>exact .agg _ _ (L ids C B vs Ax)
 |.AO l,V,fz,J,h=>by
  simp only[J1]at h;obtain⟨⟨s,l',q,i⟩,hl,K⟩:=Ag.1 h;injection K with K;injection K with K M;injection M with M S;injection S with S Y;simp only at K M S Y;subst K;subst M;subst S;subst Y;obtain⟨h5,R,L⟩:=MU U l l' q i hl;refine⟨h5,R,λids C B v hv=>?_⟩;cases hv with
  |AO _ vs Ax=>exact .AO _ _ (L ids C B vs Ax)
 |.iface t x,V,fz,J,h=>by
  simp only[J1]at h;obtain⟨⟨s,x',q,i⟩,hl,K⟩:=Ag.1 h;injection K with K;injection K with K M;injection M with M S;injection S with S Y;simp only at K M S Y;subst K;subst M;subst S;subst Y;obtain⟨h5,R,L⟩:=U x x' q i hl;refine⟨h5,R,λids C B v hv=>?_⟩;cases hv with
  |iface _ _ u hu=>exact .iface _ _ _ (L ids C B u hu)
 |.fn (.func g) x y,V,fz,J,h=>by
  simp only[J1]at h;obtain⟨⟨s1,x',q1,i1⟩,hx,K⟩:=Ag.1 h;obtain⟨⟨s2,y',q2,i2⟩,hy,M⟩:=Ag.1 K;obtain⟨e1,e2,S⟩:=K6 M;injection S with S Y;injection Y with Y h5;simp only at e1 e2 S Y h5;subst e1;subst e2;subst S;subst Y;subst h5;obtain⟨a1,a2,a3⟩:=MU U x x' q1 i1 hx;obtain⟨b1,b2,b3⟩:=MU U y y' q2 i2 hy;refine⟨λi hi=>?_,λz hz=>?_,λids C B v hv=>?_⟩
  ·rcases List.mem_append.1 hi with h|h
   ·exact a1 i h
   ·exact b1 i h
  ·rcases List.mem_append.1 hz with h|h
   ·exact⟨List.mem_append_left _ (a2 z h).1,(a2 z h).2⟩
   ·exact⟨List.mem_append_right _ (b2 z h).1,(b2 z h).2⟩
  ·cases hv with
   |fn _ _ _ va vc R L=>exact .fn _ _ _ _ _ (a3 ids C (λi hi=>B i (List.mem_append_left _ hi)) va R) (b3 ids C (λi hi=>B i (List.mem_append_right _ hi)) vc L)
 |.sle id,V,fz,J,h=>by simp only[J1]at h;injection h with h;injection h with _ h;injection h with K h;injection h with M S;subst K;subst M;subst S;exact⟨λi hi=>by simp at hi,λz hz=>by simp at hz,λids _ _ v hv=>by cases hv;exact .Gt _ _ _ rfl _ _⟩
 |.bool _,V,fz,J,h|.int _ _,V,fz,J,h|.str _ _,V,fz,J,h|.bs _,V,fz,J,h|.bv _,V,fz,J,h|.vec _ _ _,V,fz,J,h|.pv _,V,fz,J,h|.FY _ _ _,V,fz,J,h
 |.EC,V,fz,J,h|.Ay,V,fz,J,h|.E8,V,fz,J,h|.GD,V,fz,J,h|.EL,V,fz,J,h=>by simp only[J1]at h;injection h with h;injection h with _ h;injection h with K h;injection h with M S;subst K;subst M;subst S;exact⟨λi hi=>by simp at hi,λz hz=>by simp at hz,λids C _ v hv=>hv.mono (KB r C).1.le⟩
 |.map _,_,_,_,h|.Dx _,_,_,_,h|.Gp _ _,_,_,_,h|.ML,_,_,_,h|.chan _,_,_,_,h|.GM _ _ _ _,_,_,_,h=>by simp[J1]at h
 |.fn (.method _) _ _,_,_,_,h|.fn (.methodOf _ _) _ _,_,_,_,h|.fn (.via _ _ _ _) _ _,_,_,_,h|.fn (.yield _) _ _,_,_,_,h=>by simp[J1]at h
theorem Qj {P:Program} {E:Env} {F:Nat->Option Obj} {nx:Nat} {ρ:Ai} {w:World} {H:Tr Ae} (r:Rel E F nx ρ H.get w):FS H ρ w (Jn P H):=by
 have key:∀k,FS H ρ w (sn P H k):=λk=>by
  induction k with
  |zero=>intro a B fz q h;cases h
  |succ k y=>exact AcZ r y
 exact key 12
theorem sm {P:Program} {E:Env} {F:Nat->Option Obj} {nx:Nat} {ρ:Ai} {w:World} {H:Tr Ae} (r:Rel E F nx ρ H.get w):∀(a y:Aj) (fz:List FZ) (q:List Nat),Qi P H a=some (true,y,fz,q)-> Fj H q/\UI ρ w H fz q/\∀ids,Fj H ids->(∀i∈q,i∈ids)->∀v,AG ρ a v->AG (CZ ρ w ids) y v:=MU (Qj r)
def AdA (a:AV):Bool:=match a with
 |.ptr _ _=>true
 |.AY _ _ _=>true
 |.sl _ _ _ _=>true
 |.BF _ _ _ _=>true
 |_=>false
def tV (H:Tr Ae) (id:Nat):Bool:=match H.get id with
 |some (.cells _ _ _ n _)=>match GB H id 0 n with
  |some l=>l.any AdA
  |none=>false
 |_=>false
def mI (P:Program) (H:Tr Ae) (ni:Nat) (y:List TypeId) (xs:Aj):Option (Bool×AV×Tr Ae):=
 match xs with
 | [.AY a b c,.sl id off k cap]=>cond (tV H id) (ob (Jn P H (.sl id off k cap)) λr=>ob (Wx P (C8 H r.2.2.2) ni y [.AY a b c,r.2.1]) λq=>some (cond r.1 q.1 false,q.2.1,q.2.2)) (Wx P H ni y [.AY a b c,.sl id off k cap])
 |xs=>Wx P H ni y xs
theorem Ajy {P:Program} {E:Env} {F:Nat->Option Obj} {nx nx':Nat} {ρ:Ai} {w:World} {H H':Tr Ae} (r:Rel E F nx ρ H.get w) {ni:Nat} (L:ρ ni=none) (K:nx<=nx') (C:ni<nx') {ts:List TypeId} {xs:Aj} {us:List Value} {a:AV} (O:AG ρ xs us) (y:mI P H ni ts xs=some (true,a,H')) (ty:TypeId): ∃v w' B,(Builtin.append_ ts.toArray ty us.toArray).run P w=.ok v w'/\Rel E F nx' B H'.get w'/\(ρ.le B/\∀x,x≠ni->B x=ρ x)/\VR B a v:=by
 unfold mI at y;split at y
 ·rename_i i0 n0 e0 id off k cap;cases hh:tV H id with
  |false=>rw[hh]at y;exact mJ r L K C O y ty
  |true=>
   rw[hh,cond_true]at y;obtain⟨⟨b,x',fz,ids⟩,hf,h1⟩:=Ag.1 y;obtain⟨⟨q,av,Hq⟩,hq,h2⟩:=Ag.1 h1;obtain⟨e1,e2,W⟩:=K6 h2;injection W with W h4;simp only at e1 e2 W h4;subst e1;subst e2;subst W;subst h4;obtain⟨J,_,S⟩:=Qj r _ _ _ _ hf;obtain⟨R,M⟩:=KB r J;cases O with
   |cons _ u1 _ ab Z V=>cases V with
    |cons _ u2 _ aa Y U=>cases U;obtain⟨v,w',B,g1,g2,g3,g4⟩:=mJ M (ni:=ni) L K C (.cons _ _ _ _ (Z.mono R.le) (.cons _ _ _ _ (S ids J (λ_ h=>h) u2 Y) .nil)) hq ty;exact⟨v,w',B,g1,g2,⟨Ai.le_trans R.le g3.1,λx O=>g3.2 x O⟩,g4⟩
 ·exact mJ r L K C O y ty
def JG (P:Program) (X:Operand->Option AV) (H:Tr Ae) (ni:Nat) (op:Op):Option (Bool×AV×Tr Ae):=
 match op with
 |.store t x v=>ob (X x) λa=>ob (X v) λb=>ob (mY P H t a b) λr=>some (r.1,.AO [],r.2)
 |.call c=>match c.callee with
  |.builtin .append=>ob (Gf X c.args.toList) λq=>mI P H ni c.argTypes.toList q
  |_=>none
 |_=>none
end Go.Ev
end
section
namespace Go.Ev
inductive PL where
 |mark (id:Nat)
 |call (g:FuncId) (args:List AV)
structure St where
 N:Nat
 T:Tr AV
 H:Tr Ae
 nx:Nat
 ro:Option Nat
 D:List PL
inductive AX where
 |Bc
 |exit (id:Nat)
 |goto (l:Nat)
 |ret
 |AB (v:AV)
inductive CR where
 |mk (v:AV) (H:Tr Ae) (nx:Nat)
 |AB (v:AV) (H:Tr Ae) (nx:Nat)
 |Df (g:FuncId) (args:List AV) (H:Tr Ae) (nx:Nat)
inductive MD where
 |ret
 |AB (v:AV)
 |Kf (v:AV)
inductive Le where
 |fn (f:FuncId) (args:List AV)
 |Dx (id:Nat) (args:List AV)
abbrev D7:=Le->Tr Ae->Nat->Option CR
def Jm (f:AV) (args:Aj):Option Le:=
 match f with
 |.fn (.func g) first cap=>some (.fn g (first++(args++cap)))
 |.Dx id=>some (.Dx id args)
 |_=>none
def iK (P:Program) (H:Tr Ae) (y:List TypeId) (q:Aj):Option (AV×Tr Ae):=
 match y,q with
 |t::_,[d,s]=>ob (P.underlying t) λB=>match B with
  |.slice el=>ob (P.info? el) λi=>ob (Yp H i.size s) λp=>match d with
   |.sl id off n _=>gd (Nat.ble p.1 n) (ob (Sv H id off p.2) λH'=>fN p.1 λm=>some (.int .i64 (.ofNat m),H'))
   |.BF id off n _=>gd (Nat.ble p.1 n) (ob (Sv H id off p.2) λH'=>fN p.1 λm=>some (.int .i64 (.ofNat m),H'))
   |.Ay=>gd (Nat.beq p.1 0) (some (.int .i64 (.ofNat 0),H))
   |_=>none
  |_=>none
 |_,_=>none
def YY (seen:List Nat) (y:List DW):List DW:=List.rec (motive:=λ_=>List DW) [] (λe _ q=>cond (seen.contains e.born) q (e::q)) y
def fJ (f:DW->Bool) (l:List DW):Bool:=List.rec (motive:=λ_=>Bool) true (λa _ q=>cond (f a) q false) l
def sP (H:Tr Ae) (a:AV) (As:Bool):Option (AV×Tr Ae):=
 match a with
 |.ptr id 0=>ob (H.get id) λo=>match o,As with
  |.Mt l n pos,true=>cond (Nat.blt pos l) (fN (n/256^pos %256) λc=>gd (Nat.blt c 128) (fN (pos+1) λp=>some (.AO [.bool true,.int .i64 (.ofNat pos),.int .i32 (.ofNat c)],H.set id (.Mt l n p))))
    (some (.AO [.bool false],H))
  |.O3,false=>some (.AO [.bool false],H)
  |.IA mid since seen last,false=>ob (H.get mid) λm=>match m with
   |.map es q=>gd (cond seen.isEmpty true (cond es.isEmpty true (!fJ (λe=>Nat.ble last e.born) es))) (match YY seen es with
    | []=>some (.AO [.bool false],H)
    | [e]=>gd (Nat.blt e.born since) (some (.AO [.bool true,e.key,e.val],H.set id (.IA mid since (seen++[e.born]) q)))
    |_=>none)
   |_=>none
  |_,_=>none
 |_=>none
def iI (P:Program) (H:Tr Ae) (ni nx:Nat) (t:Le):Option CR:=
 match t with
 | .fn g [.iface ty (.map id)] => ob (P.funcs[g]?) fun fn => gd fn.body.isNone (gd (fn.origin == "") (gd (fn.name == "maps.clone") (ob (H.get id) fun o => match o with
  |.map es clock=>some (.mk (.iface ty (.map ni)) (H.set ni (.map es clock)) nx)
  |_=>none)))
 |_=>none
def GC (P:Program) (call:D7) (X:Operand->Option AV) (H:Tr Ae) (ni nx:Nat) (op:Op):Option CR:=
 match op with
 |.store t x v=>ob (X x) λa=>ob (X v) λb=>ob (ie P H t a b) λH'=>some (.mk (.AO []) H' nx)
 |.mapUpdate t m k v=>ob (X m) λa=>ob (X k) λb=>ob (X v) λc=>ob (Sq P H t a b c) λH'=>some (.mk (.AO []) H' nx)
 |.insert t m k v=>ob (X m) λa=>ob (X k) λb=>ob (X v) λc=>ob (Sq P H t a b c) λH'=>some (.mk (.AO []) H' nx)
 |.call c=>match c.callee with
  |.builtin .append=>ob (Gf X c.args.toList) λy=>ob (iD P H ni c.argTypes.toList y) λr=>some (.mk r.1 r.2 nx)
  |.value f=>ob (X f) λf=>ob (Gf X c.args.toList) λy=>ob (Jm f y) λr=>Option.rec (motive:=λ_=>Option CR) (iI P H ni nx r) (λc=>some c) (call r H nx)
  |.builtin .copy=>ob (Gf X c.args.toList) λy=>ob (iK P H c.argTypes.toList y) λr=>some (.mk r.1 r.2 nx)
  |.builtin .panic=>ob (Gf X c.args.toList) λy=>match y with
   |.iface t v::_=>some (.AB (.iface t v) H nx)
   |_=>none
  |_=>none
 |.next x As=>ob (X x) λa=>ob (sP H a As) λr=>some (.mk r.1 r.2 nx)
 |.range t x=>ob (X x) λa=>ob (P.underlying t) λd=>match d,a with
  |.map _ _,.map id=>ob (H.get id) λo=>match o with
   |.map _ q=>some (.mk (.ptr ni 0) (H.set ni (.IA id q [] q)) nx)
   |_=>none
  |_,_=>none
 |.convert s d x=>ob (X x) λa=>match a with
  |.sl id off len cap=>gd (Nat.beq s d) (ob (P.underlying d) λB=>match B with
   |.slice e=>ob (P.underlying e) λde=>match de with
    |.int .u8=>ob (H.get id) λo=>match o with
     |.cells _ _ _ _ _=>some (.mk (.sl id off len cap) H nx)
     |_=>none
    |_=>none
   |_=>none)
  |_=>none
 |.panic x=>ob (X x) λa=>match a with
  |.iface t v=>some (.AB (.iface t v) H nx)
  |_=>none
 |.defer c=>match c.callee with
  |.value f=>ob (X f) λf=>ob (Gf X c.args.toList) λy=>ob (Jm f y) λr=>match r with
   |.fn g args=>some (.Df g args H nx)
   |_=>none
  |_=>none
 |_=>none
def FQ (P:Program) (call:D7) (X:Operand->Option AV) (H:Tr Ae) (ni nx:Nat) (op:Op):Option CR:=Option.rec (motive:=λ_=>Option CR) (GC P call X H ni nx op) (λr=>cond r.1 (some (.mk r.2.1 r.2.2 nx)) (GC P call X H ni nx op)) (JG P X H ni op)
theorem x5 {P:Program} {call:D7} {X:Operand->Option AV} {H:Tr Ae} {ni nx:Nat} {op:Op} {r:AV×Tr Ae} (h:JG P X H ni op=some (true,r)):FQ P call X H ni nx op=some (.mk r.1 r.2 nx):=by unfold FQ;rw[h];rfl
theorem VC {P:Program} {call:D7} {X:Operand->Option AV} {H:Tr Ae} {ni nx:Nat} {op:Op} {r:CR} (h:JG P X H ni op=none) (q:GC P call X H ni nx op=some r):FQ P call X H ni nx op=some r:=by unfold FQ;rw[h];exact q
def MP (P:Program) (call:D7) (X:Operand->Option AV) (H:Tr Ae) (ni nx nx':Nat) (op:Op):Option CR:=Option.rec (motive:=λ_=>Option CR) (Option.rec (motive:=λ_=>Option CR) (FQ P call X H ni nx' op) (λp=>some (.mk p.1 (H.set ni p.2) nx')) (EJ P X ni op)) (λv=>some (.mk v H nx)) (Ds P H X op)
def E7 (ops:Array Oper) (T:Tr AV) (o:Oper):Option Bool:=
 match o.guard with
 |none=>some true
 |some (j,q)=>ob (ops[j]?) λy=>ob y.dst λd=>ob (T.get d) λv=>match v with
  |.bool b=>some (cond b q (!q))
  |_=>some false
def Jl (N:Nat) (T:Tr AV) (dst:Option Tmp) (v:AV):Option (Tr AV):=
 match dst with
 |none=>some T
 |some d=>gd (Nat.blt d N) (some (T.set d v))
inductive o3 where
 |mk (x:AX) (s:St)
def LF:Op->Bool
 |.load _ _=>true
 |.lookup _ _ _ _=>true
 |.convert _ _ _=>true
 |.call _=>true
 |.entry _=>true
 |_=>false
inductive DK where
 |off
 |pure
 |new (o:Ae)
 |DN
 |dead
 |AB (v:AV) (H:Tr Ae) (nx:Nat)
structure PN where
 p:Nat
 A:Nat
 v:AV
 H:Tr Ae
 nx:Nat
structure IU where
 i:Nat
 o:Oper
 A:Nat
 T:Tr AV
 k:DK
 v:AV
 H:Tr Ae
 cc:Nat
structure DS where
 reads:List IU
 news:List IU
 Ax:List IU
 T:Tr AV
 H:Tr Ae
 nx:Nat
 cc:Nat
 pn:Option PN
def tb (m i:Nat):Bool:=Nat.beq (Nat.land (Nat.shiftRight m i) 1) 1
def V1 (y:Tr Nat) (p:Nat) (l:List Edge):Nat->Option Nat:=List.rec (motive:=λ_=>Nat->Option Nat) (λm=>some m) (λe _ q m=>cond (Region.binds .any e) (gd (Nat.blt e.on p) (ob (y.get e.on) λb=>fN (Nat.lor (Nat.lor m (2^e.on)) b) q)) (q m)) l
def kH (l:List Oper):Nat->Tr Nat->Option (Tr Nat):=List.rec (motive:=λ_=>Nat->Tr Nat->Option (Tr Nat)) (λ_ y=>some y) (λo _ B p y=>ob (V1 y p o.after.toList 0) λA=>fN (p+1) λq=>B q (y.set p A)) l
def Za (l:List Oper):Nat->Tr Nat->Option (Tr Nat):=List.rec (motive:=λ_=>Nat->Tr Nat->Option (Tr Nat)) (λ_ D=>some D) (λo _ y p D=>fN (p+1) λq=>match o.dst with
   |none=>y q D
   |some d=>gd (D.get d).isNone (y q (D.set d p))) l
def opsL:Op->Option (List Operand)
 |.alloc _=>some []
 |.move x|.assign x|.box _ x|.load _ x|.nilCheck x|.unOp _ _ x|.convert _ _ x|.makeInterface _ x|.fieldAddr _ x _|.field _ x _|.extract x _|.typeAssert x _ _ _|.makeChan _ x|.range _ x|.next x _|.entry x=>some [x]
 |.pick c a b=>some [c,a,b]
 |.build _ q|.buildSlice _ _ q=>some (q.toList.map (·.2))
 |.store _ a v|.binOp _ _ a v _|.makeSlice _ a v|.indexAddr _ a v|.index _ a v|.lookup _ a v _=>some [a,v]
 |.makeFunc _ first captured=>some (first.toList++captured.toList)
 |.makeMap _ r=>some r.toList
 |.slice _ x l h m=>some (x::(l.toList++(h.toList++m.toList)))
 |.mapUpdate _ m k v|.insert _ m k v=>some [m,k,v]
 |.call c=>match c.callee with
  |.value f=>some (f::c.args.toList)
  |.builtin _=>some c.args.toList
  |.invoke _ _=>none
 |_=>none
def VZ (D:Tr Nat) (q:Tr Nat) (i A:Nat) (d:Nat):Bool:=Option.rec (motive:=λ_=>Bool) true (λk=>cond (Nat.beq k i) true (cond (tb A k) true (Option.rec (motive:=λ_=>Bool) false (λB=>tb B i) (q.get k)))) (D.get d)
def FA {α:Type} (f:α->Bool) (l:List α):Bool:=List.rec (motive:=λ_=>Bool) true (λa _ q=>cond (f a) q false) l
def SP (ops:Array Oper) (D q:Tr Nat) (i:Nat) (o:Oper):Bool:=Option.rec (motive:=λ_=>Bool) false (λA=>Option.rec (motive:=λ_=>Bool) false (λl=>
  cond (FA (λx=>match x with
   |.tmp d=>VZ D q i A d
   |_=>true) l) (match o.guard with
    |none=>true
    |some (j,_)=>Option.rec (motive:=λ_=>Bool) true (λy=>match y.dst with
     |none=>true
     |some d=>VZ D q i A d) ops[j]?) false) (opsL o.op)) (q.get i)
def jw (ops:Array Oper) (D y:Tr Nat) (l:List Oper):Nat->Bool:=List.rec (motive:=λ_=>Nat->Bool) (λ_=>true) (λo _ q i=>cond (SP ops D y i o) (fN (i+1) q) false) l
def Vl (ops:Array Oper):Option (Tr Nat):=ob (kH ops.toList 0 .leaf) λq=>ob (Za ops.toList 0 .leaf) λD=>gd (jw ops D q ops.toList 0) (some q)
def Ho (Ax:List IU) (c j:Nat):Bool:=FA (λh=>cond (Nat.blt h.i c) (!tb h.A j) true) Ax
def D5 (news Ax:List IU) (A c y:Nat) (H:Tr Ae):Tr Ae:=List.rec (motive:=λ_=>Tr Ae) H (λr _ q=>match r.k with
  |.new o=>cond (tb A r.i) (cond (Ho Ax c r.i) (fN (y+r.i) λx=>q.set x o) q) q
  |_=>q) news
def MA (news Ax:List IU) (n y:Nat) (H:Tr Ae):Tr Ae:=List.rec (motive:=λ_=>Tr Ae) H (λr _ q=>match r.k with
  |.new o=>cond (Ho Ax n r.i) (fN (y+r.i) λx=>q.set x o) q
  |_=>q) news
def HY (N p:Nat) (o:Oper) (A:Nat) (q:DS) (k:DK) (v:AV) (H:Tr Ae) (nx cc:Nat):Option DS:=ob (Jl N q.T o.dst v) λT=>some (match k with
  |.off=>⟨q.reads,q.news,q.Ax,T,H,nx,cc,q.pn⟩
  |.pure=>cond (LF o.op) ⟨⟨p,o,A,q.T,.pure,v,H,cc⟩::q.reads,q.news,q.Ax,T,H,nx,cc,q.pn⟩ ⟨q.reads,q.news,q.Ax,T,H,nx,cc,q.pn⟩
  |.new b=>⟨q.reads,⟨p,o,A,q.T,.new b,v,H,cc⟩::q.news,q.Ax,T,H,nx,cc,q.pn⟩
  |.DN=>⟨q.reads,q.news,⟨p,o,A,q.T,.DN,v,H,cc⟩::q.Ax,T,H,nx,cc,q.pn⟩
  |.dead=>⟨q.reads,q.news,q.Ax,T,H,nx,cc,q.pn⟩
  |.AB y H' nx'=>⟨q.reads,q.news,q.Ax,T,H,nx,cc,some ⟨p,A,y,H',nx'⟩⟩)
def Qs (pn:Option PN) (A:Nat):Bool:=Option.rec (motive:=λ_=>Bool) false (λq=>tb A q.p) pn
def Sg (P:Program) (call:D7) (ops:Array Oper) (N B:Nat) (E:Tr Nat) (p:Nat) (o:Oper) (y:DS):Option DS:=ob (E.get p) λA=>cond (Qs y.pn A) (HY N p o A y .dead (.AO []) y.H y.nx y.cc) <| ob (E7 ops y.T o) λC=>cond C (Option.rec (motive:=λ_=>Option DS) (fN (B+p) λni=>Option.rec (motive:=λ_=>Option DS) (gd (FA (λh=>tb A h.i) y.Ax) (gd y.pn.isNone <| ob (FQ P call (B6 y.T) (D5 y.news y.Ax A p B y.H) ni y.nx o.op) λr=>CR.rec (motive:=λ_=>Option DS) (λv H nx=>fN (p+1) λcc=>HY N p o A y .DN v H nx cc) (λv H nx=>HY N p o A y (.AB v H nx) (.AO []) y.H y.nx y.cc) (λ_ _ _ _=>none) r)) (λq=>HY N p o A y (.new q.2) q.1 y.H y.nx y.cc) (EJ P (B6 y.T) ni o.op)) (λv=>HY N p o A y .pure v y.H y.nx y.cc) (Ds P (D5 y.news y.Ax A p B y.H) (B6 y.T) o.op)) (HY N p o A y .off (.AO []) y.H y.nx y.cc)
def Qd (P:Program) (call:D7) (ops:Array Oper) (N C:Nat) (J:Tr Nat) (l:List Oper):Nat->DS->Option DS:=List.rec (motive:=λ_=>Nat->DS->Option DS) (λ_ y=>some y) (λo _ E p y=>ob (Sg P call ops N C J p o y) λB=>fN (p+1) λq=>E q B) l
open Classical in
def mZ (a b:AV):Bool:=Cw a b||decide (a=b)
theorem m2 {a b:AV}:mZ a b=true↔a=b:=by
 unfold mZ;constructor
 ·intro h;rcases Bool.or_eq_true _ _▸h with h|h
  ·exact RQ _ _ h
  ·simpa using h
 ·intro h;simp[h]
def Wq (P:Program) (q:DS) (y:Nat) (r:IU) (c:Nat) (H:Tr Ae):Bool:=cond (Nat.beq c r.cc) true (cond (Ho q.Ax c r.i) (cond (FA (λh=>cond (tb r.A h.i) (Nat.blt h.i c) true) q.Ax) (Option.rec (motive:=λ_=>Bool) false (λv=>mZ v r.v) (Ds P (D5 q.news q.Ax r.A c y H) (B6 r.T) r.o.op)) true) true)
def Zb (q:DS) (y:Nat) (r:IU) (c:Nat) (H:Tr Ae):Bool:=cond (Ho q.Ax c r.i) (fN (y+r.i) λx=>(H.get x).isNone) true
def R6 (P:Program) (q:DS) (y:Nat) (c:Nat) (H:Tr Ae):Bool:=cond (FA (λr=>Wq P q y r c H) q.reads) (FA (λr=>Zb q y r c H) q.news) false
def X6 (P:Program) (q:DS) (y:Nat) (B:Tr Ae):Bool:=cond (R6 P q y 0 B) (FA (λh=>R6 P q y h.cc h.H) q.Ax) false
def Ky (A:Nat) (l:List Oper):Nat->Tr AV->Tr AV:=List.rec (motive:=λ_=>Nat->Tr AV->Tr AV) (λ_ T=>T) (λo _ y k T=>fN (k+1) λq=>match o.dst with
   |none=>y q T
   |some d=>cond (tb A k) (y q T) (y q (T.del d))) l
def iL (P:Program) (call:D7) (ops:Array Oper) (s:St):Option o3:=ob (Vl ops) λC=>fN ops.size λn=>fN (s.nx+n) λB=>ob (Qd P call ops s.N s.nx C ops.toList 0 ⟨[],[],[],s.T,s.H,B,0,none⟩) λy=>
  gd (X6 P y s.nx s.H) (Option.rec (motive:=λ_=>Option o3) (some (.mk .Bc ⟨s.N,y.T,MA y.news y.Ax n s.nx y.H,y.nx,s.ro,s.D⟩)) (λq=>some (.mk (.AB q.v) ⟨s.N,Ky q.A ops.toList 0 y.T,q.H,q.nx,s.ro,s.D⟩)) y.pn)
def Y2 (H:Tr Ae) (id:Nat) (f:LoopState->Option Code->Option (LoopState×Option Code)):Option (Tr Ae):=ob (H.get id) λo=>match o with
  |.loop st Dv T N y q body d=>ob (f st Dv) λp=>some (H.set id (.loop p.1 p.2 T N y q body d))
  |_=>none
def je (c:Option Code):Option AX:=
 match c with
 |none=>some .Bc
 |some .ret=>some .ret
 |some (.exit id)=>some (.exit id)
 |some (.goto l)=>some (.goto l)
 |_=>none
def AX.jump:AX->Option Code
 |.Bc=>none
 |.exit id=>some (.exit id)
 |.goto l=>some (.goto l)
 |.ret=>some .ret
 |.AB _=>none
def AX.calm:AX->Bool
 |.AB _=>false
 |_=>true
def m8 (q:List Tmp) (args:Aj):Nat->Tr AV->Option (Tr AV):=List.rec (motive:=λ_=>Aj->Nat->Tr AV->Option (Tr AV)) (λargs _ T=>match args with
   | []=>some T
   |_=>none)
  (λp _ y args N T=>match args with
   |a::args=>gd (Nat.blt p N) (y args N (T.set p a))
   | []=>none) q args
def setArgs (l:Aj):Tr AV->Nat->Tr AV:=PK l
def ib (P:Program) (H:Tr Ae) (T:Tr AV) (r:ResultVar):Option AV:=
 match r with
 |.tmp t=>T.get t
 |.cell a t=>ob (T.get a) λp=>Vq P H t p
def ic (P:Program) (H:Tr Ae) (T:Tr AV) (l:List ResultVar):Option Aj:=List.rec (motive:=λ_=>Option Aj) (some []) (λr _ q=>ob (ib P H T r) λa=>ob q λl=>some (a::l)) l
def Ss (P:Program) (H:Tr Ae) (T:Tr AV) (l:List ResultVar):Option AV:=ob (ic P H T l) λvs=>match vs with
  | [v]=>some v
  |vs=>some (.AO vs)
def Uj (l:List Oper):Option (Option Tmp):=
 match l with
 | [o]=>match o.guard with
  |none=>match o.op with
   |.call c=>match c.callee with
    |.builtin .recover=>some o.dst
    |_=>none
   |_=>none
  |_=>none
 |_=>none
def MD.settle:MD->MD
 |.ret=>.ret
 |.AB v=>.AB v
 |.Kf _=>.ret
inductive LV where
 |mk (m:MD) (H:Tr Ae) (nx:Nat)
end Go.Ev
end
section
namespace Go.Ev
def FW (ro:Option Nat):Fence:={Fence.wide with round:=ro}
def MH (ro:Option Nat) (P:Program) (ops:Array Oper) (Q:Exit->Act->World->Prop) (l:List Nat) (a:Act) (w:World):Prop:=∀(b:Frame) (k:List Item) (cs:List Frame),b.roundOf=(FW ro).round->∃e q w',Q e q w'/\ArrivesIn (Machine.fenced P (FW ro)) P (lone (b.atR a (.inRegion ops l::k)) cs w) b k cs e q w'
section
variable {ro:Option Nat} {P:Program} {ops:Array Oper} {Q:Exit->Act->World->Prop} {a:Act} {w:World}
theorem L7 (f:FuncId):(FW ro).fn f:=trivial
theorem J2 (n:Nat):(FW ro).room n:=by simp[FW,Fence.wide,Fence.room]
theorem Agc (h:Q .normal a w):MH ro P ops Q [] a w:=λ_ _ _ _=>
 ⟨.normal,a,w,h,.one (fenced_calm (n:=0) (L7 _) (J2 _) rfl) stepR_region_end⟩
theorem Age {id:Nat} (h:MH ro P ops Q (List.range ops.size) a w):(Code.region id ops false).wpIn (FW ro) 0 P Q a w:=λb k cs y _ _=>
 let ⟨e,B,w',q,r⟩:=h b k cs y
 ⟨e,B,w',q,.of_steps (.one (fenced_calm (n:=0) (L7 _) (J2 _) rfl) stepR_region) r⟩
theorem Agd {i:Nat} {rest:List Nat} {o:Oper} (y:ops[i]? =some o) (E:¬Region.wanted o (yielded ops a.tmps)=true) (C:∀f,o.about P w a.eval=some f->(FW ro).fn f) (h:MH ro P ops Q rest (a.put o.dst undef) w):MH ro P ops Q (i::rest) a w:=by intro b k cs B;obtain⟨e,K,w',q,r⟩:=h b k cs B;refine⟨e,K,w',q,.of_steps (.one (fenced_oper (n:=0) (L7 _) (J2 _) y C) ?_) r⟩;have J:=stepR_op_skip (P:=P) (b:=b) (a:=a) (k:=k) (cs:=cs) (w:=w) (ops:=ops) (i:=i) (rest:=rest) (by simp[y];simpa using E);rwa[y]at J
theorem wV {i:Nat} {rest:List Nat} {o:Oper} (E:ops[i]? =some o) {v:Value} {w':World} (C:∀f,o.about P w a.eval=some f->(FW ro).fn f) (J:∀(b:Frame) (k:List Item) (cs:List Frame),b.roundOf=(FW ro).round->step P (lone (b.atR a (.inRegion ops (i::rest)::k)) cs w)=.next (lone ((b.atR a (.inRegion ops (i::rest)::k)).finish v) cs w')) (h:MH ro P ops Q rest (a.put o.dst v) w'):MH ro P ops Q (i::rest) a w:=by intro b k cs y;obtain⟨e,K,B,q,r⟩:=h b k cs y;refine⟨e,K,B,q,.of_steps (.one (fenced_oper (n:=0) (L7 _) (J2 _) E C) ?_) r⟩;rw[J b k cs y,Frame.finish_atR,E];rfl
theorem Agf {i:Nat} {rest:List Nat} {o:Oper} (O:ops[i]? =some o) (hw:Region.wanted o (yielded ops a.tmps)=true) (h:o.wpIn (FW ro) 0 P a w (MH ro P ops Q rest) Q):MH ro P ops Q (i::rest) a w:=by
 obtain⟨L,h⟩:=h;have W:∀(b:Frame) (k:List Item) (cs:List Frame),b.roundOf=(FW ro).round->stepG P true {frame:=b.atR a (.inRegion ops (i::rest)::k),callers:=cs,status:=.running,dying:=none} w= stepG.apply P true (b.atR a (.inRegion ops (i::rest)::k)) cs none (o.semAt (FW ro).round a.eval) w:=λb k cs C=>by rw[stepGR_op (P:=P) O hw,C]
 generalize(o.semAt (FW ro).round a.eval)=ab at h W;generalize E:ab.run P w=res at h;cases res with
 |halt y w'=>
  cases y with
  |panic v=>intro b k cs C;refine⟨_,a,w',h,.inRegion ops (i::rest)::k,.one (fenced_oper (n:=0) (L7 _) (J2 _) O L) (step_lone_go ?_)⟩;rw[W b k cs C,<-Frame.raise_atR];simp[stepG.apply,E]
  |_=>exact h.elim
 |ok y w'=>
  cases y with
  |value v=>exact wV O L (λb k cs C=>step_lone_go (by rw[W b k cs C];simp[stepG.apply,E])) h
  |skip=>exact wV O L (λb k cs C=>step_lone_go (by rw[W b k cs C];simp[stepG.apply,E])) h
  |defer d=>intro b k cs C;obtain⟨e,Z,M,q,r⟩:=h b k cs C;refine⟨e,Z,M,q,.of_steps (.one (fenced_oper (n:=0) (L7 _) (J2 _) O L) (step_lone_go ?_)) r⟩;have aa:=Frame.finish_atR b {a with defers:=d::a.defers} ops i rest k undef;rw[O]at aa;rw[W b k cs C];simp only[stepG.apply,Sem.runT_eq,E,GStep.bare_after];exact congrArg (λfr=>GStep.go {frame:=fr,callers:=cs,status:=.running,dying:=none} w') aa
  |enter f args=>
   intro b k cs C;obtain⟨_,hF,hc⟩:=h;obtain⟨e,M,fr,U,J,ad,V⟩:=hc (b.atR a (.inRegion ops (i::rest)::k)::cs) (J2 _);have B:step P (lone (b.atR a (.inRegion ops (i::rest)::k)) cs w)=.next (lone (Frame.enter P f args .normal) (b.atR a (.inRegion ops (i::rest)::k)::cs) w'):=
    step_lone_go (by rw[W b k cs C];simp[stepG.apply,E,Frame.atR])
   have Y:=fenced_oper (F:=FW ro) (P:=P) (b:=b) (k:=k) (cs:=cs) (w:=w) (rest:=rest) (n:=0) (L7 _) (J2 _) O L;cases e with
   |returned v=>have hl:=fenced_leaving (F:=FW ro) (P:=P) (n:=0) (cs:=b.atR a (.inRegion ops (i::rest)::k)::cs) (L7 fr.fn) (J2 _) V;obtain⟨e,Z,K,q,r⟩:=U b k cs C;refine⟨e,Z,K,q,.of_steps (.head Y B (StepsIn.trans J (.one hl ?_))) r⟩;rw[step_leave_returned V,Frame.finish_atR,O];rfl
   |panicked chain=>have hl:=fenced_leaving (F:=FW ro) (P:=P) (n:=0) (cs:=b.atR a (.inRegion ops (i::rest)::k)::cs) (L7 fr.fn) (J2 _) V;refine⟨.panic chain,a,M,U,.inRegion ops (i::rest)::k,.head Y B (StepsIn.trans J (.one hl ?_))⟩;rw[<-Frame.raise_atR];exact step_leave_panicked V
   |outgrown=>obtain⟨S,R,hq⟩:=U;exact⟨.outgrown,S,R,hq,.inr (Outgrown.of_steps (.one B) J)⟩
  |round l f tmps assign body=>
   intro b k cs C;obtain⟨_,_,hc⟩:=h;obtain⟨e,M,U,J⟩:=hc (b.atR a (.inRegion ops (i::rest)::k)) cs (J2 _);have B:step P (lone (b.atR a (.inRegion ops (i::rest)::k)) cs w)=.next (lone (Frame.round l f tmps assign body .normal) (b.atR a (.inRegion ops (i::rest)::k)::cs) w'):=
    step_lone_go (by rw[W b k cs C];simp[stepG.apply,E,Frame.atR])
   have Y:=fenced_oper (F:=FW ro) (P:=P) (b:=b) (k:=k) (cs:=cs) (w:=w) (rest:=rest) (n:=0) (L7 _) (J2 _) O L;cases e with
   |returned v=>
    obtain⟨e,Z,K,q,r⟩:=U b k cs C;refine⟨e,Z,K,q,.of_steps (.head Y B ?_) r⟩;have hf:(b.atR a (.inRegion ops (i::rest)::k)).finish v=b.atR (a.put o.dst v) (.inRegion ops rest::k):=by rw[Frame.finish_atR,O];rfl
    rw[<-hf];exact J
   |panicked chain=>refine⟨.panic chain,a,M,U,.inRegion ops (i::rest)::k,.head Y B ?_⟩;rw[<-Frame.raise_atR];exact J
   |outgrown=>obtain⟨S,R,hq⟩:=U;exact⟨.outgrown,S,R,hq,.inr (Outgrown.of_steps (.one B) J)⟩
  |row row args=>
   intro b k cs C;obtain⟨_,hc⟩:=h;obtain⟨v,M,U,J⟩:=hc (b.atR a (.inRegion ops (i::rest)::k)) cs (J2 _);have B:step P (lone (b.atR a (.inRegion ops (i::rest)::k)) cs w)=.next (lone (Frame.ofRow P row args .normal) (b.atR a (.inRegion ops (i::rest)::k)::cs) w'):=
    step_lone_go (by rw[W b k cs C];simp[stepG.apply,E,Frame.atR])
   have Y:=fenced_oper (F:=FW ro) (P:=P) (b:=b) (k:=k) (cs:=cs) (w:=w) (rest:=rest) (n:=0) (L7 _) (J2 _) O L;obtain⟨e,Z,K,q,r⟩:=U b k cs C;refine⟨e,Z,K,q,.of_steps (.head Y B ?_) r⟩;have hf:(b.atR a (.inRegion ops (i::rest)::k)).finish v=b.atR (a.put o.dst v) (.inRegion ops rest::k):=by rw[Frame.finish_atR,O];rfl
   rw[<-hf];exact J
  |_=>exact h.elim
end
def Ends (E:Env) (F:Nat->Option Obj) (nx:Nat) (ρ:Ai) (v:AV) (H':Tr Ae) (nx':Nat) (e:Ending) (w':World):Prop:=∃u q,e=.returned u/\RX nx nx' ρ q/\Rel E F nx' q H'.get w'/\VR q v u
def LS (P:Program) (t:Le) (w:World) (ρ:Ai) (R:Ending->World->Prop):Prop:=
 match t with
 | .fn f args => (∃ fn c, P.funcs[f]? = some fn ∧ (fn.name == "runtime.NumGoroutine") = false ∧ fn.body = some c) ∧ ∀ vs, AG ρ args vs → CallsIn (FW none) 0 P f vs.toArray w R
 |.Dx id args=>∀vs b,AG ρ args vs->ρ id=some b->∃fn tmps asg body,(Instr.yield b.b vs.toArray).run P w=.ok (.round b.b fn tmps asg body) w/\RoundIn (FW none) 0 P b.b fn tmps asg body w R
def fresh (u:Value):List PanicEntry:=[{v:=u,recovered:=false}]
def NC (E:Env) (F:Nat->Option Obj) (nx:Nat) (ρ:Ai) (r:CR) (e:Ending) (w':World):Prop:=
 match r with
 |.mk v H' nx'=>Ends E F nx ρ v H' nx' e w'
 |.AB v H' nx'=>∃u q,e=.panicked (fresh u)/\RX nx nx' ρ q/\Rel E F nx' q H'.get w'/\VR q v u
 |.Df _ _ _ _=>False
def Lb (P:Program) (call:D7):Prop:=∀t H nx r,call t H nx=some r->∀E F ρ w,Rel E F nx ρ H.get w->LS P t w ρ (NC E F nx ρ r)
def W8 (E:Env) (F:Nat->Option Obj) (ni nx:Nat) (ρ:Ai) (o:Oper) (a:Act) (w:World) (ro:Option Nat) (next:Act->World->Prop) (Q:Exit->Act->World->Prop) (r:CR):Prop:=
 match r with
 |.mk v H' nx'=>∀u q w',RY ni nx nx' ρ q->Rel E F nx' q H'.get w'->VR q v u->next (a.put o.dst u) w'
 |.AB v H' nx'=>∀u q w',RY ni nx nx' ρ q->Rel E F nx' q H'.get w'->VR q v u->Q (.panic (fresh u)) a w'
 |.Df g args H' nx'=>ro=none/\∀va y:List Value,RX nx nx' ρ ρ->Rel E F nx' ρ H'.get w->AG ρ args (va++y)->
   next ({a with defers:={target:=.fn (.func g) y.toArray,args:=va.toArray}::a.defers}.put o.dst undef) w
theorem NI (ro:Option Nat) (P:Program) (o:Oper) (w:World) (ρ:Operand->Value):∀f,o.about P w ρ=some f->(FW ro).fn f:=λ_ _=>trivial
theorem Ge {P:Program} {ro:Option Nat} {o:Oper} {a:Act} {w w':World} {v:Value} {next:Act->World->Prop} {Q:Exit->Act->World->Prop} (hd:∀c,o.op≠.defer c) (h:AaQ P (execOp a.eval o) w v w') (hn:next (a.put o.dst v) w'):o.wpIn (FW ro) 0 P a w next Q:=by
 refine⟨NI ro P o w a.eval,?_⟩;rw[Oper.semAt_eq _ _ _ hd];rcases h with h|⟨h,rfl⟩
 ·rw[h];exact hn
 ·rw[h];exact hn
theorem wg {P:Program} {H:Tr Ae} {X:Operand->Option AV} {op:Op} {a:AV} (h:Ds P H X op=some a):∀c,op≠.defer c:=by rintro c rfl;simp[Ds,HP,Hk,Qh]at h
theorem vj {P:Program} {X:Operand->Option AV} {ni:Nat} {op:Op} {a:AV×Ae} (h:EJ P X ni op=some a):∀c,op≠.defer c:=by rintro c rfl;simp[EJ,Je,Ix]at h
theorem Abt {fn : Func} (ho : fn.origin = "") (h : fn.name = "maps.clone") : Extern.findNext fn = none ∧ Extern.find fn = some Extern.MapsClone.clone ∧ (fn.name == "runtime.NumGoroutine") = false := by
 obtain⟨name,origin⟩:=fn;simp only at ho h;subst ho;subst h;exact⟨by kernel_rfl,by kernel_rfl,by kernel_rfl⟩
theorem Ab7 {P:Program} {E:Env} {F:Nat->Option Obj} {nx nx':Nat} {ρ:Ai} {H:Tr Ae} {w:World} (r:Rel E F nx ρ H.get w) {ni:Nat} (hni:ρ ni=none) (hnx:nx<=nx') (hni':ni<nx') {t:Le} {res:CR} (hev:iI P H ni nx' t=some res):∃g args v H',t=.fn g args/\res=.mk v H' nx'/\∀us:List Value,AG ρ args us->∃u ρ' w',(callFunc g us.toArray).run P w=.ok (.value u) w'/\RY ni nx nx' ρ ρ'/\Rel E F nx' ρ' H'.get w'/\VR ρ' v u:=by
 unfold iI at hev;split at hev
 ·rename_i g ty id;obtain⟨fn,hfn,h1⟩:=Ag.1 hev;obtain⟨hb,h2⟩:=AL.1 h1;obtain⟨ho,h3⟩:=AL.1 h2;obtain⟨hn,h4⟩:=AL.1 h3;obtain⟨o,hob,h5⟩:=Ag.1 h4;clear hev h1 h2 h3 h4;split at h5
  ·rename_i es clock;injection h5 with h5;subst h5;refine⟨g,_,_,_,rfl,rfl,λus hus=>?_⟩;cases hus with
   |cons _ u _ us1 hu hus1=>
    cases hus1;cases hu with
    |iface _ _ um hum=>
     cases hum with
     |map _ b hbm=>
      obtain⟨co,hc,hor⟩:=r.ob _ _ b hob hbm;cases hor with
      |map _ _ l hl=>
       obtain⟨e1,e2,e3⟩:=Abt (by simpa using ho) (by simpa using hn);have hle:=Ai.Lp (ρ:=ρ) hni ⟨w.heap.size,0,0⟩;have A:=r.alloc (nx':=nx') hni hnx hni' (cap:=0) (a:=.map es clock) (o:=.map l.toArray clock) (.map es clock l (hl.mono hle));obtain⟨A1,A2⟩:=A;rw[<-H7]at A1;refine⟨.iface ty (.map (some w.heap.size)),_,_,?_,⟨A2,λj _ hj=>by simp[Ai.put,hj],hnx⟩,A1,.iface _ _ _ (.map ni ⟨w.heap.size,0,0⟩ (Ai.FF _ _ _))⟩;rw[run_callFunc_extern hfn e3 hb e1 e2];have hgm:(getObj b.b).run P w=.ok (.map l.toArray clock) w:=by simp[getObj,Sem.run,hc]
       have hrun:(Extern.MapsClone.clone #[.iface ty (.map (some b.b))]).run P w=.ok (.iface ty (.map (some w.heap.size))) (w.alloc (.map l.toArray clock)):=by
        change Sem.run P (do
         let .map entries clock ← getObj b.b | stuck "maps.clone: a map expected"
         pure (Value.iface ty (Value.map (some (<-newObj (Obj.map entries clock)))))) w=_
        simp[hgm]
       rw[show [Value.iface ty (.map (some b.b))].toArray= #[.iface ty (.map (some b.b))]from rfl,hrun];rfl
  ·cases h5
 ·cases hev
theorem Ab8 {P:Program} {E:Env} {F:Nat->Option Obj} {nx:Nat} {ρ:Ai} {H H':Tr Ae} {w:World} (r:Rel E F nx ρ H.get w) {ts:List TypeId} {xs:Aj} {us:List Value} {v:AV} (hx:AG ρ xs us) (y:iK P H ts xs=some (v,H')) (ty:TypeId):∃u w',(Builtin.copy_ ts.toArray ty us.toArray).run P w=.ok u w'/\Rel E F nx ρ H'.get w'/\VR ρ v u:=by
 unfold iK at y;split at y
 ·rename_i t tl d s;obtain⟨td,O,h1⟩:=Ag.1 y;clear y;cases hx with
  |cons _ ud _ ai J W=>cases W with
   |cons _ ab _ ah af V=>
    cases V;split at h1
    ·rename_i el;obtain⟨i,hi,h2⟩:=Ag.1 h1;obtain⟨⟨n,l⟩,Y,M⟩:=Ag.1 h2;clear h1 h2;obtain⟨vs,ae,aj,ad⟩:=sT (P:=P) r (HS.refl ρ H) af Y;obtain⟨R,U⟩:=ad w (λ_=>rfl);have S:P.cellsOf el=i.size:=by simp[Program.cellsOf,hi]
     have C:∀(id off m c:Nat) (b:C3),ρ id=some b->n<=m->(ob (Sv H id off l) λH'=>fN n λm=>some (AV.int .i64 (.ofNat m),H'))=some (v,H')-> ∃u w',(Builtin.copy_ (t::tl).toArray ty [.slice (some ⟨b.b,b.ob+off,none⟩) m c,ab].toArray).run P w=.ok u w'/\Rel E F nx ρ H'.get w'/\VR ρ v u:=by intro id off m c b L q h5;obtain⟨H1,ag,K⟩:=Ag.1 h5;rw[Bv]at K;injection K with K;injection K with K h7;subst K;subst h7;obtain⟨w',hw,Z⟩:=ik (P:=P) r L ae ag;refine⟨.int .i64 (Int.ofNat n),w',?_,Z,.int _ _⟩;have aa:Nat.min n m=n:=Nat.min_eq_left q;unfold Builtin.copy_;simp only[List.getElem?_toArray,List.getElem?_cons_zero,List.getElem?_cons_succ,Sem.run_bind,run_underlying O,Result.andThen_ok,R,aa,run_sizeOf w hi,S,U,hw,Sem.run_pure];rfl
     split at M
     ·rename_i id off m c;obtain⟨q,B⟩:=AL.1 M;rw[Nat.ble_eq]at q;cases J with
      |sl _ _ _ _ b L=>exact C id off m c b L q B
     ·rename_i id off m c;obtain⟨q,B⟩:=AL.1 M;rw[Nat.ble_eq]at q;cases J with
      |BF _ _ _ _ b L _ _=>exact C id off m _ b L q B
     ·obtain⟨hz,B⟩:=AL.1 M;injection B with B;injection B with B h5;subst B;subst h5;have hn:=DP hz;simp only at hn;subst hn;cases J;refine⟨.int .i64 (Int.ofNat 0),w,?_,r,.int _ _⟩;unfold Builtin.copy_;simp only[List.getElem?_toArray,List.getElem?_cons_zero,List.getElem?_cons_succ,Sem.run_bind,run_underlying O,Result.andThen_ok,R,Nat.min_self,run_sizeOf w hi,S,U,Sem.run_pure];rfl
     ·cases M
    ·cases h1
 ·cases y
theorem uj {ρ:Ai} {seen:List Nat}:∀ {q:List DW} {l:List MapEntry},Ey ρ q l->Ey ρ (YY seen q) (l.filter λm=>!seen.contains m.born)
 |_,_,.nil=>.nil
 |_,_,.cons e m q l B E=>by
  have y:=uj (seen:=seen) E;show Ey ρ (cond (seen.contains e.born) (YY seen q) (e::YY seen q)) _;rw[List.filter_cons];have C:m.born=e.born:=B.2.2.symm;cases hc:seen.contains e.born with
  |true=>rw[cond_true,C,hc];exact y
  |false=>rw[cond_false,C,hc];exact .cons _ _ _ _ B y
theorem od {ρ:Ai} {last:Nat}:∀ {y:List DW} {l:List MapEntry},Ey ρ y l->fJ (λe=>Nat.ble last e.born) y=l.all λm=>decide (last<=m.born)
 |_,_,.nil=>rfl
 |_,_,.cons e m y l E C=>by
  have B:=od (last:=last) C;have q:m.born=e.born:=E.2.2.symm;show cond (Nat.ble last e.born) (fJ _ y) false=_;rw[List.all_cons,B,q];by_cases h:last<=e.born
  ·have J:Nat.ble last e.born=true:=by rw[Nat.ble_eq];exact h
   rw[J,cond_true];simp[h]
  ·have:Nat.ble last e.born=false:=by
    cases q:Nat.ble last e.born with
    |false=>rfl
    |true=>rw[Nat.ble_eq]at q;exact absurd q h
   rw[this,cond_false];simp[h]
set_option maxHeartbeats 1000000 in
theorem sJ {P:Program} {call:D7} (aP:Lb P call) {E:Env} {F:Nat->Option Obj} {nx nx':Nat} {ρ:Ai} {H:Tr Ae} {w:World} (r:Rel E F nx ρ H.get w) {X:Operand->Option AV} {a:Act} (hX:XR ρ X a.eval) {ni:Nat} (aC:ρ ni=none) (q:nx<=nx') (aA:ni<nx') {o:Oper} {ao:CR} (C:GC P call X H ni nx' o.op=some ao) {ro:Option Nat} {next:Act->World->Prop} {Q:Exit->Act->World->Prop} (W:W8 E F ni nx ρ o a w ro next Q ao):o.wpIn (FW ro) 0 P a w next Q:=by
 obtain⟨dst,op,type,pos,after,guard⟩:=o;simp only at C;cases op<;>simp only[GC]at C<;>first|(cases C;done)|skip
 case store t x y=>
  obtain⟨xa,af,L⟩:=Ag.1 C;obtain⟨ya,aq,O⟩:=Ag.1 L;obtain⟨H1,au,J⟩:=Ag.1 O;injection J with J;subst J;obtain⟨w',U,h7⟩:=Acy (P:=P) r (hX _ _ af) (hX _ _ aq) au;refine Ge (by simp) (.inr ⟨?_,rfl⟩) (W undef ρ w' ⟨Ai.le_refl ρ,λ_ _ _=>rfl,q⟩ (h7.Fp q) (.AO _ _ .nil));simp[execOp,U]
 case mapUpdate t m k y=>
  obtain⟨ma,aJ,L⟩:=Ag.1 C;obtain⟨ka,aK,O⟩:=Ag.1 L;obtain⟨ya,aq,J⟩:=Ag.1 O;obtain⟨H1,au,M⟩:=Ag.1 J;injection M with M;subst M;obtain⟨w',U,h7⟩:=iU (P:=P) r (hX _ _ aJ) (hX _ _ aK) (hX _ _ aq) au;refine Ge (by simp) (.inr ⟨?_,rfl⟩) (W undef ρ w' ⟨Ai.le_refl ρ,λ_ _ _=>rfl,q⟩ (h7.Fp q) (.AO _ _ .nil));simp[execOp,U]
 case insert t m k y=>
  obtain⟨ma,aJ,L⟩:=Ag.1 C;obtain⟨ka,aK,O⟩:=Ag.1 L;obtain⟨ya,aq,J⟩:=Ag.1 O;obtain⟨H1,au,M⟩:=Ag.1 J;injection M with M;subst M;obtain⟨w',U,h7⟩:=iU (P:=P) r (hX _ _ aJ) (hX _ _ aK) (hX _ _ aq) au;refine Ge (by simp) (.inr ⟨?_,rfl⟩) (W undef ρ w' ⟨Ai.le_refl ρ,λ_ _ _=>rfl,q⟩ (h7.Fp q) (.AO _ _ .nil));simp[execOp,U]
 case call c=>
  obtain⟨callee,args,argTypes⟩:=c;simp only at C;cases callee with
  |invoke _ _=>cases C
  |builtin b=>
   cases b<;>first|(cases C;done)|skip
   case panic=>
    obtain⟨xs,ad,L⟩:=Ag.1 C;have Z:=Jh hX ad;split at L
    ·rename_i t v l;injection L with L;subst L;generalize hm:args.toList.map a.eval=vs at Z;cases Z with
     |cons _ u _ us hu bG=>
      cases hu;rename_i u hu;refine⟨NI ro P _ w a.eval,?_⟩;rw[Oper.semAt_eq _ _ _ (by simp)];have hg:(args.map a.eval).getD 0 .nilIface=.iface t u:=by
       have:(args.map a.eval).toList=.iface t u::us:=by rw[Array.toList_map];exact hm
       rw[show args.map a.eval=(Value.iface t u::us).toArray by rw[<-this]];rfl
      have S:(execOp a.eval {dst,op:=.call {callee:=.builtin .panic,args,argTypes},type,pos,after,guard}).run P w=.halt (.panic (.iface t u)) w:=by simp only[execOp,resolve,Sem.run_bind,Sem.run_pure,Result.andThen_ok,invoke,builtin,hg];rfl
      rw[S];exact W _ ρ w ⟨Ai.le_refl ρ,λ_ _ _=>rfl,q⟩ (r.Fp q) (.iface _ _ _ hu)
    ·cases L
   case copy=>
    obtain⟨xs,ad,L⟩:=Ag.1 C;obtain⟨⟨av,H1⟩,aM,O⟩:=Ag.1 L;injection O with O;subst O;obtain⟨u,w',R,U,h7⟩:=Ab8 (P:=P) r (Jh hX ad) aM type;rw[map_toArray,Array.toArray_toList]at R;refine Ge (by simp) (.inl ?_) (W u ρ w' ⟨Ai.le_refl ρ,λ_ _ _=>rfl,q⟩ (U.Fp q) h7);simp only[execOp,resolve,Sem.run_bind,Sem.run_pure,Result.andThen_ok,invoke,builtin,R]
   obtain⟨xs,ad,L⟩:=Ag.1 C;obtain⟨⟨av,H1⟩,aM,O⟩:=Ag.1 L;injection O with O;subst O;obtain⟨u,w',aa,R,U,h7,h8⟩:=AbY (P:=P) r aC q aA (Jh hX ad) aM type;rw[map_toArray,Array.toArray_toList]at R;refine Ge (by simp) (.inl ?_) (W u aa w' ⟨h7.1,λx _ hx=>h7.2 x hx,q⟩ U h8);simp only[execOp,resolve,Sem.run_bind,Sem.run_pure,Result.andThen_ok,invoke,builtin,R]
  |value f=>
   obtain⟨fa,aE,L⟩:=Ag.1 C;obtain⟨xs,ad,O⟩:=Ag.1 L;obtain⟨t,ht,J⟩:=Ag.1 O;clear C L O;cases aV:call t H nx' with
   |none=>
    rw[aV]at J;obtain⟨g,targs,v,H',rfl,rfl,bz⟩:=Ab7 (P:=P) r aC q aA J;have ae:=hX _ _ aE;have Z:=Jh hX ad;rw[show args.toList.map a.eval=(args.map a.eval).toList by rw[Array.toList_map]]at Z;unfold Jm at ht;split at ht
    ·rename_i g' first cap
     injection ht with ht;injection ht with aI aH;subst aI;subst aH;generalize ah:a.eval f=fv at ae;cases ae with
     |fn _ _ _ va vc ha hc=>
      obtain⟨u,aa,w',M,R,U,h7⟩:=bz _ (ha.append (Z.append hc));refine Ge (by simp) (.inl ?_) (W u aa w' R U h7);have aR:va.toArray++args.map a.eval++vc.toArray=(va++((args.map a.eval).toList++vc)).toArray:=by apply Array.ext';simp
      simp only[execOp,resolve,ah,Deferred.ofValue,Sem.run_bind,Sem.run_pure,Result.andThen_ok,invoke,aR,M]
    ·injection ht with ht;cases ht
    ·cases ht
   |some rc=>
   have J:call t H nx'=some ao:=by rw[aV]at J⊢;exact J
   have AA:=aP t H nx' ao J E F ρ w (r.Fp q);have ae:=hX _ _ aE;have Z:=Jh hX ad;rw[show args.toList.map a.eval=(args.map a.eval).toList by rw[Array.toList_map]]at Z;refine⟨NI ro P _ w a.eval,?_⟩;rw[Oper.semAt_eq _ _ _ (by simp)];unfold Jm at ht;split at ht
   ·rename_i g first cap
    injection ht with ht;subst ht;generalize ah:a.eval f=fv at ae;cases ae with
    |fn _ _ _ va vc ha hc=>
     obtain⟨⟨fn,c,bq,bn,bC⟩,aG⟩:=AA;have bg:=ha.append (Z.append hc);have bB:=aG _ bg;have S:(execOp a.eval {dst,op:=.call {callee:=.value f,args,argTypes},type,pos,after,guard}).run P w=.ok (.enter g ((va++((args.map a.eval).toList++vc)).toArray)) w:=by simp only[execOp,resolve,ah,Deferred.ofValue,Sem.run_bind,Sem.run_pure,Result.andThen_ok,invoke,callFunc,run_program,bq,bn,Bool.false_eq_true,if_false,bC,Option.isNone_some];congr 2;apply Array.ext';simp
     rw[S];refine⟨by simp[FW,Fence.wide],?_⟩;have ab:=CallsIn.mono bB (R':=λ
      |.returned v,ak=>next (a.put dst v) ak
      |.panicked chain,ak=>Q (.panic chain) a ak
      |.outgrown,_=>LetsOut Q) (λe w' he=>by
       cases ao with
       |mk v H' ay=>obtain⟨u,aa,rfl,M,R,U⟩:=he;exact W u aa w' (M.cz q (AM _)).ry R U
       |AB v H' ay=>obtain⟨u,aa,rfl,M,R,U⟩:=he;exact W u aa w' (M.cz q (AM _)).ry R U
       |Df _ _ _ _=>exact he.elim)
     cases ro with
     |none=>exact ab
     |some l=>exact ab
   ·rename_i id;injection ht with ht;subst ht;generalize ah:a.eval f=fv at ae;cases ae with
    |Dx _ b hb=>
     obtain⟨fn,tmps,bD,body,hy,aF⟩:=AA _ b Z hb;have S:(execOp a.eval {dst,op:=.call {callee:=.value f,args,argTypes},type,pos,after,guard}).run P w=.ok (.round b.b fn tmps bD body) w:=by rw[Array.toArray_toList]at hy;simp only[execOp,resolve,ah,Deferred.ofValue,Sem.run_bind,Sem.run_pure,Result.andThen_ok,invoke,Array.empty_append,hy]
     rw[S];refine⟨by simp[FW,Fence.wide],?_⟩;have ab:=RoundIn.mono aF (R':=λ
      |.returned v,ak=>next (a.put dst v) ak
      |.panicked chain,ak=>Q (.panic chain) a ak
      |.outgrown,_=>LetsOut Q) (λe w' he=>by
       cases ao with
       |mk v H' ay=>obtain⟨u,aa,rfl,M,R,U⟩:=he;exact W u aa w' (M.cz q (AM _)).ry R U
       |AB v H' ay=>obtain⟨u,aa,rfl,M,R,U⟩:=he;exact W u aa w' (M.cz q (AM _)).ry R U
       |Df _ _ _ _=>exact he.elim)
     cases ro with
     |none=>exact ab
     |some l=>exact ab
   ·cases ht
 case range t x=>
  obtain⟨xa,af,L⟩:=Ag.1 C;obtain⟨d,hd,O⟩:=Ag.1 L;have hu:=hX _ _ af;clear C L;generalize ag:a.eval x=u at hu;split at O
  ·rename_i id;obtain⟨o,ho,J⟩:=Ag.1 O;split at J
   ·rename_i es B;injection J with J;subst J;cases hu with
    |map _ b hb=>
    obtain⟨co,hc,al⟩:=r.ob _ _ b ho hb;cases al with
    |map _ _ l hl=>
    have ar:=Ai.Lp (ρ:=ρ) aC ⟨w.heap.size,0,0⟩;have A:=r.alloc (nx':=nx') aC q aA (cap:=0) (a:=.IA id B [] B) (o:=.mapIter (some b.b) B #[] B) (.IA id B [] B b rfl (ar _ _ hb));obtain⟨A1,A2⟩:=A;rw[<-H7]at A1;refine Ge (by simp) (.inl ?_) (W (.pointer (some ⟨w.heap.size,0,none⟩)) _ _ ⟨A2,λj _ hj=>by simp[Ai.put,hj],q⟩ A1 (.ptr ni 0 ⟨w.heap.size,0,0⟩ (Ai.FF _ _ _)));have aD:(getObj b.b).run P w=.ok (.map l.toArray B) w:=by simp[getObj,Sem.run,hc]
    simp[execOp,ag,Instr.range,run_underlying hd,aD]
   ·cases J
  ·cases O
 case next x As=>
  obtain⟨xa,af,L⟩:=Ag.1 C;obtain⟨⟨v,H1⟩,hn,O⟩:=Ag.1 L;injection O with O;subst O;have hu:=hX _ _ af;clear C L;generalize ag:a.eval x=u at hu;unfold sP at hn;split at hn
  ·rename_i id;cases hu with
   |ptr _ _ b hb=>
   obtain⟨o,ho,J⟩:=Ag.1 hn;obtain⟨co,hc,al⟩:=r.ob _ _ b ho hb;split at J
   ·rename_i l n pos;cases al with
    |Mt _ _ _ aB bl=>
    have aS:(BA l n).size=l:=MK l n;cases ai:Nat.blt pos l with
    |true=>
     rw[ai,cond_true,Bv]at J;obtain⟨aW,M⟩:=AL.1 J;rw[Bv]at M;injection M with M;injection M with M R;subst M;subst R;rw[Co]at ai aW;have a4:(BA l n).get! (pos+0)=UInt8.ofNat (n/256^pos):=by
      have L:=XI l n pos ai;show(BA l n).data[pos+0]! =_;have O:(BA l n).data[pos]? =some (UInt8.ofNat (n/256^pos)):=by rw[<-Array.getElem?_toList,P6];exact L
      simp[getElem!_def,O]
     have a7:Utf8.decode (BA l n) pos=(n/256^pos %256,1):=by unfold Utf8.decode;simp only[a4,HT];rw[Am aW]
     have Y:=r.put (a:=.Mt l n (pos+1)) (c:=.stringIter (BA l n) (pos+1)) ho hb (.Mt l n (pos+1) aB bl) (w':=World.E3 w b.b (.stringIter (BA l n) (pos+1))) (Nc w b.b _ _ hc) rfl rfl rfl;rw[<-H7]at Y;refine Ge (by simp) (.inl ?_) (W (.tuple #[.bool true,.int .i64 (Int.ofNat pos),.int .i32 (Int.ofNat (n/256^pos %256))]) ρ _ ⟨Ai.le_refl ρ,λ_ _ _=>rfl,q⟩ (Y.Fp q) (.AO _ [.bool true,.int .i64 (Int.ofNat pos),.int .i32 (Int.ofNat (n/256^pos %256))] (.cons _ _ _ _ (.bool _) (.cons _ _ _ _ (.int _ _) (.cons _ _ _ _ (.int _ _) .nil)))));have hz:b.ob+0=0:=by omega
     have aj:(getObj b.b).run P w=.ok (.stringIter (BA l n) pos) w:=by simp[getObj,Sem.run,hc]
     have az:(setObj b.b (.stringIter (BA l n) (pos+1))).run P w=.ok () (World.E3 w b.b (.stringIter (BA l n) (pos+1))):=by simp[setObj,Sem.run,hc,World.E3]
     simp only[execOp,ag,hz,Instr.next,Sem.run_bind,aj,Result.andThen_ok,aS,a7,Am ai,az,Sem.run_pure];rfl
    |false=>
     rw[ai,cond_false]at J;injection J with J;injection J with J M;subst J;subst M;have bo:¬pos<l:=λh=>by rw[<-Co,ai]at h;cases h
     refine Ge (by simp) (.inl ?_) (W (.tuple #[.bool false]) ρ w ⟨Ai.le_refl ρ,λ_ _ _=>rfl,q⟩ (r.Fp q) (.AO _ [.bool false] (.cons _ _ _ _ (.bool _) .nil)));have hz:b.ob+0=0:=by omega
     have aj:(getObj b.b).run P w=.ok (.stringIter (BA l n) pos) w:=by simp[getObj,Sem.run,hc]
     simp only[execOp,ag,hz,Instr.next,Sem.run_bind,aj,Result.andThen_ok,aS,Ad bo,Sem.run_pure]
   ·cases al with
    |O3 s0 seen last aB=>
    injection J with J;injection J with J M;subst J;subst M;refine Ge (by simp) (.inl ?_) (W (.tuple #[.bool false]) ρ w ⟨Ai.le_refl ρ,λ_ _ _=>rfl,q⟩ (r.Fp q) (.AO _ [.bool false] (.cons _ _ _ _ (.bool _) .nil)));have hz:b.ob+0=0:=by omega
    have aj:(getObj b.b).run P w=.ok (.mapIter none s0 seen last) w:=by simp[getObj,Sem.run,hc]
    simp only[execOp,ag,hz,Instr.next,Sem.run_bind,aj,Result.andThen_ok,Sem.run_pure]
   ·rename_i mid K seen last;cases al with
    |IA _ _ _ _ bm aB aX=>
    obtain⟨om,bk,M⟩:=Ag.1 J;obtain⟨cm,bx,aY⟩:=r.ob _ _ bm bk aX;split at M
    ·rename_i es B;cases aY with
     |map _ _ l hl=>
     obtain⟨hg,R⟩:=AL.1 M;have hz:b.ob+0=0:=by omega
     have aj:(getObj b.b).run P w=.ok (.mapIter (some bm.b) K seen.toArray last) w:=by simp[getObj,Sem.run,hc]
     have aD:(getObj bm.b).run P w=.ok (.map l.toArray B) w:=by simp[getObj,Sem.run,bx]
     have aU:(!seen.toArray.isEmpty&& !l.toArray.isEmpty&&l.toArray.all (λe=>decide (e.born>=last)))=false:=by
      have a8:=od (last:=last) hl;have a6:es.isEmpty=l.isEmpty:=by cases hl<;>rfl
      rw[a8,a6]at hg;simp only[List.isEmpty_toArray,List.all_toArray];cases L:seen.isEmpty<;>cases O:l.isEmpty<;>rw[L,O]at hg<;>simp_all
     have V:=uj (seen:=seen) hl;have an:l.toArray.filter (λe=>!seen.toArray.contains e.born)=(l.filter λm=>!seen.contains m.born).toArray:=by simp
     split at R
     ·rename_i ar;injection R with R;injection R with R U;subst R;subst U;rw[ar]at V;have aZ:(l.filter λm=>!seen.contains m.born)=[]:=by generalize(l.filter λm=>!seen.contains m.born)=l' at V;cases V;rfl
      rw[aZ]at an;refine Ge (by simp) (.inl ?_) (W (.tuple #[.bool false]) ρ w ⟨Ai.le_refl ρ,λ_ _ _=>rfl,q⟩ (r.Fp q) (.AO _ [.bool false] (.cons _ _ _ _ (.bool _) .nil)));simp only[execOp,ag,hz,Instr.next,Sem.run_bind,aj,aD,Result.andThen_ok,aU,an,Bool.false_eq_true,if_false];simp[Question.forced]
     ·rename_i e ar;obtain⟨ai,U⟩:=AL.1 R;injection U with U;injection U with U h7;subst U;subst h7;rw[Co]at ai;rw[ar]at V;obtain⟨m,hm,aL⟩:∃m,(l.filter λm=>!seen.contains m.born)=[m]/\ER ρ e m:=by
       generalize(l.filter λm=>!seen.contains m.born)=l' at V;cases V with
       |cons _ m _ bE he hs=>cases hs;exact⟨m,rfl,he⟩
      rw[hm]at an;have aQ:m.born=e.born:=aL.2.2.symm;have Y:=r.put (a:=.IA mid K (seen++[e.born]) B) (c:=.mapIter (some bm.b) K (seen++[e.born]).toArray B) ho hb (.IA mid K (seen++[e.born]) B bm aB aX) (w':=World.E3 w b.b (.mapIter (some bm.b) K (seen++[e.born]).toArray B)) (Nc w b.b _ _ hc) rfl rfl rfl;rw[<-H7]at Y;refine Ge (by simp) (.inl ?_) (W (.tuple #[.bool true,m.key,m.val]) ρ _ ⟨Ai.le_refl ρ,λ_ _ _=>rfl,q⟩ (Y.Fp q) (.AO _ [.bool true,m.key,m.val] (.cons _ _ _ _ (.bool _) (.cons _ _ _ _ aL.1 (.cons _ _ _ _ aL.2.1 .nil)))));have az:(setObj b.b (.mapIter (some bm.b) K (seen++[e.born]).toArray B)).run P w=.ok () (World.E3 w b.b (.mapIter (some bm.b) K (seen++[e.born]).toArray B)):=by simp[setObj,Sem.run,hc,World.E3]
      have a3:m.born<K:=by omega
      have a5:¬m.born>=K:=by omega
      have hold:[m].toArray.filter (λe=>decide (e.born<K))=[m].toArray:=by simp[a3]
      have a2:[m].toArray.filter (λe=>decide (e.born>=K))= #[]:=by simp[a5]
      have aO:(if [m].toArray.isEmpty=true then #[none]else #[])++([m].toArray++ #[]).map some= #[some m]:=by simp
      have bA:(choose (.mapNext (#[some m]:Array (Option MapEntry)).size)).run P w=.ok 0 w:=by simp[Question.forced]
      simp only[execOp,ag,hz,Instr.next,Sem.run_bind,aj,aD,Result.andThen_ok,aU,an,Bool.false_eq_true,if_false,hold,a2,aO,bA];have aN:seen.toArray.push m.born=(seen++[e.born]).toArray:=by rw[aQ];simp
      simp[az,aN]
     ·cases R
    ·cases M
   ·cases J
  ·cases hn
 case convert s d x=>
  obtain⟨xa,af,L⟩:=Ag.1 C;have hu:=hX _ _ af;clear C;split at L
  ·rename_i id off len cap;obtain⟨aT,O⟩:=AL.1 L;rw[AN]at aT;subst aT;obtain⟨dd,bu,J⟩:=Ag.1 O;split at J
   ·rename_i e;obtain⟨de,bt,M⟩:=Ag.1 J;split at M
    ·obtain⟨o,ho,R⟩:=Ag.1 M;clear L O J M;split at R
     ·rename_i el c z n op;injection R with R;subst R;generalize ag:a.eval x=u at hu;cases hu with
      |sl _ _ _ _ b hb=>
       obtain⟨co,hc,al⟩:=r.ob _ _ b ho hb;cases al with
       |cells _ _ _ _ _ cs fz Dt hn bj bp bw=>
        obtain⟨w',bf,bd,bc,bb,bF,aw,ba,a9⟩:∃w':World,(convert s s (.slice (some ⟨b.b,b.ob+off,none⟩) len cap)).run P w=.ok (.slice (some ⟨b.b,b.ob+off,none⟩) len cap) w'/\ w'.tape=w.tape/\w'.os=w.os/\w'.output=w.output/\True/\∃aw,(∀k,w'.heap[k]? =if k=b.b then some (.cells cs el aw)else w.heap[k]?)/\Yx cs aw:=by
         have bh:w.shape? b.b=some (el,cs.size):=by simp[World.shape?,hc]
         refine⟨w.freeze ⟨b.b,cs.size,none⟩ 1,?_,rfl,rfl,rfl,trivial,if fz.1==fz.2 then(cs.size,cs.size+1)else(min fz.1 cs.size,max fz.2 (cs.size+1)),λk=>?_,?_⟩
         ·simp only[convert,Sem.run_bind,run_underlying bu,run_underlying bt,Result.andThen_ok,BEq.rfl,markStringish,run_shape,bh];rfl
         ·show(w.heap.modify b.b _)[k]? =_;rw[Array.getElem?_modify];by_cases W:k=b.b
          ·subst W;rw[Am rfl,Am rfl,hc];rfl
          ·rw[Ad (λe=>W e.symm),Ad W]
         ·rcases bp with h|h
          ·subst h;exact .inr (AM _)
          ·split
           ·exact .inr (AM _)
           ·exact .inr (by simp only;omega)
        have Y:=r.put (a:=.cells el c z n op) (c:=.cells cs el aw) ho hb (.cells el c z n op cs aw Dt hn bj a9 bw) ba bd bc bb;have ah:(λj=>if j=id then some (Ae.cells el c z n op)else H.get j)=H.get:=by
         funext j;by_cases hj:j=id
         ·rw[Am hj,hj,ho]
         ·rw[Ad hj]
        rw[ah]at Y;refine Ge (by simp) (.inl ?_) (W _ ρ w' ⟨Ai.le_refl ρ,λ_ _ _=>rfl,q⟩ (Y.Fp q) (.sl id off len cap b hb));simp only[execOp,ag,Sem.run_bind,bf,Result.andThen_ok,Sem.run_pure]
     ·cases R
    ·cases M
   ·cases J
  ·cases L
 case panic x=>
  obtain⟨xa,af,L⟩:=Ag.1 C;split at L
  ·rename_i t v;injection L with L;subst L;have hu:=hX _ _ af;generalize hm:a.eval x=vx at hu;cases hu;rename_i u hu;refine⟨NI ro P _ w a.eval,?_⟩;rw[Oper.semAt_eq _ _ _ (by simp)];have S:(execOp a.eval {dst,op:=.panic x,type,pos,after,guard}).run P w=.halt (.panic (.iface t u)) w:=by simp only[execOp,hm];rfl
   rw[S];exact W _ ρ w ⟨Ai.le_refl ρ,λ_ _ _=>rfl,q⟩ (r.Fp q) (.iface _ _ _ hu)
  ·cases L
 case defer c=>
  obtain⟨callee,args,argTypes⟩:=c;simp only at C;cases callee with
  |invoke _ _=>cases C
  |builtin b=>cases C
  |value f=>
   obtain⟨fa,aE,L⟩:=Ag.1 C;obtain⟨xs,ad,O⟩:=Ag.1 L;obtain⟨t,ht,J⟩:=Ag.1 O;clear C L O;split at J
   ·rename_i g args';injection J with J;subst J;obtain⟨rfl,W⟩:=W;have ae:=hX _ _ aE;have Z:=Jh hX ad;rw[show args.toList.map a.eval=(args.map a.eval).toList by rw[Array.toList_map]]at Z;refine⟨NI none P _ w a.eval,?_⟩;show Oper.uponIn _ _ _ _ _ _ _ ((Oper.semAt none a.eval _).run P w);rw[Oper.semAt_none];unfold Jm at ht;split at ht
    ·rename_i g0 first cap
     injection ht with ht;injection ht with aI aH;subst aI;subst aH;generalize ah:a.eval f=fv at ae;cases ae with
     |fn _ _ _ va vc ha hc=>
      have S:(execOp a.eval {dst,op:=.defer {callee:=.value f,args,argTypes},type,pos,after,guard}).run P w=.ok (.defer {target:=.fn (.func g0) vc.toArray,args:=(va++(args.map a.eval).toList).toArray}) w:=by simp only[execOp,resolve,ah,Deferred.ofValue,Sem.run_bind,Sem.run_pure,Result.andThen_ok];congr 3;apply Array.ext';simp
      rw[S];exact W (va++(args.map a.eval).toList) vc ⟨Ai.le_refl ρ,λ_ _=>rfl,q⟩ (r.Fp q) (by rw[A7];exact ha.append (Z.append hc))
    ·injection ht with ht;cases ht
    ·cases ht
   ·cases J
theorem AjF {P:Program} {E:Env} {F:Nat->Option Obj} {nx nx':Nat} {ρ:Ai} {H:Tr Ae} {w:World} (r:Rel E F nx ρ H.get w) {X:Operand->Option AV} {a:Act} (R:XR ρ X a.eval) {ni:Nat} (ab:ρ ni=none) (B:nx<=nx') (L:ni<nx') {o:Oper} {v:AV} {H':Tr Ae} (q:JG P X H ni o.op=some (true,v,H')) {ro:Option Nat} {next:Act->World->Prop} {Q:Exit->Act->World->Prop} (hk:W8 E F ni nx ρ o a w ro next Q (.mk v H' nx')):o.wpIn (FW ro) 0 P a w next Q:=by
 obtain⟨dst,op,type,pos,after,guard⟩:=o;simp only at q;cases op<;>simp only[JG]at q<;>first|(cases q;done)|skip
 case store t x y=>
  obtain⟨xa,aa,V⟩:=Ag.1 q;obtain⟨ya,Y,h2⟩:=Ag.1 V;obtain⟨⟨sd,H1⟩,ad,J⟩:=Ag.1 h2;injection J with J;injection J with J U;injection U with U O;subst U;subst O;simp only at J;subst J;obtain⟨w',S,M⟩:=AjT (P:=P) r (R _ _ aa) (R _ _ Y) ad;refine Ge (by simp) (.inr ⟨?_,rfl⟩) (hk undef ρ w' ⟨Ai.le_refl ρ,λ_ _ _=>rfl,B⟩ (M.Fp B) (.AO _ _ .nil));simp[execOp,S]
 case call c=>
  obtain⟨C,args,K⟩:=c;simp only at q;cases C with
  |invoke _ _=>cases q
  |value _=>cases q
  |builtin b=>
   cases b<;>first|(cases q;done)|skip
   obtain⟨xs,Z,V⟩:=Ag.1 q;obtain⟨u,w',W,O,S,M,h8⟩:=Ajy (P:=P) r ab B L (Jh R Z) V type;rw[map_toArray,Array.toArray_toList]at O;refine Ge (by simp) (.inl ?_) (hk u W w' ⟨M.1,λx _ hx=>M.2 x hx,B⟩ S h8);simp only[execOp,resolve,Sem.run_bind,Sem.run_pure,Result.andThen_ok,invoke,builtin,O]
theorem iR {P:Program} {call:D7} (B:Lb P call) {E:Env} {F:Nat->Option Obj} {nx nx':Nat} {ρ:Ai} {H:Tr Ae} {w:World} (r:Rel E F nx ρ H.get w) {X:Operand->Option AV} {a:Act} (O:XR ρ X a.eval) {ni:Nat} (K:ρ ni=none) (J:nx<=nx') (y:ni<nx') {o:Oper} {L:CR} (q:FQ P call X H ni nx' o.op=some L) {ro:Option Nat} {next:Act->World->Prop} {Q:Exit->Act->World->Prop} (M:W8 E F ni nx ρ o a w ro next Q L):o.wpIn (FW ro) 0 P a w next Q:=by
 cases C:JG P X H ni o.op with
 |none=>
  have R:FQ P call X H ni nx' o.op=GC P call X H ni nx' o.op:=by unfold FQ;rw[C]
  rw[R]at q;exact sJ B r O K J y q M
 |some p=>
  obtain⟨b,v,H'⟩:=p;have R:FQ P call X H ni nx' o.op=cond b (some (.mk v H' nx')) (GC P call X H ni nx' o.op):=by unfold FQ;rw[C]
  rw[R]at q;cases b with
  |true=>injection q with q;subst q;exact AjF r O K J y C M
  |false=>exact sJ B r O K J y q M
theorem Acq {P:Program} {call:D7} (J:Lb P call) {E:Env} {F:Nat->Option Obj} {nx nx':Nat} {ρ:Ai} {H:Tr Ae} {w:World} (r:Rel E F nx ρ H.get w) {X:Operand->Option AV} {a:Act} (O:XR ρ X a.eval) {ni:Nat} (C:ρ ni=none) (y:nx<=nx') (B:ni<nx') {o:Oper} {K:CR} (q:MP P call X H ni nx nx' o.op=some K) {ro:Option Nat} {next:Act->World->Prop} {Q:Exit->Act->World->Prop} (L:W8 E F ni nx ρ o a w ro next Q K):o.wpIn (FW ro) 0 P a w next Q:=by
 unfold MP at q;cases hp:Ds P H X o.op with
 |some W=>rw[hp]at q;injection q with q;subst q;obtain⟨u,S,R⟩:=iZ r (HS.refl ρ H) O o hp;exact Ge (wg hp) (.inl S) (L u ρ w (RX.refl _ ρ).ry r R)
 |none=>
  rw[hp]at q;cases hn:EJ P X ni o.op with
  |some p=>
   rw[hn]at q;obtain⟨W,Y⟩:=p;injection q with q;subst q;obtain⟨u,Z,c,cap,S,R,V,U⟩:=iX (P:=P) (w:=w) O C o hn;refine Ge (vj hn) (.inl S) ?_;rcases R with rfl|rfl
   ·have:=r.alloc C y B V;exact L u _ _ ⟨this.2,λx _ M=>by simp[Ai.put,M],y⟩ (by rw[H7];exact this.1) U
   ·have:=r.drew.alloc C y B V;exact L u _ _ ⟨this.2,λx _ M=>by simp[Ai.put,M],y⟩ (by rw[H7];exact this.1) U
  |none=>rw[hn]at q;exact iR J r O C y B q L
end Go.Ev
end
section
namespace Go.Ev
inductive DR (ρ:Ai):List PL->List Deferred->Prop where
 |nil:DR ρ [] []
 |mark (id:Nat) (b:C3) (l:List PL) (ds:List Deferred) (h:ρ id=some b) (hs:DR ρ l ds):DR ρ (.mark id::l) ({target:=.collected b.b,args:=#[]}::ds)
 |call (g:FuncId) (args:List AV) (va vc:List Value) (l:List PL) (ds:List Deferred) (h:AG ρ args (va++vc)) (hs:DR ρ l ds):
   DR ρ (.call g args::l) ({target:=.fn (.func g) vc.toArray,args:=va.toArray}::ds)
theorem DR.mono {ρ B:Ai} (q:ρ.le B):∀ {l:List PL} {y:List Deferred},DR ρ l y->DR B l y
 |_,_,.nil=>.nil
 |_,_,.mark id b l y h C=>.mark id b l y (q _ _ h) (DR.mono q C)
 |_,_,.call g args va E l y h C=>.call g args va E l y (h.mono q) (DR.mono q C)
def Rx (ρ:Ai) (x:AX) (Q:Exit->Prop):Prop:=
 match x with
 |.Bc=>Q .normal
 |.exit id=>Q (.exit id)
 |.goto l=>Q (.goto l)
 |.ret=>Q .ret
 |.AB v=>∀u,VR ρ v u->Q (.panic (fresh u))
inductive PX (ρ:Ai):Option Nat->Option Nat->Prop where
 |none:PX ρ none none
 |some (id:Nat) (b:C3) (h:ρ id=some b):PX ρ (some id) (some b.b)
theorem PX.mono {ρ q:Ai} (y:ρ.le q) {a b:Option Nat} (h:PX ρ a b):PX q a b:=by
 cases h with
 |none=>exact .none
 |some id b h=>exact .some id b (y _ _ h)
structure SR (E:Env) (F:Nat->Option Obj) (ρ:Ai) (s:St) (a:Act) (w:World) (ro:Option Nat):Prop where
 rel:Rel E F s.nx ρ s.H.get w
 tr:TR ρ s.T a.tmps
 size:a.tmps.size=s.N
 dr:DR ρ s.D a.defers
 rr:PX ρ s.ro ro
theorem AcA {ρ:Ai} {ops:Array Oper} {T:Tr AV} {o:Oper} {b:Bool} {tmps:Array Value} (ht:TR ρ T tmps) (h:E7 ops T o=some b): Region.wanted o (yielded ops tmps)=b:=by
 unfold E7 at h;unfold Region.wanted;cases J:o.guard with
 |none=>rw[J]at h;injection h with h
 |some p=>
  obtain⟨j,q⟩:=p;rw[J]at h;obtain⟨M,B,L⟩:=Ag.1 h;obtain⟨d,hd,K⟩:=Ag.1 L;obtain⟨v,hv,y⟩:=Ag.1 K;obtain⟨u,hu,E⟩:=ht d v hv;have hy:yielded ops tmps j=match u with|.bool b=>some b|_=>none:=by unfold yielded;rw[B];simp only[Option.bind_some,hd,hu];cases u<;>rfl
  show(yielded ops tmps j==some q)=b;rw[hy];split at y
  ·injection y with y;subst y;cases E;rename_i b;cases b<;>cases q<;>rfl
  ·rename_i C;injection y with y;subst y;cases E<;>first|rfl|(exact absurd rfl (C _))
theorem NP {ρ:Ai} {N:Nat} {T T':Tr AV} {dst:Option Tmp} {v:AV} {u:Value} {a:Act} (ht:TR ρ T a.tmps) (hn:a.tmps.size=N) (hv:VR ρ v u) (h:Jl N T dst v=some T'): TR ρ T' (a.put dst u).tmps/\(a.put dst u).tmps.size=N/\(a.put dst u).defers=a.defers:=by
 unfold Jl at h;cases dst with
 |none=>injection h with h;subst h;exact⟨ht,hn,rfl⟩
 |some d=>
  obtain⟨B,C⟩:=AL.1 h;injection C with C;subst C;rw[Co]at B;refine⟨λt x q=>?_,by simp[Act.put,hn],rfl⟩;rw[Tr.Hl]at q;by_cases y:d=t
  ·subst y;rw[Am rfl]at q;injection q with q;subst q;exact⟨u,by simp[Act.put,hn,B],hv⟩
  ·rw[Ad y]at q;obtain⟨z,hz,E⟩:=ht t x q;exact⟨z,by simp only[Act.put];rw[Array.getElem?_setIfInBounds_ne y];exact hz,E⟩
def zi (P:Program):Prop:=∀call ops s x s',Lb P call->iL P call ops s=some (.mk x s')->∀id E F ρ a w ro Q,SR E F ρ s a w ro->(∀q y w',RX s.nx s'.nx ρ q->SR E F q s' y w' ro->Rx q x λe=>Q e y w')-> (Code.region id ops true).wpIn (FW ro) 0 P Q a w
theorem jy {H H':Tr Ae} {id:Nat} {f:LoopState->Option Code->Option (LoopState×Option Code)} (h:Y2 H id f=some H'): ∃st Dv T N C B body d y q,H.get id=some (.loop st Dv T N C B body d)/\f st Dv=some (y,q)/\H'=H.set id (.loop y q T N C B body d):=by
 obtain⟨o,K,J⟩:=Ag.1 h;cases o with
 |loop st Dv T N C B body d=>obtain⟨⟨y,q⟩,L,E⟩:=Ag.1 J;injection E with E;exact⟨st,Dv,T,N,C,B,body,d,y,q,K,L,E.symm⟩
 |_=>cases J
theorem wi (w:World) (b:Nat) (o q:Obj) (h:w.heap[b]? =some q) (k:Nat):(w.putObj b o).heap[k]? =if k=b then some o else w.heap[k]?:=Nc w b o q h k
theorem Y3 {E:Env} {F:Nat->Option Obj} {nx:Nat} {ρ:Ai} {H:Tr Ae} {w:World} (r:Rel E F nx ρ H.get w) {id:Nat} {b:C3} (M:ρ id=some b) {st:LoopState} {Dv:Option Code} {T:Tr AV} {N:Nat} {J:Array Tmp} {y body:Code} {d:Nat} (L:H.get id=some (.loop st Dv T N J y body d)): ∃fn tmps C,w.heap[b.b]? =some (.loop {state:=st,pending:=Dv,fn,tmps,params:=J,assign:=y,body,defers:=C})/\TR ρ T tmps/\tmps.size=N/\(∃R,ρ d=some R/\C=R.b)/\ ∀B q,Rel E F nx ρ (H.set id (.loop B q T N J y body d)).get (w.putObj b.b (.loop {state:=B,pending:=q,fn,tmps,params:=J,assign:=y,body,defers:=C})):=by
 obtain⟨c,hc,K⟩:=r.ob _ _ b L M;cases K with
 |loop _ _ _ _ _ _ _ _ fn tmps C hT O hd=>refine⟨fn,tmps,C.b,hc,hT,O,⟨C,hd,rfl⟩,λB q=>?_⟩;rw[H7];exact r.put L M (.loop B q T N J y body d fn tmps C hT O hd) (wi w b.b _ _ hc) rfl rfl rfl
theorem yI {ρ:Ai}:∀(q:List Tmp) (args:Aj) (vs:List Value) (N:Nat) (T T':Tr AV) (tmps:Array Value),AG ρ args vs->m8 q args N T=some T'->TR ρ T tmps->tmps.size=N-> vs.length=q.length/\TR ρ T' ((q.zip vs).foldl (λtmps (x:Tmp×Value)=>tmps.setIfInBounds x.1 x.2) tmps)/\((q.zip vs).foldl (λtmps (x:Tmp×Value)=>tmps.setIfInBounds x.1 x.2) tmps).size=N
 | [],args,vs,N,T,T',tmps,hv,h,ht,hn=>by
  cases hv with
  |nil=>injection h with h;subst h;exact⟨rfl,ht,hn⟩
  |cons _ _ _ _ _ _=>cases h
 |p::q,args,vs,N,T,T',tmps,hv,h,ht,hn=>by
  cases hv with
  |nil=>cases h
  |cons a v l vs C B=>obtain⟨y,L⟩:=AL.1 (show gd (Nat.blt p N) (m8 q l N (T.set p a))=some T' from h);obtain⟨O,M,_⟩:=NP (dst:=some p) (a:={tmps:=tmps,defers:=[]}) ht hn C (show Jl N T (some p) a=some (T.set p a) by unfold Jl;exact AL.2 ⟨y,rfl⟩);obtain⟨K,J,E⟩:=yI q l vs N (T.set p a) T' (tmps.setIfInBounds p v) B L O M;exact⟨by simp[K],J,E⟩
theorem AgL {P:Program} {l:Nat} {R:Ending->World->Prop} {x:AX} {a:Act} {w w':World} (h:(Instr.endRound l x.jump).run P w=.ok (.bool x.jump.isNone) w') (q:R (.returned (.bool x.jump.isNone)) w') (ρ:Ai) (hc:x.calm=true):Rx ρ x λe=>roundPost P l R e a w:=by cases x<;>first|exact⟨_,w',h,q⟩|cases hc
end Go.Ev
end
section
namespace Go.Ev
theorem AdG {c:Option Code} {x:AX} (h:je c=some x):c=x.jump/\x.calm=true:=by unfold je at h;split at h<;>first|(cases h;done)|(injection h with h;subst h;exact⟨rfl,rfl⟩)
theorem AdH {P:Program} {ro:Option Nat} {Q:Exit->Act->World->Prop} {a:Act} {w:World} {ρ:Ai} (x:AX) (hc:x.calm=true) (h:Rx ρ x λe=>Q e a w):
  match x.jump with
  |none=>Q .normal a w
  |some c=>c.wpIn (FW ro) 0 P Q a w:=by
 cases x with
 |Bc=>exact h
 |exit id=>exact wpIn_exit h
 |goto l=>exact wpIn_goto h
 |ret=>exact wpIn_ret h
 |AB v=>cases hc
theorem Acv {P:Program} {E:Env} {F:Nat->Option Obj} {nx:Nat} {ρ:Ai} {H:Tr Ae} {w:World} (r:Rel E F nx ρ H.get w) {T:Tr AV} {tmps:Array Value} (ht:TR ρ T tmps) {C:ResultVar} {v:AV} (h:ib P H T C=some v): ∃u,((match C with|.tmp t=>pure (tmps.getD t undef)|.cell a t=>do loadVar t (<-asAddr (tmps.getD a undef)):Sem Value)).run P w=.ok u w/\VR ρ v u:=by
 cases C with
 |tmp t=>obtain⟨u,hu,y⟩:=ht t v h;exact⟨u,by simp[hu],y⟩
 |cell a t=>
  obtain⟨p,hp,B⟩:=Ag.1 h;obtain⟨u,hu,y⟩:=ht a p hp;obtain⟨z,J,K⟩:=sM (P:=P) r (HS.refl ρ H) y B;refine⟨z,?_,K⟩;unfold Vq at B;split at B
  ·rename_i id off;cases y with
   |ptr _ _ b L=>
    have q:(loadVar t ⟨b.b,b.ob+off,none⟩).run P w=.ok z w:=by simpa[Instr.loadAt,Instr.sureAddr]using J
    simp[hu,asAddr,q]
  ·rename_i g off;cases y with
   |Gp _ _=>
    have q:(loadVar t ⟨g,off,none⟩).run P w=.ok z w:=by simpa[Instr.loadAt,Instr.sureAddr]using J
    simp[hu,asAddr,q]
  ·cases B
theorem sS {P:Program} {E:Env} {F:Nat->Option Obj} {nx:Nat} {ρ:Ai} {H:Tr Ae} {w:World} (r:Rel E F nx ρ H.get w) {T:Tr AV} {tmps:Array Value} (ht:TR ρ T tmps): ∀(l:List ResultVar) (vs:Aj),ic P H T l=some vs->∃q:List Value,(l.mapM λy=>(match y with|.tmp t=>pure (tmps.getD t undef)|.cell a t=>do loadVar t (<-asAddr (tmps.getD a undef)):Sem Value)).run P w=.ok q w/\AG ρ vs q
 | [],vs,h=>by injection h with h;subst h;exact⟨[],by simp,.nil⟩
 |y::l,vs,h=>by obtain⟨a,O,R⟩:=Ag.1 (show(ob (ib P H T y) λa=>ob (ic P H T l) λl=>some (a::l))=some vs from h);obtain⟨K,M,B⟩:=Ag.1 R;injection B with B;subst B;obtain⟨u,hu,L⟩:=Acv r ht O;obtain⟨q,C,J⟩:=sS r ht l K M;refine⟨u::q,?_,.cons _ _ _ _ L J⟩;simp only[List.mapM_cons,Sem.run_bind,hu,Result.andThen_ok,C,Sem.run_pure]
theorem Yn {P:Program} {E:Env} {F:Nat->Option Obj} {nx:Nat} {ρ:Ai} {H:Tr Ae} {w:World} (r:Rel E F nx ρ H.get w) {T:Tr AV} {tmps:Array Value} (ht:TR ρ T tmps) {fn:Func} {v:AV} (h:Ss P H T fn.results.toList=some v):∃u,(results fn tmps).run P w=.ok u w/\VR ρ v u:=by
 obtain⟨vs,Ax,y⟩:=Ag.1 h;obtain⟨C,J,B⟩:=sS r ht _ _ Ax;have q:∀K:Array Value->Sem Value,((fn.results.mapM λS=>(match S with|.tmp t=>pure (tmps.getD t undef)|.cell a t=>do loadVar t (<-asAddr (tmps.getD a undef)):Sem Value))>>=K).run P w=(K C.toArray).run P w:=λK=>by rw[Array.mapM_eq_mapM_toList];simp only[Sem.run_bind,Sem.run_map,J,Result.andThen_ok]
 unfold results;split at y
 ·rename_i R;injection y with y;subst y;cases B with
  |cons _ u _ W V U=>cases U;refine⟨u,?_,V⟩;refine Eq.trans (q λvs=>pure (if h:vs.size=1 then vs[0]else .tuple vs)) ?_;simp
 ·rename_i O;injection y with y;subst y;refine⟨.tuple C.toArray,?_,.AO _ _ B⟩;have L:C.toArray.size≠1:=by
   intro M;have:vs.length=1:=by rw[B.length];simpa using M
   match vs,this with
   | [R],_=>exact O R rfl
  refine Eq.trans (q λvs=>pure (if h:vs.size=1 then vs[0]else .tuple vs)) ?_;rw[dif_neg L];rfl
inductive MR (ρ:Ai):MD->FrameMode->Prop where
 |ret:MR ρ .ret .returning
 |AB (v:AV) (u:Value) (h:VR ρ v u):MR ρ (.AB v) (.panicking (fresh u))
 |Kf (v:AV) (u:Value) (h:VR ρ v u):MR ρ (.Kf v) (.panicking [{v:=u,recovered:=true}])
theorem MR.mono {ρ q:Ai} (y:ρ.le q) {m:MD} {u:FrameMode} (h:MR ρ m u):MR q m u:=by
 cases h with
 |ret=>exact .ret
 |AB v u h=>exact .AB v u (h.mono y)
 |Kf v u h=>exact .Kf v u (h.mono y)
theorem MR.settle {ρ:Ai} {m:MD} {u:FrameMode} (h:MR ρ m u):MR ρ m.settle (Go.settle u):=by
 cases h with
 |ret=>exact .ret
 |AB v u h=>exact .AB v u h
 |Kf v u h=>exact .ret
theorem MR.out {ρ:Ai} {m:MD} {u:FrameMode} (h:MR ρ m u):u≠.run:=by cases h<;>simp
theorem AlF {F:Fence} {n:Nat} {P:Program} {Q:Exit->Act->List Frame->World->Prop} {a:Act} {cs:List Frame} {w:World} {id:Nat} {c:Code} (h:c.wpSIn F n P (λe a' cs' w'=>Exit.inBlock id (λe a' w'=>Q e a' cs' w') e a' w') a cs w):(Code.block id c).wpSIn F n P Q a cs w:=by
 intro b k U aa Z Y;have L:(lone (b.atR a (.code (.block id c)::k)) cs w).fenced P F:=fenced_calm Z Y rfl;obtain⟨e,C,q,B,O,K,y⟩:=h b (.inBlock id::k) U aa Z Y;have ab:F.room (q.length+1+n):=O▸Y;cases e with
 |normal=>exact⟨.normal,C,q,B,O,K,.head L stepR_block (StepsIn.trans y (.one (fenced_calm Z ab rfl) stepR_inBlock))⟩
 |exit E=>
  by_cases M:E=id
  ·simp only[Exit.inBlock,M,if_true]at K;exact⟨.normal,C,q,B,O,K,.head L stepR_block (y.1 k (by simp[exitTo,M]))⟩
  ·simp only[Exit.inBlock,M,if_false]at K;have this:(id==E)=false:=by simp;exactλh=>M h.symm
   have V:exitTo E (.inBlock id::k)=exitTo E k:=by simp[exitTo,this]
   exact⟨.exit E,C,q,B,O,K,λW R=>.head L stepR_block (y.1 W (by rw[V];exact R)),λS R=>let ⟨J,h1,h2⟩:=y.2 S (by rw[V];exact R);⟨J,h1,.head L stepR_block h2⟩⟩
 |goto l=>
  have V:gotoIn l (.inBlock id::k)=gotoIn l k:=by simp[gotoIn]
  exact⟨_,C,q,B,O,K,λW R=>.head L stepR_block (y.1 W (by rw[V];exact R)),λS R=>let ⟨J,h1,h2⟩:=y.2 S (by rw[V];exact R);⟨J,h1,.head L stepR_block h2⟩⟩
 |ret=>exact⟨_,C,q,B,O,K,.of_steps (.one L stepR_block) y⟩
 |panic ch=>exact⟨_,C,q,B,O,K,.of_steps (.one L stepR_block) y⟩
 |outgrown=>exact⟨_,C,q,B,O,K,.of_steps (.one L stepR_block) y⟩
theorem AgA {l:List Oper} {dst:Option Tmp} (h:Uj l=some dst):∃o args argTypes,l=[o]/\o.guard=none/\o.op=.call {callee:=.builtin .recover,args,argTypes}/\o.dst=dst:=by
 unfold Uj at h;split at h
 ·rename_i o;split at h
  ·rename_i y;split at h
   ·rename_i c q;obtain⟨callee,args,argTypes⟩:=c;simp only at h;split at h
    ·injection h with h;exact⟨o,args,argTypes,rfl,y,q,h⟩
    ·cases h
   ·cases h
  ·cases h
 ·cases h
theorem AgB {P:Program} {ops:Array Oper} {dst:Option Tmp} (B:Uj ops.toList=some dst) {id:Nat} {Q:Exit->Act->List Frame->World->Prop} {a:Act} {cs:List Frame} {w:World} (h:match recoverD cs with
   |some (v,cs')=>Q .normal (a.put dst v) cs' w
   |none=>Q .normal (a.put dst .nilIface) cs w):(Code.region id ops false).wpSIn (FW none) 0 P Q a cs w:=by
 obtain⟨o,args,argTypes,C,E,y,hd⟩:=AgA B;obtain rfl:ops= #[o]:=Array.ext' (by rw[C]);subst hd;refine wpSIn_region ?_;show wpOpsSIn (FW none) 0 P #[o] Q [0] a cs w;have q:(execOp a.eval o).run P w=.ok .recover w:=by unfold execOp;rw[y];simp only[resolve,Sem.run_bind,Sem.run_pure,Result.andThen_ok,invoke,builtin]
 have hw:Region.wanted o (yielded #[o] a.tmps)=true:=by unfold Region.wanted;rw[E]
 simp only[wpOpsSIn,List.getElem?_toArray,List.getElem?_cons_zero,hw,if_true,q];refine⟨λ_ _=>trivial,?_⟩;generalize recoverD cs=r at h⊢;cases r with
 |none=>exact h
 |some p=>exact h
theorem yH {ρ:Ai} {args:Aj} {vs:List Value} (h:AG ρ args vs) (m:Nat):TR ρ (setArgs args .leaf 0) (vs.toArray++Array.replicate m undef):=by
 intro t a ht;have key:∀(l:Aj) (c:Tr AV) (k j:Nat),(PK l c k).get j=if k<=j/\j<k+l.length then l[j-k]? else c.get j:=by
  intro l
  induction l with
  |nil=>intro c k j;rw[Ad (by simp)];rfl
  |cons x l E=>
   intro c k j;show(fN (k+1) λC=>PK l (c.set k x) C).get j=_;rw[Bv,E];simp only[AE];by_cases B:k+1<=j/\j<k+1+l.length
   ·rw[Am B,Am (by omega),show j-k=(j-(k+1))+1 by omega];simp
   ·rw[Ad B];by_cases y:j=k
    ·subst y;rw[Am (by omega),Lc,Tr.GG];rfl
    ·rw[Ad (by omega),Tr.KE _ (λe=>y e.symm)]
 have q:(PK args .leaf 0).get t=some a:=ht;rw[key]at q;split at q
 ·rename_i K;obtain⟨v,hv,J⟩:=h.get _ a q;refine⟨v,?_,J⟩;have L:=h.length;rw[Array.getElem?_append,Am (by simp;omega)];simpa using hv
 ·rw[Tr.EK]at q;cases q
theorem Uq {P:Program} {b:Frame} {a:Act} {k:List Item} {cs:List Frame} {w:World} {c:Code}:step P (lone (b.atR a (.code (.scope c)::k)) cs w)=.next (lone (b.atR a (.code c::.inScope c::k)) cs w):=
 step_lone_go (by simp[stepG,stepG.exec,Frame.atR])
theorem Aky {P:Program} {b:Frame} {a:Act} {k:List Item} {cs:List Frame} {w:World} {c:Code}:step P (lone (b.atR a (.inScope c::k)) cs w)=.next (lone (b.atR a k) cs w):=
 step_lone_go (by simp[stepG,stepG.exec,Frame.atR])
theorem AlE {ro:Option Nat} {P:Program} {Q:Exit->Act->World->Prop} {a:Act} {w:World} {c:Code} (h:c.wpIn (FW ro) 0 P (λe Z w'=>(∀l,e≠.goto l)/\Q e Z w') a w):(Code.scope c).wpIn (FW ro) 0 P Q a w:=by
 intro b k cs O M K;have C:(lone (b.atR a (.code (.scope c)::k)) cs w).fenced P (FW ro):=fenced_calm M K rfl;obtain⟨e,B,y,⟨V,E⟩,q⟩:=h b (.inScope c::k) cs O M K;cases e with
 |normal=>exact⟨.normal,B,y,E,.head C Uq (StepsIn.trans q (.one (fenced_calm M K rfl) Aky))⟩
 |exit id=>
  have S:exitTo id (.inScope c::k)=exitTo id k:=by simp[exitTo]
  exact⟨.exit id,B,y,E,λU L=>.head C Uq (q.1 U (by rw[S];exact L)),λR L=>let ⟨J,Y,W⟩:=q.2 R (by rw[S];exact L);⟨J,Y,.head C Uq W⟩⟩
 |goto l=>exact absurd rfl (V l)
 |ret=>exact⟨_,B,y,E,.of_steps (.one C Uq) q⟩
 |panic ch=>exact⟨_,B,y,E,.of_steps (.one C Uq) q⟩
 |outgrown=>exact⟨_,B,y,E,.of_steps (.one C Uq) q⟩
end Go.Ev
end
end
